/-
  Walks: what functions of the program do, over the abstract machine.
-/
import Derived.Test.YtmbdmfjijofmmaaGreatDoorWk2
set_option linter.unusedVariables false
set_option maxRecDepth 20000
set_option maxHeartbeats 0
open Go Go.Abs Go.Proofs Go.Proofs.D
set_option linter.unusedVariables false
namespace Bd
section
variable {R:List Ru}{s0:Nat}{ws:List (List Nat)}
def Pr(R:List Ru)(M:Nat):List Nat:=(Lf R [3+M]).filter fun n=>n≠M
theorem corner{M n:Nat}(h:n∈Lf R [3+M]){w:List Nat}(hp:Pd R s0 w n):Pd R s0 w M:=by
 unfold Lf at h;rw[List.mem_filter,List.any_eq_true] at h;obtain⟨_,r,hr,e⟩:=h;simp only[Bool.and_eq_true,beq_iff_eq,List.isPrefixOf_iff_prefix] at e;obtain⟨e1,l,e2⟩:=e;subst e1;exact .clo hp hr e2.symm
def Ot(R:List Ru)(M:Nat):List Nat:=((List.range 4).filter fun n=>n≠M).filter fun n=>n∉Pr R M
theorem pr_nodup(M:Nat):(Pr R M).Nodup:=List.Pairwise.filter _ (Lf_nodup _)
theorem ot_len{M:Nat}(hM:M<4):(Ot R M).length+(Pr R M).length=3:=by
 have h1:=List.length_eq_countP_add_countP (fun n=>decide (n∈Pr R M)) (l:=(List.range 4).filter fun n=>n≠M);rw[List.countP_eq_length_filter,List.countP_eq_length_filter] at h1;have h2:(((List.range 4).filter fun n=>n≠M).filter fun n=>decide (n∈Pr R M)).length=(Pr R M).length:=by
  apply List.Perm.length_eq;apply (List.perm_ext_iff_of_nodup (List.Pairwise.filter _ (List.Pairwise.filter _ List.nodup_range)) (pr_nodup M)).2;intro a;rw[List.mem_filter,List.mem_filter,List.mem_range];simp only[decide_eq_true_eq];refine⟨fun h=>h.2,fun h=>⟨⟨?_,?_⟩,h⟩⟩
  ·unfold Pr at h;rw[List.mem_filter] at h;exact Lf_lt h.1
  ·unfold Pr at h;rw[List.mem_filter] at h;simpa using h.2
 have h3:((List.range 4).filter fun n=>n≠M).length=3:=by
  have:M=0∨M=1∨M=2∨M=3:=by omega
  rcases this with rfl | rfl | rfl | rfl<;>decide
 unfold Ot;simp only[decide_not,Bool.decide_eq_true] at h1 ⊢;simp only[decide_not] at h2 h3;omega
theorem shE5{p:Prop} (h:p:=by
 have e:(if Pd R s0 w M then 2 ^ (Ot R M).length+bits (Pd R s0 w) (Pr R M++Ot R M) else bits (Pd R s0 w) (Ot R M)) =
  (if Pd R s0 w' M then 2 ^ (Ot R M).length+bits (Pd R s0 w') (Pr R M++Ot R M) else bits (Pd R s0 w') (Ot R M)):=e
 have b2:=bits_lt (Pd R s0 w) (Ot R M);have b3:=bits_lt (Pd R s0 w') (Ot R M);by_cases h1:Pd R s0 w M
 ·rw[if_pos h1] at e;by_cases h2:Pd R s0 w' M
  ·rw[if_pos h2] at e;have e2:=bits_eq (show bits (Pd R s0 w) (Pr R M++Ot R M)=bits (Pd R s0 w') (Pr R M++Ot R M) by omega);rcases hmem n (hL n hn) with rfl | h | h
   ·exact⟨fun _=>h2,fun _=>h1⟩
   ·exact e2 n (List.mem_append_left _ h)
   ·exact e2 n (List.mem_append_right _ h)
  ·rw[if_neg h2] at e;omega
 ·rw[if_neg h1] at e;by_cases h2:Pd R s0 w' M
  ·rw[if_pos h2] at e;omega
  ·rw[if_neg h2] at e;have e2:=bits_eq e;rcases hmem n (hL n hn) with rfl | h | h
   ·exact⟨fun h=>absurd h h1,fun h=>absurd h h2⟩
   ·exact⟨fun k=>absurd (hpr _ _ h k) h1,fun k=>absurd (hpr _ _ h k) h2⟩
   ·exact e2 n h):p:=h
theorem cod_closed(Q:List Nat→Prop){M:Nat}(hM:M<4){L:List Nat}(hL:∀n∈L,n<4):Cod R s0 Q L (8+2 ^ (Ot R M).length):=by
 classical
 have hl:=ot_len (R:=R) hM;have hmem:∀n,n<4→n=M∨n∈Pr R M∨n∈Ot R M:=by
  intro n hn;by_cases h1:n=M
  ·exact .inl h1
  ·by_cases h2:n∈Pr R M
   ·exact .inr (.inl h2)
   ·refine .inr (.inr ?_);unfold Ot;rw[List.mem_filter,List.mem_filter,List.mem_range];exact⟨⟨hn,by simpa using h1⟩,by simpa using h2⟩
 have hpr:∀w n,n∈Pr R M→Pd R s0 w n→Pd R s0 w M:=fun w n h hp=>by
  unfold Pr at h;rw[List.mem_filter] at h;exact corner h.1 hp
 refine⟨fun w=>if Pd R s0 w M then 2 ^ (Ot R M).length+bits (Pd R s0 w) (Pr R M++Ot R M) else bits (Pd R s0 w) (Ot R M),fun w _=>?_,fun w w' _ _ e n hn=>?_⟩
 ·show (if Pd R s0 w M then 2 ^ (Ot R M).length+bits (Pd R s0 w) (Pr R M++Ot R M) else bits (Pd R s0 w) (Ot R M))<8+2 ^ (Ot R M).length;have b1:=bits_lt (Pd R s0 w) (Pr R M++Ot R M);have b2:=bits_lt (Pd R s0 w) (Ot R M);rw[List.length_append] at b1;have e3:(Pr R M).length+(Ot R M).length=3:=by omega
  rw[e3] at b1;by_cases h:Pd R s0 w M
  ·rw[if_pos h];omega
  ·rw[if_neg h];omega
 ·exact shE5
theorem cod_closedE{Q:List Nat→Prop}{M:Nat}(hM:M<4){L:List Nat}(hL:∀n∈L,n<4)(hq:∀w,Q w→∃n,n<4∧Pd R s0 w n) :
  Cod R s0 Q L (7+2 ^ (Ot R M).length):=by
 classical
 have key:∃c:List Nat→Nat,(∀w,Q w→0<c w∧c w<8+2 ^ (Ot R M).length)∧∀w w',Q w→Q w'→c w=c w'→∀n∈L,(Pd R s0 w n↔Pd R s0 w' n):=by
  have hl:=ot_len (R:=R) hM;have hmem:∀n,n<4→n=M∨n∈Pr R M∨n∈Ot R M:=by
   intro n hn;by_cases h1:n=M
   ·exact .inl h1
   ·by_cases h2:n∈Pr R M
    ·exact .inr (.inl h2)
    ·refine .inr (.inr ?_);unfold Ot;rw[List.mem_filter,List.mem_filter,List.mem_range];exact⟨⟨hn,by simpa using h1⟩,by simpa using h2⟩
  have hpr:∀w n,n∈Pr R M→Pd R s0 w n→Pd R s0 w M:=fun w n h hp=>by
   unfold Pr at h;rw[List.mem_filter] at h;exact corner h.1 hp
  refine⟨fun w=>if Pd R s0 w M then 2 ^ (Ot R M).length+bits (Pd R s0 w) (Pr R M++Ot R M) else bits (Pd R s0 w) (Ot R M),fun w hw=>?_,fun w w' _ _ e n hn=>?_⟩
  ·show 0<(if Pd R s0 w M then 2 ^ (Ot R M).length+bits (Pd R s0 w) (Pr R M++Ot R M) else bits (Pd R s0 w) (Ot R M))∧(if Pd R s0 w M then 2 ^ (Ot R M).length+bits (Pd R s0 w) (Pr R M++Ot R M) else bits (Pd R s0 w) (Ot R M))<8+2 ^ (Ot R M).length;have b1:=bits_lt (Pd R s0 w) (Pr R M++Ot R M);have b2:=bits_lt (Pd R s0 w) (Ot R M);have b0:0<2 ^ (Ot R M).length:=Nat.pow_pos zo;rw[List.length_append] at b1;have e3:(Pr R M).length+(Ot R M).length=3:=by omega
   rw[e3] at b1;by_cases h:Pd R s0 w M
   ·rw[if_pos h];omega
   ·rw[if_neg h];obtain⟨n,h1,h2⟩:=hq w hw;rcases hmem n h1 with rfl | k | k
    ·exact absurd h2 h
    ·exact absurd (hpr _ _ k h2) h
    ·have:=bits_pos (P:=Pd R s0 w) k h2;omega
  ·exact shE5
 obtain⟨c,c1,c2⟩:=key;refine⟨fun w=>c w-1,fun w hw=>?_,fun w w' hw hw' e n hn=>c2 w w' hw hw' ?_ n hn⟩
 ·have:=c1 w hw;show c w-1<_;omega
 ·have a:=c1 w hw;have b:=c1 w' hw';have e:c w-1=c w'-1:=e;omega
theorem cod_head{Q:List Nat→Prop}{M:Nat}(hq:∀w,Q w→Mv R s0 (3+M) w){L:List Nat}(hL:∀n∈L,n∈Lf R [3+M]):Cod R s0 Q L (2 ^ (Pr R M).length):=by
 refine⟨fun w=>bits (Pd R s0 w) (Pr R M),fun w _=>bits_lt _ _,fun w w' hw hw' e n hn=>?_⟩;by_cases h:n=M
 ·subst h;exact⟨fun _=>hq w' hw' _ rfl,fun _=>hq w hw _ rfl⟩
 ·refine bits_eq e n ?_;unfold Pr;rw[List.mem_filter];exact⟨hL n hn,by simpa using h⟩
def rowR(R:List Ru)(x y:Nat):List Ru:=R.filter fun r=>[x].isPrefixOf r.2&&!([x,y].isPrefixOf r.2)
def colR(R:List Ru)(x:Nat):List Ru:=R.filter fun r=>[x].isPrefixOf r.2.tail
def bActR(R:List Ru)(s0:Nat)(w:List Nat)(r:Ru):Prop:=Pd R s0 w.tail r.1
def ActC(R:List Ru)(s0:Nat)(w:List Nat)(r:Ru):Prop:=match w with
 | _::y::u=>(∃l,r.2=y::l)∧Pd R s0 u r.1
 | _=>False
theorem sent_of{x y:Nat}{w w':List Nat}(hw:∃u,w=x::u)(hw':∃u,w'=x::u)(hm:Mv R s0 y w')
  (h1:∀r∈rowR R x y,bActR R s0 w r→bActR R s0 w' r) (h2:∀r∈colR R x,ActC R s0 w r→ActC R s0 w' r):∀m,Pd R s0 w m→Pd R s0 w' m:=by
 obtain⟨u,rfl⟩:=hw;obtain⟨v,rfl⟩:=hw';intro m h;generalize e:x::u=W at h
 induction h with
 | start=>cases e
 | @one z m w l r hr e2 hp _=>
  simp only[List.cons.injEq] at e;obtain⟨rfl,rfl⟩:=e;by_cases hy:y=3+m
  ·exact hm m hy
  ·have:r∈rowR R x y:=by
    unfold rowR;rw[List.mem_filter,e2];refine⟨hr,?_⟩;simp[List.isPrefixOf,hy]
   exact .one hr e2 (h1 r this hp)
 | @two yy z m w l r hr e2 hp _=>
  simp only[List.cons.injEq] at e;obtain⟨rfl,rfl⟩:=e;have:r∈colR R x:=by
   unfold colR;rw[List.mem_filter,e2];exact⟨hr,by simp[List.isPrefixOf]⟩
  have k:=h2 r this ⟨⟨_,e2⟩,hp⟩
  match v,k with
  | y'::v,⟨⟨l',e3⟩,hp'⟩=>
   rw[e2] at e3;simp only[List.cons.injEq] at e3;obtain⟨rfl,_⟩:=e3;exact .two hr e2 hp'
 | clo hp hr e2 ih=>exact .clo (ih e) hr e2
theorem cod_sent(x y:Nat)(L:List Nat):Cod R s0 (QV R s0 y x) L (2 ^ ((rowR R x y).length+(colR R x).length)):=by
 refine⟨fun w=>bits (bActR R s0 w) (rowR R x y)*2 ^ (colR R x).length+bits (ActC R s0 w) (colR R x),fun w _=>?_,fun w w' hw hw' e n _=>?_⟩
 ·rw[Nat.pow_add];exact pair_lt (bits_lt _ _) (bits_lt _ _)
 ·obtain⟨e1,e2⟩:=pair_inj (bits_lt _ _) (bits_lt _ _) e;have k1:=bits_eq e1;have k2:=bits_eq e2;exact⟨sent_of hw.2 hw'.2 hw'.1 (fun r hr=>(k1 r hr).1) (fun r hr=>(k2 r hr).1) n,sent_of hw'.2 hw.2 hw.1 (fun r hr=>(k1 r hr).2) (fun r hr=>(k2 r hr).2) n⟩
end
end Bd
set_option linter.unusedVariables false
namespace Bd
section
variable {R:List Ru}{s0:Nat}{ws:List (List Nat)}
theorem some_ctx{α κ:Type}[DecidableEq κ](c:α→κ):∀(C:List κ),C.Nodup→∀(l:List α),
  (C.map fun k=>(l.filter fun a=>c a=k).length).sum≤(l.filter fun a=>c a∈C).length:=by
 intro C
 induction C with
 | nil=>intro _ l;simp
 | cons k C ih=>
  intro hC l;have h:=ih (List.nodup_cons.1 hC).2 l;have hk:=(List.nodup_cons.1 hC).1;simp only[List.map_cons,List.sum_cons];have e1:(l.filter fun a=>c a∈k::C).length=(l.filter fun a=>c a=k).length+(l.filter fun a=>c a∈C).length:=by
   clear h ih
   induction l with
   | nil=>simp
   | cons a l ih=>
    simp only[List.filter_cons];by_cases h1:c a=k
    ·have h2:c a∉C:=fun h=>hk (h1▸h);simp[h1,hk] at ih ⊢;omega
    ·by_cases h2:c a∈C
     ·simp[h1,h2] at ih ⊢;omega
     ·simp[h1,h2] at ih ⊢;omega
  omega
theorem pd_none(ok:Okr R){y:Nat}{u v:List Nat}(h1:∀n∈Lf R [y],Pd R s0 u n→Pd R s0 v n)(hu:∀r∈R,¬I2 R s0 (y::u) r) :
  ∀m,Pd R s0 (y::u) m→Pd R s0 (y::v) m:=by
 intro m h;generalize e:y::u=W at h
 induction h with
 | start=>cases e
 | one hr e2 hp _=>
  simp only[List.cons.injEq] at e;obtain⟨rfl,rfl⟩:=e;exact .one hr e2 (h1 _ (mem_Lf ok hr (p:=[y]) e2) hp)
 | two hr e2 hp _=>
  simp only[List.cons.injEq] at e;obtain⟨rfl,rfl⟩:=e;exact absurd ⟨⟨_,e2⟩,hp⟩ (hu _ hr)
 | clo hp hr e2 ih=>exact .clo (ih e) hr e2
theorem i3_i2{z y x:Nat}{u:List Nat}{r:Ru}(h:I3 R s0 (z::y::x::u) r):I2 R s0 (y::x::u) r:=by
 obtain⟨⟨l,e⟩,hp⟩:=h;exact⟨⟨_,e⟩,hp⟩
theorem same_none(ok:Okr R){z y:Nat}{u v:List Nat}(h1:∀n∈Lf R [y],(Pd R s0 u n↔Pd R s0 v n))(hu:∀r∈R,¬I2 R s0 (y::u) r)
  (hv:∀r∈R,¬I2 R s0 (y::v) r):Same R s0 (z::y::u) (z::y::v):=by
 refine same2 ok (fun n _=>⟨pd_none ok (fun n hn=>(h1 n hn).1) hu n,pd_none ok (fun n hn=>(h1 n hn).2) hv n⟩) (fun n hn=>h1 n (Lf_sub (p:=[y]) (q:=[z]) hn)) ?_ ?_
 ·intro r hr h
  match u,h with
  | x::u,h=>exact hu r hr (i3_i2 h)
 ·intro r hr h
  match v,h with
  | x::v,h=>exact hv r hr (i3_i2 h)
open Classical in
noncomputable def ahead(R:List Ru)(s0:Nat)(w:List Nat):List Nat:=
 if ∃r∈R,I2 R s0 w.tail r then w.tail.tail.take 1 else []
def aheads:List (List Nat):=[]::(List.range 7).map fun x=>[x]
noncomputable def inY(R:List Ru)(s0:Nat)(ws:List (List Nat))(z y:Nat):List (List Nat):=
 ws.filter fun w=>w.take 2==[z,y]&&age R s0 w != 1
theorem mem_inY{z y:Nat}{w:List Nat}(h:w∈inY R s0 ws z y):w∈ws∧(∃u,w=z::y::u)∧((∃r∈R,I2 R s0 w r)∨∃r∈R,I3 R s0 w r):=by
 unfold inY at h;rw[List.mem_filter,Bool.and_eq_true,beq_iff_eq,bne_iff_ne] at h;obtain⟨h0,h1,h2⟩:=h;refine⟨h0,?_,?_⟩
 ·match w,h1 with
  | [],h1=>cases h1
  | [a],h1=>cases h1
  | a::b::u,h1=>
   simp only[List.take,List.cons.injEq] at h1;obtain⟨rfl,rfl,_⟩:=h1;exact⟨u,rfl⟩
 ·rcases age_cases (R:=R) (s0:=s0) w with e | e | e
  ·exact absurd e h2
  ·exact .inl (age2.1 e).2
  ·exact .inr (age3.1 e)
theorem inY_mv(ok:Okr R){z y:Nat}{u:List Nat}(h:(∃r∈R,I2 R s0 (z::y::u) r)∨∃r∈R,I3 R s0 (z::y::u) r):Mv R s0 y u:=by
 rcases h with ⟨r,hr,hi⟩ | ⟨r,hr,hi⟩
 ·exact(mv2 hr hi).2
 ·match u,hi with
  | x::u,hi=>exact(mv3 hr hi).2.1
theorem shE6{p:Prop} (h:p:=by
 obtain⟨c,c1,c2⟩:=h1;have key:∀w∈(inY R s0 ws z y).filter (fun w=>ahead R s0 w=[]),∃u,w=z::y::u∧QE R s0 y (Lf R [y]) u∧∀r∈R,¬I2 R s0 (y::u) r:=by
  intro w hw;rw[List.mem_filter] at hw;obtain⟨hw,ha⟩:=hw;obtain⟨_,⟨u,rfl⟩,hi⟩:=mem_inY hw;have hno:∀r∈R,¬I2 R s0 (y::u) r:=by
   intro r hr hi2;have:ahead R s0 (z::y::u)=[]:=by simpa using ha
   unfold ahead at this;rw[if_pos ⟨r,hr,hi2⟩] at this
   match u,hi2 with
   | x::u,_=>simp at this
  refine⟨u,rfl,⟨inY_mv G.ok hi,?_⟩,hno⟩;rcases hi with ⟨r,hr,⟨⟨l,e⟩,hp⟩⟩ | ⟨r,hr,hi⟩
  ·exact⟨r.1,mem_Lf G.ok hr (p:=[y]) e,hp⟩
  ·match u,hi with
   | x::u,hi=>exact absurd (i3_i2 hi) (hno r hr)
 refine bcount (P:=Same R s0) (fun w=>c w.tail.tail) K _ (List.Pairwise.filter _ hd) (fun w hw=>?_) (fun a ha b hb e=>?_)
 ·obtain⟨u,rfl,hq,_⟩:=key w hw;exact c1 u hq
 ·obtain⟨u,rfl,hq,hn⟩:=key a ha;obtain⟨v,rfl,hq',hn'⟩:=key b hb;exact same_none G.ok (c2 u v hq hq' e) hn hn'):p:=h
theorem bGood.types(G:bGood R s0 ws)(z y:Nat){K:Nat}{A B:Nat→Nat}(h1:Cod R s0 (QE R s0 y (Lf R [y])) (Lf R [y]) K)
  (h2:∀x,x<7→Cod R s0 (QE R s0 x (Lf R [x,y])) (Lf R [x,y]) (A x)) (h3:∀x,x<7→Cod R s0 (QV R s0 y x) (Lf R [y]) (B x)) :
  (inY R s0 ws z y).length≤K+sm fun x=>A x*B x:=by
 have hp:=parts (ahead R s0) aheads (inY R s0 ws z y) (fun w hw=>by
  obtain⟨_,⟨u,rfl⟩,_⟩:=mem_inY hw;unfold ahead aheads;split
  ·rename_i h;obtain⟨r,hr,hi⟩:=h
   match u,hi with
   | x::u,⟨⟨l,e⟩,_⟩=>
    exact List.mem_cons_of_mem _ (List.mem_map.2 ⟨x,List.mem_range.2 (G.ok.sym r hr x (by rw[e];simp)),by simp⟩)
  ·exact List.mem_cons_self ..)
 refine Nat.le_trans hp ?_;unfold aheads;rw[List.map_cons,List.sum_cons,List.map_map,sum_range7];have hd:(inY R s0 ws z y).Pairwise fun a b=>¬Same R s0 a b:=List.Pairwise.filter _ G.diff;refine Nat.add_le_add ?_ (sm_le fun x hx=>?_)
 ·exact shE6
 ·obtain⟨c,c1,c2⟩:=h2 x hx;obtain⟨d,d1,d2⟩:=h3 x hx;have key:∀w∈(inY R s0 ws z y).filter (fun w=>ahead R s0 w=[x]),∃u,w=z::y::x::u∧QE R s0 x (Lf R [x,y]) u∧QV R s0 y x (x::u):=by
   intro w hw;rw[List.mem_filter] at hw;obtain⟨hw,ha⟩:=hw;obtain⟨_,⟨u,rfl⟩,hi⟩:=mem_inY hw;have ha:ahead R s0 (z::y::u)=[x]:=by simpa using ha
   have hm:=inY_mv G.ok hi;unfold ahead at ha;split at ha
   ·rename_i h;obtain⟨r,hr,hi2⟩:=h
    match u,hi2,hm with
    | x'::u,hi2,hm=>
     simp only[List.tail_cons,List.take,List.cons.injEq,and_true] at ha;subst ha;refine⟨u,rfl,⟨(mv2 hr hi2).2,?_⟩,hm,u,rfl⟩;obtain⟨⟨l,e⟩,hp⟩:=hi2;exact⟨r.1,mem_Lf G.ok hr (p:=[x',y]) e,hp⟩
   ·cases ha
  refine bcount (P:=Same R s0) (fun w=>c w.tail.tail.tail*B x+d w.tail.tail) (A x*B x) _ (List.Pairwise.filter _ hd) (fun w hw=>?_) (fun a ha b hb e=>?_)
  ·obtain⟨u,rfl,hq,hv⟩:=key w hw;exact pair_lt (c1 u hq) (d1 _ hv)
  ·obtain⟨u,rfl,hq,hv⟩:=key a ha;obtain⟨v,rfl,hq',hv'⟩:=key b hb;obtain⟨e1,e2⟩:=pair_inj (d1 _ hv) (d1 _ hv') e;have a0:=c2 u v hq hq' e1;have a1:=d2 _ _ hv hv' e2;exact same3 G.ok (fun n _=>pd_iff G.ok a1 a0 n) (fun n hn=>a1 n (Lf_sub (p:=[y]) (q:=[z]) hn)) (fun n hn=>a0 n (Lf_sub (p:=[x,y]) (q:=[z]) hn))
theorem inY_sum(ok:Okr R)(z y:Nat):(inC R s0 ws [z,y]).length+sm (fun x=>(inC R s0 ws [z,y,x]).length)≤(inY R s0 ws z y).length:=by
 have hC:([z,y]::(List.range 7).map fun x=>[z,y,x]).Nodup:=by
  have:List.range 7=[0,1,2,3,4,5,6]:=rfl;rw[this];simp
 have h:=some_ctx (ctx R s0) _ hC ws;rw[List.map_cons,List.sum_cons,List.map_map,sum_range7] at h;refine Nat.le_trans h ?_;unfold inY;rw[←List.countP_eq_length_filter,←List.countP_eq_length_filter];apply List.countP_mono_left;intro w _ hw;simp only[List.mem_cons,List.mem_map,List.mem_range,decide_eq_true_eq] at hw;rw[Bool.and_eq_true,beq_iff_eq,bne_iff_ne];unfold ctx at hw;rcases age_cases (R:=R) (s0:=s0) w with e | e | e
 ·rw[e] at hw;rcases hw with h | ⟨x,_,h⟩
  ·have:=congrArg List.length h;simp at this;omega
  ·have:=congrArg List.length h;simp at this;omega
 ·rw[e] at hw ⊢;rcases hw with h | ⟨x,_,h⟩
  ·exact⟨h,by omega⟩
  ·have:=congrArg List.length h;simp at this;omega
 ·rw[e] at hw ⊢;rcases hw with h | ⟨x,_,h⟩
  ·have h2:=(age3.1 e);obtain⟨r,hr,hi⟩:=h2
   match w,hi with
   | a::b::c::u,_=>simp at h
  ·refine⟨?_,by omega⟩;have:=congrArg (List.take 2) h;rw[List.take_take] at this;simpa using this.symm
end
end Bd
set_option linter.unusedVariables false
namespace Bd
section
variable {R:List Ru}{s0:Nat}{ws:List (List Nat)}
def CodF(R:List Ru)(s0:Nat)(Q:List Nat→Prop)(φ:List Nat→List Nat)(L:List Nat)(K:Nat):Prop:=
 ∃c:List Nat→Nat,(∀u,Q u→c u<K)∧∀u v,Q u→Q v→c u=c v→∀n∈L,(Pd R s0 (φ u) n↔Pd R s0 (φ v) n)
theorem CodF.mono{Q:List Nat→Prop}{φ:List Nat→List Nat}{L:List Nat}{K J:Nat}(h:CodF R s0 Q φ L K)(hk:K≤J):CodF R s0 Q φ L J:=by
 obtain⟨c,h1,h2⟩:=h;exact⟨c,fun w hw=>Nat.lt_of_lt_of_le (h1 w hw) hk,h2⟩
theorem CodF.inf{Q:List Nat→Prop}{φ:List Nat→List Nat}{L:List Nat}{K J:Nat}(h:CodF R s0 Q φ L K)(h':CodF R s0 Q φ L J):CodF R s0 Q φ L (min K J):=by
 rcases Nat.le_total K J with e | e
 ·rw[Nat.min_eq_left e];exact h
 ·rw[Nat.min_eq_right e];exact h'
theorem Cod.at{Q Q':List Nat→Prop}{φ:List Nat→List Nat}{L:List Nat}{K:Nat}(h:Cod R s0 Q' L K)(hq:∀u,Q u→Q' (φ u)):CodF R s0 Q φ L K:=by
 obtain⟨c,h1,h2⟩:=h;exact⟨fun u=>c (φ u),fun u hu=>h1 _ (hq u hu),fun u v hu hv e=>h2 _ _ (hq u hu) (hq v hv) e⟩
theorem codF_pow(Q:List Nat→Prop)(φ:List Nat→List Nat)(L:List Nat):CodF R s0 Q φ L (2 ^ L.length):=
 (cod_pow (fun _=>True) L).at fun _ _=>trivial
theorem codF_ne{Q:List Nat→Prop}{φ:List Nat→List Nat}{L:List Nat}(h:∀u,Q u→Ne R s0 L (φ u)):CodF R s0 Q φ L (2 ^ L.length-1):=
 (codE_pow (Q:=fun w=>Ne R s0 L w) fun _ h=>h).at h
theorem codF_meet{Q:List Nat→Prop}{φ:List Nat→List Nat}{L M:List Nat}(hM:M.Nodup)(hL:L.Nodup)(hs:∀n∈M,n∈L)(h:∀u,Q u→Ne R s0 M (φ u)) :
  CodF R s0 Q φ L ((2 ^ M.length-1)*2 ^ (L.length-M.length)):=
 (codM_pow (Q:=fun w=>Ne R s0 M w) hM hL hs fun _ h=>h).at h
def bnt(s:Nat):Bool:=Nat.ble 3 s
def bFS(R:List Ru)(y:Nat):List Ru:=R.filter fun r=>match r.2 with | a::b::_=>a==y&&bnt b | _=>false
def bGS(R:List Ru)(x y:Nat):List Ru:=R.filter fun r=>match r.2 with | a::b::c::_=>a==x&&(b==y&&bnt c) | _=>false
def GC(R:List Ru)(y:Nat):List Ru:=R.filter fun r=>match r.2 with | _::b::c::_=>b==y&&bnt c | _=>false
theorem nt_of(m:Nat):bnt (3+m)=true:=by unfold bnt;rw[Nat.ble_eq];omega
theorem mem_FS{y m:Nat}{l:List Nat}{r:Ru}(h:r∈R)(e:r.2=y::(3+m)::l):r∈bFS R y:=by
 unfold bFS;rw[List.mem_filter,e];exact⟨h,by simp[nt_of]⟩
theorem mem_GS{x y m:Nat}{l:List Nat}{r:Ru}(h:r∈R)(e:r.2=x::y::(3+m)::l):r∈bGS R x y:=by
 unfold bGS;rw[List.mem_filter,e];exact⟨h,by simp[nt_of]⟩
theorem mem_GC{x y m:Nat}{l:List Nat}{r:Ru}(h:r∈R)(e:r.2=x::y::(3+m)::l):r∈GC R y:=by
 unfold GC;rw[List.mem_filter,e];exact⟨h,by simp[nt_of]⟩
theorem pd_send{y x:Nat}{u v:List Nat}(hF:∀r∈bFS R y,Pd R s0 (x::u) r.1→Pd R s0 (x::v) r.1)
  (hG:∀r∈bGS R x y,Pd R s0 u r.1→Pd R s0 v r.1):∀m,Pd R s0 (y::x::u) m→Pd R s0 (y::x::v) m:=by
 intro m h;generalize e:y::x::u=W at h
 induction h with
 | start=>cases e
 | one hr e2 hp _=>
  simp only[List.cons.injEq] at e;obtain⟨rfl,rfl⟩:=e;exact .one hr e2 (hF _ (mem_FS hr e2) hp)
 | two hr e2 hp _=>
  simp only[List.cons.injEq] at e;obtain⟨rfl,rfl,rfl⟩:=e;exact .two hr e2 (hG _ (mem_GS hr e2) hp)
 | clo hp hr e2 ih=>exact .clo (ih e) hr e2
theorem codF_send(Q:List Nat→Prop)(x y:Nat)(L:List Nat):CodF R s0 Q (fun u=>y::x::u) L (2 ^ ((bFS R y).length+(bGS R x y).length)):=by
 refine⟨fun u=>bits (fun r=>Pd R s0 (x::u) r.1) (bFS R y)*2 ^ (bGS R x y).length+bits (fun r=>Pd R s0 u r.1) (bGS R x y),fun u _=>?_,fun u v _ _ e n _=>?_⟩
 ·rw[Nat.pow_add];exact pair_lt (bits_lt _ _) (bits_lt _ _)
 ·obtain⟨e1,e2⟩:=pair_inj (bits_lt _ _) (bits_lt _ _) e;have k1:=bits_eq e1;have k2:=bits_eq e2;exact⟨pd_send (fun r hr=>(k1 r hr).1) (fun r hr=>(k2 r hr).1) n,pd_send (fun r hr=>(k1 r hr).2) (fun r hr=>(k2 r hr).2) n⟩
theorem pd_sendC{x:Nat}{u v:List Nat}(hF:∀r∈bFS R x,Pd R s0 v r.1)
  (hG:∀r∈GC R x,ActC R s0 (x::u) r→ActC R s0 (x::v) r):∀m,Pd R s0 (x::u) m→Pd R s0 (x::v) m:=by
 intro m h;generalize e:x::u=W at h
 induction h with
 | start=>cases e
 | one hr e2 hp _=>
  simp only[List.cons.injEq] at e;obtain⟨rfl,rfl⟩:=e;exact .one hr e2 (hF _ (mem_FS hr e2))
 | two hr e2 hp _=>
  simp only[List.cons.injEq] at e;obtain⟨rfl,rfl⟩:=e;have k:=hG _ (mem_GC hr e2) ⟨⟨_,e2⟩,hp⟩
  match v,k with
  | y'::v,⟨⟨l',e3⟩,hp'⟩=>
   rw[e2] at e3;simp only[List.cons.injEq] at e3;obtain⟨rfl,_⟩:=e3;exact .two hr e2 hp'
 | clo hp hr e2 ih=>exact .clo (ih e) hr e2
theorem codF_sendC{Q:List Nat→Prop}{x:Nat}(hF:∀u,Q u→∀r∈bFS R x,Pd R s0 u r.1)(L:List Nat):CodF R s0 Q (fun u=>x::u) L (2 ^ (GC R x).length):=by
 refine⟨fun u=>bits (ActC R s0 (x::u)) (GC R x),fun u _=>bits_lt _ _,fun u v hu hv e n _=>?_⟩;have k:=bits_eq e;exact⟨pd_sendC (hF v hv) (fun r hr=>(k r hr).1) n,pd_sendC (hF u hu) (fun r hr=>(k r hr).2) n⟩
def isF(y M:Nat)(r:Ru):Bool:=match r.2 with | a::b::_=>a==y&&b==3+M | _=>false
def isG(y M:Nat)(r:Ru):Bool:=match r.2 with | _::b::c::_=>b==y&&c==3+M | _=>false
def isG0(y M:Nat)(r:Ru):Bool:=match r.2 with | a::b::c::_=>!bnt a&&(b==y&&c==3+M) | _=>false
def Sd(R:List Ru)(y:Nat):List Nat:=(List.range 4).filter fun M=>R.any fun r=>isF y M r||isG y M r
def Sd0(R:List Ru)(y:Nat):List Nat:=(List.range 4).filter fun M=>R.any fun r=>isF y M r||isG0 y M r
theorem pd_from(ok:Okr R){y n:Nat}{u:List Nat}(h:Pd R s0 (y::u) n):∃m∈Sd R y,Pd R s0 (y::u) m∧∀w,Pd R s0 w m→Pd R s0 w n:=by
 generalize e:y::u=W at h
 induction h with
 | start=>cases e
 | @one z m w l r hr e2 hp _=>
  simp only[List.cons.injEq] at e;obtain⟨rfl,rfl⟩:=e;refine⟨m,?_,.one hr e2 hp,fun w h=>h⟩;unfold Sd;rw[List.mem_filter,List.mem_range];have:=ok.sym r hr (3+m) (by rw[e2];simp);refine⟨by omega,?_⟩;rw[List.any_eq_true];exact⟨r,hr,by unfold isF;rw[e2];simp⟩
 | @two y' z m w l r hr e2 hp _=>
  simp only[List.cons.injEq] at e;obtain⟨rfl,rfl⟩:=e;refine⟨m,?_,.two hr e2 hp,fun w h=>h⟩;unfold Sd;rw[List.mem_filter,List.mem_range];have:=ok.sym r hr (3+m) (by rw[e2];simp);refine⟨by omega,?_⟩;rw[List.any_eq_true];exact⟨r,hr,by unfold isG;rw[e2];simp⟩
 | clo hp hr e2 ih=>
  obtain⟨m,h1,h2,h3⟩:=ih e;exact⟨m,h1,h2,fun w h=>.clo (h3 w h) hr e2⟩
theorem pd_from0(ok:Okr R){y x n:Nat}(hx:x<3){u:List Nat}(h:Pd R s0 (y::x::u) n):∃m∈Sd0 R y,Pd R s0 (y::x::u) m∧∀w,Pd R s0 w m→Pd R s0 w n:=by
 generalize e:y::x::u=W at h
 induction h with
 | start=>cases e
 | @one z m w l r hr e2 hp _=>
  simp only[List.cons.injEq] at e;obtain⟨rfl,rfl⟩:=e;refine⟨m,?_,.one hr e2 hp,fun w h=>h⟩;unfold Sd0;rw[List.mem_filter,List.mem_range];have:=ok.sym r hr (3+m) (by rw[e2];simp);refine⟨by omega,?_⟩;rw[List.any_eq_true];exact⟨r,hr,by unfold isF;rw[e2];simp⟩
 | @two y' z m w l r hr e2 hp _=>
  simp only[List.cons.injEq] at e;obtain⟨rfl,rfl,rfl⟩:=e;refine⟨m,?_,.two hr e2 hp,fun w h=>h⟩;unfold Sd0;rw[List.mem_filter,List.mem_range];have:=ok.sym r hr (3+m) (by rw[e2];simp);refine⟨by omega,?_⟩;rw[List.any_eq_true];refine⟨r,hr,?_⟩;unfold isG0;rw[e2];have:bnt x=false:=by
   unfold bnt;rw[Bool.eq_false_iff];intro h;rw[Nat.ble_eq] at h;omega
  simp[this]
 | clo hp hr e2 ih=>
  obtain⟨m,h1,h2,h3⟩:=ih e;exact⟨m,h1,h2,fun w h=>.clo (h3 w h) hr e2⟩
theorem codF_list{Q:List Nat→Prop}{φ:List Nat→List Nat}(T L:List Nat)(h:∀u,Q u→∀n,Pd R s0 (φ u) n→∃m∈T,Pd R s0 (φ u) m∧∀w,Pd R s0 w m→Pd R s0 w n) :
  CodF R s0 Q φ L (2 ^ T.length):=by
 refine⟨fun u=>bits (Pd R s0 (φ u)) T,fun u _=>bits_lt _ _,fun u v hu hv e n _=>?_⟩;have k:=bits_eq e;constructor
 ·intro hn;obtain⟨m,h1,h2,h3⟩:=h u hu n hn;exact h3 _ ((k m h1).1 h2)
 ·intro hn;obtain⟨m,h1,h2,h3⟩:=h v hv n hn;exact h3 _ ((k m h1).2 h2)
theorem codF_listE{Q:List Nat→Prop}{φ:List Nat→List Nat}(T L:List Nat)(h:∀u,Q u→∀n,Pd R s0 (φ u) n→∃m∈T,Pd R s0 (φ u) m∧∀w,Pd R s0 w m→Pd R s0 w n)
  (hq:∀u,Q u→∃n,Pd R s0 (φ u) n):CodF R s0 Q φ L (2 ^ T.length-1):=by
 have pos:∀u,Q u→0<bits (Pd R s0 (φ u)) T:=fun u hu=>by
  obtain⟨n,hn⟩:=hq u hu;obtain⟨m,h1,h2,_⟩:=h u hu n hn;exact bits_pos h1 h2
 refine⟨fun u=>bits (Pd R s0 (φ u)) T-1,fun u hu=>?_,fun u v hu hv e n _=>?_⟩
 ·have:=pos u hu;have:=bits_lt (Pd R s0 (φ u)) T;show bits (Pd R s0 (φ u)) T-1<_;omega
 ·have e:bits (Pd R s0 (φ u)) T-1=bits (Pd R s0 (φ v)) T-1:=e;have:=pos u hu;have:=pos v hv;have k:=bits_eq (show bits (Pd R s0 (φ u)) T=bits (Pd R s0 (φ v)) T by omega);constructor
  ·intro hn;obtain⟨m,h1,h2,h3⟩:=h u hu n hn;exact h3 _ ((k m h1).1 h2)
  ·intro hn;obtain⟨m,h1,h2,h3⟩:=h v hv n hn;exact h3 _ ((k m h1).2 h2)
theorem codF_S(ok:Okr R)(Q:List Nat→Prop)(ψ:List Nat→List Nat)(y:Nat)(L:List Nat):CodF R s0 Q (fun u=>y::ψ u) L (2 ^ (Sd R y).length):=
 codF_list _ _ fun u _ n hn=>pd_from ok hn
theorem codF_SE(ok:Okr R){Q:List Nat→Prop}(ψ:List Nat→List Nat)(y:Nat)(L:List Nat)(hq:∀u,Q u→∃n,Pd R s0 (y::ψ u) n):CodF R s0 Q (fun u=>y::ψ u) L (2 ^ (Sd R y).length-1):=
 codF_listE _ _ (fun u _ n hn=>pd_from ok hn) hq
theorem codF_S0(ok:Okr R)(Q:List Nat→Prop)(ψ:List Nat→List Nat){x:Nat}(hx:x<3)(y:Nat)(L:List Nat):CodF R s0 Q (fun u=>y::x::ψ u) L (2 ^ (Sd0 R y).length):=
 codF_list _ _ fun u _ n hn=>pd_from0 ok hx hn
def Q2(R:List Ru)(s0 z y:Nat)(u:List Nat):Prop:=∃r∈R,I2 R s0 (z::y::u) r
def Q3(R:List Ru)(s0 z y x:Nat)(u:List Nat):Prop:=∃r∈R,I3 R s0 (z::y::x::u) r
theorem bGood.c2(G:bGood R s0 ws){z y K J:Nat}(h:CodF R s0 (Q2 R s0 z y) (fun u=>u) (Lf R [y,z]) K)(h':CodF R s0 (Q2 R s0 z y) (fun u=>y::u) (Lf R [z]) J) :
  (inC R s0 ws [z,y]).length≤K*J:=by
 obtain⟨c,c1,c2⟩:=h;obtain⟨d,d1,d2⟩:=h';refine G.count2 (fun u=>c u*J+d u) (fun u hu=>pair_lt (c1 u hu) (d1 u hu)) (fun u v hu hv e=>?_);obtain⟨e1,e2⟩:=pair_inj (d1 u hu) (d1 v hv) e;exact⟨d2 u v hu hv e2,c2 u v hu hv e1⟩
theorem bGood.c3(G:bGood R s0 ws){z y x K J I:Nat}(h:CodF R s0 (Q3 R s0 z y x) (fun u=>u) (Lf R [x,y,z]) K)
  (h1:CodF R s0 (Q3 R s0 z y x) (fun u=>x::u) (Lf R [y,z]) J) (h2:CodF R s0 (Q3 R s0 z y x) (fun u=>y::x::u) (Lf R [z]) I):(inC R s0 ws [z,y,x]).length≤K*J*I:=by
 obtain⟨c,c1,c2⟩:=h;obtain⟨d,d1,d2⟩:=h1;obtain⟨f,f1,f2⟩:=h2;refine G.count3 (fun u=>(c u*J+d u)*I+f u) (fun u hu=>pair_lt (pair_lt (c1 u hu) (d1 u hu)) (f1 u hu)) (fun u v hu hv e=>?_);obtain⟨e1,e2⟩:=pair_inj (f1 u hu) (f1 v hv) e;obtain⟨e3,e4⟩:=pair_inj (d1 u hu) (d1 v hv) e1;exact⟨f2 u v hu hv e2,d2 u v hu hv e4,c2 u v hu hv e3⟩
theorem bGood.c3h(G:bGood R s0 ws){z y x K J:Nat}(h:CodF R s0 (Q3 R s0 z y x) (fun u=>u) (Lf R [x,y]) K)
  (h1:CodF R s0 (Q3 R s0 z y x) (fun u=>x::u) (Lf R [y]) J):(inC R s0 ws [z,y,x]).length≤K*J:=by
 obtain⟨c,c1,c2⟩:=h;obtain⟨d,d1,d2⟩:=h1;refine G.count3 (fun u=>c u*J+d u) (fun u hu=>pair_lt (c1 u hu) (d1 u hu)) (fun u v hu hv e=>?_);obtain⟨e1,e2⟩:=pair_inj (d1 u hu) (d1 v hv) e;have a0:=c2 u v hu hv e1;have a1:=d2 u v hu hv e2;exact⟨fun n _=>pd_iff G.ok a1 a0 n,fun n hn=>a1 n (Lf_sub (p:=[y]) (q:=[z]) hn),fun n hn=>a0 n (Lf_sub (p:=[x,y]) (q:=[z]) hn)⟩
theorem pd_lt(ok:Okr R){v n:Nat}{t:List Nat}(h:Pd R s0 (v::t) n):v<7:=by
 generalize e:v::t=W at h
 induction h with
 | start=>cases e
 | one hr e2 hp _=>
  simp only[List.cons.injEq] at e;obtain⟨rfl,rfl⟩:=e;exact ok.sym _ hr _ (by rw[e2];simp)
 | two hr e2 hp _=>
  simp only[List.cons.injEq] at e;obtain⟨rfl,rfl⟩:=e;exact ok.sym _ hr _ (by rw[e2];simp)
 | clo hp hr e2 ih=>exact ih e
theorem bGood.c2v(G:bGood R s0 ws){z y:Nat}{K J:Nat→Nat}(h:∀v,v<7→CodF R s0 (fun t=>Q2 R s0 z y (v::t)) (fun t=>v::t) (Lf R [y,z]) (K v))
  (h':∀v,v<7→CodF R s0 (fun t=>Q2 R s0 z y (v::t)) (fun t=>y::v::t) (Lf R [z]) (J v)) :
  (inC R s0 ws [z,y]).length≤1+sm fun v=>K v*J v:=by
 have key:∀w∈inC R s0 ws [z,y],∃u,w=z::y::u∧(∀r∈R,¬I3 R s0 w r)∧Q2 R s0 z y u:=by
  intro w hw;obtain⟨h1,h2⟩:=mem_inC.1 hw;obtain⟨⟨u,rfl⟩,h3,h4⟩:=ctx_two (G.live _ h1) h2;exact⟨u,rfl,h3,h4⟩
 have hp:=parts (fun w:List Nat=>w.tail.tail.take 1) aheads (inC R s0 ws [z,y]) (fun w hw=>by
  obtain⟨u,rfl,_,r,hr,hi⟩:=key w hw;unfold aheads
  match u,hi with
  | [],_=>exact List.mem_cons_self ..
  | v::t,⟨_,hi⟩=>exact List.mem_cons_of_mem _ (List.mem_map.2 ⟨v,List.mem_range.2 (pd_lt G.ok hi),by simp⟩))
 refine Nat.le_trans hp ?_;unfold aheads;rw[List.map_cons,List.sum_cons,List.map_map,sum_range7];have hd:(inC R s0 ws [z,y]).Pairwise fun a b=>¬Same R s0 a b:=List.Pairwise.filter _ G.diff;refine Nat.add_le_add ?_ (sm_le fun v hv=>?_)
 ·refine bcount (P:=Same R s0) (fun _=>0) 1 _ (List.Pairwise.filter _ hd) (fun w hw=>by simp) (fun a ha b hb _=>?_);have e:∀w,w∈(inC R s0 ws [z,y]).filter (fun w=>w.tail.tail.take 1=[])→w=[z,y]:=fun w hw=>by
   rw[List.mem_filter] at hw;obtain⟨u,rfl,_⟩:=key w hw.1;have:=hw.2;cases u with
   | nil=>rfl
   | cons v t=>simp at this
  rw[e a ha,e b hb];exact fun r _=>⟨Iff.rfl,Iff.rfl,Iff.rfl⟩
 ·obtain⟨c,c1,c2⟩:=h v hv;obtain⟨d,d1,d2⟩:=h' v hv;have key2:∀w,w∈(inC R s0 ws [z,y]).filter (fun w=>w.tail.tail.take 1=[v])→∃t,w=z::y::v::t∧(∀r∈R,¬I3 R s0 w r)∧Q2 R s0 z y (v::t):=fun w hw=>by
   rw[List.mem_filter] at hw;obtain⟨u,rfl,h3,h4⟩:=key w hw.1;have e:=hw.2;cases u with
   | nil=>simp at e
   | cons v' t=>
    simp only[List.tail_cons,List.take,decide_eq_true_eq,List.cons.injEq,and_true] at e;subst e;exact⟨t,rfl,h3,h4⟩
  refine bcount (P:=Same R s0) (fun w=>c w.tail.tail.tail*J v+d w.tail.tail.tail) (K v*J v) _ (List.Pairwise.filter _ hd) (fun w hw=>?_) (fun a ha b hb e=>?_)
  ·obtain⟨t,rfl,_,hq⟩:=key2 w hw;exact pair_lt (c1 t hq) (d1 t hq)
  ·obtain⟨t,rfl,a3,hq⟩:=key2 a ha;obtain⟨t',rfl,b3,hq'⟩:=key2 b hb;obtain⟨e1,e2⟩:=pair_inj (d1 t hq) (d1 t' hq') e;exact same2 G.ok (d2 t t' hq hq' e2) (c2 t t' hq hq' e1) a3 b3
theorem bGood.typesF(G:bGood R s0 ws)(z y:Nat){K:Nat}{A B:Nat→Nat}(h1:Cod R s0 (QE R s0 y (Lf R [y])) (Lf R [y]) K)
  (h2:∀x,x<7→CodF R s0 (Q2 R s0 y x) (fun u=>u) (Lf R [x,y]) (A x)) (h3:∀x,x<7→CodF R s0 (Q2 R s0 y x) (fun u=>x::u) (Lf R [y]) (B x)) :
  (inY R s0 ws z y).length≤K+sm fun x=>A x*B x:=by
 have hp:=parts (ahead R s0) aheads (inY R s0 ws z y) (fun w hw=>by
  obtain⟨_,⟨u,rfl⟩,_⟩:=mem_inY hw;unfold ahead aheads;split
  ·rename_i h;obtain⟨r,hr,hi⟩:=h
   match u,hi with
   | x::u,⟨⟨l,e⟩,_⟩=>
    exact List.mem_cons_of_mem _ (List.mem_map.2 ⟨x,List.mem_range.2 (G.ok.sym r hr x (by rw[e];simp)),by simp⟩)
  ·exact List.mem_cons_self ..)
 refine Nat.le_trans hp ?_;unfold aheads;rw[List.map_cons,List.sum_cons,List.map_map,sum_range7];have hd:(inY R s0 ws z y).Pairwise fun a b=>¬Same R s0 a b:=List.Pairwise.filter _ G.diff;refine Nat.add_le_add ?_ (sm_le fun x hx=>?_)
 ·exact shE6
 ·obtain⟨c,c1,c2⟩:=h2 x hx;obtain⟨d,d1,d2⟩:=h3 x hx;have key:∀w∈(inY R s0 ws z y).filter (fun w=>ahead R s0 w=[x]),∃u,w=z::y::x::u∧Q2 R s0 y x u:=by
   intro w hw;rw[List.mem_filter] at hw;obtain⟨hw,ha⟩:=hw;obtain⟨_,⟨u,rfl⟩,hi⟩:=mem_inY hw;have ha:ahead R s0 (z::y::u)=[x]:=by simpa using ha
   unfold ahead at ha;split at ha
   ·rename_i h;obtain⟨r,hr,hi2⟩:=h
    match u,hi2 with
    | x'::u,hi2=>
     simp only[List.tail_cons,List.take,List.cons.injEq,and_true] at ha;subst ha;exact⟨u,rfl,r,hr,hi2⟩
   ·cases ha
  refine bcount (P:=Same R s0) (fun w=>c w.tail.tail.tail*B x+d w.tail.tail.tail) (A x*B x) _ (List.Pairwise.filter _ hd) (fun w hw=>?_) (fun a ha b hb e=>?_)
  ·obtain⟨u,rfl,hq⟩:=key w hw;exact pair_lt (c1 u hq) (d1 u hq)
  ·obtain⟨u,rfl,hq⟩:=key a ha;obtain⟨v,rfl,hq'⟩:=key b hb;obtain⟨e1,e2⟩:=pair_inj (d1 u hq) (d1 v hq') e;have a0:=c2 u v hq hq' e1;have a1:=d2 u v hq hq' e2;exact same3 G.ok (fun n _=>pd_iff G.ok a1 a0 n) (fun n hn=>a1 n (Lf_sub (p:=[y]) (q:=[z]) hn)) (fun n hn=>a0 n (Lf_sub (p:=[x,y]) (q:=[z]) hn))
end
end Bd
set_option linter.unusedVariables false
namespace Bd
def nvX(K C H:Nat)(p:Nat→Nat)(z:Nat):Nat:=if z=H then min (min (2 ^ min 4 (p z)) K) C else min (2 ^ min 4 (p z)) K
def neX(K:Nat)(n:Nat):Nat:=min (2 ^ min 4 n-1) (K-1)
def ne1X(K C H:Nat)(p:Nat→Nat)(z:Nat):Nat:=if z=H then min (neX K (p z)) C else neX K (p z)
def lamX(K C H:Nat)(p:Nat→Nat)(b:Nat→Nat→Nat)(x y:Nat):Nat:=min (nvX K C H p y) (2 ^ (p x-b x y+sm fun w=>b w x))
def nv2X(K C H:Nat)(b:Nat→Nat→Nat)(y z:Nat):Nat:=if y=H then min (min (2 ^ min 4 (b y z)) K) C else min (2 ^ min 4 (b y z)) K
def hmX(K:Nat)(b t:Nat):Nat:=min (2 ^ min 4 b-2 ^ (min 4 b-min 4 t)) (K-1)
def a3X(K C H:Nat)(p:Nat→Nat)(b:Nat→Nat→Nat)(t:Nat→Nat→Nat→Nat)(x y z:Nat):Nat:=
 min (neX K (t x y z)*nv2X K C H b y z*nvX K C H p z) (hmX K (b x y) (t x y z)*lamX K C H p b x y)
def vX(K C H:Nat)(p:Nat→Nat)(b:Nat→Nat→Nat)(y:Nat):Nat:=ne1X K C H p y+sm fun x=>neX K (b x y)*lamX K C H p b x y
def boundX(K C H:Nat)(p:Nat→Nat)(b:Nat→Nat→Nat)(t:Nat→Nat→Nat→Nat):Nat:=
 sm (ne1X K C H p)+sm fun y=>sm fun z=>min (neX K (b y z)*lamX K C H p b y z+sm fun x=>a3X K C H p b t x y z) (vX K C H p b y)
section
variable {R:List Ru}{s0:Nat}{ws:List (List Nat)}
theorem pow_cn(R:List Ru)(p:List Nat):2 ^ (Lf R p).length≤2 ^ min 4 (cn R p):=
 Nat.pow_le_pow_right zo (by have:=Lf_le R p;have:=Lf_le4 R p;omega)
theorem sub_pow:∀l,l<5→∀t,t<5→t≤l→(2 ^ t-1)*2 ^ (l-t)=2 ^ l-2 ^ (l-t):=by decide
theorem sub_mono0:∀l t l' t':Fin 5,t.1≤l.1→t'.1≤l'.1→l.1≤l'.1→t.1≤t'.1→2 ^ l.1-2 ^ (l.1-t.1)≤2 ^ l'.1-2 ^ (l'.1-t'.1):=by decide
theorem sub_mono(l:Nat)(h1:l<5)(t:Nat)(h2:t<5)(l':Nat)(h3:l'<5)(t':Nat)(h4:t'<5)(h5:t≤l)(h6:t'≤l')(h7:l≤l')(h8:t≤t') :
  2 ^ l-2 ^ (l-t)≤2 ^ l'-2 ^ (l'-t'):=sub_mono0 ⟨l,h1⟩ ⟨t,h2⟩ ⟨l',h3⟩ ⟨t',h4⟩ h5 h6 h7 h8
theorem row_len(R:List Ru)(x y:Nat):(rowR R x y).length≤cn R [x]-cn R [x,y]:=by
 have h:(rowR R x y).length+cn R [x,y]=cn R [x]:=by
  unfold rowR cn;rw[List.countP_eq_length_filter,List.countP_eq_length_filter]
  induction R with
  | nil=>simp
  | cons r R ih=>
   simp only[List.filter_cons];have himp:[x,y].isPrefixOf r.2=true→[x].isPrefixOf r.2=true:=by
    rw[List.isPrefixOf_iff_prefix,List.isPrefixOf_iff_prefix];exact fun h=>(List.prefix_append [x] [y]).trans h
   cases h1:[x].isPrefixOf r.2<;>cases h2:[x,y].isPrefixOf r.2<;>simp at ih ⊢<;>simp[h1,h2] at himp<;>omega
 omega
theorem col_len(ok:Okr R)(x:Nat):(colR R x).length≤sm fun w=>cn R [w,x]:=by
 have h:∀(R:List Ru),(∀r∈R,∀s∈r.2,s<7)→(colR R x).length≤sm fun w=>cn R [w,x]:=by
  intro R hs;unfold colR
  induction R with
  | nil=>simp
  | cons r R ih=>
   have ih:=ih (fun r hr=>hs r (List.mem_cons_of_mem _ hr));have e:∀w,cn (r::R) [w,x]=cn R [w,x]+if [w,x].isPrefixOf r.2 then 1 else 0:=fun w=>by
    unfold cn;rw[List.countP_cons]
   simp only[e,sm_add,List.filter_cons];split
   ·rename_i h1;rw[List.isPrefixOf_iff_prefix] at h1;have:1≤sm fun w=>if [w,x].isPrefixOf r.2 then 1 else 0:=by
     obtain⟨l,e2⟩:=h1;cases hr2:r.2 with
     | nil=>rw[hr2] at e2;simp at e2
     | cons w l'=>
      have hw:w<7:=hs r me w (by rw[hr2];exact List.mem_cons_self ..);rw[hr2] at e2;simp only[List.tail_cons] at e2;have e3:[w,x].isPrefixOf (w::l')=true:=by
       rw[List.isPrefixOf_iff_prefix,←e2];exact⟨l,rfl⟩
      have:w=0∨w=1∨w=2∨w=3∨w=4∨w=5∨w=6:=by omega
      simp only[sm];rcases this with rfl | rfl | rfl | rfl | rfl | rfl | rfl<;>rw[if_pos e3]<;>omega
    simp only[List.length_cons];omega
   ·omega
 exact h R ok.sym
theorem bGood.boundX(G:bGood R s0 ws){M K C:Nat}(hM:M<4)(hK:8+2 ^ (Ot R M).length≤K)(hC:2 ^ (Pr R M).length≤C) :
  ws.length≤boundX K C (3+M) (fun z=>cn R [z]) (fun y z=>cn R [y,z]) (fun x y z=>cn R [x,y,z]):=by
 have hl:∀p,∀n∈Lf R p,n<4:=fun p n h=>Lf_lt h;have hne:∀p,∀w,Ne R s0 (Lf R p) w→∃n,n<4∧Pd R s0 w n:=fun p w ⟨n,h1,h2⟩=>⟨n,Lf_lt h1,h2⟩;have cE:∀(z:Nat) (p:List Nat),Cod R s0 (QE R s0 z (Lf R p)) (Lf R p) (neX K (cn R p)):=fun z p=>by
  unfold neX;refine Cod.inf ((codE_pow fun w h=>h.2).mono ?_) ((cod_closedE hM (hl p) fun w h=>hne p w h.2).mono zo);have:=pow_cn R p;omega
 have c1:∀z,Cod R s0 (QE R s0 z (Lf R [z])) (Lf R [z]) (ne1X K C (3+M) (fun z=>cn R [z]) z):=fun z=>by
  unfold ne1X;split
  ·rename_i e;subst e;exact Cod.inf (cE _ _) ((cod_head (fun w h=>h.1) fun n h=>h).mono hC)
  ·exact cE _ _
 have cV:∀z y,Cod R s0 (QV R s0 z y) (Lf R [z]) (nvX K C (3+M) (fun z=>cn R [z]) z):=fun z y=>by
  have h0:Cod R s0 (QV R s0 z y) (Lf R [z]) (min (2 ^ min 4 (cn R [z])) K):=
   Cod.inf ((cod_pow _ _).mono (pow_cn R [z])) ((cod_closed _ hM (hl _)).mono hK)
  unfold nvX;split
  ·rename_i e;subst e;exact Cod.inf h0 ((cod_head (fun w h=>h.1) fun n h=>h).mono hC)
  ·exact h0
 have cL:∀x y,Cod R s0 (QV R s0 y x) (Lf R [y]) (lamX K C (3+M) (fun z=>cn R [z]) (fun y z=>cn R [y,z]) x y):=fun x y=>by
  unfold lamX;refine Cod.inf (cV y x) ((cod_sent x y _).mono (Nat.pow_le_pow_right zo ?_));exact Nat.add_le_add (row_len R x y) (col_len G.ok x)
 have c2:∀y z x,Cod R s0 (QV R s0 y x) (Lf R [y,z]) (nv2X K C (3+M) (fun y z=>cn R [y,z]) y z):=fun y z x=>by
  have h0:Cod R s0 (QV R s0 y x) (Lf R [y,z]) (min (2 ^ min 4 (cn R [y,z])) K):=
   Cod.inf ((cod_pow _ _).mono (pow_cn R [y,z])) ((cod_closed _ hM (hl _)).mono hK)
  unfold nv2X;split
  ·rename_i e;subst e;exact Cod.inf h0 ((cod_head (fun w h=>h.1) fun n h=>Lf_sub (p:=[3+M]) (q:=[z]) h).mono hC)
  ·exact h0
 have cM:∀x y z,Cod R s0 (QE R s0 x (Lf R [x,y,z])) (Lf R [x,y]) (hmX K (cn R [x,y]) (cn R [x,y,z])):=fun x y z=>by
  unfold hmX;refine Cod.inf ((codM_pow (Lf_nodup [x,y,z]) (Lf_nodup [x,y]) (fun n hn=>Lf_sub (p:=[x,y]) (q:=[z]) hn) (fun w h=>h.2)).mono ?_)
   ((cod_closedE hM (hl _) fun w h=>hne _ w h.2).mono zo)
  have m:(Lf R [x,y,z]).length≤(Lf R [x,y]).length:=Lf_mono R [x,y] [z];have a1:=Lf_le4 R [x,y];have a2:=Lf_le R [x,y];have a3:=Lf_le R [x,y,z];have a4:cn R [x,y,z]≤cn R [x,y]:=by
   unfold cn;apply List.countP_mono_left;intro r _ h;rw[List.isPrefixOf_iff_prefix] at h ⊢;exact(List.prefix_append [x,y] [z]).trans h
  rw[sub_pow _ zo _ zo m];exact sub_mono _ zo _ zo _ zo _ zo m zo zo zo
 have h:=split_all G.ok G.live;rw[sum_allC] at h;have e3:sm (fun x=>sm fun y=>sm fun z=>(inC R s0 ws [z,y,x]).length)=sm fun y=>sm fun z=>sm fun x=>(inC R s0 ws [z,y,x]).length:=by
  simp only[sm];omega
 rw[e3,←sm_add] at h;refine Nat.le_trans h ?_;unfold Bd.boundX;refine Nat.add_le_add (sm_le fun z _=>G.n1 (c1 z)) (sm_le fun y _=>?_);rw[←sm_add];refine sm_le fun z _=>?_;refine Nat.le_min.2 ⟨Nat.add_le_add (G.n2 (cE y [y,z]) ?_) (sm_le fun x _=>?_),?_⟩
 ·exact cL y z
 ·unfold a3X;exact Nat.le_min.2 ⟨G.n3 (cE x _) (c2 y z x) (cV z y),G.h3 (cM x y z) (cL x y)⟩
 ·refine Nat.le_trans (inY_sum G.ok z y) ?_;unfold vX;exact G.types z y (c1 y) (fun x _=>cE x _) (fun x _=>cL x y)
end
end Bd
set_option linter.unusedVariables false
namespace Bd
def mn(a b:Nat):Nat:=bif Nat.ble a b then a else b
def mx(a b:Nat):Nat:=bif Nat.ble a b then b else a
def bP4(k:Nat):Nat:=2 ^ mn 4 k
def E4(k:Nat):Nat:=bP4 k-1
def fA(n lump D1 D2 gs g1 g2 d0 d B lz:Nat):Nat:=
 mn (E4 B*bP4 (mn lz d)) (1+lump+(E4 (mn B d)*bP4 (mn (mn lz d0) (n+gs))+E4 (mn B D1)*bP4 (mn (mn lz d0) (n+g1))+E4 (mn B D2)*bP4 (mn (mn lz d0) (n+g2))))
def fT(n l d0 bx Bz lz Dx gx t:Nat):Nat:=
 mn (E4 t*bP4 (mn Bz Dx)*bP4 (mn (mn lz d0) (n+gx))) ((bP4 bx-2 ^ (mn 4 bx-mn 4 t))*bP4 (mn l Dx))
def mx2(f g:Nat→Nat)(k:Nat):Nat→Nat
 | 0=>f 0+g k
 | i+1=>mx (f (i+1)+g (k-(i+1))) (mx2 f g k i)
def fV(l Vl bs b1 b2 d D1 D2:Nat):Nat:=E4 l+Vl+(E4 bs*bP4 (mn l d)+E4 b1*bP4 (mn l D1)+E4 b2*bP4 (mn l D2))
def fC(bs b1 b2 o1 o2 n l l1 l2 D1 D2 lump Vl kap gs g1 g2 ts t1 t2 d0 d W:Nat):Nat:=
 mn (fA n lump D1 D2 gs g1 g2 d0 d bs l+(fT n l d0 bs bs l d gs ts+fT n l d0 b1 bs l D1 g1 t1+fT n l d0 b2 bs l D2 g2 t2)) (fV l Vl bs b1 b2 d D1 D2)
 + (fA n lump D1 D2 gs g1 g2 d0 d o1 l1+fA n lump D1 D2 gs g1 g2 d0 d o2 l2)
 + (mx2 (fT n l d0 bs o1 l1 d gs) (fT n l d0 bs o2 l2 d gs) ts ts+mx2 (fT n l d0 b1 o1 l1 D1 g1) (fT n l d0 b1 o2 l2 D1 g1) t1 t1+mx2 (fT n l d0 b2 o1 l1 D2 g2) (fT n l d0 b2 o2 l2 D2 g2) t2 t2)
 + W*kap
def fW(n G:Nat):Nat→Nat
 | 0=>0
 | e+1=>2 ^ (mn n (4*(e+1))+G-e)+e-1
def mxU(f:Nat→Nat):Nat→Nat
 | 0=>f 0
 | i+1=>mx (f (i+1)) (mxU f i)
def fQ(bs b1 b2 o1 o2 n l l1 l2 D1 D2 lump Vl kap r:Nat):Nat:=
 fC bs b1 b2 o1 o2 n l l1 l2 D1 D2 lump Vl kap bs b1 b2 bs b1 b2 (mn 4 (n+(bs+b1+b2))) (mn 4 (mn 4 (n+(bs+b1+b2))+r)) (mxU (fW n (bs+b1+b2)) (mn 4 (n+(bs+b1+b2))))
def fF(bs b1 b2 o1 o2 n l l1 l2 D1 D2 lump Vl kap r:Nat):Nat:=
 mxU (fun gs=>mxU (fun g1=>mxU (fun g2=>mxU (fun d0=>
  fC bs b1 b2 o1 o2 n l l1 l2 D1 D2 lump Vl kap gs g1 g2 (bs-gs) (b1-g1) (b2-g2) d0 (mn 4 (d0+r)) (fW n (gs+g1+g2) d0))
  (mn 4 (n+(gs+g1+g2)))) b2) b1) bs
def fEta(n:Nat):Nat:=n*2 ^ (mn 4 n-1)
def fS(F:Nat→Nat→Nat→Nat→Nat→Nat→Nat→Nat→Nat→Nat→Nat→Nat→Nat→Nat→Nat→Nat)(b00 b01 b02 n0 b10 b11 b12 n1 b20 b21 b22 n2 r:Nat):Nat:=
 let l0:=b00+b01+b02+n0;let l1:=b10+b11+b12+n1;let l2:=b20+b21+b22+n2;let D0:=mn 4 (n0+(b00+b10+b20)+r);let D1:=mn 4 (n1+(b11+b01+b21)+r);let D2:=mn 4 (n2+(b22+b02+b12)+r);let nn:=n0+n1+n2;let lump:=2 ^ (nn+2*r)-1;let Vl:=bif Nat.beq r 0 then 0 else mn (2 ^ (nn+r-1)) (16*r);let kap:=bif Nat.beq r 0 then 1 else 2
 F b00 b10 b20 b01 b02 n0 l0 l1 l2 D1 D2 (lump*2 ^ n0) Vl kap r+F b11 b01 b21 b10 b12 n1 l1 l0 l2 D0 D2 (lump*2 ^ n1) Vl kap r+F b22 b02 b12 b20 b21 n2 l2 l0 l1 D0 D1 (lump*2 ^ n2) Vl kap r
def fO(b00 b01 b02 n0 b10 b11 b12 n1 b20 b21 b22 n2 r:Nat):Nat:=
 let nn:=n0+n1+n2;let kap:=bif Nat.beq r 0 then 1 else 2
 E4 (b00+b01+b02+n0)+E4 (b10+b11+b12+n1)+E4 (b20+b21+b22+n2)+r+(fEta n0+fEta n1+fEta n2)*kap
 + (bif Nat.beq r 0 then 0 else mn (2 ^ (nn+r)) (32*r)+4*r)
def okS(b00 b01 b02 n0 b10 b11 b12 n1 b20 b21 b22 n2 r:Nat):Bool:=
 Nat.ble (fO b00 b01 b02 n0 b10 b11 b12 n1 b20 b21 b22 n2 r+fS fQ b00 b01 b02 n0 b10 b11 b12 n1 b20 b21 b22 n2 r) 398 ||
 Nat.ble (fO b00 b01 b02 n0 b10 b11 b12 n1 b20 b21 b22 n2 r+fS fF b00 b01 b02 n0 b10 b11 b12 n1 b20 b21 b22 n2 r) 398
def allU(f:Nat→Bool):Nat→Bool
 | 0=>f 0
 | i+1=>f (i+1)&&allU f i
def all4(s:Nat)(f:Nat→Nat→Nat→Nat→Bool):Bool:=allU (fun a=>allU (fun b=>allU (fun c=>f a b c (s-a-b-c)) (s-a-b)) (s-a)) s
def okT(s0 s1 s2:Nat):Bool:=all4 s0 fun b00 b01 b02 n0=>all4 s1 fun b10 b11 b12 n1=>all4 s2 fun b20 b21 b22 n2=>
 Nat.beq (n0+n1+n2+(8-s0-s1-s2)) 0||okS b00 b01 b02 n0 b10 b11 b12 n1 b20 b21 b22 n2 (8-s0-s1-s2)
end Bd
set_option linter.unusedVariables false
namespace Bd
def u3(f:Nat→Nat):Nat:=f 0+f 1+f 2
def u4(f:Nat→Nat):Nat:=f 0+f 1+f 2+f 3
theorem sm34(f:Nat→Nat):sm f=u3 f+u4 fun M=>f (3+M):=by simp only[sm,u3,u4,Nat.reduceAdd];omega
theorem u3_le{f g:Nat→Nat}(h:∀i,i<3→f i≤g i):u3 f≤u3 g:=by
 have h0:=h 0 zo;have h1:=h 1 zo;have h2:=h 2 zo;simp only[u3];omega
theorem u4_le{f g:Nat→Nat}(h:∀i,i<4→f i≤g i):u4 f≤u4 g:=by
 have h0:=h 0 zo;have h1:=h 1 zo;have h2:=h 2 zo;have h3:=h 3 zo;simp only[u4];omega
theorem u3_add(f g:Nat→Nat):u3 (fun i=>f i+g i)=u3 f+u3 g:=by simp only[u3];omega
theorem u4_add(f g:Nat→Nat):u4 (fun i=>f i+g i)=u4 f+u4 g:=by simp only[u4];omega
theorem u3_mul(f:Nat→Nat)(c:Nat):u3 (fun i=>f i*c)=u3 f*c:=by simp only[u3,Nat.add_mul]
theorem u4_mul(f:Nat→Nat)(c:Nat):u4 (fun i=>f i*c)=u4 f*c:=by simp only[u4,Nat.add_mul]
theorem u43(f:Nat→Nat→Nat):u4 (fun M=>u3 fun x=>f x M)=u3 fun x=>u4 fun M=>f x M:=by simp only[u3,u4];omega
theorem u44(f:Nat→Nat→Nat):u4 (fun M=>u4 fun x=>f x M)=u4 fun x=>u4 fun M=>f x M:=by simp only[u4];omega
theorem u3_get(f:Nat→Nat){i:Nat}(h:i<3):f i≤u3 f:=by
 have:i=0∨i=1∨i=2:=by omega
 rcases this with rfl | rfl | rfl<;>simp only[u3]<;>omega
theorem u4_get(f:Nat→Nat){i:Nat}(h:i<4):f i≤u4 f:=by
 have:i=0∨i=1∨i=2∨i=3:=by omega
 rcases this with rfl | rfl | rfl | rfl<;>simp only[u4]<;>omega
theorem sm_gt(f:Nat→Nat){i:Nat}(h:i<7):f i≤sm f:=by
 have:i=0∨i=1∨i=2∨i=3∨i=4∨i=5∨i=6:=by omega
 rcases this with rfl | rfl | rfl | rfl | rfl | rfl | rfl<;>simp only[sm]<;>omega
theorem sm_u4(f:Nat→Nat→Nat):sm (fun v=>u4 fun M=>f v M)=u4 fun M=>sm fun v=>f v M:=by simp only[sm,u4];omega
theorem mn_eq(a b:Nat):mn a b=min a b:=by
 unfold mn;cases h:Nat.ble a b with
 | true=>have:=Nat.le_of_ble_eq_true h;simp only[cond_true];omega
 | false=>
  have:¬a≤b:=fun h2=>by rw[←Nat.ble_eq] at h2;rw[h2] at h;cases h
  simp only[cond_false];omega
theorem mx_eq(a b:Nat):mx a b=max a b:=by
 unfold mx;cases h:Nat.ble a b with
 | true=>have:=Nat.le_of_ble_eq_true h;simp only[cond_true];omega
 | false=>
  have:¬a≤b:=fun h2=>by rw[←Nat.ble_eq] at h2;rw[h2] at h;cases h
  simp only[cond_false];omega
theorem pow_le{a b:Nat}(h:a≤b):2 ^ a≤2 ^ b:=Nat.pow_le_pow_right zo h
theorem pow_P4{a b:Nat}(h:a≤b)(h4:a≤4):2 ^ a≤bP4 b:=by
 unfold bP4;rw[mn_eq];exact pow_le zo
theorem pow_E4{a b:Nat}(h:a≤b)(h4:a≤4):2 ^ a-1≤E4 b:=by
 unfold E4;have:=pow_P4 h h4;omega
theorem P4_mono{a b:Nat}(h:a≤b):bP4 a≤bP4 b:=by unfold bP4;rw[mn_eq,mn_eq];exact pow_le zo
theorem E4_mono{a b:Nat}(h:a≤b):E4 a≤E4 b:=by unfold E4;have:=P4_mono h;omega
theorem pow_pos2(a:Nat):1≤2 ^ a:=Nat.pow_pos zo
theorem pow_two_le{a b:Nat}:2 ^ (a+1)+2 ^ (b+1)≤2 ^ (a+b+1)+2:=by
 have h1:=pow_pos2 a;have h2:=pow_pos2 b;rw[Nat.pow_succ,Nat.pow_succ,Nat.pow_succ,Nat.pow_add];obtain⟨A,hA⟩:∃A,2 ^ a=A+1:=⟨2 ^ a-1,by omega⟩;obtain⟨B,hB⟩:∃B,2 ^ b=B+1:=⟨2 ^ b-1,by omega⟩;have:(A+1)*(B+1)=A*B+A+B+1:=by rw[Nat.add_mul,Nat.mul_add];omega
 rw[hA,hB,this];omega
theorem pow_sup{a b:Nat}:(2 ^ a-1)+(2 ^ b-1)≤2 ^ (a+b)-1:=by
 have h1:=pow_pos2 a;have h2:=pow_pos2 b;rw[Nat.pow_add];obtain⟨A,hA⟩:∃A,2 ^ a=A+1:=⟨2 ^ a-1,by omega⟩;obtain⟨B,hB⟩:∃B,2 ^ b=B+1:=⟨2 ^ b-1,by omega⟩;rw[hA,hB,Nat.add_mul,Nat.mul_add,Nat.mul_one,Nat.one_mul];omega
theorem pow_left{a g:Nat}:(2 ^ a-1)*2 ^ g≤2 ^ (a+g)-1:=by
 have h1:=pow_pos2 g;rw[Nat.sub_mul,Nat.one_mul,Nat.pow_add];omega
theorem u4_pow(a:Nat→Nat):u4 (fun X=>2 ^ a X-1)≤2 ^ u4 a-1:=by
 simp only[u4];have h1:=pow_sup (a:=a 0) (b:=a 1);have h2:=pow_sup (a:=a 0+a 1) (b:=a 2);have h3:=pow_sup (a:=a 0+a 1+a 2) (b:=a 3);omega
theorem pow_many:∀(l:List Nat),(l.map fun s=>2 ^ s-1).sum+(if (l.countP fun s=>0<s)=0 then 0 else 2)≤
  (if (l.countP fun s=>0<s)=0 then 0 else 2 ^ (l.sum+1-l.countP fun s=>0<s)+l.countP fun s=>0<s)∧(l.countP fun s=>0<s)≤l.sum:=by
 intro l
 induction l with
 | nil=>simp
 | cons s l ih=>
  obtain⟨ih,hc⟩:=ih;simp only[List.map_cons,List.sum_cons,List.countP_cons];cases s with
  | zero=>
   have hp:(if decide (0<0)=true then 1 else 0)=0:=by simp
   rw[hp];simp only[Nat.pow_zero,Nat.sub_self,Nat.zero_add,Nat.add_zero];exact⟨ih,hc⟩
  | succ s=>
   have hp:(if decide (0<s+1)=true then 1 else 0)=1:=by simp
   rw[hp];refine⟨?_,by omega⟩;rw[if_neg zo,if_neg zo];generalize hd:(l.countP fun s=>decide (0<s))=d at ih hc ⊢;generalize hk:l.sum=k at ih hc ⊢;cases d with
   | zero=>
    rw[if_pos rfl,if_pos rfl] at ih;have:2 ^ (s+1)≤2 ^ (s+1+k+1-(0+1)):=pow_le zo;have:=pow_pos2 (s+1);omega
   | succ d=>
    rw[if_neg zo,if_neg zo] at ih;have h2:=pow_two_le (a:=s) (b:=k-d-1);have e1:k+1-(d+1)=k-d-1+1:=by omega
    have e2:s+1+k+1-(d+1+1)=s+(k-d-1)+1:=by omega
    rw[e1] at ih;rw[e2];have:=pow_pos2 (s+1);omega
variable {R:List Ru}
theorem filt_u4(q:Nat→List Nat)(p:Ru→Bool)(h:∀r:Ru,(∀s∈r.2,s<7)→p r=true→∃M,M<4∧(q M).isPrefixOf r.2=true) :
  ∀R:List Ru,(∀r∈R,∀s∈r.2,s<7)→(R.filter p).length≤u4 fun M=>cn R (q M):=by
 intro R
 induction R with
 | nil=>intro _;simp[cn,u4]
 | cons r R ih=>
  intro hs;have ih:=ih fun r hr=>hs r (List.mem_cons_of_mem _ hr);have e:∀M,cn (r::R) (q M)=cn R (q M)+if (q M).isPrefixOf r.2 then 1 else 0:=fun M=>by
   unfold cn;rw[List.countP_cons]
  simp only[e,u4_add,List.filter_cons];by_cases hp:p r=true
  ·rw[if_pos hp,List.length_cons];obtain⟨M,hM,h1⟩:=h r (hs r me) hp;have:=u4_get (fun M=>if (q M).isPrefixOf r.2 then 1 else 0) hM;simp only[h1,if_true] at this;omega
  ·rw[if_neg hp];omega
theorem nt_ex{b:Nat}(h:bnt b=true)(h7:b<7):∃M,M<4∧b=3+M:=by
 unfold bnt at h;have:=Nat.le_of_ble_eq_true h;exact⟨b-3,by omega,by omega⟩
theorem FS_len(ok:Okr R)(y:Nat):(bFS R y).length≤u4 fun M=>cn R [y,3+M]:=by
 refine filt_u4 _ _ (fun r hs h=>?_) R ok.sym;rcases hr:r.2 with _ | ⟨a,_ | ⟨b,l⟩⟩<;>simp only[hr] at h<;>try cases h
 simp only[Bool.and_eq_true,beq_iff_eq] at h;obtain⟨rfl,h⟩:=h;obtain⟨M,h1,rfl⟩:=nt_ex h (hs b (by rw[hr];simp));exact⟨M,h1,by simp⟩
theorem GS_len(ok:Okr R)(x y:Nat):(bGS R x y).length≤u4 fun M=>cn R [x,y,3+M]:=by
 refine filt_u4 _ _ (fun r hs h=>?_) R ok.sym;rcases hr:r.2 with _ | ⟨a,_ | ⟨b,_ | ⟨c,l⟩⟩⟩<;>simp only[hr] at h<;>try cases h
 simp only[Bool.and_eq_true,beq_iff_eq] at h;obtain⟨rfl,rfl,h⟩:=h;obtain⟨M,h1,rfl⟩:=nt_ex h (hs c (by rw[hr];simp));exact⟨M,h1,by simp⟩
theorem GC_len(ok:Okr R)(y:Nat):(GC R y).length≤sm fun v=>cn R [v,y]:=by
 refine Nat.le_trans ?_ (col_len ok y);unfold GC colR;rw[←List.countP_eq_length_filter,←List.countP_eq_length_filter];apply List.countP_mono_left;intro r _ h;rcases hr:r.2 with _ | ⟨a,_ | ⟨b,_ | ⟨c,l⟩⟩⟩<;>simp only[hr] at h<;>try cases h
 simp only[Bool.and_eq_true,beq_iff_eq] at h;obtain⟨rfl,_⟩:=h;simp
theorem rf4(p:Nat→Bool):((List.range 4).filter p).length=u4 fun M=>if p M then 1 else 0:=by
 have:List.range 4=[0,1,2,3]:=rfl;rw[this];simp only[List.filter_cons,List.filter_nil,u4];cases p 0<;>cases p 1<;>cases p 2<;>cases p 3<;>rfl
theorem cn_pos{p l:List Nat}{r:Ru}(hr:r∈R)(e:r.2=p++l):1≤cn R p:=by
 unfold cn;rw[Nat.succ_le_iff,List.countP_pos_iff];exact⟨r,hr,by rw[e];simp⟩
theorem Sd_le4(R:List Ru)(y:Nat):(Sd R y).length≤4:=by
 have:=List.length_filter_le (fun M=>R.any fun r=>isF y M r||isG y M r) (List.range 4)
 rw[List.length_range] at this;exact this
theorem Sd0_le4(R:List Ru)(y:Nat):(Sd0 R y).length≤4:=by
 have:=List.length_filter_le (fun M=>R.any fun r=>isF y M r||isG0 y M r) (List.range 4)
 rw[List.length_range] at this;exact this
theorem isF_ex{y M:Nat}{r:Ru}(h:isF y M r=true):∃l,r.2=[y,3+M]++l:=by
 unfold isF at h;rcases hr:r.2 with _ | ⟨a,_ | ⟨b,l⟩⟩<;>simp only[hr] at h<;>try cases h
 simp only[Bool.and_eq_true,beq_iff_eq] at h;obtain⟨rfl,rfl⟩:=h;exact⟨l,rfl⟩
theorem isG_ex{y M:Nat}{r:Ru}(h:isG y M r=true):∃a l,r.2=[a,y,3+M]++l:=by
 unfold isG at h;rcases hr:r.2 with _ | ⟨a,_ | ⟨b,_ | ⟨c,l⟩⟩⟩<;>simp only[hr] at h<;>try cases h
 simp only[Bool.and_eq_true,beq_iff_eq] at h;obtain⟨rfl,rfl⟩:=h;exact⟨a,l,rfl⟩
theorem isG0_ex{y M:Nat}{r:Ru}(h:isG0 y M r=true):∃a l,a<3∧r.2=[a,y,3+M]++l:=by
 unfold isG0 at h;rcases hr:r.2 with _ | ⟨a,_ | ⟨b,_ | ⟨c,l⟩⟩⟩<;>simp only[hr] at h<;>try cases h
 simp only[Bool.and_eq_true,beq_iff_eq,Bool.not_eq_true'] at h;obtain⟨h0,rfl,rfl⟩:=h;refine⟨a,l,?_,rfl⟩;have:¬3≤a:=fun h=>by unfold bnt at h0;rw[←Nat.ble_eq] at h;rw[h] at h0;cases h0
 omega
theorem Sd_cn(ok:Okr R){y M:Nat}(h:R.any (fun r=>isF y M r||isG y M r)=true):1≤cn R [y,3+M]+sm fun v=>cn R [v,y,3+M]:=by
 rw[List.any_eq_true] at h;obtain⟨r,hr,h⟩:=h;rw[Bool.or_eq_true] at h;rcases h with h | h
 ·obtain⟨l,e⟩:=isF_ex h;have:=cn_pos hr e;omega
 ·obtain⟨a,l,e⟩:=isG_ex h;have:=cn_pos hr e;have h7:=ok.sym r hr a (by rw[e];simp);have:=sm_gt (fun v=>cn R [v,y,3+M]) h7;omega
theorem Sd_len(ok:Okr R)(y:Nat):(Sd R y).length≤u4 (fun M=>cn R [y,3+M])+sm fun v=>u4 fun M=>cn R [v,y,3+M]:=by
 unfold Sd;rw[rf4,sm_u4,←u4_add];refine u4_le fun M _=>?_;split
 ·rename_i h;exact Sd_cn ok h
 ·omega
theorem Sd_len0(ok:Okr R)(y:Nat):(Sd R y).length≤(Sd0 R y).length+u4 fun X=>u4 fun M=>cn R [3+X,y,3+M]:=by
 unfold Sd Sd0;rw[rf4,rf4,←u44,←u4_add];refine u4_le fun M _=>?_;split
 ·rename_i h;rw[List.any_eq_true] at h;obtain⟨r,hr,h⟩:=h;rw[Bool.or_eq_true] at h;by_cases h0:R.any (fun r=>isF y M r||isG0 y M r)=true
  ·rw[if_pos h0];omega
  ·have h0':∀r∈R,(isF y M r||isG0 y M r)=false:=by
    intro r hr;cases h:(isF y M r||isG0 y M r) with
    | false=>rfl
    | true=>exact absurd (List.any_eq_true.2 ⟨r,hr,h⟩) h0
   have h1:=h0' r hr;rw[Bool.or_eq_false_iff] at h1;rcases h with h | h
   ·rw[h1.1] at h;cases h
   ·obtain⟨a,l,e⟩:=isG_ex h;have hg:=h1.2;have h7:=ok.sym r hr a (by rw[e];simp);have h3:3≤a:=by
     apply Classical.byContradiction;intro h3;have:bnt a=false:=by
      unfold bnt;rw[Bool.eq_false_iff];intro k;rw[Nat.ble_eq] at k;omega
     unfold isG0 at hg;rw[e] at hg;simp[this] at hg
    have ea:a=3+(a-3):=by omega
    rw[ea] at e;have:=cn_pos hr e;have h5:=u4_get (fun X=>cn R [3+X,y,3+M]) (show a-3<4 by omega);omega
 ·omega
theorem Sd0_len(ok:Okr R)(y:Nat):(Sd0 R y).length≤u4 (fun M=>cn R [y,3+M])+u3 fun v=>u4 fun M=>cn R [v,y,3+M]:=by
 unfold Sd0;rw[rf4,←u43,←u4_add];refine u4_le fun M _=>?_;split
 ·rename_i h;rw[List.any_eq_true] at h;obtain⟨r,hr,h⟩:=h;rw[Bool.or_eq_true] at h;rcases h with h | h
  ·obtain⟨l,e⟩:=isF_ex h;have:=cn_pos hr e;omega
  ·obtain⟨a,l,h3,e⟩:=isG0_ex h;have:=cn_pos hr e;have:=u3_get (fun v=>cn R [v,y,3+M]) h3;omega
 ·omega
end Bd
set_option linter.unusedVariables false
namespace Bd
section
variable {R:List Ru}
def nT(R:List Ru)(i:Nat):Nat:=cn R [i]-u3 fun j=>cn R [i,j]
def gT(R:List Ru)(x y:Nat):Nat:=u4 fun M=>cn R [x,y,3+M]
def rT(R:List Ru):Nat:=8-u3 fun i=>cn R [i]
def nnT(R:List Ru):Nat:=u3 (nT R)
def DT(R:List Ru)(v:Nat):Nat:=mn 4 (nT R v+u3 (fun x=>cn R [x,v])+rT R)
def aT(R:List Ru):Nat:=u4 fun X=>u3 fun j=>cn R [3+X,j]
def bT(R:List Ru):Nat:=u4 fun X=>u4 fun M=>cn R [3+X,3+M]
theorem sum2(R:List Ru)(i:Nat):u3 (fun j=>cn R [i,j])+u4 (fun M=>cn R [i,3+M])≤cn R [i]:=by
 have h:=cn_sum R [i];rw[sm34] at h;exact h
theorem sum3(R:List Ru)(x y:Nat):u3 (fun z=>cn R [x,y,z])+gT R x y≤cn R [x,y]:=by
 have h:=cn_sum R [x,y];rw[sm34] at h;exact h
theorem sum1(ok:Okr R):u3 (fun j=>cn R [j])+u4 (fun M=>cn R [3+M])≤8:=by
 have h:=Nat.le_trans (cn_sum R []) (cn_le ok []);rw[sm34] at h;exact h
theorem nT_eq(R:List Ru)(i:Nat):u3 (fun j=>cn R [i,j])+nT R i=cn R [i]:=by
 have:=sum2 R i;unfold nT;omega
theorem nT_le(R:List Ru)(i:Nat):u4 (fun M=>cn R [i,3+M])≤nT R i:=by
 have:=sum2 R i;unfold nT;omega
theorem rT_eq(ok:Okr R):u3 (fun i=>cn R [i])+rT R=8:=by
 have:=sum1 ok;unfold rT;omega
theorem rT_le(ok:Okr R):u4 (fun M=>cn R [3+M])≤rT R:=by
 have:=sum1 ok;unfold rT;omega
theorem ab_le(ok:Okr R):aT R+bT R≤rT R:=by
 refine Nat.le_trans ?_ (rT_le ok);unfold aT bT;rw[←u4_add];exact u4_le fun X _=>sum2 R (3+X)
theorem gT_le(R:List Ru)(x y:Nat):gT R x y≤cn R [x,y]:=by have:=sum3 R x y;omega
theorem col_r(ok:Okr R)(v:Nat)(hv:v<7):u4 (fun X=>cn R [3+X,v])≤rT R:=by
 refine Nat.le_trans (u4_le fun X _=>?_) (rT_le ok);have h:=cn_sum R [3+X];exact Nat.le_trans (sm_gt (fun v=>cn R [3+X,v]) hv) h
theorem Sd_D(ok:Okr R){v:Nat}(hv:v<7):(Sd R v).length≤DT R v:=by
 have h1:=Sd_len ok v;have h4:=Sd_le4 R v;have e:sm (fun x=>u4 fun M=>cn R [x,v,3+M])≤u3 (fun x=>cn R [x,v])+u4 fun X=>cn R [3+X,v]:=by
  rw[sm34];exact Nat.add_le_add (u3_le fun x _=>gT_le R x v) (u4_le fun X _=>gT_le R (3+X) v)
 have e2:=col_r ok v hv;have e3:=nT_le R v;unfold DT;rw[mn_eq];omega
theorem Sd_d(ok:Okr R){y:Nat}(hy:y<7):(Sd R y).length≤mn 4 ((Sd0 R y).length+rT R):=by
 have h1:=Sd_len0 ok y;have h4:=Sd_le4 R y;have e:u4 (fun X=>u4 fun M=>cn R [3+X,y,3+M])≤u4 fun X=>cn R [3+X,y]:=u4_le fun X _=>gT_le R (3+X) y;have e2:=col_r ok y hy;rw[mn_eq];omega
theorem Sd0_d(ok:Okr R)(y:Nat):(Sd0 R y).length≤min 4 (nT R y+u3 fun x=>gT R x y):=by
 have h1:=Sd0_len ok y;have h4:=Sd0_le4 R y;have e3:=nT_le R y;unfold gT;omega
theorem lump_le(ok:Okr R){y:Nat}(hy:y<3):u4 (fun X=>(Sd R (3+X)).length+(bGS R (3+X) y).length)≤nnT R+2*rT R:=by
 have h1:u4 (fun X=>(Sd R (3+X)).length)≤bT R+(nnT R+bT R):=by
  refine Nat.le_trans (u4_le fun X _=>Sd_len ok (3+X)) ?_;rw[u4_add];refine Nat.add_le_add (Nat.le_refl _) ?_;have e:u4 (fun X=>sm fun v=>u4 fun M=>cn R [v,3+X,3+M])≤u4 (fun X=>u3 (fun v=>cn R [v,3+X])+u4 fun v=>cn R [3+v,3+X]):=by
   refine u4_le fun X _=>?_;rw[sm34];exact Nat.add_le_add (u3_le fun x _=>gT_le R x (3+X)) (u4_le fun x _=>gT_le R (3+x) (3+X))
  refine Nat.le_trans e ?_;rw[u4_add];refine Nat.add_le_add ?_ ?_
  ·rw[u43];exact u3_le fun x _=>nT_le R x
  ·rw[u44];exact Nat.le_refl _
 have h2:u4 (fun X=>(bGS R (3+X) y).length)≤aT R:=by
  unfold aT;refine u4_le fun X _=>Nat.le_trans (GS_len ok (3+X) y) (Nat.le_trans (gT_le R (3+X) y) ?_);exact u3_get (fun j=>cn R [3+X,j]) hy
 have h3:=ab_le ok;rw[u4_add];omega
theorem GC_le(ok:Okr R){X:Nat}(hX:X<4):(GC R (3+X)).length≤nnT R+bT R:=by
 refine Nat.le_trans (GC_len ok (3+X)) ?_;rw[sm34];unfold nnT bT;refine Nat.add_le_add (u3_le fun v _=>?_) (u4_le fun v _=>?_)
 ·exact Nat.le_trans (u4_get (fun M=>cn R [v,3+M]) hX) (nT_le R v)
 ·exact u4_get (fun M=>cn R [3+v,3+M]) hX
theorem lumpV{a b n r:Nat}(h:a+b≤r):a*bP4 (n+b)≤(bif Nat.beq r 0 then 0 else mn (2 ^ (n+r-1)) (16*r)):=by
 cases r with
 | zero=>
  have:a=0:=by omega
  subst this;simp
 | succ r=>
  have e:Nat.beq (r+1) 0=false:=rfl;rw[e,cond_false,mn_eq];refine Nat.le_min.2 ⟨?_,?_⟩
  ·cases a with
   | zero=>rw[Nat.zero_mul];exact Nat.zero_le _
   | succ a=>
    have h1:bP4 (n+b)≤2 ^ (n+b):=by unfold bP4;rw[mn_eq];exact pow_le zo
    have h2:a+1≤2 ^ a:=Nat.lt_two_pow_self;have h3:2 ^ a*2 ^ (n+b)≤2 ^ (n+(r+1)-1):=by rw[←Nat.pow_add];exact pow_le zo
    exact Nat.le_trans (Nat.mul_le_mul h2 h1) h3
  ·have h1:bP4 (n+b)≤16:=by
    have:bP4 (n+b)≤2 ^ 4:=by unfold bP4;rw[mn_eq];exact pow_le zo
    simpa using this
   refine Nat.le_trans (Nat.mul_le_mul (show a≤r+1 by omega) h1) zo
end
end Bd
set_option linter.unusedVariables false
namespace Bd
theorem two_P4{a b l d:Nat}(h1:a≤l)(h2:b≤d)(h4:a≤4):min (2 ^ a) (2 ^ b)≤bP4 (mn l d):=by
 rcases Nat.le_total a b with h | h
 ·rw[Nat.min_eq_left (pow_le h)];exact pow_P4 (by rw[mn_eq];omega) h4
 ·rw[Nat.min_eq_right (pow_le h)];exact pow_P4 (by rw[mn_eq];omega) zo
theorem min_pow(a b:Nat):min (2 ^ a) (2 ^ b)=2 ^ min a b:=by
 rcases Nat.le_total a b with h | h
 ·rw[Nat.min_eq_left (pow_le h),Nat.min_eq_left h]
 ·rw[Nat.min_eq_right (pow_le h),Nat.min_eq_right h]
theorem min_powE(a b:Nat):min (2 ^ a-1) (2 ^ b-1)=2 ^ min a b-1:=by
 rcases Nat.le_total a b with h | h
 ·have:=pow_le h;rw[Nat.min_eq_left zo,Nat.min_eq_left h]
 ·have:=pow_le h;rw[Nat.min_eq_right zo,Nat.min_eq_right h]
section
variable {R:List Ru}{s0:Nat}{ws:List (List Nat)}
theorem Q2.ne(ok:Okr R){z y:Nat}{u:List Nat}(h:Q2 R s0 z y u):Ne R s0 (Lf R [y,z]) u:=by
 obtain⟨r,hr,⟨l,e⟩,hp⟩:=h;exact⟨r.1,mem_Lf ok hr (p:=[y,z]) e,hp⟩
theorem Q3.ne(ok:Okr R){z y x:Nat}{u:List Nat}(h:Q3 R s0 z y x u):Ne R s0 (Lf R [x,y,z]) u:=by
 obtain⟨r,hr,⟨l,e⟩,hp⟩:=h;exact⟨r.1,mem_Lf ok hr (p:=[x,y,z]) e,hp⟩
theorem bGood.colA(G:bGood R s0 ws){y z z1 z2:Nat}(hy:y<3)(h1:z1<3)(h2:z2<3)(h12:∀f:Nat→Nat,u3 f=f y+f z1+f z2) :
  (inC R s0 ws [z,y]).length≤fA (nT R y) ((2 ^ (nnT R+2*rT R)-1)*2 ^ nT R y) (DT R z1) (DT R z2) (gT R y y) (gT R z1 y) (gT R z2 y)
   (Sd0 R y).length (mn 4 ((Sd0 R y).length+rT R)) (cn R [y,z]) (cn R [z]):=by
 have l4:=Lf_le4 R [y,z];have lc:=Lf_le R [y,z];have m4:=Lf_le4 R [z];have mc:=Lf_le R [z];unfold fA;rw[mn_eq (E4 _*_)];refine Nat.le_min.2 ⟨?_,?_⟩
 ·refine Nat.le_trans (G.c2 (codF_ne fun u h=>h.ne G.ok) (CodF.inf (codF_pow _ _ _) (codF_S G.ok _ (fun u=>u) y _))) ?_;exact Nat.mul_le_mul (pow_E4 lc l4) (two_P4 mc (Sd_d G.ok zo) m4)
 ·let a:=fun v=>(Sd R v).length;let g:=fun v=>(bFS R y).length+(bGS R v y).length;have hJ:∀v,v<7→CodF R s0 (fun t=>Q2 R s0 z y (v::t)) (fun t=>y::v::t) (Lf R [z])
    (if v<3 then min (min (2 ^ (Lf R [z]).length) (2 ^ (Sd0 R y).length)) (2 ^ g v) else 2 ^ g v):=fun v hv=>by
   split
   ·rename_i h;exact CodF.inf (CodF.inf (codF_pow _ _ _) (codF_S0 G.ok _ (fun t=>t) h y _)) (codF_send _ v y _)
   ·exact codF_send _ v y _
  have hK:∀v,v<7→CodF R s0 (fun t=>Q2 R s0 z y (v::t)) (fun t=>v::t) (Lf R [y,z]) (2 ^ min (Lf R [y,z]).length (a v)-1):=fun v hv=>by
   rw[←min_powE];refine CodF.inf (codF_ne fun u h=>h.ne G.ok) (codF_SE G.ok (fun t=>t) v _ fun t h=>?_);obtain⟨n,_,hn⟩:=h.ne G.ok;exact⟨n,hn⟩
  refine Nat.le_trans (G.c2v hK hJ) ?_;rw[sm34,h12];have hs:∀v,v<3→∀D,a v≤D→(2 ^ min (Lf R [y,z]).length (a v)-1)*(if v<3 then min (min (2 ^ (Lf R [z]).length) (2 ^ (Sd0 R y).length)) (2 ^ g v) else 2 ^ g v)≤
    E4 (mn (cn R [y,z]) D)*bP4 (mn (mn (cn R [z]) (Sd0 R y).length) (nT R y+gT R v y)):=fun v hv D hD=>by
   rw[if_pos hv];refine Nat.mul_le_mul (pow_E4 (by rw[mn_eq];omega) zo) ?_;rw[min_pow];refine two_P4 (by rw[mn_eq];omega) ?_ zo;exact Nat.add_le_add (Nat.le_trans (FS_len G.ok y) (nT_le R y)) (GS_len G.ok v y)
  have b0:=hs y hy _ (Sd_d G.ok zo);have b1:=hs z1 h1 _ (Sd_D G.ok zo);have b2:=hs z2 h2 _ (Sd_D G.ok zo);have b4:u4 (fun X=>(2 ^ min (Lf R [y,z]).length (a (3+X))-1)*(if 3+X<3 then min (min (2 ^ (Lf R [z]).length) (2 ^ (Sd0 R y).length)) (2 ^ g (3+X)) else 2 ^ g (3+X)))≤
    (2 ^ (nnT R+2*rT R)-1)*2 ^ nT R y:=by
   refine Nat.le_trans (u4_le (g:=fun X=>(2 ^ (a (3+X)+(bGS R (3+X) y).length)-1)*2 ^ nT R y) fun X _=>?_) ?_
   ·rw[if_neg zo];have e:2 ^ g (3+X)=2 ^ (bGS R (3+X) y).length*2 ^ (bFS R y).length:=by
     show 2 ^ ((bFS R y).length+(bGS R (3+X) y).length)=_;rw[Nat.pow_add,Nat.mul_comm]
    rw[e,←Nat.mul_assoc];refine Nat.mul_le_mul (Nat.le_trans (Nat.mul_le_mul_right _ ?_) pow_left) (pow_le (Nat.le_trans (FS_len G.ok y) (nT_le R y)));exact Nat.sub_le_sub_right (pow_le (Nat.min_le_right _ _)) 1
   ·rw[u4_mul];refine Nat.mul_le_mul_right _ (Nat.le_trans (u4_pow _) ?_);exact Nat.sub_le_sub_right (pow_le (lump_le G.ok hy)) 1
  omega
theorem bGood.colT(G:bGood R s0 ws){x y z:Nat}(hx:x<3)(hy:y<3){D:Nat}(hD:(Sd R x).length≤D) :
  (inC R s0 ws [z,y,x]).length≤fT (nT R y) (cn R [y]) (Sd0 R y).length (cn R [x,y]) (cn R [y,z]) (cn R [z]) D (gT R x y) (cn R [x,y,z]):=by
 have t4:=Lf_le4 R [x,y,z];have tc:=Lf_le R [x,y,z];have b4:=Lf_le4 R [x,y];have bc:=Lf_le R [x,y];have o4:=Lf_le4 R [y,z];have oc:=Lf_le R [y,z];have l4:=Lf_le4 R [y];have lc:=Lf_le R [y];have z4:=Lf_le4 R [z];have zc:=Lf_le R [z];have hm:(Lf R [x,y,z]).length≤(Lf R [x,y]).length:=Lf_mono R [x,y] [z];have hcm:cn R [x,y,z]≤cn R [x,y]:=by
  unfold cn;apply List.countP_mono_left;intro r _ h;rw[List.isPrefixOf_iff_prefix] at h ⊢;exact(List.prefix_append [x,y] [z]).trans h
 unfold fT;rw[mn_eq (E4 _*_*_)];refine Nat.le_min.2 ⟨?_,?_⟩
 ·refine Nat.le_trans (G.c3 (codF_ne fun u h=>h.ne G.ok) (CodF.inf (codF_pow _ _ _) (codF_S G.ok _ (fun u=>u) x _))
   (CodF.inf (CodF.inf (codF_pow _ _ _) (codF_S0 G.ok _ (fun t=>t) hx y _)) (codF_send _ x y _))) ?_
  refine Nat.mul_le_mul (Nat.mul_le_mul (pow_E4 tc t4) (two_P4 oc hD o4)) ?_;rw[min_pow];refine two_P4 (by rw[mn_eq];omega) ?_ zo;exact Nat.add_le_add (Nat.le_trans (FS_len G.ok y) (nT_le R y)) (GS_len G.ok x y)
 ·refine Nat.le_trans (G.c3h (codF_meet (Lf_nodup [x,y,z]) (Lf_nodup [x,y]) (fun n hn=>Lf_sub (p:=[x,y]) (q:=[z]) hn) fun u h=>h.ne G.ok)
   (CodF.inf (codF_pow _ _ _) (codF_S G.ok _ (fun u=>u) x _))) ?_
  refine Nat.mul_le_mul ?_ (two_P4 lc hD l4);rw[sub_pow _ zo _ zo hm];unfold bP4;rw[mn_eq,mn_eq];exact sub_mono _ zo _ zo _ zo _ zo hm zo zo zo
theorem one_left(ok:Okr R){X:Nat}(h1:(Lf R [3+X]).length≤1){r r':Ru}(hr:r∈R)(hr':r'∈R){l l':List Nat}(e:r.2=(3+X)::l)(e':r'.2=(3+X)::l'):r.1=r'.1:=by
 have m1:=mem_Lf ok hr (p:=[3+X]) e;have m2:=mem_Lf ok hr' (p:=[3+X]) e';generalize Lf R [3+X]=L at h1 m1 m2
 match L,h1,m1,m2 with
 | [a],_,m1,m2=>
  rw[List.mem_singleton] at m1 m2;rw[m1,m2]
theorem FS_ex{y:Nat}{r:Ru}(h:r∈bFS R y):r∈R∧∃l,r.2=y::l:=by
 unfold bFS at h;rw[List.mem_filter] at h;obtain⟨hr,h⟩:=h;refine⟨hr,?_⟩;rcases e:r.2 with _ | ⟨a,_ | ⟨b,l⟩⟩<;>simp only[e] at h<;>try cases h
 simp only[Bool.and_eq_true,beq_iff_eq] at h;exact⟨b::l,by rw[h.1]⟩
theorem one_pow{l c:Nat}(h:l≤1)(hc:l≤c):2 ^ l-1≤c:=by
 have:l=0∨l=1:=by omega
 rcases this with rfl | rfl
 ·simp
 ·simpa using hc
theorem bGood.colV(G:bGood R s0 ws)(hE:∀M,M<4→(Lf R [3+M]).length≤1){y z1 z2:Nat}(z:Nat)(hy:y<3)(h1:z1<3)(h2:z2<3)(h12:∀f:Nat→Nat,u3 f=f y+f z1+f z2) :
  (inY R s0 ws z y).length≤fV (cn R [y]) (bif Nat.beq (rT R) 0 then 0 else mn (2 ^ (nnT R+rT R-1)) (16*rT R)) (cn R [y,y]) (cn R [z1,y]) (cn R [z2,y])
   (mn 4 ((Sd0 R y).length+rT R)) (DT R z1) (DT R z2):=by
 have l4:=Lf_le4 R [y];have lc:=Lf_le R [y];have hB:∀x,x<7→CodF R s0 (Q2 R s0 y x) (fun u=>x::u) (Lf R [y]) (if x<3 then min (2 ^ (Lf R [y]).length) (2 ^ (Sd R x).length) else min (2 ^ (Lf R [y]).length) (2 ^ (GC R x).length)):=fun x hx=>by
  split
  ·exact CodF.inf (codF_pow _ _ _) (codF_S G.ok _ (fun u=>u) x _)
  ·rename_i h3;refine CodF.inf (codF_pow _ _ _) (codF_sendC (fun u hu r hf=>?_) _);obtain⟨r',hr',⟨l,e⟩,hp⟩:=hu;obtain⟨hr,l',e'⟩:=FS_ex hf;obtain⟨X,rfl⟩:∃X,x=3+X:=⟨x-3,by omega⟩;rw[one_left G.ok (hE X zo) hr hr' e' e];exact hp
 refine Nat.le_trans (G.typesF z y (codE_pow fun w h=>h.2) (fun x _=>codF_ne fun u h=>h.ne G.ok) hB) ?_;unfold fV;rw[sm34,h12];have hs:∀x,x<3→∀D,(Sd R x).length≤D→(2 ^ (Lf R [x,y]).length-1)*(if x<3 then min (2 ^ (Lf R [y]).length) (2 ^ (Sd R x).length) else min (2 ^ (Lf R [y]).length) (2 ^ (GC R x).length))≤E4 (cn R [x,y])*bP4 (mn (cn R [y]) D):=fun x hx D hD=>by
  rw[if_pos hx];exact Nat.mul_le_mul (pow_E4 (Lf_le R [x,y]) (Lf_le4 R [x,y])) (two_P4 lc hD l4)
 have b0:=hs y hy _ (Sd_d G.ok zo);have b1:=hs z1 h1 _ (Sd_D G.ok zo);have b2:=hs z2 h2 _ (Sd_D G.ok zo);have b3:u4 (fun X=>(2 ^ (Lf R [3+X,y]).length-1)*(if 3+X<3 then min (2 ^ (Lf R [y]).length) (2 ^ (Sd R (3+X)).length) else min (2 ^ (Lf R [y]).length) (2 ^ (GC R (3+X)).length)))≤
   (bif Nat.beq (rT R) 0 then 0 else mn (2 ^ (nnT R+rT R-1)) (16*rT R)):=by
  refine Nat.le_trans (u4_le (g:=fun X=>cn R [3+X,y]*bP4 (nnT R+bT R)) fun X hX=>?_) ?_
  ·rw[if_neg zo];refine Nat.mul_le_mul (one_pow (Nat.le_trans (Lf_mono R [3+X] [y]) (hE X hX)) (Lf_le R [3+X,y])) ?_;rw[min_pow];exact pow_P4 (Nat.le_trans (Nat.min_le_right _ _) (GC_le G.ok hX)) zo
  ·rw[u4_mul];refine Nat.le_trans (Nat.mul_le_mul_right _ (u4_le fun X _=>u3_get (fun j=>cn R [3+X,j]) hy)) (lumpV (ab_le G.ok))
 have:=pow_E4 lc l4;omega
theorem bGood.colN(G:bGood R s0 ws){κ:Nat}(hκ:∀M,M<4→2 ^ (Lf R [3+M]).length≤κ){y:Nat}(hy:y<3) :
  u4 (fun M=>(inC R s0 ws [3+M,y]).length+u3 fun x=>(inC R s0 ws [3+M,y,x]).length)≤fW (nT R y) (u3 fun x=>gT R x y) (Sd0 R y).length*κ:=by
 let s:Nat→Nat:=fun M=>(Lf R [y,3+M]).length+u3 fun x=>(Lf R [x,y,3+M]).length;have a1:∀M,M<4→(inC R s0 ws [3+M,y]).length+(u3 fun x=>(inC R s0 ws [3+M,y,x]).length)≤(2 ^ s M-1)*κ:=fun M hM=>by
  have h2:(inC R s0 ws [3+M,y]).length≤(2 ^ (Lf R [y,3+M]).length-1)*κ:=
   G.c2 (codF_ne fun u h=>h.ne G.ok) ((codF_pow _ _ _).mono (hκ M hM))
  have h3:∀x,(inC R s0 ws [3+M,y,x]).length≤(2 ^ (Lf R [x,y,3+M]).length-1)*2 ^ (Lf R [y,3+M]).length*κ:=fun x=>
   G.c3 (codF_ne fun u h=>h.ne G.ok) (codF_pow _ _ _) ((codF_pow _ _ _).mono (hκ M hM))
  refine Nat.le_trans (Nat.add_le_add h2 (u3_le fun x _=>h3 x)) ?_;rw[u3_mul,u3_mul,←Nat.add_mul];refine Nat.mul_le_mul_right _ ?_;have e:u3 (fun x=>2 ^ (Lf R [x,y,3+M]).length-1)≤2 ^ (u3 fun x=>(Lf R [x,y,3+M]).length)-1:=by
   simp only[u3];have h1:=pow_sup (a:=(Lf R [0,y,3+M]).length) (b:=(Lf R [1,y,3+M]).length);have h2:=pow_sup (a:=(Lf R [0,y,3+M]).length+(Lf R [1,y,3+M]).length) (b:=(Lf R [2,y,3+M]).length);omega
  refine Nat.le_trans (Nat.add_le_add_left (Nat.mul_le_mul_right _ e) _) ?_;show _≤2 ^ ((Lf R [y,3+M]).length+u3 fun x=>(Lf R [x,y,3+M]).length)-1;rw[Nat.sub_mul,Nat.one_mul,Nat.pow_add,Nat.mul_comm (2 ^ (Lf R [y,3+M]).length)];have p1:=pow_pos2 (Lf R [y,3+M]).length;have p2:1*2 ^ (Lf R [y,3+M]).length≤(2 ^ u3 fun x=>(Lf R [x,y,3+M]).length)*2 ^ (Lf R [y,3+M]).length:=Nat.mul_le_mul_right _ (pow_pos2 _);omega
 refine Nat.le_trans (u4_le a1) ?_;rw[u4_mul];refine Nat.mul_le_mul_right _ ?_;have hpos:∀M,M<4→(0<s M↔M∈Sd0 R y):=fun M hM=>by
  constructor
  ·intro h;have:0<(Lf R [y,3+M]).length∨∃x,x<3∧0<(Lf R [x,y,3+M]).length:=by
    apply Classical.byContradiction;intro hn;have n1:(Lf R [y,3+M]).length=0:=by
     have h:¬0<(Lf R [y,3+M]).length:=fun h=>hn (.inl h);omega
    have n2:∀x,x<3→(Lf R [x,y,3+M]).length=0:=fun x hx=>by
     have h:¬0<(Lf R [x,y,3+M]).length:=fun h=>hn (.inr ⟨x,hx,h⟩);omega
    have e0:=n2 0 zo;have e1:=n2 1 zo;have e2:=n2 2 zo;have:s M=0:=by
     show (Lf R [y,3+M]).length+((Lf R [0,y,3+M]).length+(Lf R [1,y,3+M]).length+(Lf R [2,y,3+M]).length)=0;omega
    omega
   unfold Sd0;rw[List.mem_filter,List.mem_range];refine⟨hM,?_⟩;rw[List.any_eq_true];rcases this with h | ⟨x,hx,h⟩
   ·obtain⟨n,hn⟩:=List.exists_mem_of_length_pos h;unfold Lf at hn;rw[List.mem_filter,List.any_eq_true] at hn;obtain⟨_,r,hr,e⟩:=hn;simp only[Bool.and_eq_true,List.isPrefixOf_iff_prefix] at e;obtain⟨_,l,e⟩:=e;exact⟨r,hr,by unfold isF;rw[←e];simp⟩
   ·obtain⟨n,hn⟩:=List.exists_mem_of_length_pos h;unfold Lf at hn;rw[List.mem_filter,List.any_eq_true] at hn;obtain⟨_,r,hr,e⟩:=hn;simp only[Bool.and_eq_true,List.isPrefixOf_iff_prefix] at e;obtain⟨_,l,e⟩:=e;refine⟨r,hr,?_⟩;have:bnt x=false:=by
     unfold bnt;rw[Bool.eq_false_iff];intro k;rw[Nat.ble_eq] at k;omega
    unfold isG0;rw[←e];simp[this]
  ·intro h;unfold Sd0 at h;rw[List.mem_filter,List.any_eq_true] at h;obtain⟨_,r,hr,h⟩:=h;rw[Bool.or_eq_true] at h;rcases h with h | h
   ·obtain⟨l,e⟩:=isF_ex h;have:=List.length_pos_of_mem (mem_Lf G.ok hr e);show 0<(Lf R [y,3+M]).length+_;omega
   ·obtain⟨a,l,h3,e⟩:=isG0_ex h;have h5:=List.length_pos_of_mem (mem_Lf G.ok hr e);have h6:=u3_get (fun x=>(Lf R [x,y,3+M]).length) h3;show 0<_+u3 fun x=>(Lf R [x,y,3+M]).length;omega
 have hd:(Sd0 R y).length=([s 0,s 1,s 2,s 3].countP fun s=>0<s):=by
  have e:(Sd0 R y).length=u4 fun M=>if 0<s M then 1 else 0:=by
   have h:=rf4 fun M=>R.any fun r=>isF y M r||isG0 y M r
   show ((List.range 4).filter fun M=>R.any fun r=>isF y M r||isG0 y M r).length=_
   rw[h];have e:∀M,M<4→(if R.any (fun r=>isF y M r||isG0 y M r)=true then 1 else 0)=if 0<s M then 1 else 0:=fun M hM=>by
    have:=hpos M hM;unfold Sd0 at this;rw[List.mem_filter,List.mem_range] at this;by_cases h:0<s M
    ·rw[if_pos h,if_pos (this.1 h).2]
    ·rw[if_neg h,if_neg fun k=>h (this.2 ⟨hM,k⟩)]
   simp only[u4];rw[e 0 zo,e 1 zo,e 2 zo,e 3 zo]
  rw[e];simp only[u4,List.countP_cons,List.countP_nil,decide_eq_true_eq];omega
 have hm:=pow_many [s 0,s 1,s 2,s 3];rw[←hd] at hm;simp only[List.map_cons,List.map_nil,List.sum_cons,List.sum_nil,Nat.add_zero] at hm;have hsum:u4 s≤mn (nT R y) (4*(Sd0 R y).length)+u3 fun x=>gT R x y:=by
  have e:u4 s=u4 (fun M=>(Lf R [y,3+M]).length)+u3 fun x=>u4 fun M=>(Lf R [x,y,3+M]).length:=by
   rw[←u43,←u4_add]
  rw[e,mn_eq];refine Nat.add_le_add (Nat.le_min.2 ⟨?_,?_⟩) (u3_le fun x _=>u4_le fun M _=>Lf_le R _)
  ·exact Nat.le_trans (u4_le fun M _=>Lf_le R [y,3+M]) (nT_le R y)
  ·have h4:∀M,M<4→(Lf R [y,3+M]).length≤4*if 0<s M then 1 else 0:=fun M hM=>by
    have:=Lf_le4 R [y,3+M];by_cases h:0<s M
    ·rw[if_pos h];omega
    ·rw[if_neg h];have h:¬0<(Lf R [y,3+M]).length+u3 fun x=>(Lf R [x,y,3+M]).length:=h;omega
   refine Nat.le_trans (u4_le h4) ?_;rw[hd];simp only[u4,List.countP_cons,List.countP_nil,decide_eq_true_eq];omega
 have hs4:u4 s=s 0+(s 1+(s 2+s 3)):=by simp only[u4];omega
 have hsp:u4 (fun M=>2 ^ s M-1)=2 ^ s 0-1+(2 ^ s 1-1+(2 ^ s 2-1+(2 ^ s 3-1))):=by simp only[u4];omega
 rw[hsp];generalize (Sd0 R y).length=d at hm hsum ⊢;cases d with
 | zero=>
  obtain⟨hm,_⟩:=hm;rw[if_pos rfl,if_pos rfl] at hm;unfold fW;omega
 | succ e=>
  obtain⟨hm,hc⟩:=hm;rw[if_neg zo,if_neg zo] at hm;show _≤2 ^ (mn (nT R y) (4*(e+1))+(u3 fun x=>gT R x y)-e)+e-1;have:=pow_le (show s 0+(s 1+(s 2+s 3))+1-(e+1)≤mn (nT R y) (4*(e+1))+(u3 fun x=>gT R x y)-e by omega);omega
end
end Bd
set_option linter.unusedVariables false
namespace Bd
theorem mx2_le{f g:Nat→Nat}(hg:∀i j,i≤j→g i≤g j){k i j:Nat}(hk:i+j≤k):∀m,i≤m→f i+g j≤mx2 f g k m
 | 0,h=>by
  have:i=0:=by omega
  subst this;unfold mx2;have:=hg j k zo;omega
 | m+1,h=>by
  unfold mx2;rw[mx_eq];by_cases e:i=m+1
  ·subst e;have:=hg j (k-(m+1)) zo;omega
  ·have:=mx2_le (f:=f) hg hk m zo;omega
theorem fT_mono{n l d0 bx Bz lz Dx gx t t':Nat}(h:t≤t'):fT n l d0 bx Bz lz Dx gx t≤fT n l d0 bx Bz lz Dx gx t':=by
 unfold fT;rw[mn_eq (E4 _*_*_),mn_eq (E4 _*_*_)];have h1:=Nat.mul_le_mul_right (bP4 (mn (mn lz d0) (n+gx))) (Nat.mul_le_mul_right (bP4 (mn Bz Dx)) (E4_mono h));have h2:bP4 bx-2 ^ (mn 4 bx-mn 4 t)≤bP4 bx-2 ^ (mn 4 bx-mn 4 t'):=by
  have:2 ^ (mn 4 bx-mn 4 t')≤2 ^ (mn 4 bx-mn 4 t):=pow_le (by rw[mn_eq,mn_eq,mn_eq];omega);omega
 have h3:=Nat.mul_le_mul_right (bP4 (mn l Dx)) h2;omega
section
variable {R:List Ru}{s0:Nat}{ws:List (List Nat)}
def lumpT(R:List Ru):Nat:=2 ^ (nnT R+2*rT R)-1
def VlT(R:List Ru):Nat:=bif Nat.beq (rT R) 0 then 0 else mn (2 ^ (nnT R+rT R-1)) (16*rT R)
def clm(R:List Ru)(κ y z1 z2:Nat):Nat:=
 fC (cn R [y,y]) (cn R [z1,y]) (cn R [z2,y]) (cn R [y,z1]) (cn R [y,z2]) (nT R y) (cn R [y]) (cn R [z1]) (cn R [z2]) (DT R z1) (DT R z2) (lumpT R*2 ^ nT R y) (VlT R) κ
  (gT R y y) (gT R z1 y) (gT R z2 y) (cn R [y,y]-gT R y y) (cn R [z1,y]-gT R z1 y) (cn R [z2,y]-gT R z2 y)
  (Sd0 R y).length (mn 4 ((Sd0 R y).length+rT R)) (fW (nT R y) (gT R y y+gT R z1 y+gT R z2 y) (Sd0 R y).length)
theorem bGood.col(G:bGood R s0 ws)(hE:∀M,M<4→(Lf R [3+M]).length≤1){κ:Nat}(hκ:∀M,M<4→2 ^ (Lf R [3+M]).length≤κ)
  {y z1 z2:Nat} (hy:y<3) (h1:z1<3) (h2:z2<3) (h12:∀f:Nat→Nat,u3 f=f y+f z1+f z2) :
  u3 (fun z=>(inC R s0 ws [z,y]).length+u3 fun x=>(inC R s0 ws [z,y,x]).length)+u4 (fun M=>(inC R s0 ws [3+M,y]).length+u3 fun x=>(inC R s0 ws [3+M,y,x]).length)
   ≤clm R κ y z1 z2:=by
 have hA:=fun z=>G.colA (z:=z) hy h1 h2 h12;have hT0:=fun z=>G.colT (z:=z) hy hy (Sd_d G.ok (y:=y) zo);have hT1:=fun z=>G.colT (z:=z) h1 hy (Sd_D G.ok (v:=z1) zo);have hT2:=fun z=>G.colT (z:=z) h2 hy (Sd_D G.ok (v:=z2) zo);have hV:=G.colV hE y hy h1 h2 h12;have hN:=G.colN hκ hy;have hI:=inY_sum (R:=R) (s0:=s0) (ws:=ws) G.ok y y;rw[sm34,h12] at hI;have hs:∀x,cn R [x,y,y]+cn R [x,y,z1]+cn R [x,y,z2]≤cn R [x,y]-gT R x y:=fun x=>by
  have:=sum3 R x y;rw[h12] at this;omega
 unfold clm fC;rw[mn_eq (fA _ _ _ _ _ _ _ _ _ _ _+_),h12,h12 (fun x=>(inC R s0 ws [y,y,x]).length),h12 (fun x=>(inC R s0 ws [z1,y,x]).length),h12 (fun x=>(inC R s0 ws [z2,y,x]).length)];rw[h12 (fun x=>gT R x y)] at hN;have e0:=Nat.le_trans (hT0 y) (fT_mono (show cn R [y,y,y]≤cn R [y,y]-gT R y y by have:=hs y;omega));have e1:=Nat.le_trans (hT1 y) (fT_mono (show cn R [z1,y,y]≤cn R [z1,y]-gT R z1 y by have:=hs z1;omega));have e2:=Nat.le_trans (hT2 y) (fT_mono (show cn R [z2,y,y]≤cn R [z2,y]-gT R z2 y by have:=hs z2;omega))
 have m0:=Nat.le_trans (Nat.add_le_add (hT0 z1) (hT0 z2)) (mx2_le (g:=fT _ _ _ _ _ _ _ _) (fun i j h=>fT_mono h) (show cn R [y,y,z1]+cn R [y,y,z2]≤cn R [y,y]-gT R y y by have:=hs y;omega) (cn R [y,y]-gT R y y) (by have:=hs y;omega));have m1:=Nat.le_trans (Nat.add_le_add (hT1 z1) (hT1 z2)) (mx2_le (g:=fT _ _ _ _ _ _ _ _) (fun i j h=>fT_mono h) (show cn R [z1,y,z1]+cn R [z1,y,z2]≤cn R [z1,y]-gT R z1 y by have:=hs z1;omega) (cn R [z1,y]-gT R z1 y) (by have:=hs z1;omega))
 have m2:=Nat.le_trans (Nat.add_le_add (hT2 z1) (hT2 z2)) (mx2_le (g:=fT _ _ _ _ _ _ _ _) (fun i j h=>fT_mono h) (show cn R [z2,y,z1]+cn R [z2,y,z2]≤cn R [z2,y]-gT R z2 y by have:=hs z2;omega) (cn R [z2,y]-gT R z2 y) (by have:=hs z2;omega));have a0:=hA y;have a1:=hA z1;have a2:=hA z2;have hyy:(inC R s0 ws [y,y]).length+((inC R s0 ws [y,y,y]).length+(inC R s0 ws [y,y,z1]).length+(inC R s0 ws [y,y,z2]).length)≤
   min (fA (nT R y) (lumpT R*2 ^ nT R y) (DT R z1) (DT R z2) (gT R y y) (gT R z1 y) (gT R z2 y) (Sd0 R y).length (mn 4 ((Sd0 R y).length+rT R)) (cn R [y,y]) (cn R [y]) +
    (fT (nT R y) (cn R [y]) (Sd0 R y).length (cn R [y,y]) (cn R [y,y]) (cn R [y]) (mn 4 ((Sd0 R y).length+rT R)) (gT R y y) (cn R [y,y]-gT R y y) +
     fT (nT R y) (cn R [y]) (Sd0 R y).length (cn R [z1,y]) (cn R [y,y]) (cn R [y]) (DT R z1) (gT R z1 y) (cn R [z1,y]-gT R z1 y) +
     fT (nT R y) (cn R [y]) (Sd0 R y).length (cn R [z2,y]) (cn R [y,y]) (cn R [y]) (DT R z2) (gT R z2 y) (cn R [z2,y]-gT R z2 y)))
   (fV (cn R [y]) (VlT R) (cn R [y,y]) (cn R [z1,y]) (cn R [z2,y]) (mn 4 ((Sd0 R y).length+rT R)) (DT R z1) (DT R z2)):=by
  refine Nat.le_min.2 ⟨?_,?_⟩
  ·exact Nat.add_le_add a0 (Nat.add_le_add (Nat.add_le_add e0 e1) e2)
  ·refine Nat.le_trans ?_ hV;omega
 have hz:∀z,(inC R s0 ws [z,y]).length≤fA (nT R y) (lumpT R*2 ^ nT R y) (DT R z1) (DT R z2) (gT R y y) (gT R z1 y) (gT R z2 y) (Sd0 R y).length (mn 4 ((Sd0 R y).length+rT R)) (cn R [y,z]) (cn R [z]):=hA;have b1:=hz z1;have b2:=hz z2;clear hA hT0 hT1 hT2 hV hI hs e0 e1 e2 a0 a1 a2 hz;omega
theorem rest4(G:bGood R s0 ws){κ:Nat}(hκ:∀M,M<4→2 ^ (Lf R [3+M]).length≤κ)(x:Nat) :
  u4 (fun M=>sm fun z=>(inC R s0 ws [z,3+M,x]).length)≤fEta (nT R x)*κ:=by
 have h:∀M,M<4→sm (fun z=>(inC R s0 ws [z,3+M,x]).length)≤cn R [x,3+M]*(2 ^ (mn 4 (nT R x)-1)*κ):=fun M hM=>by
  have h1:∀z,z<7→(inC R s0 ws [z,3+M,x]).length≤cn R [x,3+M,z]*(2 ^ (mn 4 (nT R x)-1)*κ):=fun z _=>by
   refine Nat.le_trans (G.c3h (codF_meet (Lf_nodup [x,3+M,z]) (Lf_nodup [x,3+M]) (fun n hn=>Lf_sub (p:=[x,3+M]) (q:=[z]) hn) fun u h=>h.ne G.ok) ((codF_pow _ _ _).mono (hκ M hM))) ?_;rw[←Nat.mul_assoc];refine Nat.mul_le_mul_right _ ?_;have hm:(Lf R [x,3+M,z]).length≤(Lf R [x,3+M]).length:=Lf_mono R [x,3+M] [z];have b4:=Lf_le4 R [x,3+M];have bc:=Lf_le R [x,3+M];have hn:=Nat.le_trans (u4_get (fun M=>cn R [x,3+M]) hM) (nT_le R x);refine Nat.le_trans (half (Lf R [x,3+M]).length zo (Lf R [x,3+M,z]).length zo hm) ?_;rw[Nat.mul_comm];exact Nat.mul_le_mul (Lf_le R _) (pow_le (by rw[mn_eq];omega))
  refine Nat.le_trans (sm_le h1) ?_;rw[sm_mul];exact Nat.mul_le_mul_right _ (cn_sum R [x,3+M])
 refine Nat.le_trans (u4_le h) ?_;rw[u4_mul,←Nat.mul_assoc];exact Nat.mul_le_mul_right _ (Nat.mul_le_mul_right _ (nT_le R x))
theorem one_meet{l m c:Nat}(hl:l≤1)(hm:m≤l)(hc:m≤c):(2 ^ m-1)*2 ^ (l-m)≤c:=by
 have:m=0∨m=1:=by omega
 rcases this with rfl | rfl
 ·simp
 ·have:l=1:=by omega
  subst this;simpa using hc
theorem rest5(G:bGood R s0 ws)(hE:∀M,M<4→(Lf R [3+M]).length≤1) :
  u4 (fun X=>sm (fun z=>(inC R s0 ws [z,3+X]).length)+sm fun y=>sm fun z=>(inC R s0 ws [z,y,3+X]).length)≤
   (bif Nat.beq (rT R) 0 then 0 else mn (2 ^ (nnT R+rT R)) (32*rT R)+4*rT R):=by
 let J:Nat→Nat:=fun y=>if y<3 then bP4 (nnT R+bT R) else 2;have hJ:∀X,X<4→∀(Q:List Nat→Prop),(∀u,Q u→∃r∈R,(∃l,r.2=(3+X)::l)∧Pd R s0 u r.1)→∀y,y<7→CodF R s0 Q (fun u=>(3+X)::u) (Lf R [y]) (J y):=fun X hX Q hQ y hy=>by
  show CodF R s0 Q (fun u=>(3+X)::u) (Lf R [y]) (if y<3 then bP4 (nnT R+bT R) else 2);split
  ·refine(CodF.inf (codF_pow _ _ _) (codF_sendC (fun u hu r hf=>?_) _)).mono (J:=bP4 (nnT R+bT R)) ?_
   ·obtain⟨r',hr',⟨l,e⟩,hp⟩:=hQ u hu;obtain⟨hr,l',e'⟩:=FS_ex hf;rw[one_left G.ok (hE X hX) hr hr' e' e];exact hp
   ·rw[min_pow];have:=Lf_le4 R [y];exact pow_P4 (Nat.le_trans (Nat.min_le_right _ _) (GC_le G.ok hX)) zo
  ·refine(codF_pow _ _ _).mono ?_;have h:=hE (y-3) zo;rw[show 3+(y-3)=y by omega] at h;exact pow_le h
 have h2:∀X,X<4→∀z,z<7→(inC R s0 ws [z,3+X]).length≤cn R [3+X,z]*J z:=fun X hX z hz=>by
  refine Nat.le_trans (G.c2 (codF_ne fun u h=>h.ne G.ok) (hJ X hX _ (fun u hu=>?_) z hz)) (Nat.mul_le_mul_right _ ?_)
  ·obtain⟨r,hr,⟨l,e⟩,hp⟩:=hu;exact⟨r,hr,⟨_,e⟩,hp⟩
  ·exact one_pow (Nat.le_trans (Lf_mono R [3+X] [z]) (hE X hX)) (Lf_le R _)
 have h3:∀X,X<4→∀y,y<7→sm (fun z=>(inC R s0 ws [z,y,3+X]).length)≤cn R [3+X,y]*J y:=fun X hX y hy=>by
  have h1:∀z,z<7→(inC R s0 ws [z,y,3+X]).length≤cn R [3+X,y,z]*J y:=fun z _=>by
   refine Nat.le_trans (G.c3h (codF_meet (Lf_nodup [3+X,y,z]) (Lf_nodup [3+X,y]) (fun n hn=>Lf_sub (p:=[3+X,y]) (q:=[z]) hn) fun u h=>h.ne G.ok)
    (hJ X hX _ (fun u hu=>?_) y hy)) (Nat.mul_le_mul_right _ ?_)
   ·obtain⟨r,hr,⟨l,e⟩,hp⟩:=hu;exact⟨r,hr,⟨_,e⟩,hp⟩
   ·exact one_meet (Nat.le_trans (Lf_mono R [3+X] [y]) (hE X hX)) (Lf_mono R [3+X,y] [z]) (Lf_le R _)
  refine Nat.le_trans (sm_le h1) ?_;rw[sm_mul];exact Nat.mul_le_mul_right _ (cn_sum R [3+X,y])
 have h4:∀X,X<4→sm (fun z=>(inC R s0 ws [z,3+X]).length)+sm (fun y=>sm fun z=>(inC R s0 ws [z,y,3+X]).length)≤
   (u3 fun y=>cn R [3+X,y])*(2*bP4 (nnT R+bT R))+(u4 fun M=>cn R [3+X,3+M])*4:=fun X hX=>by
  have e:∀c,sm (fun y=>c y*J y)=u3 c*bP4 (nnT R+bT R)+u4 (fun M=>c (3+M))*2:=fun c=>by
   rw[sm34,←u3_mul,←u4_mul];have e1:u3 (fun i=>c i*J i)=u3 fun i=>c i*bP4 (nnT R+bT R):=rfl;have e2:u4 (fun M=>c (3+M)*J (3+M))=u4 fun M=>c (3+M)*2:=rfl;rw[e1,e2]
  have a:=sm_le (h2 X hX);have b:=sm_le (h3 X hX);rw[e fun y=>cn R [3+X,y]] at a b;have:(u3 fun y=>cn R [3+X,y])*(2*bP4 (nnT R+bT R))=2*((u3 fun y=>cn R [3+X,y])*bP4 (nnT R+bT R)):=by
   rw[Nat.mul_left_comm]
  omega
 refine Nat.le_trans (u4_le h4) ?_;rw[u4_add,u4_mul,u4_mul];show aT R*(2*bP4 (nnT R+bT R))+bT R*4≤_;have hab:=ab_le G.ok;have hl:=lumpV (n:=nnT R) hab;rw[Nat.mul_left_comm];cases hr:rT R with
 | zero=>
  rw[hr] at hl hab;have e0:Nat.beq 0 0=true:=rfl;rw[e0,cond_true] at hl ⊢;omega
 | succ r=>
  rw[hr] at hl hab;have e0:Nat.beq (r+1) 0=false:=rfl;rw[e0,cond_false,mn_eq] at hl ⊢;have e1:2 ^ (nnT R+(r+1))=2*2 ^ (nnT R+(r+1)-1):=by
   rw[show nnT R+(r+1)=nnT R+(r+1)-1+1 by omega,Nat.pow_succ];simp only[Nat.add_sub_cancel];omega
  omega
theorem bGood.boundT(G:bGood R s0 ws)(hE:∀M,M<4→(Lf R [3+M]).length≤1){κ:Nat}(hκ:∀M,M<4→2 ^ (Lf R [3+M]).length≤κ){a b c:Nat}(ha:a<3)(hb:b<3)(hc:c<3)
  (h0:∀f:Nat→Nat,u3 f=f a+f b+f c) (h1:∀f:Nat→Nat,u3 f=f b+f a+f c) (h2:∀f:Nat→Nat,u3 f=f c+f a+f b) :
  ws.length≤E4 (cn R [a])+E4 (cn R [b])+E4 (cn R [c])+rT R+(fEta (nT R a)+fEta (nT R b)+fEta (nT R c))*κ +
   (bif Nat.beq (rT R) 0 then 0 else mn (2 ^ (nnT R+rT R)) (32*rT R)+4*rT R)+(clm R κ a b c+clm R κ b a c+clm R κ c a b):=by
 have h:=split_all G.ok G.live;rw[sum_allC] at h;have g1:sm (fun z=>(inC R s0 ws [z]).length)≤E4 (cn R [a])+E4 (cn R [b])+E4 (cn R [c])+rT R:=by
  rw[sm34,h0];have e:∀z,(inC R s0 ws [z]).length≤2 ^ (Lf R [z]).length-1:=fun z=>G.n1 (codE_pow fun w h=>h.2);have ea:=Nat.le_trans (e a) (pow_E4 (Lf_le R [a]) (Lf_le4 R [a]));have eb:=Nat.le_trans (e b) (pow_E4 (Lf_le R [b]) (Lf_le4 R [b]));have ec:=Nat.le_trans (e c) (pow_E4 (Lf_le R [c]) (Lf_le4 R [c]));have e4:u4 (fun M=>(inC R s0 ws [3+M]).length)≤rT R:=
   Nat.le_trans (u4_le fun M hM=>Nat.le_trans (e (3+M)) (one_pow (hE M hM) (Lf_le R _))) (rT_le G.ok)
  omega
 have ka:=G.col hE hκ ha hb hc h0;have kb:=G.col hE hκ hb ha hc h1;have kc:=G.col hE hκ hc ha hb h2;have ra:=rest4 G hκ a;have rb:=rest4 G hκ b;have rc:=rest4 G hκ c;have r5:=rest5 G hE;have e2:sm (fun y=>sm fun z=>(inC R s0 ws [z,y]).length) =
   u3 (fun y=>u3 (fun z=>(inC R s0 ws [z,y]).length)+u4 fun M=>(inC R s0 ws [3+M,y]).length)+u4 fun X=>sm fun z=>(inC R s0 ws [z,3+X]).length:=by
  rw[sm34];congr 1;simp only[sm34]
 have e3:sm (fun x=>sm fun y=>sm fun z=>(inC R s0 ws [z,y,x]).length) =
   u3 (fun x=>u3 (fun y=>u3 (fun z=>(inC R s0 ws [z,y,x]).length)+u4 fun M=>(inC R s0 ws [3+M,y,x]).length)+u4 fun M=>sm fun z=>(inC R s0 ws [z,3+M,x]).length) +
    u4 fun X=>sm fun y=>sm fun z=>(inC R s0 ws [z,y,3+X]).length:=by
  rw[sm34];congr 1;simp only[u3];rw[sm34,sm34,sm34];simp only[sm34,u3]
 have e4:u3 (fun x=>u3 (fun y=>u3 (fun z=>(inC R s0 ws [z,y,x]).length)+u4 fun M=>(inC R s0 ws [3+M,y,x]).length)+u4 fun M=>sm fun z=>(inC R s0 ws [z,3+M,x]).length) =
   u3 (fun y=>u3 (fun z=>u3 fun x=>(inC R s0 ws [z,y,x]).length)+u4 fun M=>u3 fun x=>(inC R s0 ws [3+M,y,x]).length)+u3 fun x=>u4 fun M=>sm fun z=>(inC R s0 ws [z,3+M,x]).length:=by
  rw[u3_add];congr 1;simp only[u3,u4];omega
 rw[e2,e3,e4] at h;have e5:∀y,u3 (fun z=>(inC R s0 ws [z,y]).length+u3 fun x=>(inC R s0 ws [z,y,x]).length)=u3 (fun z=>(inC R s0 ws [z,y]).length)+u3 fun z=>u3 fun x=>(inC R s0 ws [z,y,x]).length:=fun y=>u3_add _ _;have e6:∀y,u4 (fun M=>(inC R s0 ws [3+M,y]).length+u3 fun x=>(inC R s0 ws [3+M,y,x]).length)=u4 (fun M=>(inC R s0 ws [3+M,y]).length)+u4 fun M=>u3 fun x=>(inC R s0 ws [3+M,y,x]).length:=fun y=>u4_add _ _;rw[e5,e6] at ka kb kc;rw[u4_add] at r5;rw[h0 (fun y=>u3 (fun z=>(inC R s0 ws [z,y]).length)+u4 fun M=>(inC R s0 ws [3+M,y]).length),
  h0 (fun y=>u3 (fun z=>u3 fun x=>(inC R s0 ws [z,y,x]).length)+u4 fun M=>u3 fun x=>(inC R s0 ws [3+M,y,x]).length),
  h0 (fun x=>u4 fun M=>sm fun z=>(inC R s0 ws [z,3+M,x]).length)] at h
 rw[Nat.add_mul,Nat.add_mul];clear e2 e3 e4 e5 e6;omega
end
end Bd
namespace Bd
theorem k400:okT 4 0 0=true:=by decide +kernel
theorem k410:okT 4 1 0=true:=by decide +kernel
theorem k411:okT 4 1 1=true:=by decide +kernel
theorem k420:okT 4 2 0=true:=by decide +kernel
theorem k421:okT 4 2 1=true:=by decide +kernel
theorem k422:okT 4 2 2=true:=by decide +kernel
theorem k430:okT 4 3 0=true:=by decide +kernel
theorem k431:okT 4 3 1=true:=by decide +kernel
theorem k440:okT 4 4 0=true:=by decide +kernel
theorem k500:okT 5 0 0=true:=by decide +kernel
theorem k510:okT 5 1 0=true:=by decide +kernel
theorem k511:okT 5 1 1=true:=by decide +kernel
theorem k520:okT 5 2 0=true:=by decide +kernel
theorem k521:okT 5 2 1=true:=by decide +kernel
theorem k530:okT 5 3 0=true:=by decide +kernel
theorem k600:okT 6 0 0=true:=by decide +kernel
theorem k610:okT 6 1 0=true:=by decide +kernel
theorem k611:okT 6 1 1=true:=by decide +kernel
theorem k620:okT 6 2 0=true:=by decide +kernel
theorem k700:okT 7 0 0=true:=by decide +kernel
theorem k710:okT 7 1 0=true:=by decide +kernel
theorem k800:okT 8 0 0=true:=by decide +kernel
theorem okT_all{a b c:Nat}(h4:4≤a)(hc:c≤b)(h8:a+b+c≤8):okT a b c=true:=by
 have ha:a=4∨a=5∨a=6∨a=7∨a=8:=by omega
 have hb:b=0∨b=1∨b=2∨b=3∨b=4:=by omega
 have hc2:c=0∨c=1∨c=2:=by omega
 rcases ha with rfl | rfl | rfl | rfl | rfl<;>rcases hb with rfl | rfl | rfl | rfl | rfl<;>rcases hc2 with rfl | rfl | rfl
 ·exact k400
 ·omega
 ·omega
 ·exact k410
 ·exact k411
 ·omega
 ·exact k420
 ·exact k421
 ·exact k422
 ·exact k430
 ·exact k431
 ·omega
 ·exact k440
 ·omega
 ·omega
 ·exact k500
 ·omega
 ·omega
 ·exact k510
 ·exact k511
 ·omega
 ·exact k520
 ·exact k521
 ·omega
 ·exact k530
 ·omega
 ·omega
 ·omega
 ·omega
 ·omega
 ·exact k600
 ·omega
 ·omega
 ·exact k610
 ·exact k611
 ·omega
 ·exact k620
 ·omega
 ·omega
 ·omega
 ·omega
 ·omega
 ·omega
 ·omega
 ·omega
 ·exact k700
 ·omega
 ·omega
 ·exact k710
 ·omega
 ·omega
 ·omega
 ·omega
 ·omega
 ·omega
 ·omega
 ·omega
 ·omega
 ·omega
 ·omega
 ·exact k800
 ·omega
 ·omega
 ·omega
 ·omega
 ·omega
 ·omega
 ·omega
 ·omega
 ·omega
 ·omega
 ·omega
 ·omega
 ·omega
 ·omega
end Bd
set_option linter.unusedVariables false
namespace Bd
theorem mn_mono{a b c d:Nat}(h:a≤c)(h2:b≤d):mn a b≤mn c d:=by rw[mn_eq,mn_eq];omega
theorem fA_mono{n lump D1 D2 gs g1 g2 d0 d B lz gs' g1' g2' d0' d':Nat}(hs:gs≤gs')(h1:g1≤g1')(h2:g2≤g2')(h0:d0≤d0')(hd:d≤d') :
  fA n lump D1 D2 gs g1 g2 d0 d B lz≤fA n lump D1 D2 gs' g1' g2' d0' d' B lz:=by
 unfold fA;have e:=mn_mono (Nat.le_refl lz) h0;exact mn_mono (Nat.mul_le_mul_left _ (P4_mono (mn_mono (Nat.le_refl _) hd)))
  (Nat.add_le_add_left (Nat.add_le_add (Nat.add_le_add (Nat.mul_le_mul (E4_mono (mn_mono (Nat.le_refl _) hd)) (P4_mono (mn_mono e (Nat.add_le_add_left hs _))))
   (Nat.mul_le_mul_left _ (P4_mono (mn_mono e (Nat.add_le_add_left h1 _))))) (Nat.mul_le_mul_left _ (P4_mono (mn_mono e (Nat.add_le_add_left h2 _))))) _)
theorem fT_mono2{n l d0 bx Bz lz D gx d0' D' gx' t:Nat}(h0:d0≤d0')(hD:D≤D')(hg:gx≤gx'):fT n l d0 bx Bz lz D gx t≤fT n l d0' bx Bz lz D' gx' t:=by
 unfold fT;exact mn_mono (Nat.mul_le_mul (Nat.mul_le_mul_left _ (P4_mono (mn_mono (Nat.le_refl _) hD))) (P4_mono (mn_mono (mn_mono (Nat.le_refl _) h0) (Nat.add_le_add_left hg _))))
  (Nat.mul_le_mul_left _ (P4_mono (mn_mono (Nat.le_refl _) hD)))
theorem mx2_sup{f g:Nat→Nat}{k X:Nat}:∀m,(∀i,i≤m→f i+g (k-i)≤X)→mx2 f g k m≤X
 | 0,h=>by unfold mx2;have:=h 0 (Nat.le_refl _);simpa using this
 | m+1,h=>by
  unfold mx2;rw[mx_eq];have h1:=h (m+1) (Nat.le_refl _);have h2:=mx2_sup (k:=k) m fun i hi=>h i zo;omega
theorem mx2_mono{f g f' g':Nat→Nat}(hf:∀i,f i≤f' i)(hg:∀i,g i≤g' i)(hm:∀i j,i≤j→g' i≤g' j){k k':Nat}(hk:k≤k'):mx2 f g k k≤mx2 f' g' k' k':=
 mx2_sup k fun i hi=>Nat.le_trans (Nat.add_le_add (hf i) (hg (k-i))) (mx2_le (f:=f') hm (show i+(k-i)≤k' by omega) k' zo)
theorem fV_mono{l Vl bs b1 b2 d D1 D2 d':Nat}(hd:d≤d'):fV l Vl bs b1 b2 d D1 D2≤fV l Vl bs b1 b2 d' D1 D2:=by
 unfold fV;have:=Nat.mul_le_mul_left (E4 bs) (P4_mono (mn_mono (Nat.le_refl l) hd));omega
theorem fC_mono{bs b1 b2 o1 o2 n l l1 l2 D1 D2 lump Vl kap gs g1 g2 ts t1 t2 d0 d W gs' g1' g2' ts' t1' t2' d0' d' W':Nat}(hgs:gs≤gs')(hg1:g1≤g1')(hg2:g2≤g2')
  (hts:ts≤ts') (ht1:t1≤t1') (ht2:t2≤t2') (h0:d0≤d0') (hd:d≤d') (hW:W≤W') :
  fC bs b1 b2 o1 o2 n l l1 l2 D1 D2 lump Vl kap gs g1 g2 ts t1 t2 d0 d W≤fC bs b1 b2 o1 o2 n l l1 l2 D1 D2 lump Vl kap gs' g1' g2' ts' t1' t2' d0' d' W':=by
 unfold fC;have a:=fun B lz=>fA_mono (n:=n) (lump:=lump) (D1:=D1) (D2:=D2) (B:=B) (lz:=lz) hgs hg1 hg2 h0 hd;have x0:=fun Bz lz t=>fT_mono2 (n:=n) (l:=l) (bx:=bs) (Bz:=Bz) (lz:=lz) (t:=t) h0 hd hgs;have x1:=fun Bz lz t=>fT_mono2 (n:=n) (l:=l) (bx:=b1) (Bz:=Bz) (lz:=lz) (t:=t) h0 (Nat.le_refl D1) hg1;have x2:=fun Bz lz t=>fT_mono2 (n:=n) (l:=l) (bx:=b2) (Bz:=Bz) (lz:=lz) (t:=t) h0 (Nat.le_refl D2) hg2;refine Nat.add_le_add (Nat.add_le_add (Nat.add_le_add (mn_mono (Nat.add_le_add (a _ _) (Nat.add_le_add (Nat.add_le_add ?_ ?_) ?_)) (fV_mono hd)) (Nat.add_le_add (a _ _) (a _ _)))
  (Nat.add_le_add (Nat.add_le_add ?_ ?_) ?_)) (Nat.mul_le_mul_right _ hW)
 ·exact Nat.le_trans (x0 _ _ _) (fT_mono hts)
 ·exact Nat.le_trans (x1 _ _ _) (fT_mono ht1)
 ·exact Nat.le_trans (x2 _ _ _) (fT_mono ht2)
 ·exact mx2_mono (g':=fT _ _ _ _ _ _ _ _) (fun i=>x0 _ _ i) (fun i=>x0 _ _ i) (fun i j h=>fT_mono h) hts
 ·exact mx2_mono (g':=fT _ _ _ _ _ _ _ _) (fun i=>x1 _ _ i) (fun i=>x1 _ _ i) (fun i j h=>fT_mono h) ht1
 ·exact mx2_mono (g':=fT _ _ _ _ _ _ _ _) (fun i=>x2 _ _ i) (fun i=>x2 _ _ i) (fun i j h=>fT_mono h) ht2
theorem fW_mono{n G G':Nat}(h:G≤G'):∀e,fW n G e≤fW n G' e
 | 0=>Nat.le_refl _
 | e+1=>by
  show 2 ^ (mn n (4*(e+1))+G-e)+e-1≤2 ^ (mn n (4*(e+1))+G'-e)+e-1;have:=pow_le (show mn n (4*(e+1))+G-e≤mn n (4*(e+1))+G'-e by omega);omega
theorem le_mxU{f:Nat→Nat}{i:Nat}:∀{k:Nat},i≤k→f i≤mxU f k
 | 0,h=>by
  have:i=0:=by omega
  subst this;exact Nat.le_refl _
 | k+1,h=>by
  unfold mxU;rw[mx_eq];by_cases e:i=k+1
  ·subst e;omega
  ·have:=le_mxU (f:=f) (show i≤k by omega);omega
theorem fC_fQ{bs b1 b2 o1 o2 n l l1 l2 D1 D2 lump Vl kap gs g1 g2 d0 r:Nat}(hs:gs≤bs)(h1:g1≤b1)(h2:g2≤b2)(h0:d0≤mn 4 (n+(gs+g1+g2))) :
  fC bs b1 b2 o1 o2 n l l1 l2 D1 D2 lump Vl kap gs g1 g2 (bs-gs) (b1-g1) (b2-g2) d0 (mn 4 (d0+r)) (fW n (gs+g1+g2) d0)≤fQ bs b1 b2 o1 o2 n l l1 l2 D1 D2 lump Vl kap r:=by
 have hd:d0≤mn 4 (n+(bs+b1+b2)):=Nat.le_trans h0 (mn_mono (Nat.le_refl _) zo);unfold fQ;exact fC_mono hs h1 h2 (Nat.sub_le _ _) (Nat.sub_le _ _) (Nat.sub_le _ _) hd (mn_mono (Nat.le_refl _) (Nat.add_le_add_right hd _))
  (Nat.le_trans (fW_mono (show gs+g1+g2≤bs+b1+b2 by omega) d0) (le_mxU (f:=fW n (bs+b1+b2)) hd))
theorem fC_fF{bs b1 b2 o1 o2 n l l1 l2 D1 D2 lump Vl kap gs g1 g2 d0 r:Nat}(hs:gs≤bs)(h1:g1≤b1)(h2:g2≤b2)(h0:d0≤mn 4 (n+(gs+g1+g2))) :
  fC bs b1 b2 o1 o2 n l l1 l2 D1 D2 lump Vl kap gs g1 g2 (bs-gs) (b1-g1) (b2-g2) d0 (mn 4 (d0+r)) (fW n (gs+g1+g2) d0)≤fF bs b1 b2 o1 o2 n l l1 l2 D1 D2 lump Vl kap r:=by
 unfold fF;refine Nat.le_trans ?_ (le_mxU (f:=fun gs=>mxU (fun g1=>mxU (fun g2=>mxU (fun d0=>_) _) b2) b1) hs);refine Nat.le_trans ?_ (le_mxU (f:=fun g1=>mxU (fun g2=>mxU (fun d0=>_) _) b2) h1);refine Nat.le_trans ?_ (le_mxU (f:=fun g2=>mxU (fun d0=>_) _) h2);exact le_mxU (f:=fun d0=>fC bs b1 b2 o1 o2 n l l1 l2 D1 D2 lump Vl kap gs g1 g2 (bs-gs) (b1-g1) (b2-g2) d0 (mn 4 (d0+r)) (fW n (gs+g1+g2) d0)) h0
theorem allU_get{f:Nat→Bool}{i:Nat}:∀{k:Nat},allU f k=true→i≤k→f i=true
 | 0,h,hi=>by
  have:i=0:=by omega
  subst this;exact h
 | k+1,h,hi=>by
  unfold allU at h;rw[Bool.and_eq_true] at h;by_cases e:i=k+1
  ·subst e;exact h.1
  ·exact allU_get h.2 zo
theorem all4_get{s:Nat}{f:Nat→Nat→Nat→Nat→Bool}(h:all4 s f=true){a b c d:Nat}(hs:a+b+c+d=s):f a b c d=true:=by
 unfold all4 at h;have h1:=allU_get h (show a≤s by omega);have h2:=allU_get h1 (show b≤s-a by omega);have h3:=allU_get h2 (show c≤s-a-b by omega);have e:s-a-b-c=d:=by omega
 rw[e] at h3;exact h3
section
variable {R:List Ru}{s0:Nat}{ws:List (List Nat)}
theorem kap_ok(ok:Okr R)(hE:∀M,M<4→(Lf R [3+M]).length≤1):∀M,M<4→2 ^ (Lf R [3+M]).length≤(bif Nat.beq (rT R) 0 then 1 else 2):=by
 intro M hM;cases hr:rT R with
 | zero=>
  have h:=Nat.le_trans (Nat.le_trans (Lf_le R [3+M]) (u4_get (fun M=>cn R [3+M]) hM)) (rT_le ok);rw[hr] at h;have:(Lf R [3+M]).length=0:=by omega
  rw[this];exact Nat.le_refl _
 | succ r=>
  have e0:Nat.beq (r+1) 0=false:=rfl;rw[e0,cond_false];exact pow_le (hE M hM)
theorem bGood.partT(G:bGood R s0 ws)(hE:∀M,M<4→(Lf R [3+M]).length≤1){a b c:Nat}(ha:a<3)(hb:b<3)(hc:c<3)
  (h0:∀f:Nat→Nat,u3 f=f a+f b+f c) (h4:4≤cn R [a]) (hbc:cn R [c]≤cn R [b]) (hn:nnT R+rT R≠0):ws.length≤398:=by
 have h1:∀f:Nat→Nat,u3 f=f b+f a+f c:=fun f=>by rw[h0];omega
 have h2:∀f:Nat→Nat,u3 f=f c+f a+f b:=fun f=>by rw[h0];omega
 have hB:=G.boundT hE (kap_ok G.ok hE) ha hb hc h0 h1 h2;have r8:=rT_eq G.ok;rw[h0] at r8;have la:=nT_eq R a;have lb:=nT_eq R b;have lc:=nT_eq R c;rw[h0] at la lb lc;have hT:=okT_all h4 hbc (show cn R [a]+cn R [b]+cn R [c]≤8 by omega);unfold okT at hT;have e8:8-cn R [a]-cn R [b]-cn R [c]=rT R:=by omega
 rw[e8] at hT;have hT:=all4_get (all4_get (all4_get hT (a:=cn R [a,a]) (b:=cn R [a,b]) (c:=cn R [a,c]) (d:=nT R a) la) (a:=cn R [b,a]) (b:=cn R [b,b]) (c:=cn R [b,c]) (d:=nT R b) lb)
  (a:=cn R [c,a]) (b:=cn R [c,b]) (c:=cn R [c,c]) (d:=nT R c) lc
 have hnn:nnT R=nT R a+nT R b+nT R c:=h0 _;rw[←hnn,Bool.or_eq_true] at hT;have hT:okS (cn R [a,a]) (cn R [a,b]) (cn R [a,c]) (nT R a) (cn R [b,a]) (cn R [b,b]) (cn R [b,c]) (nT R b) (cn R [c,a]) (cn R [c,b]) (cn R [c,c]) (nT R c) (rT R)=true:=by
  rcases hT with hT | hT
  ·exact absurd (Nat.eq_of_beq_eq_true hT) hn
  ·exact hT
 have hd:=fun y=>Sd0_d G.ok y;have d0:∀y z1 z2,(∀f:Nat→Nat,u3 f=f y+f z1+f z2)→(Sd0 R y).length≤mn 4 (nT R y+(gT R y y+gT R z1 y+gT R z2 y)):=fun y z1 z2 hp=>by
  have:=hd y;rw[hp] at this;rw[mn_eq];exact this
 have eD0:DT R a=mn 4 (nT R a+(cn R [a,a]+cn R [b,a]+cn R [c,a])+rT R):=by unfold DT;rw[h0]
 have eD1:DT R b=mn 4 (nT R b+(cn R [b,b]+cn R [a,b]+cn R [c,b])+rT R):=by unfold DT;rw[h1]
 have eD2:DT R c=mn 4 (nT R c+(cn R [c,c]+cn R [a,c]+cn R [b,c])+rT R):=by unfold DT;rw[h2]
 have eO:E4 (cn R [a])+E4 (cn R [b])+E4 (cn R [c])+rT R+(fEta (nT R a)+fEta (nT R b)+fEta (nT R c))*(bif Nat.beq (rT R) 0 then 1 else 2) +
   (bif Nat.beq (rT R) 0 then 0 else mn (2 ^ (nnT R+rT R)) (32*rT R)+4*rT R) =
   fO (cn R [a,a]) (cn R [a,b]) (cn R [a,c]) (nT R a) (cn R [b,a]) (cn R [b,b]) (cn R [b,c]) (nT R b) (cn R [c,a]) (cn R [c,b]) (cn R [c,c]) (nT R c) (rT R):=by
  unfold fO;simp only[la,lb,lc,←hnn]
 rw[eO] at hB;unfold okS at hT;rw[Bool.or_eq_true] at hT;rcases hT with hT | hT
 ·have hT:=Nat.le_of_ble_eq_true hT;refine Nat.le_trans hB (Nat.le_trans (Nat.add_le_add_left ?_ _) hT);unfold fS;simp only[la,lb,lc,←hnn,←eD0,←eD1,←eD2];exact Nat.add_le_add (Nat.add_le_add (fC_fQ (gT_le R a a) (gT_le R b a) (gT_le R c a) (d0 a b c h0)) (fC_fQ (gT_le R b b) (gT_le R a b) (gT_le R c b) (d0 b a c h1)))
   (fC_fQ (gT_le R c c) (gT_le R a c) (gT_le R b c) (d0 c a b h2))
 ·have hT:=Nat.le_of_ble_eq_true hT;refine Nat.le_trans hB (Nat.le_trans (Nat.add_le_add_left ?_ _) hT);unfold fS;simp only[la,lb,lc,←hnn,←eD0,←eD1,←eD2];exact Nat.add_le_add (Nat.add_le_add (fC_fF (gT_le R a a) (gT_le R b a) (gT_le R c a) (d0 a b c h0)) (fC_fF (gT_le R b b) (gT_le R a b) (gT_le R c b) (d0 b a c h1)))
   (fC_fF (gT_le R c c) (gT_le R a c) (gT_le R b c) (d0 c a b h2))
end
end Bd
set_option linter.unusedVariables false
namespace Bd
def sl(L:List Nat)(f:Nat→Nat):Nat:=(L.map f).sum
theorem sl_nil(f:Nat→Nat):sl [] f=0:=rfl
theorem sl_cons(a:Nat)(L:List Nat)(f:Nat→Nat):sl (a::L) f=f a+sl L f:=by simp[sl]
theorem sl_append(L M:List Nat)(f:Nat→Nat):sl (L++M) f=sl L f+sl M f:=by simp[sl]
theorem sl_le{L:List Nat}{f g:Nat→Nat}(h:∀i∈L,f i≤g i):sl L f≤sl L g:=by
 induction L with
 | nil=>simp[sl]
 | cons a L ih=>
  rw[sl_cons,sl_cons];have:=h a me;have:=ih fun i hi=>h i (List.mem_cons_of_mem _ hi);omega
theorem sl_add(L:List Nat)(f g:Nat→Nat):sl L (fun i=>f i+g i)=sl L f+sl L g:=by
 induction L with
 | nil=>rfl
 | cons a L ih=>simp only[sl_cons];omega
theorem sl_mul(L:List Nat)(f:Nat→Nat)(c:Nat):sl L (fun i=>f i*c)=sl L f*c:=by
 induction L with
 | nil=>simp[sl]
 | cons a L ih=>simp only[sl_cons,Nat.add_mul];omega
theorem sl_swap(L M:List Nat)(f:Nat→Nat→Nat):sl L (fun x=>sl M fun y=>f x y)=sl M fun y=>sl L fun x=>f x y:=by
 induction L with
 | nil=>
  induction M with
  | nil=>rfl
  | cons a M ih=>simp only[sl_cons,sl_nil] at ih ⊢;omega
 | cons a L ih=>rw[sl_cons,ih];simp only[sl_cons];exact(sl_add M (fun y=>f a y) fun y=>sl L fun x=>f x y).symm
theorem sm_sl(f:Nat→Nat):sm f=sl (List.range 7) f:=(sum_range7 f).symm
def brest(L:List Nat):List Nat:=(List.range 7).filter fun z=>z∉L
theorem sm_split{L:List Nat}(hL:L.Nodup)(h7:∀z∈L,z<7)(f:Nat→Nat):sm f=sl L f+sl (brest L) f:=by
 rw[sm_sl,←sl_append];unfold sl;apply List.Perm.sum_nat;apply List.Perm.map;refine(List.perm_ext_iff_of_nodup List.nodup_range ?_).2 fun z=>?_
 ·rw[List.nodup_append];refine⟨hL,List.Pairwise.filter _ List.nodup_range,fun a ha b hb e=>?_⟩;subst e;unfold brest at hb;rw[List.mem_filter] at hb;exact absurd ha (by simpa using hb.2)
 ·rw[List.mem_append];unfold brest;rw[List.mem_filter,List.mem_range];constructor
  ·intro h;by_cases hz:z∈L
   ·exact .inl hz
   ·exact .inr ⟨h,by simpa using hz⟩
  ·rintro(h | h)
   ·exact h7 z h
   ·exact h.1
theorem sl_sup{F:Nat→Nat}{N:Nat}(h0:F 0=0)(hs:∀x y,x+y≤N→F x+F y≤F (x+y))(L:List Nat)(a:Nat→Nat)(h:sl L a≤N):sl L (fun i=>F (a i))≤F (sl L a):=by
 induction L with
 | nil=>rw[sl_nil,sl_nil,h0];exact Nat.le_refl 0
 | cons x L ih=>
  rw[sl_cons] at h;rw[sl_cons,sl_cons];have:=ih zo;have:=hs (a x) (sl L a) zo;omega
theorem sl_pow(L:List Nat)(t b:Nat→Nat):sl L (fun z=>(2 ^ t z-1)*2 ^ b z)≤(2 ^ sl L t-1)*2 ^ sl L b:=by
 induction L with
 | nil=>simp[sl]
 | cons x L ih=>
  simp only[sl_cons];refine Nat.le_trans (Nat.add_le_add_left ih _) ?_;generalize sl L t=T;generalize sl L b=B;have p1:0<2 ^ t x:=Nat.pow_pos zo;have p2:0<2 ^ T:=Nat.pow_pos zo;have p3:0<2 ^ b x:=Nat.pow_pos zo;have p4:0<2 ^ B:=Nat.pow_pos zo;rw[Nat.pow_add,Nat.pow_add];generalize 2 ^ t x=u at *;generalize 2 ^ T=v at *;generalize 2 ^ b x=c at *;generalize 2 ^ B=d at *;obtain⟨u,rfl⟩:∃k,u=k+1:=⟨u-1,by omega⟩;obtain⟨v,rfl⟩:∃k,v=k+1:=⟨v-1,by omega⟩;obtain⟨c,rfl⟩:∃k,c=k+1:=⟨c-1,by omega⟩;obtain⟨d,rfl⟩:∃k,d=k+1:=⟨d-1,by omega⟩;have e:(u+1)*(v+1)-1=u*v+u+v:=by
   rw[Nat.add_mul,Nat.mul_add,Nat.mul_add];omega
  rw[e];simp only[Nat.add_sub_cancel];have h1:u*(c+1)≤(u*v+u)*((c+1)*(d+1)):=by
   refine Nat.mul_le_mul zo ?_;have:(c+1)*1≤(c+1)*(d+1):=Nat.mul_le_mul_left _ zo;omega
  have h2:v*(d+1)≤v*((c+1)*(d+1)):=by
   refine Nat.mul_le_mul_left _ ?_;have:1*(d+1)≤(c+1)*(d+1):=Nat.mul_le_mul_right _ zo;omega
  have h3:(u*v+u+v)*((c+1)*(d+1))=(u*v+u)*((c+1)*(d+1))+v*((c+1)*(d+1)):=Nat.add_mul _ _ _;omega
end Bd
set_option linter.unusedVariables false
namespace Bd
def tcs(n:Nat):Nat:=[0,1,3,7,11,12,14,18,22].getD n 22
def teta(n:Nat):Nat:=n*2 ^ (min 4 n-1)
theorem tcs_sup0:∀x y:Fin 9,x.1+y.1≤8→tcs x.1+tcs y.1≤tcs (x.1+y.1):=by decide
theorem tcs_sup(x y:Nat)(h:x+y≤8):tcs x+tcs y≤tcs (x+y):=tcs_sup0 ⟨x,by omega⟩ ⟨y,by omega⟩ h
theorem tcs_mono0:∀x y:Fin 9,x.1≤y.1→tcs x.1≤tcs y.1:=by decide
theorem tcs_mono{x y:Nat}(h:x≤y)(hy:y≤8):tcs x≤tcs y:=tcs_mono0 ⟨x,by omega⟩ ⟨y,by omega⟩ h
theorem teta_sup0:∀x y:Fin 9,x.1+y.1≤8→teta x.1+teta y.1≤teta (x.1+y.1):=by decide
theorem teta_sup(x y:Nat)(h:x+y≤8):teta x+teta y≤teta (x+y):=teta_sup0 ⟨x,by omega⟩ ⟨y,by omega⟩ h
theorem teta_mono0:∀x y:Fin 9,x.1≤y.1→teta x.1≤teta y.1:=by decide
theorem teta_mono{x y:Nat}(h:x≤y)(hy:y≤8):teta x≤teta y:=teta_mono0 ⟨x,by omega⟩ ⟨y,by omega⟩ h
theorem ne_tcs0:∀n:Fin 9,min (2 ^ min 4 n.1-1) 11≤tcs n.1:=by decide
theorem ne_tcs{K n:Nat}(hK:K≤12)(h:n≤8):neX K n≤tcs n:=by
 have:=ne_tcs0 ⟨n,by omega⟩;unfold neX;simp only at this;omega
theorem hm_eta0:∀b t:Fin 9,t.1≤b.1→2 ^ min 4 b.1-2 ^ (min 4 b.1-min 4 t.1)≤t.1*2 ^ (min 4 b.1-1):=by decide
theorem hm_eta{K b t:Nat}(hb:b≤8)(h:t≤b):hmX K b t≤t*2 ^ (min 4 b-1):=by
 have:=hm_eta0 ⟨b,by omega⟩ ⟨t,by omega⟩ h;unfold hmX;simp only at this;omega
theorem ne_pow{K n:Nat}:neX K n≤2 ^ n-1:=by
 unfold neX;have:2 ^ min 4 n≤2 ^ n:=Nat.pow_le_pow_right zo zo;omega
theorem ne_one{K n:Nat}(h:n≤1):neX K n≤n:=by
 have:=ne_pow (K:=K) (n:=n);have h2:n=0∨n=1:=by omega
 have e:2 ^ n-1=n:=by rcases h2 with rfl | rfl<;>rfl
 omega
theorem ne_mono{K a b:Nat}(h:a≤b):neX K a≤neX K b:=by
 unfold neX;have:2 ^ min 4 a≤2 ^ min 4 b:=Nat.pow_le_pow_right zo zo;omega
theorem hm_ne{K b t:Nat}(hb:b≤8)(h:t≤b):hmX K b t≤neX K b:=by
 unfold hmX neX;have:0<2 ^ (min 4 b-min 4 t):=Nat.pow_pos zo;omega
section
variable (K C H:Nat)(p:Nat→Nat)(b:Nat→Nat→Nat)(t:Nat→Nat→Nat→Nat)(L:List Nat)
def mY(x:Nat):Nat:=sl (brest L) fun w=>b w x
def nY(x:Nat):Nat:=p x-sl L (b x)
def vY(y:Nat):Nat:=ne1X K C H p y+(sl L (fun x=>neX K (b x y)*lamX K C H p b x y)+mY b L y*nvX K C H p y)
def boundY(lf j:Nat):Nat:=
 sl L (ne1X K C H p)+j +
 sl L (fun y=>
  sl L (fun z=>min (neX K (b y z)*lamX K C H p b y z+(sl L (fun x=>neX K (b x y)*min (nv2X K C H b y z*nvX K C H p z) (lamX K C H p b x y))
    + mY b L y*min (nv2X K C H b y z*nvX K C H p z) (nvX K C H p y))) (vY K C H p b L y))
   + (lf*tcs (nY p b L y)+(sl L (fun x=>min (lf*((2 ^ b x y-1)*2 ^ nY p b L y)) (teta (b x y)*lamX K C H p b x y))
    + mY b L y*min (lf*2 ^ nY p b L y) (nvX K C H p y)))
   + (lf*teta (nY p b L y)+mY b L y*nvX K C H p y))
 + (j-sl L (mY b L))*(2*lf)
end
section
variable {K C H:Nat}{p:Nat→Nat}{b:Nat→Nat→Nat}{t:Nat→Nat→Nat→Nat}{L:List Nat}{lf:Nat}
structure Cnt(p:Nat→Nat)(b:Nat→Nat→Nat)(t:Nat→Nat→Nat→Nat)(L:List Nat)(lf:Nat):Prop where
 nod:L.Nodup
 lt:∀z∈L,z<7
 few:sm p≤8
 row:∀x,sm (b x)≤p x
 ends:∀x y,sm (t x y)≤b x y
 rest1:∀z∈brest L,p z≤1
 lf:∀z∈brest L,2 ^ p z≤lf
theorem sm_get(f:Nat→Nat)(i:Nat)(h:i<7):f i≤sm f:=by
 have:i=0∨i=1∨i=2∨i=3∨i=4∨i=5∨i=6:=by omega
 unfold sm;rcases this with rfl | rfl | rfl | rfl | rfl | rfl | rfl<;>omega
theorem brest_lt{z:Nat}(h:z∈brest L):z<7:=by
 unfold brest at h;rw[List.mem_filter,List.mem_range] at h;exact h.1
theorem nv_pow(z:Nat):nvX K C H p z≤2 ^ p z:=by
 have:2 ^ min 4 (p z)≤2 ^ p z:=Nat.pow_le_pow_right zo zo;unfold nvX;split<;>omega
theorem nv2_pow(y z:Nat):nv2X K C H b y z≤2 ^ b y z:=by
 have:2 ^ min 4 (b y z)≤2 ^ b y z:=Nat.pow_le_pow_right zo zo;unfold nv2X;split<;>omega
theorem lam_nv(x y:Nat):lamX K C H p b x y≤nvX K C H p y:=by unfold lamX;omega
theorem ne1_p(z:Nat)(h:p z≤1):ne1X K C H p z≤p z:=by
 have:=ne_one (K:=K) h;unfold ne1X;split<;>omega
variable (c:Cnt p b t L lf)(hK:K≤12)
include c
theorem Cnt.p8(x:Nat)(hx:x<7):p x≤8:=Nat.le_trans (sm_get p x hx) c.few
theorem Cnt.b8(x y:Nat)(hx:x<7)(hy:y<7):b x y≤p x:=Nat.le_trans (sm_get (b x) y hy) (c.row x)
theorem Cnt.t8(x y z:Nat)(hz:z<7):t x y z≤b x y:=Nat.le_trans (sm_get (t x y) z hz) (c.ends x y)
theorem Cnt.nlf(z:Nat)(hz:z∈brest L):nvX K C H p z≤lf:=Nat.le_trans (nv_pow z) (c.lf z hz)
theorem Cnt.spl(f:Nat→Nat):sm f=sl L f+sl (brest L) f:=sm_split c.nod c.lt f
theorem Cnt.bn(x:Nat):sl (brest L) (b x)≤nY p b L x:=by
 have:=c.row x;rw[c.spl] at this;unfold nY;omega
theorem Cnt.a3_ne(x y z:Nat)(hx:x<7)(hy:y<7)(hz:z<7) :
  a3X K C H p b t x y z≤neX K (b x y)*min (nv2X K C H b y z*nvX K C H p z) (lamX K C H p b x y):=by
 unfold a3X;have h8:=Nat.le_trans (c.b8 x y hx hy) (c.p8 x hx);have h1:=ne_mono (K:=K) (c.t8 x y z hz);have h2:=hm_ne (K:=K) h8 (c.t8 x y z hz);rcases Nat.le_total (nv2X K C H b y z*nvX K C H p z) (lamX K C H p b x y) with e | e
 ·rw[Nat.min_eq_left e,←Nat.mul_assoc];refine Nat.le_trans (Nat.min_le_left _ _) ?_;rw[Nat.mul_assoc,Nat.mul_assoc];exact Nat.mul_le_mul_right _ h1
 ·rw[Nat.min_eq_right e];exact Nat.le_trans (Nat.min_le_right _ _) (Nat.mul_le_mul_right _ h2)
theorem Cnt.a3_eta(x y:Nat)(hx:x<7)(hy:y<7)(Z:List Nat)(hZ:∀z∈Z,z<7)(ht:sl Z (t x y)≤b x y) :
  sl Z (fun z=>a3X K C H p b t x y z)≤teta (b x y)*lamX K C H p b x y:=by
 have h8:=Nat.le_trans (c.b8 x y hx hy) (c.p8 x hx);refine Nat.le_trans (sl_le (g:=fun z=>t x y z*(2 ^ (min 4 (b x y)-1)*lamX K C H p b x y)) fun z hz=>?_) ?_
 ·unfold a3X;refine Nat.le_trans (Nat.min_le_right _ _) ?_;rw[←Nat.mul_assoc];exact Nat.mul_le_mul_right _ (hm_eta h8 (c.t8 x y z (hZ z hz)))
 ·rw[sl_mul];unfold teta;rw[Nat.mul_assoc];exact Nat.mul_le_mul_right _ ht
end
end Bd
set_option linter.unusedVariables false
namespace Bd
section
variable {K C H:Nat}{p:Nat→Nat}{b:Nat→Nat→Nat}{t:Nat→Nat→Nat→Nat}{L:List Nat}{lf:Nat}
theorem sl_get{L:List Nat}(f:Nat→Nat){i:Nat}(h:i∈L):f i≤sl L f:=by
 induction L with
 | nil=>exact absurd h List.not_mem_nil
 | cons a L ih=>
  rw[sl_cons];rcases List.mem_cons.1 h with rfl | h
  ·omega
  ·have:=ih h;omega
variable (c:Cnt p b t L lf)(hK:K≤12)
include c
theorem Cnt.rb(x y:Nat)(hx:x∈brest L)(hy:y<7):b x y≤1:=Nat.le_trans (c.b8 x y (brest_lt hx) hy) (c.rest1 x hx)
theorem Cnt.tr(x y:Nat):sl (brest L) (t x y)≤b x y:=by
 have:=c.ends x y;rw[c.spl] at this;omega
theorem Cnt.n8(y:Nat)(hy:y<7):nY p b L y≤8:=by
 have:=c.p8 y hy;unfold nY;omega
theorem Cnt.vY_le(y:Nat)(hy:y<7):vX K C H p b y≤vY K C H p b L y:=by
 unfold vX vY;rw[c.spl];refine Nat.add_le_add_left (Nat.add_le_add_left ?_ _) _;unfold mY;rw[←sl_mul];exact sl_le fun x hx=>Nat.mul_le_mul (ne_one (c.rb x y hx hy)) (lam_nv x y)
theorem Cnt.cell(y z:Nat)(hy:y<7)(hz:z<7):(sm fun x=>a3X K C H p b t x y z)≤
  sl L (fun x=>neX K (b x y)*min (nv2X K C H b y z*nvX K C H p z) (lamX K C H p b x y))+mY b L y*min (nv2X K C H b y z*nvX K C H p z) (nvX K C H p y):=by
 rw[c.spl];refine Nat.add_le_add (sl_le fun x hx=>c.a3_ne x y z (c.lt x hx) hy hz) ?_;unfold mY;rw[←sl_mul];refine sl_le fun x hx=>Nat.le_trans (c.a3_ne x y z (brest_lt hx) hy hz) (Nat.mul_le_mul (ne_one (c.rb x y hx hy)) ?_);have:=lam_nv (K:=K) (C:=C) (H:=H) (p:=p) (b:=b) x y;omega
theorem Cnt.far(y:Nat)(hy:y<7):sl (brest L) (fun z=>sm fun x=>a3X K C H p b t x y z)≤
  sl L (fun x=>min (lf*((2 ^ b x y-1)*2 ^ nY p b L y)) (teta (b x y)*lamX K C H p b x y))+mY b L y*min (lf*2 ^ nY p b L y) (nvX K C H p y):=by
 have e:sl (brest L) (fun z=>sm fun x=>a3X K C H p b t x y z)=sl L (fun x=>sl (brest L) fun z=>a3X K C H p b t x y z)+sl (brest L) (fun x=>sl (brest L) fun z=>a3X K C H p b t x y z):=by
  rw[sl_swap L (brest L),sl_swap (brest L) (brest L),←sl_add];congr 1;funext z;exact c.spl _
 rw[e];refine Nat.add_le_add (sl_le fun x hx=>Nat.le_min.2 ⟨?_,c.a3_eta x y (c.lt x hx) hy _ (fun z hz=>brest_lt hz) (c.tr x y)⟩) ?_
 ·refine Nat.le_trans (sl_le (g:=fun z=>(2 ^ t x y z-1)*2 ^ b y z*lf) fun z hz=>?_) ?_
  ·unfold a3X;exact Nat.le_trans (Nat.min_le_left _ _) (Nat.mul_le_mul (Nat.mul_le_mul ne_pow (nv2_pow y z)) (c.nlf z hz))
  ·rw[sl_mul,Nat.mul_comm lf];refine Nat.mul_le_mul_right _ (Nat.le_trans (sl_pow _ _ _) (Nat.mul_le_mul ?_ (Nat.pow_le_pow_right zo (c.bn y))));have:2 ^ sl (brest L) (t x y)≤2 ^ b x y:=Nat.pow_le_pow_right zo (c.tr x y);exact Nat.sub_le_sub_right this 1
 ·unfold mY;rw[←sl_mul];refine sl_le fun x hx=>?_;have hb:=c.rb x y hx hy;refine Nat.le_trans (sl_le (g:=fun z=>t x y z*min (lf*2 ^ nY p b L y) (nvX K C H p y)) fun z hz=>?_) ?_
  ·have ht:=c.t8 x y z (brest_lt hz);unfold a3X;have h1:neX K (t x y z)*nv2X K C H b y z*nvX K C H p z≤t x y z*(lf*2 ^ nY p b L y):=by
    rw[Nat.mul_assoc];refine Nat.mul_le_mul (ne_one zo) ?_;rw[Nat.mul_comm lf];exact Nat.mul_le_mul (Nat.le_trans (nv2_pow y z) (Nat.pow_le_pow_right zo (Nat.le_trans (sl_get (b y) hz) (c.bn y)))) (c.nlf z hz)
   have h2:hmX K (b x y) (t x y z)*lamX K C H p b x y≤t x y z*nvX K C H p y:=by
    refine Nat.mul_le_mul (Nat.le_trans (hm_eta zo ht) ?_) (lam_nv x y);have:min 4 (b x y)-1=0:=by omega
    rw[this];omega
   rcases Nat.le_total (lf*2 ^ nY p b L y) (nvX K C H p y) with e | e
   ·rw[Nat.min_eq_left e];omega
   ·rw[Nat.min_eq_right e];omega
  ·rw[sl_mul];exact Nat.mul_le_mul_right _ (c.tr x y)
theorem Cnt.rowL(hK:K≤12)(y:Nat)(hyL:y∈L):(sm fun z=>min (neX K (b y z)*lamX K C H p b y z+sm fun x=>a3X K C H p b t x y z) (vX K C H p b y))≤
  sl L (fun z=>min (neX K (b y z)*lamX K C H p b y z+(sl L (fun x=>neX K (b x y)*min (nv2X K C H b y z*nvX K C H p z) (lamX K C H p b x y))
    + mY b L y*min (nv2X K C H b y z*nvX K C H p z) (nvX K C H p y))) (vY K C H p b L y))
   + (lf*tcs (nY p b L y)+(sl L (fun x=>min (lf*((2 ^ b x y-1)*2 ^ nY p b L y)) (teta (b x y)*lamX K C H p b x y))
    + mY b L y*min (lf*2 ^ nY p b L y) (nvX K C H p y))):=by
 have hy:=c.lt y hyL;rw[c.spl];refine Nat.add_le_add (sl_le fun z hz=>?_) ?_
 ·have h1:=c.cell (K:=K) (C:=C) (H:=H) y z hy (c.lt z hz);have h2:=c.vY_le (K:=K) (C:=C) (H:=H) y hy;exact Nat.le_min.2 ⟨Nat.le_trans (Nat.min_le_left _ _) (Nat.add_le_add_left h1 _),Nat.le_trans (Nat.min_le_right _ _) h2⟩
 ·refine Nat.le_trans (sl_le (g:=fun z=>neX K (b y z)*lamX K C H p b y z+sm fun x=>a3X K C H p b t x y z) fun z _=>Nat.min_le_left _ _) ?_;rw[sl_add];refine Nat.add_le_add ?_ (c.far y hy);have h8:=c.n8 y hy;refine Nat.le_trans (sl_le (g:=fun z=>tcs (b y z)*lf) fun z hz=>?_) ?_
  ·refine Nat.mul_le_mul (ne_tcs hK ?_) (Nat.le_trans (lam_nv y z) (c.nlf z hz));exact Nat.le_trans (sl_get (b y) hz) (Nat.le_trans (c.bn y) h8)
  ·rw[sl_mul,Nat.mul_comm lf];refine Nat.mul_le_mul_right _ (Nat.le_trans (sl_sup (F:=tcs) (N:=8) rfl tcs_sup _ _ (Nat.le_trans (c.bn y) h8)) (tcs_mono (c.bn y) h8))
theorem Cnt.among:sl (brest L) (fun y=>sl (brest L) fun z=>b y z)≤sl (brest L) p-sl L (mY b L):=by
 have h:sl (brest L) (fun y=>sm (b y))≤sl (brest L) p:=sl_le fun y _=>c.row y;have e:sl (brest L) (fun y=>sm (b y))=sl L (mY b L)+sl (brest L) (fun y=>sl (brest L) fun z=>b y z):=by
  have:(fun y=>sm (b y))=fun y=>sl L (fun z=>b y z)+sl (brest L) fun z=>b y z:=by funext y;exact c.spl _
  rw[this,sl_add,sl_swap];rfl
 omega
theorem Cnt.rowR:sl (brest L) (fun y=>sm fun z=>min (neX K (b y z)*lamX K C H p b y z+sm fun x=>a3X K C H p b t x y z) (vX K C H p b y))≤
  sl L (fun x=>lf*teta (nY p b L x)+mY b L x*nvX K C H p x)+(sl (brest L) p-sl L (mY b L))*(2*lf):=by
 have hA:sl (brest L) (fun y=>sm fun z=>neX K (b y z)*lamX K C H p b y z)≤sl L (fun z=>mY b L z*nvX K C H p z)+sl (brest L) (fun y=>sl (brest L) fun z=>b y z)*lf:=by
  refine Nat.le_trans (sl_le (g:=fun y=>sl L (fun z=>b y z*nvX K C H p z)+(sl (brest L) fun z=>b y z)*lf) fun y hy=>?_) ?_
  ·rw[c.spl];refine Nat.add_le_add (sl_le fun z hz=>Nat.mul_le_mul (ne_one (c.rb y z hy (c.lt z hz))) (lam_nv y z)) ?_;rw[←sl_mul];exact sl_le fun z hz=>Nat.mul_le_mul (ne_one (c.rb y z hy (brest_lt hz))) (Nat.le_trans (lam_nv y z) (c.nlf z hz))
  ·rw[sl_add,sl_mul,sl_swap];refine Nat.add_le_add_right (sl_le fun z _=>?_) _;unfold mY;rw[sl_mul];exact Nat.le_refl _
 have hB:sl (brest L) (fun y=>sm fun z=>sm fun x=>a3X K C H p b t x y z)≤sl L (fun x=>lf*teta (nY p b L x))+sl (brest L) (fun y=>sl (brest L) fun z=>b y z)*lf:=by
  have hs:∀x y,x<7→y∈brest L→(sm fun z=>a3X K C H p b t x y z)≤teta (b x y)*lf:=fun x y hx hy=>by
   rw[sm_sl];refine Nat.le_trans (c.a3_eta x y hx (brest_lt hy) _ (fun z hz=>List.mem_range.1 hz) ?_) (Nat.mul_le_mul_left _ (Nat.le_trans (lam_nv x y) (c.nlf y hy)));have:=c.ends x y;rw[sm_sl] at this;exact this
  refine Nat.le_trans (sl_le (g:=fun y=>sl L (fun x=>teta (b x y)*lf)+sl (brest L) fun x=>b x y*lf) fun y hy=>?_) ?_
  ·have e:(sm fun z=>sm fun x=>a3X K C H p b t x y z)=sm fun x=>sm fun z=>a3X K C H p b t x y z:=by simp only[sm];omega
   rw[e,c.spl];refine Nat.add_le_add (sl_le fun x hx=>hs x y (c.lt x hx) hy) (sl_le fun x hx=>Nat.le_trans (hs x y (brest_lt hx) hy) (Nat.mul_le_mul_right _ ?_));have h1:=c.rb x y hx (brest_lt hy);have h2:b x y=0∨b x y=1:=by omega
   rcases h2 with h2 | h2<;>rw[h2]<;>decide
  ·rw[sl_add];refine Nat.add_le_add ?_ ?_
   ·rw[sl_swap];refine sl_le fun x hx=>?_;have h8:=c.n8 x (c.lt x hx);rw[sl_mul,Nat.mul_comm lf];exact Nat.mul_le_mul_right _ (Nat.le_trans (sl_sup (F:=teta) (N:=8) rfl teta_sup _ _ (Nat.le_trans (c.bn x) h8)) (teta_mono (c.bn x) h8))
   ·rw[sl_swap];simp only[sl_mul];exact Nat.le_refl _
 have hW:=c.among;have hS:sl (brest L) (fun y=>sm fun z=>min (neX K (b y z)*lamX K C H p b y z+sm fun x=>a3X K C H p b t x y z) (vX K C H p b y))≤
   sl (brest L) (fun y=>sm fun z=>neX K (b y z)*lamX K C H p b y z)+sl (brest L) (fun y=>sm fun z=>sm fun x=>a3X K C H p b t x y z):=by
  rw[←sl_add];refine sl_le fun y _=>?_;rw[←sm_add];exact sm_le fun z _=>Nat.min_le_left _ _
 have hW2:=Nat.mul_le_mul_right (2*lf) hW;rw[sl_add];have e2:sl (brest L) (fun y=>sl (brest L) fun z=>b y z)*(2*lf)=sl (brest L) (fun y=>sl (brest L) fun z=>b y z)*lf+sl (brest L) (fun y=>sl (brest L) fun z=>b y z)*lf:=by
  rw[←Nat.mul_add];congr 1;omega
 omega
theorem Cnt.boundY_le(hK:K≤12):boundX K C H p b t≤boundY K C H p b L lf (sl (brest L) p):=by
 unfold boundX boundY;have h1:sm (ne1X K C H p)≤sl L (ne1X K C H p)+sl (brest L) p:=by
  rw[c.spl];exact Nat.add_le_add_left (sl_le fun z hz=>ne1_p z (c.rest1 z hz)) _
 rw[c.spl (fun y=>sm fun z=>_)];have h2:=sl_le fun y hy=>c.rowL (K:=K) (C:=C) (H:=H) hK y hy;have h3:=c.rowR (K:=K) (C:=C) (H:=H);rw[sl_add L (fun y=>_+_) (fun y=>lf*teta (nY p b L y)+mY b L y*nvX K C H p y)];omega
end
end Bd
set_option linter.unusedVariables false
namespace Bd
section
variable (K C H:Nat)(p:Nat→Nat)(b:Nat→Nat→Nat)(m n:Nat→Nat)(L:List Nat)
def lamZ(x y:Nat):Nat:=min (nvX K C H p y) (2 ^ (p x-b x y+(sl L (fun w=>b w x)+m x)))
def vZ(y:Nat):Nat:=ne1X K C H p y+(sl L (fun x=>neX K (b x y)*lamZ K C H p b m L x y)+m y*nvX K C H p y)
def boundZ(lf j:Nat):Nat:=
 sl L (ne1X K C H p)+j +
 sl L (fun y=>
  sl L (fun z=>min (neX K (b y z)*lamZ K C H p b m L y z+(sl L (fun x=>neX K (b x y)*min (nv2X K C H b y z*nvX K C H p z) (lamZ K C H p b m L x y))
    + m y*min (nv2X K C H b y z*nvX K C H p z) (nvX K C H p y))) (vZ K C H p b m L y))
   + (lf*tcs (n y)+(sl L (fun x=>min (lf*((2 ^ b x y-1)*2 ^ n y)) (teta (b x y)*lamZ K C H p b m L x y))
    + m y*min (lf*2 ^ n y) (nvX K C H p y)))
   + (lf*teta (n y)+m y*nvX K C H p y))
 + (j-sl L m)*(2*lf)
end
theorem boundY_Z{K C H:Nat}{p:Nat→Nat}{b:Nat→Nat→Nat}{L:List Nat}(hL:L.Nodup)(h7:∀z∈L,z<7)(lf j:Nat) :
  boundY K C H p b L lf j=boundZ K C H p b (mY b L) (nY p b L) L lf j:=by
 have e:lamX K C H p b=lamZ K C H p b (mY b L) L:=by
  funext x y;unfold lamX lamZ;rw[sm_split hL h7];rfl
 unfold boundY boundZ vY vZ;rw[e]
theorem boundZ_map{K C H h:Nat}{p p':Nat→Nat}{b b':Nat→Nat→Nat}{m n m' n':Nat→Nat}{g:Nat→Nat}{k:Nat}(hg:∀i,i<k→(g i=H↔i=h))
  (hp:∀i,i<k→p (g i)=p' i) (hb:∀x,x<k→∀y,y<k→b (g x) (g y)=b' x y) (hm:∀i,i<k→m (g i)=m' i) (hn:∀i,i<k→n (g i)=n' i) (lf j:Nat) :
  boundZ K C H p b m n ((List.range k).map g) lf j=boundZ K C h p' b' m' n' (List.range k) lf j:=by
 have es:∀f:Nat→Nat,sl ((List.range k).map g) f=sl (List.range k) fun i=>f (g i):=fun f=>by
  unfold sl;rw[List.map_map];rfl
 have ec:∀{f f':Nat→Nat},(∀i,i<k→f i=f' i)→sl (List.range k) f=sl (List.range k) f':=fun {f f'} h=>by
  unfold sl;congr 1;exact List.map_congr_left fun i hi=>h i (List.mem_range.1 hi)
 have nv:∀i,i<k→nvX K C H p (g i)=nvX K C h p' i:=fun i hi=>by
  unfold nvX;rw[hp i hi];by_cases e:i=h
  ·rw[if_pos e,if_pos ((hg i hi).2 e)]
  ·rw[if_neg e,if_neg fun e2=>e ((hg i hi).1 e2)]
 have ne1:∀i,i<k→ne1X K C H p (g i)=ne1X K C h p' i:=fun i hi=>by
  unfold ne1X;rw[hp i hi];by_cases e:i=h
  ·rw[if_pos e,if_pos ((hg i hi).2 e)]
  ·rw[if_neg e,if_neg fun e2=>e ((hg i hi).1 e2)]
 have nv2:∀i,i<k→∀z,z<k→nv2X K C H b (g i) (g z)=nv2X K C h b' i z:=fun i hi z hz=>by
  unfold nv2X;rw[hb i hi z hz];by_cases e:i=h
  ·rw[if_pos e,if_pos ((hg i hi).2 e)]
  ·rw[if_neg e,if_neg fun e2=>e ((hg i hi).1 e2)]
 have lam:∀x,x<k→∀y,y<k→lamZ K C H p b m ((List.range k).map g) (g x) (g y)=lamZ K C h p' b' m' (List.range k) x y:=fun x hx y hy=>by
  unfold lamZ;rw[nv y hy,es,hp x hx,hb x hx y hy,hm x hx,ec fun w hw=>hb w hw x hx]
 unfold boundZ vZ;simp only[es];congr 1
 ·congr 1
  ·congr 1;exact ec fun i hi=>ne1 i hi
  ·refine ec fun y hy=>?_;rw[nv y hy,ne1 y hy,hm y hy,hn y hy];have e1:sl (List.range k) (fun x=>neX K (b (g x) (g y))*lamZ K C H p b m ((List.range k).map g) (g x) (g y)) =
    sl (List.range k) (fun x=>neX K (b' x y)*lamZ K C h p' b' m' (List.range k) x y):=ec fun x hx=>by rw[lam x hx y hy,hb x hx y hy]
   have e2:sl (List.range k) (fun x=>min (lf*((2 ^ b (g x) (g y)-1)*2 ^ n' y)) (teta (b (g x) (g y))*lamZ K C H p b m ((List.range k).map g) (g x) (g y))) =
    sl (List.range k) (fun x=>min (lf*((2 ^ b' x y-1)*2 ^ n' y)) (teta (b' x y)*lamZ K C h p' b' m' (List.range k) x y)):=ec fun x hx=>by rw[lam x hx y hy,hb x hx y hy]
   rw[e1,e2];congr 1;congr 1;refine ec fun z hz=>?_;rw[lam y hy z hz,nv z hz,nv2 y hy z hz,hb y hy z hz];congr 1;congr 1;congr 1;exact ec fun x hx=>by rw[lam x hx y hy,hb x hx y hy]
 ·rw[ec fun i hi=>hm i hi]
def comps:Nat→Nat→List (List Nat)
 | 0,_=>[[]]
 | k+1,n=>(List.range (n+1)).flatMap fun i=>(comps k (n-i)).map fun l=>i::l
theorem mem_comps:∀{k n:Nat} {l:List Nat},l.length=k→l.sum≤n→l∈comps k n
 | 0,n,l,h,_=>by rw[List.length_eq_zero_iff.1 h];simp[comps]
 | k+1,n,i::l,h,hs=>by
  simp only[List.length_cons,List.sum_cons] at h hs;unfold comps;rw[List.mem_flatMap];exact⟨i,List.mem_range.2 zo,List.mem_map.2 ⟨l,mem_comps zo zo,rfl⟩⟩
def bget(l:List Nat)(i:Nat):Nat:=l.getD i 0
def get2(l:List (List Nat))(i j:Nat):Nat:=(l.getD i []).getD j 0
def val(K C h:Nat)(ps:List Nat)(bm:List (List Nat))(ms:List Nat)(lf j:Nat):Nat:=
 boundZ K C h (bget ps) (get2 bm) (bget ms) (fun x=>bget ps x-(bm.getD x []).sum) (List.range ps.length) lf j
def mats(k:Nat):List Nat→List (List (List Nat))
 | []=>[[]]
 | q::qs=>(comps k q).flatMap fun r=>(mats k qs).map fun l=>r::l
theorem mem_mats{k:Nat}:∀{qs:List Nat} {bm:List (List Nat)},bm.length=qs.length→(∀i (h:i<bm.length) (h2:i<qs.length),bm[i].length=k∧bm[i].sum≤qs[i])→bm∈mats k qs
 | [],bm,h,_=>by rw[List.length_eq_zero_iff.1 h];simp[mats]
 | q::qs,r::bm,h,hr=>by
  unfold mats;rw[List.mem_flatMap];obtain⟨h1,h2⟩:=hr 0 (by simp) (by simp);refine⟨r,mem_comps h1 h2,List.mem_map.2 ⟨bm,mem_mats (by simpa using h) (fun i a b=>?_),rfl⟩⟩;have:=hr (i+1) (by simp;omega) (by simp;omega);simpa using this
def okAll(K C:Nat)(hs:List Nat)(ps:List Nat)(lf j:Nat):Bool:=
 (mats ps.length ps).all fun bm=>(comps ps.length j).all fun ms=>hs.all fun h=>Nat.ble (val K C h ps bm ms lf j) 398
def okHd(K C:Nat)(hs:List Nat)(q:Nat)(qs:List Nat)(lf j i:Nat):Bool:=
 (comps qs.length (q-i)).all fun r=>(mats (qs.length+1) qs).all fun l=>(comps (qs.length+1) j).all fun ms=>hs.all fun h=>Nat.ble (val K C h (q::qs) ((i::r)::l) ms lf j) 398
theorem okAll_hd{K C:Nat}{hs:List Nat}{q:Nat}{qs:List Nat}{lf j:Nat}(h:∀i,i<q+1→okHd K C hs q qs lf j i=true):okAll K C hs (q::qs) lf j=true:=by
 unfold okAll;rw[List.all_eq_true];intro bm hb;unfold mats at hb;rw[List.mem_flatMap] at hb;obtain⟨r,hr,hb⟩:=hb;obtain⟨l,hl,rfl⟩:=List.mem_map.1 hb;replace hr:r∈(List.range (q+1)).flatMap fun i=>(comps qs.length (q-i)).map fun l=>i::l:=hr;rw[List.mem_flatMap] at hr;obtain⟨i,hi,hr⟩:=hr;obtain⟨r0,hr0,rfl⟩:=List.mem_map.1 hr;have:=h i (List.mem_range.1 hi);unfold okHd at this;rw[List.all_eq_true] at this;have:=this r0 hr0;rw[List.all_eq_true] at this;exact this l hl
theorem shapes{K C H:Nat}{p:Nat→Nat}{b:Nat→Nat→Nat}{t:Nat→Nat→Nat→Nat}{L:List Nat}{lf:Nat}(c:Cnt p b t L lf)(hK:K≤12)
  {hs:List Nat} {h:Nat} (hh:h∈hs) (hH:∀i (hi:i<L.length),L[i]=H↔i=h) (hok:okAll K C hs (L.map p) lf (sl (brest L) p)=true):boundX K C H p b t≤398:=by
 refine Nat.le_trans (c.boundY_le hK) ?_;rw[boundY_Z c.nod c.lt];let k:=L.length;let g:Nat→Nat:=fun i=>L.getD i 0;have hL:(List.range k).map g=L:=by
  apply List.ext_getElem
  ·simp[k]
  ·intro i h1 h2;simp[g,List.getElem_map,List.getD_eq_getElem?_getD,h2]
 have hgi:∀i (hi:i<k),g i=L[i]:=fun i hi=>by simp[g,List.getD_eq_getElem?_getD,show i<L.length from hi]
 let bm:=L.map fun x=>L.map (b x);let ms:=L.map (mY b L);have e:=boundZ_map (K:=K) (C:=C) (H:=H) (h:=h) (p:=p) (p':=bget (L.map p)) (b:=b) (b':=get2 bm) (m:=mY b L) (m':=bget ms) (n:=nY p b L)
  (n':=fun x=>bget (L.map p) x-(bm.getD x []).sum) (g:=g) (k:=k) (fun i hi=>by rw[hgi i hi];exact hH i hi)
  (fun i hi=>by rw[hgi i hi];simp[bget,List.getD_eq_getElem?_getD,show i<L.length from hi])
  (fun x hx y hy=>by rw[hgi x hx,hgi y hy];simp[get2,bm,List.getD_eq_getElem?_getD,show x<L.length from hx,show y<L.length from hy])
  (fun i hi=>by rw[hgi i hi];simp[bget,ms,List.getD_eq_getElem?_getD,show i<L.length from hi])
  (fun i hi=>by rw[hgi i hi];simp[bget,bm,nY,sl,List.getD_eq_getElem?_getD,show i<L.length from hi]) lf (sl (brest L) p)
 rw[hL] at e;rw[e];unfold okAll at hok;rw[List.all_eq_true] at hok
 have h1:=hok bm (mem_mats (by simp[bm]) (fun i a a2=>by
  have hi:i<L.length:=by simpa [bm] using a
  simp only[bm,List.getElem_map,List.length_map];refine⟨trivial,?_⟩;have:=c.row L[i];rw[c.spl] at this;exact Nat.le_trans (Nat.le_add_right _ _) this))
 rw[List.all_eq_true] at h1
 have h2:=h1 ms (mem_comps (by simp[ms]) (by
  have:=c.among;have e3:sl (brest L) (fun y=>sm (b y))≤sl (brest L) p:=sl_le fun y _=>c.row y;have e4:sl L (mY b L)≤sl (brest L) fun y=>sm (b y):=by
   have:sl L (mY b L)=sl (brest L) fun y=>sl L (b y):=by
    unfold mY;rw[sl_swap]
   rw[this];exact sl_le fun y _=>by rw[c.spl];omega
  exact Nat.le_trans e4 e3))
 rw[List.all_eq_true] at h2;have h3:=Nat.le_of_ble_eq_true (h2 h hh);unfold val at h3;simp only[List.length_map] at h3;exact h3
end Bd
set_option linter.unusedVariables false
namespace Bd
theorem s4:∀j,j<5→okAll 12 16 [9] [4] 2 j=true:=by decide +kernel
theorem s5:∀j,j<4→okAll 12 16 [9] [5] 2 j=true:=by decide +kernel
theorem s6:∀j,j<3→okAll 12 16 [9] [6] 2 j=true:=by decide +kernel
theorem s42:∀j,j<3→okAll 12 16 [9] [4,2] 2 j=true:=by decide +kernel
theorem s52:∀j,j<2→okAll 12 16 [9] [5,2] 2 j=true:=by decide +kernel
theorem s62:okAll 12 16 [9] [6,2] 1 0=true:=by decide +kernel
theorem s71:okAll 12 16 [9] [7,1] 1 0=true:=by decide +kernel
theorem s7:okAll 12 16 [9] [7] 1 0=true:=by decide +kernel
theorem s43:okAll 12 2 [0,1] [4,3] 1 0=true∧okAll 10 4 [0,1] [4,3] 1 0=true∧okAll 9 8 [0,1] [4,3] 1 0=true:=by decide +kernel
theorem s8:okAll 12 2 [0] [8] 1 0=true∧okAll 10 4 [0] [8] 1 0=true∧okAll 9 8 [0] [8] 1 0=true:=by decide +kernel
theorem s44:okAll 12 2 [0,1] [4,4] 1 0=true∧okAll 10 4 [0,1] [4,4] 1 0=true∧okAll 9 8 [0,1] [4,4] 1 0=true:=by decide +kernel
theorem s53:okAll 12 2 [0,1] [5,3] 1 0=true∧okAll 10 4 [0,1] [5,3] 1 0=true∧okAll 9 8 [0,1] [5,3] 1 0=true:=by decide +kernel
end Bd
set_option linter.unusedVariables false
namespace Bd
theorem pow4(n:Nat):2 ^ min 4 n≤16:=by
 have:2 ^ min 4 n≤2 ^ 4:=Nat.pow_le_pow_right zo zo;simpa using this
theorem boundX_head{K H H':Nat}{p:Nat→Nat}{b:Nat→Nat→Nat}{t:Nat→Nat→Nat→Nat}:boundX K 16 H p b t=boundX K 16 H' p b t:=by
 have e1:∀H,nvX K 16 H p=fun z=>min (2 ^ min 4 (p z)) K:=fun H=>by
  funext z;have:=pow4 (p z);unfold nvX;split<;>omega
 have e2:∀H,ne1X K 16 H p=fun z=>neX K (p z):=fun H=>by
  funext z;have:=pow4 (p z);unfold ne1X neX;split<;>omega
 have e3:∀H,nv2X K 16 H b=fun y z=>min (2 ^ min 4 (b y z)) K:=fun H=>by
  funext y z;have:=pow4 (b y z);unfold nv2X;split<;>omega
 unfold boundX a3X vX lamX;simp only[e1,e2,e3]
theorem shapes16{K H:Nat}{p:Nat→Nat}{b:Nat→Nat→Nat}{t:Nat→Nat→Nat→Nat}{L:List Nat}{lf:Nat}(c:Cnt p b t L lf)(hK:K≤12)
  (hok:okAll K 16 [9] (L.map p) lf (sl (brest L) p)=true):boundX K 16 H p b t≤398:=by
 rw[boundX_head (H':=7)];have hl:L.length≤7:=by
  have h:=List.Nodup.length_le_of_subset c.nod (l₂:=List.range 7) fun z hz=>List.mem_range.2 (c.lt z hz);simpa using h
 refine shapes c hK (h:=9) (by simp) (fun i hi=>?_) hok;have:=c.lt _ (List.getElem_mem hi);constructor
 ·intro e;omega
 ·intro e;omega
end Bd
set_option linter.unusedVariables false
namespace Bd
theorem s422_0:okHd 12 16 [9] 4 [2,2] 1 0 0=true:=by decide +kernel
theorem s422_1:okHd 12 16 [9] 4 [2,2] 1 0 1=true:=by decide +kernel
theorem s422_2:okHd 12 16 [9] 4 [2,2] 1 0 2=true:=by decide +kernel
theorem s422_3:okHd 12 16 [9] 4 [2,2] 1 0 3=true:=by decide +kernel
theorem s422_4:okHd 12 16 [9] 4 [2,2] 1 0 4=true:=by decide +kernel
theorem s422:okAll 12 16 [9] [4,2,2] 1 0=true:=okAll_hd fun i hi=>match i,hi with
 | 0,_=>s422_0
 | 1,_=>s422_1
 | 2,_=>s422_2
 | 3,_=>s422_3
 | 4,_=>s422_4
 | i+5,h=>absurd h zo
end Bd
set_option linter.unusedVariables false
namespace Bd
theorem s431a_0:okHd 10 16 [9] 4 [3,1] 1 0 0=true:=by decide +kernel
theorem s431a_1:okHd 10 16 [9] 4 [3,1] 1 0 1=true:=by decide +kernel
theorem s431a_2:okHd 10 16 [9] 4 [3,1] 1 0 2=true:=by decide +kernel
theorem s431a_3:okHd 10 16 [9] 4 [3,1] 1 0 3=true:=by decide +kernel
theorem s431a_4:okHd 10 16 [9] 4 [3,1] 1 0 4=true:=by decide +kernel
theorem s431a:okAll 10 16 [9] [4,3,1] 1 0=true:=okAll_hd fun i hi=>match i,hi with
 | 0,_=>s431a_0
 | 1,_=>s431a_1
 | 2,_=>s431a_2
 | 3,_=>s431a_3
 | 4,_=>s431a_4
 | i+5,h=>absurd h zo
theorem s431b_0:okHd 12 2 [0] 4 [3,1] 1 0 0=true:=by decide +kernel
theorem s431b_1:okHd 12 2 [0] 4 [3,1] 1 0 1=true:=by decide +kernel
theorem s431b_2:okHd 12 2 [0] 4 [3,1] 1 0 2=true:=by decide +kernel
theorem s431b_3:okHd 12 2 [0] 4 [3,1] 1 0 3=true:=by decide +kernel
theorem s431b_4:okHd 12 2 [0] 4 [3,1] 1 0 4=true:=by decide +kernel
theorem s431b:okAll 12 2 [0] [4,3,1] 1 0=true:=okAll_hd fun i hi=>match i,hi with
 | 0,_=>s431b_0
 | 1,_=>s431b_1
 | 2,_=>s431b_2
 | 3,_=>s431b_3
 | 4,_=>s431b_4
 | i+5,h=>absurd h zo
theorem s431c_0:okHd 12 2 [1] 4 [3,1] 1 0 0=true:=by decide +kernel
theorem s431c_1:okHd 12 2 [1] 4 [3,1] 1 0 1=true:=by decide +kernel
theorem s431c_2:okHd 12 2 [1] 4 [3,1] 1 0 2=true:=by decide +kernel
theorem s431c_3:okHd 12 2 [1] 4 [3,1] 1 0 3=true:=by decide +kernel
theorem s431c_4:okHd 12 2 [1] 4 [3,1] 1 0 4=true:=by decide +kernel
theorem s431c:okAll 12 2 [1] [4,3,1] 1 0=true:=okAll_hd fun i hi=>match i,hi with
 | 0,_=>s431c_0
 | 1,_=>s431c_1
 | 2,_=>s431c_2
 | 3,_=>s431c_3
 | 4,_=>s431c_4
 | i+5,h=>absurd h zo
end Bd
set_option linter.unusedVariables false
namespace Bd
section
variable {p:Nat→Nat}{b:Nat→Nat→Nat}{t:Nat→Nat→Nat→Nat}
structure Cn0(p:Nat→Nat)(b:Nat→Nat→Nat)(t:Nat→Nat→Nat→Nat):Prop where
 few:sm p≤8
 row:∀x,sm (b x)≤p x
 ends:∀x y,sm (t x y)≤b x y
theorem Cn0.cnt(c:Cn0 p b t){L:List Nat}(hL:L.Nodup)(h7:∀z∈L,z<7)(h1:∀z,z<7→z∉L→p z≤1):Cnt p b t L 2∧(sl (brest L) p=0→Cnt p b t L 1):=by
 have hr:∀z∈brest L,z<7∧z∉L:=fun z hz=>by
  unfold brest at hz;rw[List.mem_filter,List.mem_range] at hz;exact⟨hz.1,by simpa using hz.2⟩
 refine⟨⟨hL,h7,c.few,c.row,c.ends,fun z hz=>h1 z (hr z hz).1 (hr z hz).2,fun z hz=>?_⟩,fun h0=>⟨hL,h7,c.few,c.row,c.ends,fun z hz=>h1 z (hr z hz).1 (hr z hz).2,fun z hz=>?_⟩⟩
 ·have:=h1 z (hr z hz).1 (hr z hz).2;have h2:p z=0∨p z=1:=by omega
  rcases h2 with h2 | h2<;>rw[h2]<;>decide
 ·have:=sl_get p hz;have h2:p z=0:=by omega
  rw[h2];decide
theorem Cn0.sum(c:Cn0 p b t){L:List Nat}(hL:L.Nodup)(h7:∀z∈L,z<7):sl L p+sl (brest L) p≤8:=by
 have:=c.few;rw[sm_split hL h7] at this;exact this
theorem Cn0.plain(c:Cn0 p b t){u:Nat}(hu:u<7)(h4:4≤p u){H:Nat} :
  boundX 12 16 H p b t≤398∨(p u=8)∨(∃v,v<7∧v≠u∧3≤p v):=by
 by_cases hv:∃v,v<7∧v≠u∧2≤p v
 ·obtain⟨v,v7,vu,v2⟩:=hv;by_cases v3:3≤p v
  ·exact .inr (.inr ⟨v,v7,vu,v3⟩)
  ·have pv:p v=2:=by omega
   by_cases hw:∃w,w<7∧w≠u∧w≠v∧2≤p w
   ·obtain⟨w,w7,wu,wv,w2⟩:=hw;have nd:[u,v,w].Nodup:=by simp[Ne.symm vu,Ne.symm wu,Ne.symm wv]
    have l7:∀z∈[u,v,w],z<7:=by simp;omega
    have hs:=c.sum nd l7;simp only[sl_cons,sl_nil] at hs;have pu:p u=4:=by omega
    have pw:p w=2:=by omega
    have h0:sl (brest [u,v,w]) p=0:=by omega
    refine .inl (shapes16 ((c.cnt nd l7 fun z hz hn=>?_).2 h0) zo (by simp only[List.map_cons,List.map_nil,pu,pv,pw,h0];exact s422));have hz2:z∈brest [u,v,w]:=by unfold brest;rw[List.mem_filter,List.mem_range];exact⟨hz,by simpa using hn⟩
    have:=sl_get p hz2;omega
   ·have nd:[u,v].Nodup:=by simp[Ne.symm vu]
    have l7:∀z∈[u,v],z<7:=by simp;omega
    have hs:=c.sum nd l7;simp only[sl_cons,sl_nil] at hs;have h1:∀z,z<7→z∉[u,v]→p z≤1:=fun z hz hn=>by
     simp only[List.mem_cons,List.not_mem_nil,or_false,not_or] at hn;have:¬2≤p z:=fun h=>hw ⟨z,hz,hn.1,hn.2,h⟩;omega
    have hp:p u=4∨p u=5∨p u=6:=by omega
    rcases hp with pu | pu | pu
    ·exact .inl (shapes16 (c.cnt nd l7 h1).1 zo (by simp only[List.map_cons,List.map_nil,pu,pv];exact s42 _ zo))
    ·exact .inl (shapes16 (c.cnt nd l7 h1).1 zo (by simp only[List.map_cons,List.map_nil,pu,pv];exact s52 _ zo))
    ·have h0:sl (brest [u,v]) p=0:=by omega
     exact .inl (shapes16 ((c.cnt nd l7 h1).2 h0) zo (by simp only[List.map_cons,List.map_nil,pu,pv,h0];exact s62))
 ·have nd:[u].Nodup:=by simp
  have l7:∀z∈[u],z<7:=by simp;omega
  have hs:=c.sum nd l7;simp only[sl_cons,sl_nil] at hs;have h1:∀z,z<7→z∉[u]→p z≤1:=fun z hz hn=>by
   simp only[List.mem_cons,List.not_mem_nil,or_false] at hn;have:¬2≤p z:=fun h=>hv ⟨z,hz,hn,h⟩;omega
  have hp:p u=4∨p u=5∨p u=6∨p u=7∨p u=8:=by omega
  rcases hp with pu | pu | pu | pu | pu
  ·exact .inl (shapes16 (c.cnt nd l7 h1).1 zo (by simp only[List.map_cons,List.map_nil,pu];exact s4 _ zo))
  ·exact .inl (shapes16 (c.cnt nd l7 h1).1 zo (by simp only[List.map_cons,List.map_nil,pu];exact s5 _ zo))
  ·exact .inl (shapes16 (c.cnt nd l7 h1).1 zo (by simp only[List.map_cons,List.map_nil,pu];exact s6 _ zo))
  ·by_cases hw:∃w,w<7∧w≠u∧1≤p w
   ·obtain⟨w,w7,wu,w1⟩:=hw;have nd:[u,w].Nodup:=by simp[Ne.symm wu]
    have l7:∀z∈[u,w],z<7:=by simp;omega
    have hs:=c.sum nd l7;simp only[sl_cons,sl_nil] at hs;have pw:p w=1:=by omega
    have h0:sl (brest [u,w]) p=0:=by omega
    have h2:∀z,z<7→z∉[u,w]→p z≤1:=fun z hz hn=>h1 z hz (by simp only[List.mem_cons,List.not_mem_nil,or_false,not_or] at hn ⊢;exact hn.1);exact .inl (shapes16 ((c.cnt nd l7 h2).2 h0) zo (by simp only[List.map_cons,List.map_nil,pu,pw,h0];exact s71))
   ·have h0:sl (brest [u]) p=0:=by
     have e:sl (brest [u]) p≤sl (brest [u]) fun _=>0:=sl_le fun z hz=>by
      have h7:=brest_lt hz;unfold brest at hz;rw[List.mem_filter] at hz;have hn:z≠u:=by simpa using hz.2
      have:¬1≤p z:=fun h=>hw ⟨z,h7,hn,h⟩;omega
     have e2:sl (brest [u]) (fun _=>0)=0:=by
      have:=sl_mul (brest [u]) (fun _=>1) 0;simpa using this
     omega
    exact .inl (shapes16 ((c.cnt nd l7 h1).2 h0) zo (by simp only[List.map_cons,List.map_nil,pu,h0];exact s7))
  ·exact .inr (.inl pu)
end
end Bd
set_option linter.unusedVariables false
namespace Bd
section
variable {p:Nat→Nat}{b:Nat→Nat→Nat}{t:Nat→Nat→Nat→Nat}
theorem head_in{L:List Nat}{H:Nat}(hL:L.Nodup){h:Nat}(hh:h<L.length)(e:L[h]=H):∀i (hi:i<L.length),L[i]=H↔i=h:=by
 intro i hi;constructor
 ·intro e2;exact(List.getElem_inj hL).1 (e2.trans e.symm)
 ·rintro rfl;exact e
theorem Cn0.heads(c:Cn0 p b t){u:Nat}(hu:u<7)(h4:4≤p u){H:Nat}(hH:H<7)(pH:1≤p H){K C:Nat}(hKC:(K,C)=(12,2)∨(K,C)=(10,4)∨(K,C)=(9,8))
  (h8:p u=8∨∃v,v<7∧v≠u∧3≤p v∧sl (brest [u,v]) p=0):boundX K C H p b t≤398:=by
 have hK:K≤12:=by
  rcases hKC with h | h | h<;>simp only[Prod.mk.injEq] at h<;>omega
 rcases h8 with pu | ⟨v,v7,vu,v3,h0⟩
 ·have nd:[u].Nodup:=by simp
  have l7:∀z∈[u],z<7:=by simp;omega
  have hs:=c.sum nd l7;simp only[sl_cons,sl_nil] at hs;have h0:sl (brest [u]) p=0:=by omega
  have hz:∀z,z<7→z∉[u]→p z=0:=fun z hz hn=>by
   have hz2:z∈brest [u]:=by unfold brest;rw[List.mem_filter,List.mem_range];exact⟨hz,by simpa using hn⟩
   have:=sl_get p hz2;omega
  have eH:H=u:=by
   by_cases e:H=u
   ·exact e
   ·have:=hz H hH (by simpa using e);omega
  refine shapes ((c.cnt nd l7 fun z h1 h2=>by rw[hz z h1 h2];omega).2 h0) hK (hs:=[0]) (h:=0) (by simp) (head_in nd (by simp) (by simp[eH])) ?_;simp only[List.map_cons,List.map_nil,pu,h0];rcases hKC with h | h | h<;>simp only[Prod.mk.injEq] at h<;>obtain⟨rfl,rfl⟩:=h
  ·exact s8.1
  ·exact s8.2.1
  ·exact s8.2.2
 ·have nd:[u,v].Nodup:=by simp[Ne.symm vu]
  have l7:∀z∈[u,v],z<7:=by simp;omega
  have hs:=c.sum nd l7;simp only[sl_cons,sl_nil] at hs;have hget:∀z,z<7→z∉[u,v]→p z=0:=fun z hz hn=>by
   have hz2:z∈brest [u,v]:=by unfold brest;rw[List.mem_filter,List.mem_range];exact⟨hz,by simpa using hn⟩
   have:=sl_get p hz2;omega
  have hc:=(c.cnt nd l7 fun z h1 h2=>by have:=hget z h1 h2;omega).2 h0;have hin:H=u∨H=v:=by
   by_cases e:H=u
   ·exact .inl e
   ·by_cases e2:H=v
    ·exact .inr e2
    ·have:=hget H hH (by simp[e,e2]);omega
  have hidx:∃h,h∈[0,1]∧∀i (hi:i<[u,v].length),[u,v][i]=H↔i=h:=by
   rcases hin with e | e
   ·exact⟨0,by simp,head_in nd (by simp) (by simp[e])⟩
   ·exact⟨1,by simp,head_in nd (by simp) (by simp[e])⟩
  obtain⟨h,hm,hi⟩:=hidx;refine shapes hc hK (hs:=[0,1]) hm hi ?_;have hp:(p u=4∧p v=3)∨(p u=4∧p v=4)∨(p u=5∧p v=3):=by omega
  rcases hp with ⟨pu,pv⟩ | ⟨pu,pv⟩ | ⟨pu,pv⟩<;>simp only[List.map_cons,List.map_nil,pu,pv,h0]<;>
   rcases hKC with h | h | h<;>simp only[Prod.mk.injEq] at h<;>obtain⟨rfl,rfl⟩:=h
  ·exact s43.1
  ·exact s43.2.1
  ·exact s43.2.2
  ·exact s44.1
  ·exact s44.2.1
  ·exact s44.2.2
  ·exact s53.1
  ·exact s53.2.1
  ·exact s53.2.2
theorem Cn0.three(c:Cn0 p b t){u v w:Nat}(hu:u<7)(hv:v<7)(hw:w<7)(huv:u≠v)(huw:u≠w)(hvw:v≠w)(pu:p u=4)(pv:p v=3)(pw:p w=1){H:Nat} :
  boundX 10 16 H p b t≤398∧((H=u∨H=v)→boundX 12 2 H p b t≤398):=by
 have nd3:[u,v,w].Nodup:=by simp[huv,huw,hvw]
 have l73:∀z∈[u,v,w],z<7:=by simp;omega
 have hs3:=c.sum nd3 l73;simp only[sl_cons,sl_nil] at hs3;have h03:sl (brest [u,v,w]) p=0:=by omega
 have hc:=(c.cnt nd3 l73 fun z h1 h2=>by
  have hz2:z∈brest [u,v,w]:=by unfold brest;rw[List.mem_filter,List.mem_range];exact⟨h1,by simpa using h2⟩
  have:=sl_get p hz2;omega).2 h03
 refine⟨shapes16 hc zo (by simp only[List.map_cons,List.map_nil,pu,pv,pw,h03];exact s431a),fun hin=>?_⟩;rcases hin with e | e
 ·exact shapes hc zo (hs:=[0]) (h:=0) (by simp) (head_in nd3 (by simp) (by simp[e])) (by simp only[List.map_cons,List.map_nil,pu,pv,pw,h03];exact s431b)
 ·exact shapes hc zo (hs:=[1]) (h:=1) (by simp) (head_in nd3 (by simp) (by simp[e])) (by simp only[List.map_cons,List.map_nil,pu,pv,pw,h03];exact s431c)
end
end Bd
set_option linter.unusedVariables false
namespace Bd
section
variable {R:List Ru}{s0:Nat}{ws:List (List Nat)}
theorem bGood.partX(G:bGood R s0 ws){M:Nat}(hM:M<4)(he:1≤(Pr R M).length){u:Nat}(hu:u<7)(h4:4≤(Lf R [u]).length)
  (hx:∀v,v<7→v≠u→cn R [u]=4→cn R [v]=3→cn R [3+M]=1→(Pr R M).length=1→3+M≠u→3+M≠v→
   Bd.boundX 12 2 (3+M) (fun z=>cn R [z]) (fun y z=>cn R [y,z]) (fun x y z=>cn R [x,y,z])≤398):ws.length≤398:=by
 have c:Cn0 (fun z=>cn R [z]) (fun y z=>cn R [y,z]) (fun x y z=>cn R [x,y,z]):=
  ⟨Nat.le_trans (cn_sum R []) (cn_le G.ok []),fun x=>cn_sum R [x],fun x y=>cn_sum R [x,y]⟩
 have hp:4≤cn R [u]:=Nat.le_trans h4 (Lf_le R [u]);have ho:=ot_len (R:=R) hM;have pH:1≤cn R [3+M]:=by
  have h1:(Pr R M).length≤(Lf R [3+M]).length:=List.length_filter_le _ _;have:=Lf_le R [3+M];omega
 have hcases:(Pr R M).length=1∧(Ot R M).length=2∨(Pr R M).length=2∧(Ot R M).length=1∨(Pr R M).length=3∧(Ot R M).length=0:=by omega
 have fin:∀{K C:Nat},(K,C)=(12,2)∨(K,C)=(10,4)∨(K,C)=(9,8)→True:=fun _=>trivial;obtain⟨K,C,hKC,hK,hC⟩:∃K C,((K,C)=(12,2)∨(K,C)=(10,4)∨(K,C)=(9,8))∧8+2 ^ (Ot R M).length≤K∧2 ^ (Pr R M).length≤C:=by
  rcases hcases with ⟨a,b⟩ | ⟨a,b⟩ | ⟨a,b⟩<;>rw[a,b]
  ·exact⟨12,2,.inl rfl,by decide,by decide⟩
  ·exact⟨10,4,.inr (.inl rfl),by decide,by decide⟩
  ·exact⟨9,8,.inr (.inr rfl),by decide,by decide⟩
 rcases c.plain hu hp (H:=3+M) with h | h | ⟨v,v7,vu,v3⟩
 ·refine Nat.le_trans (G.boundX hM (K:=12) (C:=16) ?_ ?_) h
  ·rcases hcases with ⟨a,b⟩ | ⟨a,b⟩ | ⟨a,b⟩<;>rw[b]<;>decide
  ·rcases hcases with ⟨a,b⟩ | ⟨a,b⟩ | ⟨a,b⟩<;>rw[a]<;>decide
 ·exact Nat.le_trans (G.boundX hM hK hC) (c.heads hu hp zo pH hKC (.inl h))
 ·by_cases h0:sl (brest [u,v]) (fun z=>cn R [z])=0
  ·exact Nat.le_trans (G.boundX hM hK hC) (c.heads hu hp zo pH hKC (.inr ⟨v,v7,vu,v3,h0⟩))
  ·have nd:[u,v].Nodup:=by simp[Ne.symm vu]
   have l7:∀z∈[u,v],z<7:=by simp;omega
   have hs:=c.sum nd l7;simp only[sl_cons,sl_nil] at hs;have hget:∀z,z<7→z∉[u,v]→cn R [z]≤sl (brest [u,v]) fun z=>cn R [z]:=fun z hz hn=>by
    have hz2:z∈brest [u,v]:=by unfold brest;rw[List.mem_filter,List.mem_range];exact⟨hz,by simpa using hn⟩
    exact sl_get (fun z=>cn R [z]) hz2
   have pu:cn R [u]=4:=by omega
   have pv:cn R [v]=3:=by omega
   obtain⟨w,w7,wn,w1⟩:∃w,w<7∧w∉[u,v]∧cn R [w]=1:=by
    apply Classical.byContradiction;intro hno;apply h0;have e:sl (brest [u,v]) (fun z=>cn R [z])≤sl (brest [u,v]) fun _=>0:=sl_le fun z hz=>by
     have z7:=brest_lt hz;have hn:z∉[u,v]:=by
      unfold brest at hz;rw[List.mem_filter] at hz;simpa using hz.2
     have h1:¬cn R [z]=1:=fun h=>hno ⟨z,z7,hn,h⟩;have:=hget z z7 hn;omega
    have e2:sl (brest [u,v]) (fun _=>0)=0:=by
     have:=sl_mul (brest [u,v]) (fun _=>1) 0;simpa using this
    omega
   simp only[List.mem_cons,List.not_mem_nil,or_false,not_or] at wn;have h3:=c.three hu v7 w7 (Ne.symm vu) (Ne.symm wn.1) (Ne.symm wn.2) pu pv w1 (H:=3+M);rcases hcases with ⟨a,b⟩ | ⟨a,b⟩ | ⟨a,b⟩
   ·by_cases hin:3+M=u∨3+M=v
    ·exact Nat.le_trans (G.boundX hM (by rw[b];decide) (by rw[a];decide)) (h3.2 hin)
    ·have hn:3+M∉[u,v]:=by simpa using hin
     have:=hget (3+M) zo hn;refine Nat.le_trans (G.boundX hM (K:=12) (C:=2) (by rw[b];decide) (by rw[a];decide)) (hx v v7 vu pu pv zo a (fun e=>hin (.inl e)) fun e=>hin (.inr e))
   ·exact Nat.le_trans (G.boundX hM (K:=10) (C:=16) (by rw[b];decide) (by rw[a];decide)) h3.1
   ·exact Nat.le_trans (G.boundX hM (K:=10) (C:=16) (by rw[b];decide) (by rw[a];decide)) h3.1
end
end Bd
set_option linter.unusedVariables false
namespace Bd
section
variable {R:List Ru}{s0:Nat}{ws:List (List Nat)}
theorem even_pd(ok:Okr R)(h:nnT R+rT R=0){w:List Nat}{m:Nat}(hp:Pd R s0 w m):w.length % 2=0:=by
 induction hp with
 | start=>rfl
 | @one z m w l r hr e hp ih=>
  exfalso;have hz:=ok.sym r hr z (by rw[e];simp);have hm:=ok.sym r hr (3+m) (by rw[e];simp);by_cases hz3:z<3
  ·have h1:=cn_pos (p:=[z,3+m]) hr (by rw[e];rfl);have h2:=Nat.le_trans (u4_get (fun M=>cn R [z,3+M]) (show m<4 by omega)) (nT_le R z);have h3:=u3_get (nT R) hz3;unfold nnT at h;omega
  ·have h1:=cn_pos (p:=[z]) hr (by rw[e];rfl);have h2:=Nat.le_trans (u4_get (fun M=>cn R [3+M]) (show z-3<4 by omega)) (rT_le ok);rw[show 3+(z-3)=z by omega] at h2;omega
 | two hr e hp ih=>simp only[List.length_cons];omega
 | clo hp hr e ih=>exact ih
theorem codF_none{Q:List Nat→Prop}{φ:List Nat→List Nat}(L:List Nat)(h:∀u,Q u→∀n,¬Pd R s0 (φ u) n):CodF R s0 Q φ L 1:=
 ⟨fun _=>0,fun _ _=>Nat.one_pos,fun u v hu hv _ n _=>⟨fun k=>absurd k (h u hu n),fun k=>absurd k (h v hv n)⟩⟩
theorem pow15{l c:Nat}(h4:l≤4)(hc:l≤c):2 ^ l-1≤c*15:=by
 have:l=0∨l=1∨l=2∨l=3∨l=4:=by omega
 rcases this with rfl | rfl | rfl | rfl | rfl<;>simp<;>omega
theorem bGood.even(G:bGood R s0 ws)(h:nnT R+rT R=0):ws.length≤398:=by
 have hs:=split_all G.ok G.live;rw[sum_allC] at hs;have c8:sm (fun z=>cn R [z])≤8:=Nat.le_trans (cn_sum R []) (cn_le G.ok []);have a1:sm (fun z=>(inC R s0 ws [z]).length)≤8*15:=by
  refine Nat.le_trans (sm_le fun z _=>Nat.le_trans (G.n1 (codE_pow fun w h=>h.2)) (pow15 (Lf_le4 R [z]) (Lf_le R [z]))) ?_;rw[sm_mul];exact Nat.mul_le_mul_right _ c8
 have a2:sm (fun y=>sm fun z=>(inC R s0 ws [z,y]).length)≤8*15:=by
  have e:∀y,sm (fun z=>(inC R s0 ws [z,y]).length)≤cn R [y]*15:=fun y=>by
   refine Nat.le_trans (sm_le (g:=fun z=>cn R [y,z]*15) fun z _=>?_) ?_
   ·have k:=G.c2 (z:=z) (y:=y) (codF_ne fun u h=>h.ne G.ok) (codF_none (φ:=fun u=>y::u) (Lf R [z]) fun u hu n hn=>by
     obtain⟨m,_,hm⟩:=hu.ne G.ok;have e1:=even_pd G.ok h hm;have e2:=even_pd G.ok h hn;simp only[List.length_cons] at e2;omega)
    rw[Nat.mul_one] at k;exact Nat.le_trans k (pow15 (Lf_le4 R [y,z]) (Lf_le R [y,z]))
   ·rw[sm_mul];exact Nat.mul_le_mul_right _ (cn_sum R [y])
  refine Nat.le_trans (sm_le fun y _=>e y) ?_;rw[sm_mul];exact Nat.mul_le_mul_right _ c8
 have a3:sm (fun x=>sm fun y=>sm fun z=>(inC R s0 ws [z,y,x]).length)≤8*8:=by
  have e:∀x y,sm (fun z=>(inC R s0 ws [z,y,x]).length)≤cn R [x,y]*8:=fun x y=>by
   refine Nat.le_trans (sm_le (g:=fun z=>cn R [x,y,z]*8) fun z _=>?_) ?_
   ·have k:=G.c3h (z:=z) (y:=y) (x:=x) (codF_meet (Lf_nodup [x,y,z]) (Lf_nodup [x,y]) (fun n hn=>Lf_sub (p:=[x,y]) (q:=[z]) hn) fun u h=>h.ne G.ok)
     (codF_none (φ:=fun u=>x::u) (Lf R [y]) fun u hu n hn=>by
      obtain⟨m,_,hm⟩:=hu.ne G.ok;have e1:=even_pd G.ok h hm;have e2:=even_pd G.ok h hn;simp only[List.length_cons] at e2;omega)
    rw[Nat.mul_one] at k;have hm:(Lf R [x,y,z]).length≤(Lf R [x,y]).length:=Lf_mono R [x,y] [z];have b4:=Lf_le4 R [x,y];refine Nat.le_trans k (Nat.le_trans (half (Lf R [x,y]).length zo (Lf R [x,y,z]).length zo hm) ?_);rw[Nat.mul_comm];refine Nat.mul_le_mul (Lf_le R _) ?_;have:2 ^ ((Lf R [x,y]).length-1)≤2 ^ 3:=pow_le zo;simpa using this
   ·rw[sm_mul];exact Nat.mul_le_mul_right _ (cn_sum R [x,y])
  have e2:∀x,sm (fun y=>sm fun z=>(inC R s0 ws [z,y,x]).length)≤cn R [x]*8:=fun x=>by
   refine Nat.le_trans (sm_le fun y _=>e x y) ?_;rw[sm_mul];exact Nat.mul_le_mul_right _ (cn_sum R [x])
  refine Nat.le_trans (sm_le fun x _=>e2 x) ?_;rw[sm_mul];exact Nat.mul_le_mul_right _ c8
 omega
theorem bGood.le398(G:bGood R s0 ws):ws.length≤398:=by
 by_cases h3:∀z,(Lf R [z]).length≤3
 ·have:=partI G h3;omega
 ·obtain⟨u,hu⟩:=Classical.not_forall.1 h3;have h4:4≤(Lf R [u]).length:=by omega
  have hu7:u<7:=by
   obtain⟨n,hn⟩:=List.exists_mem_of_length_pos (show 0<(Lf R [u]).length by omega);unfold Lf at hn;rw[List.mem_filter,List.any_eq_true] at hn;obtain⟨_,r,hr,e⟩:=hn;simp only[Bool.and_eq_true,List.isPrefixOf_iff_prefix] at e;obtain⟨_,l,e⟩:=e;exact G.ok.sym r hr u (by rw[←e];simp)
  have c4:=Nat.le_trans h4 (Lf_le R [u]);by_cases hE:∀M,M<4→(Lf R [3+M]).length≤1
  ·have hu3:u<3:=by
    apply Classical.byContradiction;intro h;have:=hE (u-3) zo;rw[show 3+(u-3)=u by omega] at this;omega
   by_cases hn:nnT R+rT R=0
   ·exact G.even hn
   ·have:∃b c,b<3∧c<3∧(∀f:Nat→Nat,u3 f=f u+f b+f c)∧cn R [c]≤cn R [b]:=by
     have:u=0∨u=1∨u=2:=by omega
     rcases this with rfl | rfl | rfl
     ·rcases Nat.le_total (cn R [1]) (cn R [2]) with h | h
      ·exact⟨2,1,by omega,by omega,fun f=>by simp only[u3];omega,h⟩
      ·exact⟨1,2,by omega,by omega,fun f=>by simp only[u3],h⟩
     ·rcases Nat.le_total (cn R [0]) (cn R [2]) with h | h
      ·exact⟨2,0,by omega,by omega,fun f=>by simp only[u3];omega,h⟩
      ·exact⟨0,2,by omega,by omega,fun f=>by simp only[u3];omega,h⟩
     ·rcases Nat.le_total (cn R [0]) (cn R [1]) with h | h
      ·exact⟨1,0,by omega,by omega,fun f=>by simp only[u3];omega,h⟩
      ·exact⟨0,1,by omega,by omega,fun f=>by simp only[u3];omega,h⟩
    obtain⟨b,c,hb,hc,h0,hbc⟩:=this;exact G.partT hE hu3 hb hc h0 c4 hbc hn
  ·obtain⟨M,hM⟩:=Classical.not_forall.1 hE;obtain⟨hM,h2⟩:=Classical.not_imp.1 hM;have c2:=Lf_le R [3+M];refine G.partX hM ?_ hu7 h4 fun v _ _ _ _ h1=>by omega
   have h1:=List.length_eq_countP_add_countP (fun n=>decide (n=M)) (l:=Lf R [3+M]);have h5:(Lf R [3+M]).countP (fun n=>decide (n=M))≤1:=by
    have:=List.nodup_iff_count.1 (Lf_nodup (R:=R) [3+M]) M;rw[List.count_eq_countP] at this;refine Nat.le_trans (List.countP_mono_left fun x _ h=>?_) this;simpa using h
   unfold Pr;rw[←List.countP_eq_length_filter];have h6:(Lf R [3+M]).countP (fun a=>decide ¬(decide (a=M))=true)=(Lf R [3+M]).countP fun n=>decide (n≠M):=by
    congr 1;funext a;simp
   rw[h6] at h1;omega
end
end Bd
set_option linter.unusedVariables false
set_option maxRecDepth 20000
set_option maxHeartbeats 0
open Go Go.Abs Go.Proofs Go.Proofs.D
namespace Go.Proofs.D
def codeS(y:Sym):Nat:=if y.term=true then y.n else 3+y.n
def ruB(g:Gram):List Bd.Ru:=g.rules.map fun r=>(r.left,r.right.map codeS)
theorem codeS_inj{g:Gram}(ht:g.terms≤3){x y:Sym}(hx:SymOk g.terms g.nons x)(hy:SymOk g.terms g.nons y)(h:codeS x=codeS y):x=y:=by
 obtain⟨a,n⟩:=x;obtain⟨b,m⟩:=y;unfold SymOk at hx hy;unfold codeS at h;cases a<;>cases b<;>simp at h hx hy ⊢<;>omega
theorem Small.okr{g:Gram}(h:Small g):Bd.Okr (ruB g):=by
 refine⟨fun r hr=>?_,fun r hr s hs=>?_,fun r hr=>?_,?_⟩
 ·obtain⟨q,hq,rfl⟩:=List.mem_map.1 hr;have:=(h.ok q hq).1;have:=h.nons.2;show q.left<4;omega
 ·obtain⟨q,hq,rfl⟩:=List.mem_map.1 hr;obtain⟨y,hy,rfl⟩:=List.mem_map.1 hs;have h1:=(h.ok q hq).2.2 y hy;have:=h.nons.2;have:=h.terms.2;unfold SymOk at h1;unfold codeS;split at h1<;>rename_i e<;>simp only[e,if_true]<;>simp<;>omega
 ·obtain⟨q,hq,rfl⟩:=List.mem_map.1 hr;have:=(h.ok q hq).2.1;show (q.right.map codeS).length≤3;rw[List.length_map];exact this
 ·unfold ruB;rw[List.length_map];exact h.rules.2
theorem Small.sym{g:Gram}(h:Small g){k:Nat}{r:Rule}(hr:g.rules[k]?=some r){d:Nat}{y:Sym}(hy:r.right[d]?=some y):SymOk g.terms g.nons y:=
 (h.ok r (gM hr)).2.2 y (gM hy)
def ItW(g:Gram)(w:List Nat)(z:Lr):Prop:=
 (z.rule=g.rules.length∧((z.dot=0∧w=[])∨(z.dot=1∧w=[3+g.start])))∨
 ∃r,g.rules[z.rule]?=some r∧z.dot≤r.right.length∧∃v,w=((r.right.take z.dot).map codeS).reverse++v∧Bd.Pd (ruB g) g.start v r.left
theorem after_rule{g:Gram}{k d:Nat}{r:Rule}(h:g.rules[k]?=some r):afterL g ⟨k,d⟩=r.right[d]?:=by
 unfold afterL;have:=(gS h).1;dsimp only;rw[if_neg zo,h]
theorem mem_ruB{g:Gram}{k:Nat}{r:Rule}(h:g.rules[k]?=some r):(r.left,r.right.map codeS)∈ruB g:=List.mem_map.2 ⟨r,gM h,rfl⟩
theorem ItW.pd{g:Gram}(hs:Small g){w:List Nat}{x:Lr}(h:ItW g w x){n:Nat}(ha:afterL g x=some ⟨false,n⟩):Bd.Pd (ruB g) g.start w n:=by
 obtain⟨k,d⟩:=x;rcases h with ⟨e,h⟩ | ⟨r,hr,hd,v,rfl,hp⟩
 ·have e:k=g.rules.length:=e;subst e;unfold afterL at ha;dsimp only at ha;rw[if_pos rfl] at ha;rcases h with ⟨e,rfl⟩ | ⟨e,_⟩
  ·have e:d=0:=e;subst e;rw[if_pos rfl] at ha;have:=(Sym.mk.inj (Option.some.inj ha)).2;subst this;exact .start
  ·have e:d=1:=e;subst e;rw[if_neg (by decide)] at ha;cases ha
 ·have hr:g.rules[k]?=some r:=hr;rw[after_rule hr] at ha;have hm:=mem_ruB hr;have h3:=(hs.ok r (gM hr)).2.1;show Bd.Pd (ruB g) g.start (((r.right.take d).map codeS).reverse++v) n;obtain⟨left,right⟩:=r;dsimp only at ha hm h3 hp ⊢
  match d,right,ha with
  | 0,y::l,ha=>
   obtain rfl:=Option.some.inj ha;show Bd.Pd (ruB g) g.start v n;exact .clo hp hm (by rfl)
  | 1,a::y::l,ha=>
   obtain rfl:=Option.some.inj ha;exact .one hm (by rfl) hp
  | 2,a::b::y::l,ha=>
   obtain rfl:=Option.some.inj ha;exact .two hm (by rfl) hp
  | d+3,a::b::c::l,ha=>
   have e:l=[]:=by
    simp only[List.length_cons] at h3;exact List.eq_nil_of_length_eq_zero zo
   subst e;simp at ha
theorem pd_item{g:Gram}(hs:Small g){w:List Nat}{l:List Lr}(hl:∀z,z∈l↔ItW g w z∧(0<z.dot∨z.rule=g.rules.length)){n:Nat}(hp:Bd.Pd (ruB g) g.start w n) :
  ∃x,Clos g l x∧afterL g x=some ⟨false,n⟩:=by
 have ht:=hs.terms.2;have inv:∀{y:Sym} {m:Nat},SymOk g.terms g.nons y→codeS y=3+m→y=⟨false,m⟩:=fun {y m} hy e=>by
  obtain⟨a,n⟩:=y;unfold SymOk at hy;unfold codeS at e;cases a<;>simp at e hy ⊢<;>omega
 induction hp with
 | start=>
  refine⟨⟨g.rules.length,0⟩,.base ((hl _).2 ⟨.inl ⟨rfl,.inl ⟨rfl,rfl⟩⟩,.inr rfl⟩),?_⟩;unfold afterL;dsimp only;rw[if_pos rfl,if_pos rfl]
 | @one z' m w' l' q hq e2 hp' _=>
  obtain⟨r',hr',rfl⟩:=List.mem_map.1 hq;obtain⟨k,hk,hk2⟩:=List.getElem_of_mem hr';have hk3:g.rules[k]?=some r':=by rw[gE hk,hk2]
  obtain⟨left,right⟩:=r'
  match right,e2 with
  | a::y::t,e2=>
   simp only[List.map_cons,List.cons.injEq] at e2;have hy:=inv (hs.sym hk3 (d:=1) rfl) e2.2.1;subst hy;refine⟨⟨k,1⟩,.base ((hl _).2 ⟨.inr ⟨_,hk3,by simp,w',?_,hp'⟩,.inl (by simp)⟩),?_⟩
   ·rw[←e2.1];simp
   ·rw[after_rule hk3];rfl
 | @two y' z' m w' l' q hq e2 hp' _=>
  obtain⟨r',hr',rfl⟩:=List.mem_map.1 hq;obtain⟨k,hk,hk2⟩:=List.getElem_of_mem hr';have hk3:g.rules[k]?=some r':=by rw[gE hk,hk2]
  obtain⟨left,right⟩:=r'
  match right,e2 with
  | a::b::y::t,e2=>
   simp only[List.map_cons,List.cons.injEq] at e2;have hy:=inv (hs.sym hk3 (d:=2) rfl) e2.2.2.1;subst hy;refine⟨⟨k,2⟩,.base ((hl _).2 ⟨.inr ⟨_,hk3,by simp,w',?_,hp'⟩,.inl (by simp)⟩),?_⟩
   ·rw[←e2.1,←e2.2.1];simp
   ·rw[after_rule hk3];rfl
 | @clo m w' l' q hp' hq e2 ih=>
  obtain⟨x,hx,hax⟩:=ih hl;obtain⟨r',hr',rfl⟩:=List.mem_map.1 hq;obtain⟨k,hk,hk2⟩:=List.getElem_of_mem hr';have hk3:g.rules[k]?=some r':=by rw[gE hk,hk2]
  refine⟨⟨k,0⟩,.more hx hax hk3 rfl,?_⟩;obtain⟨left,right⟩:=r'
  match right,e2 with
  | y::t,e2=>
   simp only[List.map_cons,List.cons.injEq] at e2;have hy:=inv (hs.sym hk3 (d:=0) rfl) e2.1;subst hy;rw[after_rule hk3];rfl
theorem closW{g:Gram}(hs:Small g){w:List Nat}{l:List Lr}(hl:∀z,z∈l↔ItW g w z∧(0<z.dot∨z.rule=g.rules.length))(z:Lr):Clos g l z↔ItW g w z:=by
 constructor
 ·intro h
  induction h with
  | base h=>exact((hl _).1 h).1
  | @more x n k r hx ha hr hn ih=>
   subst hn;exact .inr ⟨r,hr,Nat.zero_le _,w,by simp,ih.pd hs ha⟩
 ·intro h;by_cases h0:0<z.dot∨z.rule=g.rules.length
  ·exact .base ((hl z).2 ⟨h,h0⟩)
  ·rcases h with ⟨e,_⟩ | ⟨r,hr,_,v,e,hp⟩
   ·exact absurd (.inr e) h0
   ·have hd:z.dot=0:=by omega
    rw[hd] at e;simp only[List.take_zero,List.map_nil,List.reverse_nil,List.nil_append] at e;subst e;obtain⟨x,hx,ha⟩:=pd_item hs hl hp;obtain⟨k,d⟩:=z;have hd:d=0:=hd;subst hd;exact .more hx ha hr rfl
def StW(g:Gram)(w:List Nat)(st:List Lr):Prop:=Strict st∧∀z,z∈st↔ItW g w z
theorem len_none{g:Gram}{k:Nat}{r:Rule}(h:g.rules[k]?=some r):k≠g.rules.length:=by
 have:=(gS h).1;omega
theorem stW_first{g:Gram}(hs:Small g):StW g [] (firstI g):=by
 refine⟨closL_strict _ _,fun z=>?_⟩;unfold firstI;rw[mem_closL start_ok];refine closW hs (fun z=>?_) z;rw[List.mem_singleton];constructor
 ·rintro rfl;exact⟨.inl ⟨rfl,.inl ⟨rfl,rfl⟩⟩,.inr rfl⟩
 ·rintro⟨h,h0⟩;obtain⟨k,d⟩:=z;rcases h with ⟨e,⟨e2,_⟩ | ⟨_,e2⟩⟩ | ⟨r,hr,hd,v,e,hp⟩
  ·have e:k=g.rules.length:=e;have e2:d=0:=e2;rw[e,e2]
  ·cases e2
  ·have h1:=congrArg List.length e;simp only[List.length_nil,List.length_append,List.length_reverse,List.length_map,List.length_take] at h1;have hd:d≤r.right.length:=hd;rcases h0 with h0 | h0
   ·have h0:0<d:=h0;have h1:0=min d r.right.length+v.length:=h1;omega
   ·exact absurd h0 (len_none hr)
theorem stW_next{g:Gram}(hs:Small g){w:List Nat}{st:List Lr}(h:StW g w st){y:Sym}(hy:SymOk g.terms g.nons y):StW g (codeS y::w) (closL g (kern g st y)):=by
 refine⟨closL_strict _ _,fun z=>?_⟩;rw[mem_closL fun x hx=>(kern_ok x hx).1];refine closW hs (fun z=>?_) z;rw[mem_kern];constructor
 ·rintro⟨x,hx,ha,rfl⟩;refine⟨?_,.inl (Nat.succ_pos _)⟩;obtain⟨k,d⟩:=x;rcases (h.2 _).1 hx with ⟨e,h⟩ | ⟨r,hr,hd,v,e,hp⟩
  ·have e:k=g.rules.length:=e;subst e;unfold afterL at ha;dsimp only at ha;rw[if_pos rfl] at ha;rcases h with ⟨e,rfl⟩ | ⟨e,_⟩
   ·have e:d=0:=e;subst e;rw[if_pos rfl] at ha;obtain rfl:=Option.some.inj ha;exact .inl ⟨rfl,.inr ⟨rfl,rfl⟩⟩
   ·have e:d=1:=e;subst e;rw[if_neg (by decide)] at ha;cases ha
  ·have hr:g.rules[k]?=some r:=hr;rw[after_rule hr] at ha;have hlt:=(gS ha).1;refine .inr ⟨r,hr,by show d+1≤_;omega,v,?_,hp⟩;show codeS y::w=((r.right.take (d+1)).map codeS).reverse++v;rw[List.take_add_one,ha,List.map_append,List.reverse_append,e];rfl
 ·rintro⟨h1,h0⟩;obtain⟨k,d⟩:=z;rcases h1 with ⟨e,⟨_,e2⟩ | ⟨e1,e2⟩⟩ | ⟨r,hr,hd,v,e,hp⟩
  ·cases e2
  ·have e:k=g.rules.length:=e;have e1:d=1:=e1;subst e e1;simp only[List.cons.injEq] at e2;have hy2:y=⟨false,g.start⟩:=codeS_inj hs.terms.2 hy (show SymOk g.terms g.nons ⟨false,g.start⟩ from hs.start) e2.1;subst hy2;refine⟨⟨g.rules.length,0⟩,(h.2 _).2 (.inl ⟨rfl,.inl ⟨rfl,e2.2⟩⟩),?_,rfl⟩;unfold afterL;dsimp only;rw[if_pos rfl,if_pos rfl]
  ·have hr:g.rules[k]?=some r:=hr;have hd:d≤r.right.length:=hd;cases d with
   | zero=>
    rcases h0 with h0 | h0
    ·exact absurd h0 (Nat.lt_irrefl _)
    ·exact absurd h0 (len_none hr)
   | succ d=>
    have e:codeS y::w=((r.right.take (d+1)).map codeS).reverse++v:=e;obtain⟨y',hy'⟩:∃y',r.right[d]?=some y':=⟨_,gE zo⟩;rw[List.take_add_one,hy',List.map_append,List.reverse_append] at e;have e:codeS y::w=codeS y'::(((r.right.take d).map codeS).reverse++v):=e;simp only[List.cons.injEq] at e;have:=codeS_inj hs.terms.2 hy (hs.sym hr hy') e.1;subst this;exact⟨⟨k,d⟩,(h.2 _).2 (.inr ⟨r,hr,by show d≤_;omega,v,e.2,hp⟩),by rw[after_rule hr];exact hy',rfl⟩
theorem ItW.to{g:Gram}(hs:Small g){w:List Nat}{k d:Nat}{r:Rule}(hr:g.rules[k]?=some r)(h:ItW g w ⟨k,d⟩)(h0:0<d) :
  (d=1∧Bd.I1 (ruB g) g.start w (r.left,r.right.map codeS))∨(d=2∧Bd.I2 (ruB g) g.start w (r.left,r.right.map codeS))∨(d=3∧Bd.I3 (ruB g) g.start w (r.left,r.right.map codeS)):=by
 rcases h with ⟨e,_⟩ | ⟨r',hr',hd,v,e,hp⟩
 ·exact absurd e (len_none hr)
 ·rw[hr] at hr';obtain rfl:=Option.some.inj hr';have h3:=(hs.ok r (gM hr)).2.1;obtain⟨left,right⟩:=r;dsimp only at e hd h3 hp ⊢;subst e
  match d,right,hd,h0 with
  | 1,a::t,_,_=>exact .inl ⟨rfl,⟨_,rfl⟩,hp⟩
  | 2,a::b::t,_,_=>exact .inr (.inl ⟨rfl,⟨_,rfl⟩,hp⟩)
  | 3,a::b::c::t,_,_=>exact .inr (.inr ⟨rfl,⟨_,rfl⟩,hp⟩)
  | d+4,right,hd,_=>exact absurd hd zo
theorem ItW.of1{g:Gram}{w:List Nat}{k:Nat}{r:Rule}(hr:g.rules[k]?=some r)(h:Bd.I1 (ruB g) g.start w (r.left,r.right.map codeS)):ItW g w ⟨k,1⟩:=by
 match w,h with
 | z::v,⟨⟨l,e⟩,hp⟩=>
  obtain⟨left,right⟩:=r
  match right,e with
  | a::t,e=>
   simp only[List.map_cons,List.cons.injEq] at e;exact .inr ⟨_,hr,by simp,v,by rw[←e.1];simp,hp⟩
theorem ItW.of2{g:Gram}{w:List Nat}{k:Nat}{r:Rule}(hr:g.rules[k]?=some r)(h:Bd.I2 (ruB g) g.start w (r.left,r.right.map codeS)):ItW g w ⟨k,2⟩:=by
 match w,h with
 | z::y::v,⟨⟨l,e⟩,hp⟩=>
  obtain⟨left,right⟩:=r
  match right,e with
  | a::b::t,e=>
   simp only[List.map_cons,List.cons.injEq] at e;exact .inr ⟨_,hr,by simp,v,by rw[←e.1,←e.2.1];simp,hp⟩
theorem ItW.of3{g:Gram}{w:List Nat}{k:Nat}{r:Rule}(hr:g.rules[k]?=some r)(h:Bd.I3 (ruB g) g.start w (r.left,r.right.map codeS)):ItW g w ⟨k,3⟩:=by
 match w,h with
 | z::y::x::v,⟨⟨l,e⟩,hp⟩=>
  obtain⟨left,right⟩:=r
  match right,e with
  | a::b::c::t,e=>
   simp only[List.map_cons,List.cons.injEq] at e;exact .inr ⟨_,hr,by simp,v,by rw[←e.1,←e.2.1,←e.2.2.1];simp,hp⟩
theorem Clos.more_of{g:Gram}{l1 l2:List Lr}(h:∀z∈l1,z∈l2){z:Lr}(hz:Clos g l1 z):Clos g l2 z:=by
 induction hz with
 | base hx=>exact .base (h _ hx)
 | more _ ha hr hn ih=>exact .more ih ha hr hn
theorem same_sub{g:Gram}(hs:Small g){w w':List Nat}{st st':List Lr}(h:StW g w st)(h':StW g w' st')(n0:w≠[])(n1:w≠[3+g.start])
  (hS:∀r∈ruB g,(Bd.I1 (ruB g) g.start w r→Bd.I1 (ruB g) g.start w' r)∧(Bd.I2 (ruB g) g.start w r→Bd.I2 (ruB g) g.start w' r)∧(Bd.I3 (ruB g) g.start w r→Bd.I3 (ruB g) g.start w' r)) :
  ∀z,z∈st→z∈st':=by
 have hl:∀{w:List Nat} {st:List Lr},StW g w st→∀z,z∈st.filter (fun z=>decide (0<z.dot∨z.rule=g.rules.length))↔ItW g w z∧(0<z.dot∨z.rule=g.rules.length):=fun {w st} h z=>by
  rw[List.mem_filter,h.2,decide_eq_true_eq]
 intro z hz;have h1:=(closW hs (hl h) z).2 ((h.2 z).1 hz);refine(h'.2 z).2 ((closW hs (hl h') z).1 (h1.more_of fun x hx=>?_));obtain⟨hi,h0⟩:=(hl h x).1 hx;obtain⟨k,d⟩:=x;have hk:k≠g.rules.length:=by
  intro e;rcases hi with ⟨_,⟨_,e2⟩ | ⟨_,e2⟩⟩ | ⟨r,hr,_⟩
  ·exact n0 e2
  ·exact n1 e2
  ·exact len_none hr e
 have hd:0<d:=by
  rcases h0 with h0 | h0
  ·exact h0
  ·exact absurd h0 hk
 obtain⟨r,hr⟩:∃r,g.rules[k]?=some r:=by
  rcases id hi with ⟨e,_⟩ | ⟨r,hr,_⟩
  ·exact absurd e hk
  ·exact⟨r,hr⟩
 obtain⟨s1,s2,s3⟩:=hS _ (mem_ruB hr);refine(hl h' _).2 ⟨?_,.inl hd⟩;rcases hi.to hs hr hd with ⟨rfl,hj⟩ | ⟨rfl,hj⟩ | ⟨rfl,hj⟩
 ·exact ItW.of1 hr (s1 hj)
 ·exact ItW.of2 hr (s2 hj)
 ·exact ItW.of3 hr (s3 hj)
def PathSt(g:Gram)(st:List Lr):Prop:=∃w,StW g w st∧(w=[]∨∃z,ItW g w z∧0<z.dot)
theorem all_one{α:Type}:∀{l:List α},l.Nodup→(∀a∈l,∀b∈l,a=b)→l.length≤1
 | [],_,_=>by simp
 | [_],_,_=>by simp
 | a::b::l,hn,h=>by
  exfalso;have:=h a me b (List.mem_cons_of_mem _ me);subst this;exact(List.nodup_cons.1 hn).1 me
theorem states_few{g:Gram}(hs:Small g){sts:List (List Lr)}(hn:sts.Nodup)(hp:∀st∈sts,PathSt g st):sts.length≤400:=by
 classical
 let f:List Lr→List Nat:=fun st=>if h:PathSt g st then Classical.choose h else [];have hf:∀st∈sts,StW g (f st) st∧(f st=[]∨∃z,ItW g (f st) z∧0<z.dot):=fun st h=>by
  have h1:=hp st h;show StW g (if h:PathSt g st then Classical.choose h else []) st∧((if h:PathSt g st then Classical.choose h else [])=[]∨∃z,ItW g (if h:PathSt g st then Classical.choose h else []) z∧0<z.dot);rw[dif_pos h1];exact Classical.choose_spec h1
 let c:List Lr→Nat:=fun st=>if f st=[] then 0 else if f st=[3+g.start] then 1 else 2
 have hc:=Bd.parts c [0,1,2] sts (fun st _=>by
  show (if f st=[] then 0 else if f st=[3+g.start] then 1 else 2)∈[0,1,2];split
  ·simp
  ·split<;>simp)
 have hone:∀w k,(∀st∈sts,c st=k→f st=w)→(sts.filter fun st=>c st=k).length≤1:=fun w k hk=>by
  refine all_one (hn.filter _) fun a ha b hb=>?_;rw[List.mem_filter,decide_eq_true_eq] at ha hb;obtain⟨sa,ma⟩:=(hf a ha.1).1;obtain⟨sb,mb⟩:=(hf b hb.1).1;rw[hk a ha.1 ha.2] at ma;rw[hk b hb.1 hb.2] at mb;exact strict_uniq sa sb fun z=>by rw[ma,mb]
 have h0:=hone [] 0 (fun st _ h=>by
  have h:(if f st=[] then 0 else if f st=[3+g.start] then 1 else 2)=0:=h;split at h
  ·assumption
  ·split at h<;>cases h)
 have h1:=hone [3+g.start] 1 (fun st _ h=>by
  have h:(if f st=[] then 0 else if f st=[3+g.start] then 1 else 2)=1:=h;split at h
  ·cases h
  ·split at h
   ·assumption
   ·cases h)
 have hk2:∀st,c st=2→f st≠[]∧f st≠[3+g.start]:=fun st h=>by
  have h:(if f st=[] then 0 else if f st=[3+g.start] then 1 else 2)=2:=h;split at h
  ·cases h
  ·split at h
   ·cases h
   ·exact⟨by assumption,by assumption⟩
 have h2:(sts.filter fun st=>c st=2).length≤398:=by
  have G:Bd.bGood (ruB g) g.start ((sts.filter fun st=>c st=2).map f):=by
   refine⟨hs.okr,fun w hw=>?_,?_⟩
   ·obtain⟨st,hst,rfl⟩:=List.mem_map.1 hw;rw[List.mem_filter,decide_eq_true_eq] at hst;obtain⟨n0,n1⟩:=hk2 st hst.2;obtain⟨_,h⟩:=hf st hst.1;rcases h with h | ⟨⟨k,d⟩,hz,hd⟩
    ·exact absurd h n0
    ·rcases id hz with ⟨_,⟨_,e⟩ | ⟨_,e⟩⟩ | ⟨r,hr,_⟩
     ·exact absurd e n0
     ·exact absurd e n1
     ·refine⟨_,mem_ruB hr,?_⟩;rcases hz.to hs hr hd with ⟨_,h⟩ | ⟨_,h⟩ | ⟨_,h⟩
      ·exact .inl h
      ·exact .inr (.inl h)
      ·exact .inr (.inr h)
   ·rw[List.pairwise_map];refine List.Pairwise.imp_of_mem (fun {a b} ha hb hab hS=>hab ?_) (hn.filter _);rw[List.mem_filter,decide_eq_true_eq] at ha hb;obtain⟨a0,a1⟩:=hk2 a ha.2;obtain⟨b0,b1⟩:=hk2 b hb.2;have ga:=(hf a ha.1).1;have gb:=(hf b hb.1).1;exact strict_uniq ga.1 gb.1 fun z=>⟨same_sub hs ga gb a0 a1 (fun r hr=>⟨(hS r hr).1.1,(hS r hr).2.1.1,(hS r hr).2.2.1⟩) z,
     same_sub hs gb ga b0 b1 (fun r hr=>⟨(hS r hr).1.2,(hS r hr).2.1.2,(hS r hr).2.2.2⟩) z⟩
  have:=G.le398;rw[List.length_map] at this;exact this
 simp only[List.map_cons,List.map_nil,List.sum_cons,List.sum_nil] at hc;omega
theorem numF_some{α:Type}[DecidableEq α]{most:Nat}{step:α→List (Option α)}{first:α}{P:α→Prop}(hfew:∀sts:List α,sts.Nodup→(∀s∈sts,P s)→sts.length≤most)
  (hstep:∀s,P s→∀s',some s'∈step s→P s'):∀(f i:Nat) {sts:List α} {rows:List (List Int)},NumI most step first i sts rows→(∀s∈sts,P s)→most<f+i→
  ∃r,numF most step f i sts rows=some r
 | 0,i,sts,rows,h,_,h1=>by have:=h.le;have:=h.few;omega
 | f+1,i,sts,rows,h,hP,h1=>by
  unfold numF;split
  ·exact⟨_,rfl⟩
  ·rename_i st hst;obtain⟨_,h2,h3,_⟩:=addAll_ok (step st) sts;have hP2:∀s∈(addAll sts (step st)).1,P s:=fun s hs=>by
    rcases h3 s hs with h4 | h4
    ·exact hP s h4
    ·exact hstep st (hP st (gM hst)) s h4
   have hm:=hfew _ (h2 h.nodup) hP2;rw[if_pos hm];exact numF_some hfew hstep f (i+1) (h.next hst hm) hP2 zo
theorem autoI_some{g:Gram}(hs:Small g):∃I rows,autoI g=some (I,rows):=by
 have h:=numF_some (most:=400) (step:=stepI g) (first:=firstI g) (P:=PathSt g) (fun sts hn hp=>states_few hs hn hp) (fun s hp s' hs'=>by
  obtain⟨y,hy,e⟩:=List.mem_map.1 hs';split at e
  ·cases e
  ·rename_i hk;obtain rfl:=Option.some.inj e;obtain⟨k,hk1,hk2⟩:=List.getElem_of_mem hy;have hy2:=(symsL_ok (g:=g) (k:=k) (y:=y) (by rw[gE hk1,hk2])).1;obtain⟨w,hw,_⟩:=hp;have hn:=stW_next hs hw hy2;refine⟨_,hn,.inr ?_⟩;cases hkn:kern g s y with
   | nil=>exact absurd hkn hk
   | cons z t=>
    have hz:z∈kern g s y:=by rw[hkn];exact List.mem_cons_self ..
    exact⟨z,(hn.2 z).1 ((mem_closL fun x hx=>(kern_ok x hx).1).2 (.base hz)),(kern_ok z hz).2⟩) 401 0
  (NumI.begin (stepI g) (firstI g) (by decide)) (fun s h=>by
   rw[List.mem_singleton] at h;subst h;exact⟨[],stW_first hs,.inl rfl⟩) zo
 obtain⟨⟨I,rows⟩,h⟩:=h;exact⟨I,rows,h⟩
inductive Rch(g:Gram):Nat→Prop
 | start:Rch g g.start
 | more {r:Rule} {m:Nat}:r∈g.rules→Rch g r.left→⟨false,m⟩∈r.right→Rch g m
inductive Fol(g:Gram):Nat→Nat→Prop
 | start:Fol g g.start g.terms
 | beg {r:Rule} {pre post:List Sym} {m t:Nat}:r∈g.rules→Rch g r.left→r.right=pre++⟨false,m⟩::post→BegL g post t→Fol g m t
 | pass {r:Rule} {pre post:List Sym} {m t:Nat}:r∈g.rules→Rch g r.left→r.right=pre++⟨false,m⟩::post→NulL g post→Fol g r.left t→Fol g m t
def leftL(g:Gram)(k:Nat):Nat:=((g.rules[k]?).map (·.left)).getD 0
def FolA(g:Gram)(x:Lr)(t:Nat):Prop:=if x.rule<g.rules.length then Fol g (leftL g x.rule) t else t=g.terms
theorem leftL_at{g:Gram}{k:Nat}{r:Rule}(h:g.rules[k]?=some r):leftL g k=r.left:=by unfold leftL;rw[h];rfl
inductive LalA(g:Gram)(I:List (List Lr))(rows:List (List Int)):Nat→Lr→Nat→Prop
 | start:LalA g I rows 0 ⟨g.rules.length,0⟩ g.terms
 | goto {s s' t:Nat} {x:Lr} {y:Sym}:LalA g I rows s x t→itI I s x→afterL g x=some y→goR g rows s y=some s'→LalA g I rows s' ⟨x.rule,x.dot+1⟩ t
 | beg0 {x:Lr} {k t:Nat} {r:Rule}:itI I 0 x→afterL g x=some ⟨false,r.left⟩→g.rules[k]?=some r→BegL g (restL g x) t→LalA g I rows 0 ⟨k,0⟩ t
 | beg {s s' u t k:Nat} {v x:Lr} {y:Sym} {r:Rule}:LalA g I rows s v u→itI I s v→goR g rows s y=some s'→itI I s' x→afterL g x=some ⟨false,r.left⟩→g.rules[k]?=some r→BegL g (restL g x) t→LalA g I rows s' ⟨k,0⟩ t
 | pass {s t k:Nat} {x:Lr} {r:Rule}:LalA g I rows s x t→itI I s x→afterL g x=some ⟨false,r.left⟩→g.rules[k]?=some r→NulL g (restL g x)→LalA g I rows s ⟨k,0⟩ t
noncomputable def lookS(g:Gram)(I:List (List Lr))(la:Nat→Lr→Nat→Prop):List (List Look):=(List.range I.length).map fun s=>(I.getD s []).map fun x=>⟨x,maskOf (la s x) (g.terms+1)⟩
def laK(S:List (List Look))(s:Nat)(x:Lr)(t:Nat):Prop:=∃st m,S[s]?=some st∧⟨x,m⟩∈st∧m.testBit t=true
theorem lookS_at{g:Gram}{I:List (List Lr)}{la:Nat→Lr→Nat→Prop}{s:Nat}:(lookS g I la)[s]?=(I[s]?).map fun st=>st.map fun x=>⟨x,maskOf (la s x) (g.terms+1)⟩:=by
 unfold lookS;rw[List.getElem?_map];by_cases h:s<I.length
 ·rw[List.getElem?_range h,gE h,Option.map_some,Option.map_some,List.getD_eq_getElem?_getD,gE h];rfl
 ·rw[List.getElem?_eq_none (by simpa using h),List.getElem?_eq_none zo];rfl
theorem lookS_items{g:Gram}{I:List (List Lr)}{la:Nat→Lr→Nat→Prop}:(lookS g I la).map itemsK=I:=by
 apply List.ext_getElem?;intro s;rw[List.getElem?_map,lookS_at];cases I[s]? with
 | none=>rfl
 | some st=>
  rw[Option.map_some,Option.map_some];congr 1;unfold itemsK;rw[List.map_map];have:(fun x:Look=>x.item) ∘ (fun x=>(⟨x,maskOf (la s x) (g.terms+1)⟩:Look))=id:=rfl;rw[this,List.map_id]
theorem laK_lookS{g:Gram}{I:List (List Lr)}{la:Nat→Lr→Nat→Prop}{s:Nat}{x:Lr}{t:Nat}:laK (lookS g I la) s x t↔itI I s x∧la s x t∧t≤g.terms:=by
 unfold laK itI;constructor
 ·rintro⟨st,m,h1,h2,h3⟩;rw[lookS_at] at h1;cases hI:I[s]? with
  | none=>rw[hI] at h1;cases h1
  | some st0=>
   rw[hI] at h1;obtain rfl:=Option.some.inj h1;obtain⟨z,hz,e⟩:=List.mem_map.1 h2;simp only[Look.mk.injEq] at e;obtain⟨rfl,rfl⟩:=e;have:=(maskOf_bit _ _ _).1 h3;exact⟨⟨st0,rfl,hz⟩,this.2,by omega⟩
 ·rintro⟨⟨st0,h1,h2⟩,h3,h4⟩;exact⟨_,_,by rw[lookS_at,h1];rfl,List.mem_map.2 ⟨x,h2,rfl⟩,(maskOf_bit _ _ _).2 ⟨by omega,h3⟩⟩
theorem auto_reached{g:Gram}{I:List (List Lr)}{rows:List (List Int)}(h:autoI g=some (I,rows)):∀(s:Nat) (st:List Lr),I[s]?=some st→∀x∈st,x.rule<g.rules.length→Rch g (leftL g x.rule):=by
 obtain⟨hA,hN⟩:=autoI_ok h;have hclos:∀l:List Lr,(∀x∈l,x.rule<g.rules.length→Rch g (leftL g x.rule))→∀z,Clos g l z→z.rule<g.rules.length→Rch g (leftL g z.rule):=by
  intro l hl z hz
  induction hz with
  | base h=>exact hl _ h
  | @more x n k r h1 h2 h3 h4 ih=>
   intro _;show Rch g (leftL g k);rw[leftL_at h3,h4];rw[afterL_right] at h2;unfold rightL at h2;split at h2
   ·have:=List.mem_singleton.1 (gM h2);simp only[Sym.mk.injEq,true_and] at this;subst this;exact .start
   ·cases hr:g.rules[x.rule]? with
    | none=>rw[hr] at h2;simp at h2
    | some r2=>
     rw[hr] at h2;have h5:=ih (gS hr).1;rw[leftL_at hr] at h5;exact .more (gM hr) h5 (gM h2)
 refine hN.all (P:=fun st=>∀x∈st,x.rule<g.rules.length→Rch g (leftL g x.rule)) (fun x hx=>?_) (fun st s hst hs=>?_)
 ·refine hclos _ (fun y hy hlt=>?_) x ((mem_closL start_ok).1 hx);rw[List.mem_singleton.1 hy] at hlt;exact absurd hlt (Nat.lt_irrefl _)
 ·obtain⟨y,_,hy⟩:=List.mem_map.1 hs;split at hy
  ·cases hy
  ·obtain rfl:=Option.some.inj hy;intro x hx;refine hclos _ (fun z hz=>?_) x ((mem_closL fun z hz=>(kern_ok z hz).1).1 hx);obtain⟨q,hq,_,rfl⟩:=mem_kern.1 hz;exact hst q hq
theorem split_at{g:Gram}{k d:Nat}{r:Rule}{y:Sym}(hr:g.rules[k]?=some r)(h:afterL g ⟨k,d⟩=some y):r.right=r.right.take d++y::restL g ⟨k,d⟩:=by
 rw[afterL_right] at h;have h:(rightL g k)[d]?=some y:=h;have e:restL g ⟨k,d⟩=(rightL g k).drop (d+1):=rfl;rw[e,rightL_rule hr];rw[rightL_rule hr] at h;obtain⟨h1,h2⟩:=gS h;rw[←h2,←List.drop_eq_getElem_cons h1,List.take_append_drop]
theorem rest_start{g:Gram}{d:Nat}{y:Sym}(h:afterL g ⟨g.rules.length,d⟩=some y):y=⟨false,g.start⟩∧d=0∧restL g ⟨g.rules.length,d⟩=[]:=by
 rw[afterL_right] at h;have h:(rightL g g.rules.length)[d]?=some y:=h;rw[rightL_start] at h;cases d with
 | zero=>
  refine⟨(Option.some.inj h).symm,rfl,?_⟩;show (rightL g g.rules.length).drop 1=[];rw[rightL_start];rfl
 | succ d=>simp at h
theorem slr_ok{g:Gram}(hg:Valid g){I:List (List Lr)}{rows:List (List Int)}(h:autoI g=some (I,rows)):LRok g (itI I) (laK (lookS g I fun _=>FolA g)) (goR g rows):=by
 obtain⟨hA,hN⟩:=autoI_ok h;obtain⟨st0,hst0,hz⟩:=hA.zero;refine hA.lr hg (laK_lookS.2 ⟨⟨st0,hst0,(hz _).2 (.base me)⟩,?_,Nat.le_refl _⟩) ?_ ?_
 ·unfold FolA;rw[if_neg (Nat.lt_irrefl _)]
 ·intro s x k r t u hit hu ha hr hb;rw[laK_lookS];obtain⟨st,hst,hx⟩:=hit;have hk:=(gS hr).1;obtain⟨xr,xd⟩:=x;have hit2:itI I s ⟨k,0⟩:=by
   rcases Nat.eq_zero_or_pos s with rfl | hp
   ·rw[hst0] at hst;obtain rfl:=Option.some.inj hst;exact⟨_,hst0,(hz _).2 (.more ((hz _).1 hx) ha hr rfl)⟩
   ·obtain⟨l,_,_,h3⟩:=hA.from_ s st hp hst;exact⟨st,hst,(h3 _).2 (.more ((h3 _).1 hx) ha hr rfl)⟩
  have hfol:FolA g ⟨k,0⟩ t:=by
   unfold FolA;rw[if_pos hk,leftL_at hr];by_cases hxr:xr<g.rules.length
   ·have hr2:=gE hxr;generalize g.rules[xr]=r2 at hr2;have hm2:=gM hr2;have hre:=auto_reached h s st hst _ hx hxr;have hre:Rch g (leftL g xr):=hre;rw[leftL_at hr2] at hre;have hsp:=split_at hr2 ha;rcases hb with hb | ⟨hb1,hb2⟩
    ·exact .beg hm2 hre hsp hb
    ·have h5:=(laK_lookS.1 hb2).2.1;unfold FolA at h5;rw[if_pos hxr] at h5;have h5:Fol g (leftL g xr) t:=h5;rw[leftL_at hr2] at h5;exact .pass hm2 hre hsp hb1 h5
   ·have hxe:xr=g.rules.length:=by
     have:=(afterL_right (g:=g) (x:=⟨xr,xd⟩)).symm.trans ha;have h2:(rightL g xr)[xd]?=some ⟨false,r.left⟩:=this;rcases Nat.lt_or_ge g.rules.length xr with h3 | h3
     ·unfold rightL at h2;rw[if_neg zo,List.getElem?_eq_none (l:=g.rules) (i:=xr) zo] at h2;simp at h2
     ·omega
    subst hxe;obtain⟨h1,_,h3⟩:=rest_start ha;simp only[Sym.mk.injEq,true_and] at h1;rw[h1];rcases hb with hb | ⟨_,hb2⟩
    ·rw[h3] at hb;obtain⟨pre,s1,post,e,_⟩:=hb;exact absurd (congrArg List.length e) (by simp)
    ·have h5:=(laK_lookS.1 hb2).2.1;unfold FolA at h5;rw[if_neg (Nat.lt_irrefl _)] at h5;rw[h5];exact .start
  refine⟨hit2,hfol,?_⟩;rcases hb with hb | ⟨_,hb2⟩
  ·exact Nat.le_of_lt (rest_lt hg hb)
  ·exact(laK_lookS.1 hb2).2.2
 ·intro s s' x y hit ha hgo t ht;obtain⟨_,h2,h3⟩:=laK_lookS.1 ht;obtain⟨st,st',h4,h5,_,h6⟩:=hA.goes hg hgo;obtain⟨st2,h7,hx⟩:=hit;rw[h4] at h7;obtain rfl:=Option.some.inj h7;exact laK_lookS.2 ⟨⟨st',h5,(h6 _).2 (.base (mem_kern.2 ⟨x,hx,ha,rfl⟩))⟩,h2,h3⟩
theorem LalA.le{g:Gram}(hg:Valid g){I:List (List Lr)}{rows:List (List Int)}{s:Nat}{x:Lr}{t:Nat}(h:LalA g I rows s x t):t≤g.terms:=by
 induction h with
 | start=>exact Nat.le_refl _
 | goto _ _ _ _ ih=>exact ih
 | beg0 _ _ _ h=>exact Nat.le_of_lt (rest_lt hg h)
 | beg _ _ _ _ _ _ h _=>exact Nat.le_of_lt (rest_lt hg h)
 | pass _ _ _ _ _ ih=>exact ih
theorem lalr_ok{g:Gram}(hg:Valid g){I:List (List Lr)}{rows:List (List Int)}(h:autoI g=some (I,rows)):LRok g (itI I) (laK (lookS g I (LalA g I rows))) (goR g rows):=by
 obtain⟨hA,hN⟩:=autoI_ok h;obtain⟨st0,hst0,hz⟩:=hA.zero;have hclos:∀{s:Nat} {x:Lr} {k:Nat} {r:Rule},itI I s x→afterL g x=some ⟨false,r.left⟩→g.rules[k]?=some r→itI I s ⟨k,0⟩:=fun {s x k r} ⟨st,hst,hx⟩ ha hr=>by
  rcases Nat.eq_zero_or_pos s with rfl | hp
  ·rw[hst0] at hst;obtain rfl:=Option.some.inj hst;exact⟨_,hst0,(hz _).2 (.more ((hz _).1 hx) ha hr rfl)⟩
  ·obtain⟨l,_,_,h3⟩:=hA.from_ s st hp hst;exact⟨st,hst,(h3 _).2 (.more ((h3 _).1 hx) ha hr rfl)⟩
 refine hA.lr hg (laK_lookS.2 ⟨⟨st0,hst0,(hz _).2 (.base me)⟩,.start,Nat.le_refl _⟩) ?_ ?_
 ·intro s x k r t u hit hu ha hr hb;rw[laK_lookS];refine⟨hclos hit ha hr,?_,?_⟩
  ·rcases hb with hb | ⟨hb1,hb2⟩
   ·obtain⟨_,hu2,_⟩:=laK_lookS.1 hu;have hrecv:∀{s:Nat} {x:Lr} {u:Nat},LalA g I rows s x u→s=0∨∃(q:Nat) (v:Lr) (u2:Nat) (y:Sym),LalA g I rows q v u2∧itI I q v∧goR g rows q y=some s:=by
     intro s x u h
     induction h with
     | start=>exact .inl rfl
     | goto h1 h2 h3 h4 _=>exact .inr ⟨_,_,_,_,h1,h2,h4⟩
     | beg0 _ _ _ _=>exact .inl rfl
     | beg h1 h2 h3 _ _ _ _ _=>exact .inr ⟨_,_,_,_,h1,h2,h3⟩
     | pass _ _ _ _ _ ih=>exact ih
    rcases hrecv hu2 with rfl | ⟨q,v,u2,y,h1,h2,h3⟩
    ·exact .beg0 hit ha hr hb
    ·exact .beg h1 h2 h3 hit ha hr hb
   ·exact .pass (laK_lookS.1 hb2).2.1 hit ha hr hb1
  ·rcases hb with hb | ⟨_,hb2⟩
   ·exact Nat.le_of_lt (rest_lt hg hb)
   ·exact(laK_lookS.1 hb2).2.2
 ·intro s s' x y hit ha hgo t ht;obtain⟨_,h2,h3⟩:=laK_lookS.1 ht;obtain⟨st,st',h4,h5,_,h6⟩:=hA.goes hg hgo;have hit2:=hit;obtain⟨st2,h7,hx⟩:=hit;rw[h4] at h7;obtain rfl:=Option.some.inj h7;exact laK_lookS.2 ⟨⟨st',h5,(h6 _).2 (.base (mem_kern.2 ⟨x,hx,ha,rfl⟩))⟩,.goto h2 hit2 ha hgo,h3⟩
theorem lr1_ok{g:Gram}(hg:Valid g){S:List (List Look)}{rows:List (List Int)}(h:autoK g=some (S,rows)):LRok g (itI (S.map itemsK)) (laK S) (goR g rows):=by
 obtain⟨hA,hN⟩:=autoK_ok h
 have hform:∀(s:Nat) (st:List Look),S[s]?=some st→∃l,st=closeK g l∧∀x∈itemsK l,OkLr g x:=hN.all (P:=fun st=>∃l,st=closeK g l∧∀x∈itemsK l,OkLr g x) ⟨_,rfl,start_ok⟩ (fun st s _ hs=>by
  obtain⟨y,_,hy⟩:=List.mem_map.1 hs;split at hy
  ·cases hy
  ·obtain rfl:=Option.some.inj hy;exact⟨_,rfl,fun x hx=>by rw[kernK_items] at hx;exact(kern_ok x hx).1⟩)
 have hit_of:∀{s:Nat} {x:Lr},itI (S.map itemsK) s x→∃st l,S[s]?=some st∧st=closeK g l∧(∀x∈itemsK l,OkLr g x)∧Clos g (itemsK l) x:=fun {s x} ⟨st,hst,hx⟩=>by
  rw[List.getElem?_map] at hst;cases hk:S[s]? with
  | none=>rw[hk] at hst;cases hst
  | some sk=>
   rw[hk] at hst;obtain rfl:=Option.some.inj hst;obtain⟨l,rfl,hl⟩:=hform s sk hk;rw[closeK_items,mem_closL hl] at hx;exact⟨_,l,rfl,rfl,hl,hx⟩
 have hla:∀{s:Nat} {l:List Look} {x:Lr} {t:Nat},S[s]?=some (closeK g l)→(∀x∈itemsK l,OkLr g x)→(laK S s x t↔LAc g l x t):=fun {s l x t} hs hl=>by
  rw[←look_closeK hg hl];unfold laK;constructor
  ·rintro⟨st,m,h1,h2,h3⟩;rw[hs] at h1;obtain rfl:=Option.some.inj h1;exact⟨m,h2,h3⟩
  ·rintro⟨m,h2,h3⟩;exact⟨_,m,hs,h2,h3⟩
 refine hA.lr hg ?_ ?_ ?_
 ·rw[hla (l:=[⟨⟨g.rules.length,0⟩,2 ^ g.terms⟩]) hN.first start_ok]
  exact .base me (by simp) (Nat.le_refl _)
 ·intro s x k r t u hit hu ha hr hb;obtain⟨st,l,h1,rfl,hl,hx⟩:=hit_of hit;rw[hla h1 hl];rcases hb with hb | ⟨hb1,hb2⟩
  ·exact .beg hx ha hr hb
  ·exact .pass hx ha hr hb1 ((hla h1 hl).1 hb2)
 ·intro s s' x y hit ha hgo t ht;obtain⟨st,l,h1,rfl,hl,hx⟩:=hit_of hit;have hy:=afterL_sym hg ha;have hmem:∃m,⟨x,m⟩∈closeK g l∧m.testBit t=true:=by
   obtain⟨st,m,g1,g2,g3⟩:=ht;rw[h1] at g1;obtain rfl:=Option.some.inj g1;exact⟨m,g2,g3⟩
  obtain⟨m,hm,hmt⟩:=hmem;have hk:(⟨⟨x.rule,x.dot+1⟩,m⟩:Look)∈kernK g (closeK g l) y:=mem_kernK.2 ⟨x,hm,ha,rfl⟩;have hne:kernK g (closeK g l) y≠[]:=fun e=>by rw[e] at hk;cases hk
  have hl2:∀z∈itemsK (kernK g (closeK g l) y),OkLr g z:=fun z hz=>by rw[kernK_items] at hz;exact(kern_ok z hz).1
  obtain⟨row,hrow⟩:∃row,rows[s]?=some row:=⟨_,gE (by rw[hN.len];exact(gS h1).1)⟩;obtain⟨j,g1,g2⟩:=(hN.row s _ row h1 hrow).yes (idxS g y) (closeK g (kernK g (closeK g l) y)) (by
   unfold stepK;rw[map_at (symsL_at hy),if_neg hne])
  have e:goR g rows s y=some j:=by
   unfold goR;rw[if_pos (symB_iff.2 hy),hrow];dsimp only;rw[g1];simp
  rw[hgo] at e;obtain rfl:=Option.some.inj e;rw[hla g2 hl2];exact .base hk hmt (by
   have:=(hla h1 hl).1 ht;exact this.le hg)
def bitsL(l:List Look)(x:Lr)(t:Nat):Prop:=∃m,(⟨x,m⟩:Look)∈l∧m.testBit t=true
def mergeL:List Look→List Look→List Look
 | r::rs,x::xs=>⟨r.item,r.set ||| x.set⟩::mergeL rs xs
 | rs,_=>rs
theorem mergeL_nil(row:List Look):mergeL row []=row:=by cases row<;>rfl
theorem mergeL_items:∀(row l:List Look),itemsK (mergeL row l)=itemsK row
 | [],l=>by cases l<;>rfl
 | r::rs,[]=>rfl
 | r::rs,x::xs=>by
  have:=mergeL_items rs xs;unfold itemsK at this ⊢;show r.item::_=r.item::_;rw[this]
theorem mergeL_len(row l:List Look):(mergeL row l).length=row.length:=by
 have:=congrArg List.length (mergeL_items row l);unfold itemsK at this
 rwa [List.length_map,List.length_map] at this
theorem mergeL_step:∀{row l:List Look} {j:Nat} {r x:Look},row[j]?=some r→l[j]?=some x→mergeL row (l.take (j+1))=(mergeL row (l.take j)).set j ⟨r.item,r.set ||| x.set⟩∧(mergeL row (l.take j))[j]?=some r
 | [],_,_,_,_,h,_=>by simp at h
 | _::_,[],_,_,_,_,h=>by simp at h
 | r0::rs,x0::xs,0,r,x,h1,h2=>by
  simp only[List.getElem?_cons_zero,Option.some.injEq] at h1 h2;subst h1 h2;refine⟨?_,rfl⟩;show ⟨r0.item,r0.set ||| x0.set⟩::mergeL rs (xs.take 0)=_
  rw[List.take_zero,mergeL_nil];rfl
 | r0::rs,x0::xs,j+1,r,x,h1,h2=>by
  have:=@mergeL_step rs xs j r x (by simpa using h1) (by simpa using h2);refine⟨?_,this.2⟩;show ⟨r0.item,r0.set ||| x0.set⟩::mergeL rs (xs.take (j+1))=(⟨r0.item,r0.set ||| x0.set⟩::mergeL rs (xs.take j)).set (j+1) _
  rw[this.1];rfl
theorem mergeL_bits:∀{row l:List Look},itemsK row=itemsK l→∀x t,bitsL (mergeL row l) x t↔bitsL row x t∨bitsL l x t
 | [],[],_,x,t=>by unfold mergeL;exact⟨.inl,fun h=>h.elim id id⟩
 | [],_::_,h,_,_=>by cases h
 | _::_,[],h,_,_=>by cases h
 | r::rs,y::ys,h,x,t=>by
  unfold itemsK at h;simp only[List.map_cons,List.cons.injEq] at h;obtain⟨h1,h2⟩:=h;have ih:=mergeL_bits (row:=rs) (l:=ys) h2 x t;obtain⟨ri,rm⟩:=r;obtain⟨yi,ym⟩:=y;dsimp only at h1;subst h1;have hc:∀(z:Look) (l:List Look),bitsL (z::l) x t↔(z.item=x∧z.set.testBit t=true)∨bitsL l x t:=fun z l=>by
   obtain⟨zi,zm⟩:=z;constructor
   ·rintro⟨m,hm,ht⟩;rcases List.mem_cons.1 hm with e | e
    ·simp only[Look.mk.injEq] at e;exact .inl ⟨e.1.symm,by rw[←e.2];exact ht⟩
    ·exact .inr ⟨m,e,ht⟩
   ·rintro(⟨h1,h2⟩ | ⟨m,hm,ht⟩)
    ·exact⟨zm,by dsimp only at h1;rw[h1];exact List.mem_cons_self ..,h2⟩
    ·exact⟨m,List.mem_cons_of_mem _ hm,ht⟩
  show bitsL (⟨ri,rm ||| ym⟩::mergeL rs ys) x t↔_
  rw[hc,hc,hc,ih];dsimp only;rw[Nat.testBit_or,Bool.or_eq_true];constructor
  ·rintro(⟨h3,h4 | h4⟩ | h3 | h3)
   ·exact .inl (.inl ⟨h3,h4⟩)
   ·exact .inr (.inl ⟨h3,h4⟩)
   ·exact .inl (.inr h3)
   ·exact .inr (.inr h3)
  ·rintro((⟨h3,h4⟩ | h3) | (⟨h3,h4⟩ | h3))
   ·exact .inl ⟨h3,.inl h4⟩
   ·exact .inr (.inl h3)
   ·exact .inl ⟨h3,.inr h4⟩
   ·exact .inr (.inr h3)
theorem mergeL_small{B:Nat}:∀{row l:List Look},(∀x∈row,x.set<2 ^ B)→(∀x∈l,x.set<2 ^ B)→∀x∈mergeL row l,x.set<2 ^ B
 | [],l,h,_,x,hx=>by cases l<;>exact h x hx
 | r::rs,[],h,_,x,hx=>h x hx
 | r::rs,y::ys,h1,h2,x,hx=>by
  rcases List.mem_cons.1 hx with e | e
  ·rw[e];exact Nat.or_lt_two_pow (h1 r me) (h2 y me)
  ·exact mergeL_small (fun x hx=>h1 x (List.mem_cons_of_mem _ hx)) (fun x hx=>h2 x (List.mem_cons_of_mem _ hx)) x e
def roomL(l:List Look):Nat:=(l.map fun x=>512-x.set).sum
def roomT(L:List (List Look)):Nat:=(L.map roomL).sum
theorem mergeL_room:∀{row l:List Look},(∀x∈row,x.set<512)→(∀x∈mergeL row l,x.set<512)→roomL (mergeL row l)≤roomL row∧(mergeL row l≠row→roomL (mergeL row l)<roomL row)
 | [],l,_,_=>by cases l<;>exact⟨Nat.le_refl _,fun h=>absurd rfl h⟩
 | r::rs,[],_,_=>⟨Nat.le_refl _,fun h=>absurd rfl h⟩
 | r::rs,y::ys,h1,h2=>by
  obtain⟨a1,a2⟩:=mergeL_room (row:=rs) (l:=ys) (fun x hx=>h1 x (List.mem_cons_of_mem _ hx)) (fun x hx=>h2 x (List.mem_cons_of_mem _ hx));have b1:=h1 r me;have b2:r.set ||| y.set<512:=h2 ⟨r.item,r.set ||| y.set⟩ me
  have b3:r.set≤r.set ||| y.set:=Nat.left_le_or
  show (512-(r.set ||| y.set))+roomL (mergeL rs ys)≤(512-r.set)+roomL rs∧((⟨r.item,r.set ||| y.set⟩::mergeL rs ys:List Look)≠r::rs→(512-(r.set ||| y.set))+roomL (mergeL rs ys)<(512-r.set)+roomL rs)
  refine⟨by omega,fun hne=>?_⟩;by_cases e:r.set ||| y.set=r.set
  ·have:mergeL rs ys≠rs:=fun e2=>hne (by rw[e,e2]);have:=a2 this;omega
  ·omega
theorem roomT_set{L:List (List Look)}{k:Nat}{row row':List Look}(h:L[k]?=some row):roomT (L.set k row')+roomL row=roomT L+roomL row':=by
 unfold roomT;rw[List.map_set];exact sum_set (by rw[List.getElem?_map,h];rfl)
theorem laK_iff{S:List (List Look)}{s:Nat}{x:Lr}{t:Nat}:laK S s x t↔∃st,S[s]?=some st∧bitsL st x t:=
 ⟨fun ⟨st,m,h1,h2,h3⟩=>⟨st,h1,m,h2,h3⟩,fun ⟨st,h1,m,h2,h3⟩=>⟨st,m,h1,h2,h3⟩⟩
theorem laK_set{L:List (List Look)}{k:Nat}{row l:List Look}(hk:L[k]?=some row)(hi:itemsK row=itemsK l){s:Nat}{x:Lr}{t:Nat}:laK (L.set k (mergeL row l)) s x t↔laK L s x t∨(s=k∧bitsL l x t):=by
 have hlt:=(gS hk).1;rw[laK_iff,laK_iff];by_cases e:s=k
 ·subst e;rw[List.getElem?_set_self hlt];constructor
  ·rintro⟨st,h1,h2⟩;obtain rfl:=Option.some.inj h1;rcases (mergeL_bits hi x t).1 h2 with h3 | h3
   ·exact .inl ⟨row,hk,h3⟩
   ·exact .inr ⟨rfl,h3⟩
  ·rintro(⟨st,h1,h2⟩ | ⟨_,h2⟩)
   ·rw[hk] at h1;obtain rfl:=Option.some.inj h1;exact⟨_,rfl,(mergeL_bits hi x t).2 (.inl h2)⟩
   ·exact⟨_,rfl,(mergeL_bits hi x t).2 (.inr h2)⟩
 ·rw[List.getElem?_set_ne (fun e2=>e e2.symm)];exact⟨.inl,fun h=>h.resolve_right fun h2=>e h2.1⟩
section
variable {g:Gram}{I:List (List Lr)}{rows:List (List Int)}
structure LaI(g:Gram)(I:List (List Lr))(rows:List (List Int))(L:List (List Look)):Prop where
 items:L.map itemsK=I
 small:∀st∈L,∀x∈st,x.set<2 ^ (g.terms+1)
 snd:∀s x t,laK L s x t→LalA g I rows s x t
 pass:∀s x t k r,laK L s x t→afterL g x=some ⟨false,r.left⟩→g.rules[k]?=some r→NulL g (restL g x)→laK L s ⟨k,0⟩ t
def CloA(g:Gram)(rows:List (List Int))(L:List (List Look))(s:Nat)(y:Sym):Prop:=∀s' st,goR g rows s y=some s'→L[s]?=some st→∀z t,LAc g (kernK g st y) z t→laK L s' z t
def ZeroA(L:List (List Look))(s:Nat):Prop:=∀x t,¬laK L s x t
theorem LaI.it{L:List (List Look)}(h:LaI g I rows L){s:Nat}{x:Lr}{t:Nat}(hl:laK L s x t):itI I s x:=by
 obtain⟨st,m,h1,h2,_⟩:=hl;refine⟨itemsK st,?_,List.mem_map.2 ⟨_,h2,rfl⟩⟩;rw[←h.items,List.getElem?_map,h1];rfl
theorem LaI.put{L:List (List Look)}(h:LaI g I rows L){k:Nat}{row l:List Look}(hk:L[k]?=some row)(hi:itemsK row=itemsK l)(hl:∀x∈l,x.set<2 ^ (g.terms+1))
  (hs:∀x t,bitsL l x t→LalA g I rows k x t) (hp:∀x t j r,bitsL l x t→afterL g x=some ⟨false,r.left⟩→g.rules[j]?=some r→NulL g (restL g x)→bitsL l ⟨j,0⟩ t):LaI g I rows (L.set k (mergeL row l)):=by
 have hlt:=(gS hk).1;refine⟨?_,fun st hst=>?_,fun s x t ht=>?_,fun s x t j r ht h1 h2 h3=>?_⟩
 ·rw[←h.items,List.map_set,mergeL_items];apply List.ext_getElem?;intro i;by_cases e:i=k
  ·subst e;rw[List.getElem?_set_self (by simpa using hlt),List.getElem?_map,hk];rfl
  ·rw[List.getElem?_set_ne (fun e2=>e e2.symm)]
 ·rcases List.mem_or_eq_of_mem_set hst with h1 | h1
  ·exact h.small st h1
  ·rw[h1];exact mergeL_small (h.small row (gM hk)) hl
 ·rcases (laK_set hk hi).1 ht with h1 | ⟨rfl,h1⟩
  ·exact h.snd _ _ _ h1
  ·exact hs _ _ h1
 ·rw[laK_set hk hi] at ht ⊢;rcases ht with h4 | ⟨rfl,h4⟩
  ·exact .inl (h.pass _ _ _ _ _ h4 h1 h2 h3)
  ·exact .inr ⟨rfl,hp _ _ _ _ h4 h1 h2 h3⟩
theorem closeK_bits(hg:Valid g){l:List Look}(hl:∀x∈itemsK l,OkLr g x){z:Lr}{t:Nat}:bitsL (closeK g l) z t↔LAc g l z t:=look_closeK hg hl
theorem closeK_small{l:List Look}:∀x∈closeK g l,x.set<2 ^ (g.terms+1):=fun x hx=>by
 obtain⟨z,_,rfl⟩:=List.mem_map.1 hx;exact maskOf_lt _ _
theorem goto_exact(hg:Valid g)(h:autoI g=some (I,rows)){s s':Nat}{y:Sym}{st:List Lr}(hgo:goR g rows s y=some s')(hs:I[s]?=some st):I[s']?=some (closL g (kern g st y)):=by
 obtain⟨hA,hN⟩:=autoI_ok h;obtain⟨st2,st',h4,h5,_,h6⟩:=hA.goes hg hgo;rw[hs] at h4;obtain rfl:=Option.some.inj h4
 have hst:Strict st':=hN.all (P:=Strict) (closL_strict g _) (fun a b _ hb=>by
  obtain⟨y,_,hy⟩:=List.mem_map.1 hb;split at hy
  ·cases hy
  ·obtain rfl:=Option.some.inj hy;exact closL_strict g _) s' st' h5
 rw[h5,closL_eq (fun x hx=>(kern_ok x hx).1) hst h6]
theorem LaI.goto(hg:Valid g)(hau:autoI g=some (I,rows)){L:List (List Look)}(h:LaI g I rows L){s s':Nat}{y:Sym}(hgo:goR g rows s y=some s'){st row:List Look}(hs:L[s]?=some st)(hk:L[s']?=some row)(hne:¬ZeroA L s) :
  itemsK row=itemsK (closeK g (kernK g st y))∧LaI g I rows (L.set s' (mergeL row (closeK g (kernK g st y)))):=by
 have hIs:I[s]?=some (itemsK st):=by rw[←h.items,List.getElem?_map,hs];rfl
 have hIk:I[s']?=some (itemsK row):=by rw[←h.items,List.getElem?_map,hk];rfl
 have hex:=goto_exact hg hau hgo hIs;rw[hIk] at hex;have hi:itemsK row=itemsK (closeK g (kernK g st y)):=by rw[closeK_items,kernK_items];exact Option.some.inj hex
 have hok:∀x∈itemsK (kernK g st y),OkLr g x:=fun x hx=>by rw[kernK_items] at hx;exact(kern_ok x hx).1
 refine⟨hi,h.put hk hi closeK_small (fun x t ht=>?_) (fun x t j r ht h1 h2 h3=>?_)⟩
 ·rw[closeK_bits hg hok] at ht;have hit:∀{x:Lr},Clos g (itemsK (kernK g st y)) x→itI I s' x:=fun {x} hx=>⟨itemsK row,hIk,by rw[hi,closeK_items];exact(mem_closL hok).2 hx⟩;have hsome:∃v u,laK L s v u:=by
   refine Classical.byContradiction fun hn=>hne fun x t hx=>hn ⟨x,t,hx⟩
  obtain⟨v,u,hvu⟩:=hsome
  induction ht with
  | base h4 h5 _=>
   obtain⟨x0,h6,h7,rfl⟩:=mem_kernK.1 h4;exact .goto (h.snd _ _ _ ⟨st,_,hs,h6,h5⟩) ⟨itemsK st,hIs,List.mem_map.2 ⟨_,h6,rfl⟩⟩ h7 hgo
  | beg h4 h5 h6 h7=>exact .beg (h.snd _ _ _ hvu) (h.it hvu) hgo (hit h4) h5 h6 h7
  | pass h4 h5 h6 h7 _ ih=>exact .pass ih (hit h4) h5 h6 h7
 ·rw[closeK_bits hg hok] at ht ⊢;exact .pass ht.clos h1 h2 h3 ht
theorem LaI.zero(hsm:True):LaI g I rows (I.map fun st=>st.map fun x=>(⟨x,0⟩:Look))∧∀s,ZeroA (I.map fun st=>st.map fun x=>(⟨x,0⟩:Look)) s:=by
 have hz:∀s x t,¬laK (I.map fun st=>st.map fun x=>(⟨x,0⟩:Look)) s x t:=fun s x t ⟨st,m,h1,h2,h3⟩=>by
  rw[List.getElem?_map] at h1;cases hI:I[s]? with
  | none=>rw[hI] at h1;cases h1
  | some st0=>
   rw[hI] at h1;obtain rfl:=Option.some.inj h1;obtain⟨x0,_,e⟩:=List.mem_map.1 h2;simp only[Look.mk.injEq] at e;rw[←e.2] at h3;simp at h3
 refine⟨⟨?_,fun st hst x hx=>?_,fun s x t ht=>absurd ht (hz s x t),fun s x t k r ht=>absurd ht (hz s x t)⟩,hz⟩
 ·rw[List.map_map];have:(itemsK ∘ fun st:List Lr=>st.map fun x=>(⟨x,0⟩:Look))=id:=by
   funext st;show (st.map fun x=>(⟨x,0⟩:Look)).map (·.item)=st;rw[List.map_map];exact List.map_id _
  rw[this,List.map_id]
 ·obtain⟨st0,_,rfl⟩:=List.mem_map.1 hst;obtain⟨x0,_,rfl⟩:=List.mem_map.1 hx;exact Nat.two_pow_pos _
def Started(g:Gram)(L:List (List Look)):Prop:=∀z t,LAc g [⟨⟨g.rules.length,0⟩,2 ^ g.terms⟩] z t→laK L 0 z t
theorem startK_ok:∀x∈itemsK [(⟨⟨g.rules.length,0⟩,2 ^ g.terms⟩:Look)],OkLr g x:=fun x hx=>start_ok x hx
theorem LaI.start(hg:Valid g)(hau:autoI g=some (I,rows)){L:List (List Look)}(h:LaI g I rows L){row:List Look}(hk:L[0]?=some row) :
  itemsK row=itemsK (firstK g)∧LaI g I rows (L.set 0 (mergeL row (firstK g)))∧Started g (L.set 0 (mergeL row (firstK g)))∧laK (L.set 0 (mergeL row (firstK g))) 0 ⟨g.rules.length,0⟩ g.terms:=by
 obtain⟨hA,hN⟩:=autoI_ok hau;have hIk:I[0]?=some (itemsK row):=by rw[←h.items,List.getElem?_map,hk];rfl
 have hi:itemsK row=itemsK (firstK g):=by
  have:=hN.first
  rw[hIk] at this;unfold firstK;rw[closeK_items];exact Option.some.inj this
 have hit:∀{x:Lr},Clos g (itemsK [(⟨⟨g.rules.length,0⟩,2 ^ g.terms⟩:Look)]) x→itI I 0 x:=fun {x} hx=>⟨itemsK row,hIk,by rw[hi];unfold firstK;rw[closeK_items];exact(mem_closL startK_ok).2 hx⟩;have hI:=h.put hk hi closeK_small (fun x t ht=>?_) (fun x t j r ht h1 h2 h3=>?_)
 ·have hst:Started g (L.set 0 (mergeL row (firstK g))):=fun z t ht=>(laK_set hk hi).2 (.inr ⟨rfl,(closeK_bits hg startK_ok).2 ht⟩);exact⟨hi,hI,hst,hst _ _ (.base (List.mem_singleton_self _) (by rw[Nat.testBit_two_pow_self]) (Nat.le_refl _))⟩
 ·rw[show firstK g=closeK g _ from rfl,closeK_bits hg startK_ok] at ht
  induction ht with
  | base h4 h5 _=>
   have e:=List.mem_singleton.1 h4;simp only[Look.mk.injEq] at e;obtain⟨rfl,rfl⟩:=e;rw[Nat.testBit_two_pow] at h5;have:g.terms=_:=of_decide_eq_true h5;rw[←this];exact .start
  | beg h4 h5 h6 h7=>exact .beg0 (hit h4) h5 h6 h7
  | pass h4 h5 h6 h7 _ ih=>exact .pass ih (hit h4) h5 h6 h7
 ·rw[show firstK g=closeK g _ from rfl,closeK_bits hg startK_ok] at ht ⊢;exact .pass ht.clos h1 h2 h3 ht
theorem LaI.done(hg:Valid g)(hau:autoI g=some (I,rows)){L:List (List Look)}(h:LaI g I rows L)(hst:Started g L)(hc:∀s,ZeroA L s∨∀y,CloA g rows L s y):L=lookS g I (LalA g I rows):=by
 obtain⟨hA,hN⟩:=autoI_ok hau;obtain⟨st0,hst0,hz⟩:=hA.zero;have hfull:∀{s:Nat} {x:Lr} {t:Nat},LalA g I rows s x t→laK L s x t:=by
  intro s x t hl;have hgo:∀{s s':Nat} {v:Lr} {u:Nat} {y:Sym},laK L s v u→goR g rows s y=some s'→∃st,L[s]?=some st∧I[s]?=some (itemsK st)∧∀z t,LAc g (kernK g st y) z t→laK L s' z t:=fun {s s' v u y} h1 h2=>by
   obtain⟨st,m,h3,_,_⟩:=id h1;exact⟨st,h3,by rw[←h.items,List.getElem?_map,h3];rfl,(hc s).resolve_left (fun hz=>hz _ _ h1) y s' st h2 h3⟩
  induction hl with
  | start=>exact hst _ _ (.base (List.mem_singleton_self _) (by rw[Nat.testBit_two_pow_self]) (Nat.le_refl _))
  | goto h1 h2 h3 h4 ih=>
   obtain⟨st,e1,_,e2⟩:=hgo ih h4;obtain⟨st',m,e3,e4,e5⟩:=id ih;rw[e1] at e3;obtain rfl:=Option.some.inj e3;exact e2 _ _ (.base (mem_kernK.2 ⟨_,e4,h3,rfl⟩) e5 (h1.le hg))
  | beg0 h1 h2 h3 h4=>
   obtain⟨st',e1,e2⟩:=h1;rw[hst0] at e1;obtain rfl:=Option.some.inj e1;exact hst _ _ (.beg ((hz _).1 e2) h2 h3 h4)
  | beg h1 h2 h3 h4 h5 h6 h7 ih=>
   obtain⟨st,e1,e3,e2⟩:=hgo ih h3;obtain⟨st',e4,e5⟩:=h4;have hex:=goto_exact hg hau h3 e3;rw[e4] at hex;obtain rfl:=Option.some.inj hex;refine e2 _ _ (.beg ?_ h5 h6 h7);rw[kernK_items];exact(mem_closL fun x hx=>(kern_ok x hx).1).1 e5
  | pass h1 h2 h3 h4 h5 ih=>exact h.pass _ _ _ _ _ ih h3 h4 h5
 apply List.ext_getElem?;intro s;rw[lookS_at];cases hL:L[s]? with
 | none=>
  have:I[s]?=none:=by rw[←h.items,List.getElem?_map,hL];rfl
  rw[this];rfl
 | some st=>
  have hIs:I[s]?=some (itemsK st):=by rw[←h.items,List.getElem?_map,hL];rfl
  rw[hIs];simp only[Option.map_some,Option.some.injEq]
  have hnd:(itemsK st).Nodup:=(hN.all (P:=Strict) (closL_strict g _) (fun a b _ hb=>by
   obtain⟨y,_,hy⟩:=List.mem_map.1 hb;split at hy
   ·cases hy
   ·obtain rfl:=Option.some.inj hy;exact closL_strict g _) s _ hIs).nodupL
  unfold itemsK at hnd ⊢;rw[List.map_map];have hkey:∀x∈st,x=(⟨x.item,maskOf (LalA g I rows s x.item) (g.terms+1)⟩:Look):=fun x hx=>by
   obtain⟨xi,xm⟩:=x;simp only[Look.mk.injEq,true_and];refine mask_uniq (h.small st (gM hL) _ hx) fun t=>⟨fun ht=>?_,fun ht=>?_⟩
   ·have:=h.snd s xi t ⟨st,xm,hL,hx,ht⟩;exact⟨Nat.lt_succ_of_le (this.le hg),this⟩
   ·obtain⟨st',m,e1,e2,e3⟩:=hfull ht.2;rw[hL] at e1;obtain rfl:=Option.some.inj e1;have:m=xm:=by
     have hpw:=List.pairwise_map.1 hnd;refine Classical.byContradiction fun hne=>?_;obtain⟨p,hp⟩:=List.getElem?_of_mem hx;obtain⟨q,hq⟩:=List.getElem?_of_mem e2;have hp1:=(gS hp).1;have hq1:=(gS hq).1;have hpq:p≠q:=fun e=>by
      subst e;rw[hp] at hq;simp only[Option.some.injEq,Look.mk.injEq,true_and] at hq;exact hne hq.symm
     have ep:st[p]=⟨xi,xm⟩:=(gS hp).2;have eq_:st[q]=⟨xi,m⟩:=(gS hq).2;have hall:=List.pairwise_iff_getElem.1 hpw;rcases Nat.lt_or_ge p q with h6 | h6
     ·exact hall p q hp1 hq1 h6 (by rw[ep,eq_])
     ·exact hall q p hq1 hp1 zo (by rw[ep,eq_])
    rw[←this];exact e3
  have:st.map (fun x=>(⟨x.item,maskOf (LalA g I rows s x.item) (g.terms+1)⟩:Look))=st:=by
   conv=>rhs;rw[←List.map_id st]
   exact List.map_congr_left fun x hx=>(hkey x hx).symm
  exact this.symm
end
def actsF(g:Gram)(st:List Look)(row:List Int)(t:Nat):List (Nat×Nat):=
 (if t<g.terms then (match row[t]? with | some j=>if 0≤j then [(1,j.toNat)] else [] | none=>[]) else [])++
 st.filterMap fun lk=>if afterL g lk.item=none∧lk.set.testBit t=true then some (if lk.item.rule<g.rules.length then (2,lk.item.rule) else (3,0)) else none
structure Tab where
 act:List (List (Nat×Nat))
 go:List (List Int)
 conf:List (Nat×Nat×List (Nat×Nat))
def allF(g:Gram)(S:List (List Look))(rows:List (List Int)):List (List (List (Nat×Nat))):=(List.range S.length).map fun s=>(List.range (g.terms+1)).map fun t=>actsF g (S.getD s []) (rows.getD s []) t
def confRow(s:Nat)(all:List (List (Nat×Nat)))(n:Nat):List (Nat×Nat×List (Nat×Nat)):=(List.range n).filterMap fun t=>if 1<(all.getD t []).length then some (s,t,all.getD t []) else none
def tabF(all:List (List (List (Nat×Nat))))(go:List (List Int)):Tab where
 act:=all.map fun r=>r.map fun l=>l.head?.getD (0,0)
 go:=go
 conf:=((List.range all.length).map fun s=>confRow s (all.getD s []) (all.getD s []).length).flatten
noncomputable def statesF(g:Gram)(method:Nat):Option (List (List Look)×List (List Int)):=
 if method=3 then autoK g else (autoI g).map fun a=>(lookS g a.1 (if method=1 then fun _=>FolA g else LalA g a.1 a.2),a.2)
noncomputable def tableF(g:Gram)(method:Nat):Option Tab:=(statesF g method).map fun a=>tabF (allF g a.1 a.2) (a.2.map (·.drop g.terms))
theorem statesF_ok{g:Gram}(hg:Valid g){method:Nat}{S:List (List Look)}{rows:List (List Int)}(h:statesF g method=some (S,rows)):AutoC g (S.map itemsK) rows∧LRok g (itI (S.map itemsK)) (laK S) (goR g rows):=by
 unfold statesF at h;split at h
 ·exact⟨(autoK_ok h).1,lr1_ok hg h⟩
 ·cases hA:autoI g with
  | none=>rw[hA] at h;cases h
  | some a=>
   obtain⟨I,rows0⟩:=a;rw[hA] at h;have e:=Option.some.inj h;simp only[Prod.mk.injEq] at e;obtain⟨rfl,rfl⟩:=e;rw[lookS_items];refine⟨(autoI_ok hA).1,?_⟩;split
   ·exact slr_ok hg hA
   ·exact lalr_ok hg hA
def decA:Nat×Nat→Act
 | (1,j)=>.shift j
 | (2,k)=>.red k
 | (3,_)=>.acc
 | _=>.no
def actT(T:Tab)(s t:Nat):Act:=decA ((T.act.getD s []).getD t (0,0))
theorem getD_some{α:Type}{l:List α}{i:Nat}{a d:α}(h:l[i]?=some a):l.getD i d=a:=by rw[List.getD_eq_getElem?_getD,h];rfl
theorem acts_mem{g:Gram}{S:List (List Look)}{rows:List (List Int)}(hA:AutoC g (S.map itemsK) rows){s t:Nat}(hs:s<S.length)(ht:t≤g.terms)(p:Nat×Nat) :
  p∈actsF g (S.getD s []) (rows.getD s []) t↔(decA p≠.no∧(p.1=3→p.2=0))∧ActOf g (itI (S.map itemsK)) (laK S) (goR g rows) s t (decA p):=by
 have hS:=gE hs;generalize S[s]=st at hS;have hSI:(S.map itemsK)[s]?=some (itemsK st):=map_at hS;obtain⟨row,hrow⟩:=hA.rowAt hSI;rw[getD_some hS,getD_some hrow];unfold actsF;rw[List.mem_append,List.mem_filterMap];have hgo:∀j,t<g.terms→(goR g rows s ⟨true,t⟩=some j↔row[t]?=some (j:Int)):=fun j htt=>by
  unfold goR;rw[if_pos (symB_iff.2 (show SymOk g.terms g.nons ⟨true,t⟩ from htt)),hrow];dsimp only;rw[show idxS g ⟨true,t⟩=t from rfl];cases hx:row[t]? with
  | none=>simp
  | some z=>
   dsimp only;split
   ·rename_i hz;constructor
    ·intro e;have:=Option.some.inj e;congr 1;omega
    ·intro e;have:=Option.some.inj e;congr 1;omega
   ·rename_i hz;constructor
    ·intro e;cases e
    ·intro e;have:=Option.some.inj e;omega
 constructor
 ·rintro(h | ⟨⟨z,m⟩,hz,h⟩)
  ·split at h
   ·rename_i htt;split at h
    ·rename_i j hj;split at h
     ·rename_i hj0;rw[List.mem_singleton.1 h];refine⟨⟨Act.noConfusion,fun e=>by cases e⟩,.shift htt ((hgo _ htt).2 (by rw[hj];congr 1;omega))⟩
     ·cases h
    ·cases h
   ·cases h
  ·dsimp only at h;split at h
   ·rename_i hc;obtain⟨hc1,hc2⟩:=hc;have hzI:z∈itemsK st:=List.mem_map.2 ⟨_,hz,rfl⟩;have hok:=hA.ok s _ hSI z hzI;have hit:itI (S.map itemsK) s z:=⟨_,hSI,hzI⟩;have hla:laK S s z t:=⟨st,m,hS,hz,hc2⟩;rw[afterL_right,List.getElem?_eq_none_iff] at hc1;have hzd:z.dot=(rightL g z.rule).length:=Nat.le_antisymm hok.2 hc1;obtain⟨Z,zd⟩:=z;dsimp only at hzd;split at h
    ·rename_i hlt;obtain rfl:=Option.some.inj h;have hlt:Z<g.rules.length:=hlt;have hr:=gE hlt;refine⟨⟨Act.noConfusion,fun e=>by cases e⟩,?_⟩;rw[rightL_rule hr] at hzd;subst hzd;exact .red hr hit hla
    ·rename_i hlt;obtain rfl:=Option.some.inj h;have hzr:Z=g.rules.length:=by
      have:=hok.1;dsimp only at this hlt;omega
     subst hzr;rw[rightL_start] at hzd;have hzd:zd=1:=hzd;subst hzd;exact⟨⟨Act.noConfusion,fun _=>rfl⟩,.acc hit hla⟩
   ·cases h
 ·rintro⟨⟨hne,h3⟩,h⟩;obtain⟨a,b⟩:=p;generalize hd:decA (a,b)=q at h hne;cases h with
  | @shift s' htt hgo'=>
   left;rw[if_pos htt];rw[hgo _ htt] at hgo';rw[hgo'];dsimp only;rw[if_pos zo];unfold decA at hd;split at hd<;>simp_all
  | @red k r hr hit hla=>
   right;obtain⟨st2,m,g1,g2,g3⟩:=hla;rw[hS] at g1;obtain rfl:=Option.some.inj g1;have hk:=(gS hr).1;refine⟨_,g2,?_⟩;dsimp only;rw[if_pos ⟨by rw[afterL_right];show (rightL g k)[r.right.length]?=none;rw[rightL_rule hr];exact List.getElem?_eq_none (Nat.le_refl _),g3⟩,if_pos hk];unfold decA at hd;split at hd<;>simp_all
  | acc hit hla=>
   right;obtain⟨st2,m,g1,g2,g3⟩:=hla;rw[hS] at g1;obtain rfl:=Option.some.inj g1;refine⟨_,g2,?_⟩;dsimp only;rw[if_pos ⟨by rw[afterL_right];show (rightL g g.rules.length)[1]?=none;rw[rightL_start];rfl,g3⟩,if_neg (Nat.lt_irrefl _)];unfold decA at hd;split at hd<;>simp_all
def strB(l:List UInt8):ByteArray:=⟨l.toArray⟩
theorem strB_inj{a b:List UInt8}(h:strB a=strB b):a=b:=by
 have:=congrArg (fun x:ByteArray=>x.data.toList) h;exact this
theorem strB_app(a b:List UInt8):strB a++strB b=strB (a++b):=by
 apply ByteArray.ext;rw[ByteArray.data_append];unfold strB;simp
theorem strB_size(a:List UInt8):(strB a).size=a.length:=by unfold strB ByteArray.size;simp
def isDig(x:UInt8):Prop:=48≤x.toNat∧x.toNat≤57
def itoaB(n:Nat):List UInt8:=if n<10 then [UInt8.ofNat (48+n)] else [UInt8.ofNat (48+n / 10),UInt8.ofNat (48+n % 10)]
theorem itoaB_dig{n:Nat}(h:n<100):∀x∈itoaB n,isDig x:=by
 intro x hx;unfold itoaB at hx;unfold isDig;split at hx
 ·rw[List.mem_singleton.1 hx,UInt8.toNat_ofNat'];omega
 ·rcases List.mem_cons.1 hx with rfl | hx
  ·rw[UInt8.toNat_ofNat'];omega
  ·rw[List.mem_singleton.1 hx,UInt8.toNat_ofNat'];omega
theorem u8_inj{a b:Nat}(ha:a<256)(hb:b<256)(h:UInt8.ofNat a=UInt8.ofNat b):a=b:=by
 have:=congrArg UInt8.toNat h;rw[UInt8.toNat_ofNat',UInt8.toNat_ofNat'] at this;omega
theorem itoaB_inj{n m:Nat}(hn:n<100)(hm:m<100)(h:itoaB n=itoaB m):n=m:=by
 unfold itoaB at h;split at h<;>split at h
 ·have:=u8_inj zo zo (List.head_eq_of_cons_eq h);omega
 ·exact absurd (congrArg List.length h) (by simp)
 ·exact absurd (congrArg List.length h) (by simp)
 ·have h1:=u8_inj zo zo (List.head_eq_of_cons_eq h);have h2:=u8_inj zo zo (List.head_eq_of_cons_eq (List.tail_eq_of_cons_eq h));omega
theorem split_dig:∀{a b r s:List UInt8} {c d:UInt8},(∀x∈a,isDig x)→(∀x∈b,isDig x)→¬isDig c→¬isDig d→a++c::r=b++d::s→a=b∧c=d∧r=s
 | [],[],r,s,c,d,_,_,_,_,h=>by
  exact⟨rfl,List.head_eq_of_cons_eq h,List.tail_eq_of_cons_eq h⟩
 | [],y::b,r,s,c,d,_,hb,hc,_,h=>by
  have:=List.head_eq_of_cons_eq h;exact absurd (this▸hb y me) hc
 | x::a,[],r,s,c,d,ha,_,_,hd,h=>by
  have:=List.head_eq_of_cons_eq h;exact absurd (this▸ha x me) hd
 | x::a,y::b,r,s,c,d,ha,hb,hc,hd,h=>by
  have h1:=List.head_eq_of_cons_eq h;have h2:=List.tail_eq_of_cons_eq h;obtain⟨h3,h4,h5⟩:=split_dig (fun z hz=>ha z (List.mem_cons_of_mem _ hz)) (fun z hz=>hb z (List.mem_cons_of_mem _ hz)) hc hd h2;exact⟨by rw[h1,h3],h4,h5⟩
theorem no_dig{c:UInt8}(h:c=46∨c=32∨c=59):¬isDig c:=by
 rcases h with rfl | rfl | rfl<;>(unfold isDig;decide)
def keyIt(x:Lr):List UInt8:=itoaB x.rule++46::itoaB x.dot
def keyLk(x:Look):List UInt8:=keyIt x.item++32::itoaB x.set
def nameF{σ:Type}(key:σ→List UInt8):List σ→List UInt8
 | []=>[]
 | x::l=>key x++59::nameF key l
theorem nameF_snoc{σ:Type}(key:σ→List UInt8)(x:σ):∀l:List σ,nameF key (l++[x])=nameF key l++(key x++[59])
 | []=>by simp[nameF]
 | y::l=>by simp[nameF,nameF_snoc key x l]
theorem nameF_inj{σ:Type}{key:σ→List UInt8}{P:σ→Prop}(h:∀x y r s,P x→P y→key x++59::r=key y++59::s→x=y∧r=s):∀{l m:List σ},(∀x∈l,P x)→(∀x∈m,P x)→nameF key l=nameF key m→l=m
 | [],[],_,_,_=>rfl
 | [],y::m,_,_,e=>by exact absurd (congrArg List.length e) (by simp[nameF])
 | x::l,[],_,_,e=>by exact absurd (congrArg List.length e) (by simp[nameF])
 | x::l,y::m,hl,hm,e=>by
  obtain⟨h1,h2⟩:=h x y _ _ (hl x me) (hm y me) e;rw[h1,nameF_inj h (fun z hz=>hl z (List.mem_cons_of_mem _ hz)) (fun z hz=>hm z (List.mem_cons_of_mem _ hz)) h2]
theorem keyIt_inj(x y:Lr)(c:UInt8)(r s:List UInt8)(hc:c=46∨c=32∨c=59)(hx:x.rule<100∧x.dot<100)(hy:y.rule<100∧y.dot<100)(h:keyIt x++c::r=keyIt y++c::s):x=y∧r=s:=by
 unfold keyIt at h;rw[List.append_assoc,List.append_assoc] at h;have h:itoaB x.rule++46::(itoaB x.dot++c::r)=itoaB y.rule++46::(itoaB y.dot++c::s):=h;obtain⟨h1,_,h2⟩:=split_dig (itoaB_dig hx.1) (itoaB_dig hy.1) (no_dig (.inl rfl)) (no_dig (.inl rfl)) h;obtain⟨h3,_,h4⟩:=split_dig (itoaB_dig hx.2) (itoaB_dig hy.2) (no_dig hc) (no_dig hc) h2;have e1:=itoaB_inj hx.1 hy.1 h1;have e2:=itoaB_inj hx.2 hy.2 h3;obtain⟨a,b⟩:=x;obtain⟨a',b'⟩:=y;simp only at e1 e2;subst e1 e2;exact⟨rfl,h4⟩
theorem nameI_inj{l m:List Lr}(hl:∀x∈l,x.rule<100∧x.dot<100)(hm:∀x∈m,x.rule<100∧x.dot<100)(h:nameF keyIt l=nameF keyIt m):l=m:=
 nameF_inj (P:=fun x:Lr=>x.rule<100∧x.dot<100) (fun x y r s hx hy e=>keyIt_inj x y 59 r s (.inr (.inr rfl)) hx hy e) hl hm h
theorem nameK_inj{l m:List Look}(hl:∀x∈l,(x.item.rule<100∧x.item.dot<100)∧x.set<100)(hm:∀x∈m,(x.item.rule<100∧x.item.dot<100)∧x.set<100)(h:nameF keyLk l=nameF keyLk m):l=m:=
 nameF_inj (P:=fun x:Look=>(x.item.rule<100∧x.item.dot<100)∧x.set<100) (fun x y r s hx hy e=>by
  unfold keyLk at e;rw[List.append_assoc,List.append_assoc] at e;have e:keyIt x.item++32::(itoaB x.set++59::r)=keyIt y.item++32::(itoaB y.set++59::s):=e;obtain⟨h1,h2⟩:=keyIt_inj x.item y.item 32 _ _ (.inr (.inl rfl)) hx.1 hy.1 e;obtain⟨h3,_,h4⟩:=split_dig (itoaB_dig hx.2) (itoaB_dig hy.2) (no_dig (.inr (.inr rfl))) (no_dig (.inr (.inr rfl))) h2;have h5:=itoaB_inj hx.2 hy.2 h3;obtain⟨a,b⟩:=x;obtain⟨a',b'⟩:=y;simp only at h1 h5;subst h1 h5;exact⟨rfl,h4⟩) hl hm h
theorem bytes_beq(x y:ByteArray):(x==y)=true↔x=y:=by
 constructor
 ·intro h;obtain⟨x⟩:=x;obtain⟨y⟩:=y;have:(x==y)=true:=h;congr 1;exact eq_of_beq this
 ·rintro rfl;obtain⟨x⟩:=x;show (x==x)=true;exact beq_self_eq_true x
theorem und_str:CC.und 9=some .string:=und_string hT (r:=⟨9,.string,1,16,.string ByteArray.empty⟩) rfl rfl
def keyStr:KeyTy CC 9 (List UInt8) where
 key:=fun l=>.string (strB l)
 ok:=fun l=>by
  unfold keyOk;simp only[und_str];rfl
 eq:=fun a b=>by
  have h:eqA CC 8 9 (.string (strB a)) (.string (strB b))=some (strB a==strB b):=by
   unfold eqA;simp only[und_str];rfl
  by_cases e:a=b
  ·subst e;exact .inl ⟨rfl,by rw[h,(bytes_beq _ _).2 rfl]⟩
  ·have e2:(strB a==strB b)=false:=by
    cases hb:(strB a==strB b) with
    | false=>rfl
    | true=>exact absurd (strB_inj ((bytes_beq _ _).1 hb)) e
   exact .inr ⟨e,by rw[h,e2]⟩
end Go.Proofs.D
set_option linter.unusedVariables false
set_option maxRecDepth 20000
set_option maxHeartbeats 0
open Go Go.Abs Go.Proofs Go.Proofs.D
namespace Go.Abs
section
variable {C:Ctx}{T:RT}{n:Nat}{k:Kno}{F:Frz}{own:Own}{ops rest:List Oper}{o:Oper}{Q:Kno→Frz→Own→List Rec→Prop}
theorem WT.sliceTab(hT:rowsOk C T=true){t:TypeId}{xo lo hi:Operand}{s:ByteArray}{j m:Nat}{kd kd2:IntKind}{r:Row}(a b:Nat→Nat)(f:Nat→List UInt8)(hop:o.op=.slice t xo (some lo) (some hi) none)(hw:wantK ops k o=some true){dst:Nat}(hdst:o.dst=some dst)(hn:Nat.blt dst n=true)
  (hx:evK C k xo=some (.string s)) (hl:evK C k lo=some (.int kd (a j:Nat))) (hh:evK C k hi=some (.int kd2 (b j:Nat))) (hr:rowOf T t=some r) (hd:r.d=.string) (hj:j<m)
  (htab:((List.range m).all fun j=>Nat.ble (a j) (b j)&&Nat.ble (b j) s.size&&((s.extract (a j) (b j)).data.toList==f j))=true)
  (h:WT C n ops rest ((dst,.string ⟨(f j).toArray⟩)::k) F own (fun k2 F2 own2 rs=>Q k2 F2 own2 (⟨F,own,F,own,[]⟩::rs))):WT C n ops (o::rest) k F own Q:=by
 have h1:=List.all_eq_true.1 htab j (List.mem_range.2 hj);simp only[Bool.and_eq_true,beq_iff_eq] at h1;obtain⟨⟨h2,h3⟩,h4⟩:=h1;have h5:s.extract (a j) (b j)=⟨(f j).toArray⟩:=by
  apply ByteArray.ext;rw[←h4]
 refine WT.still (l:=[]) hw (by rw[hop];simp only[looksK,hx]) (fun h0 _=>?_) (by rw[hdst,putK_some hn];exact h);rw[hop];have h6:optA (evK C k) none=some none:=rfl;simp only[opA,hx,optA,hl,hh,sliceA,und_string hT hr hd,boundA,Option.map_some];rw[if_pos (Int.natCast_nonneg _),if_pos (Int.natCast_nonneg _),Int.toNat_natCast,Int.toNat_natCast];simp only[h2,h3,Bool.and_self,cond_true,h5,Option.map_some]
theorem WT.addStr{t ty:TypeId}{xo yo:Operand}{a b:ByteArray}(hop:o.op=.binOp .add t xo yo ty)(hw:wantK ops k o=some true){dst:Nat}(hdst:o.dst=some dst)(hn:Nat.blt dst n=true)
  (hx:evK C k xo=some (.string a)) (hy:evK C k yo=some (.string b)) (hs:a.size+b.size≤9223372036854775807)
  (h:WT C n ops rest ((dst,.string (a++b))::k) F own (fun k2 F2 own2 rs=>Q k2 F2 own2 (⟨F,own,F,own,[]⟩::rs))):WT C n ops (o::rest) k F own Q:=by
 refine WT.still (l:=[]) hw (by rw[hop];simp only[looksK,hx,hy];rfl) (fun h0 _=>?_) (by rw[hdst,putK_some hn];exact h);rw[hop];have h2:Nat.ble (a.size+b.size) 9223372036854775807=true:=Nat.ble_eq_true_of_le hs;simp only[opA,hx,hy,binA,stringBinA,h2,cond_true,Option.map_some]
end
end Go.Abs
namespace Go.Proofs.D
theorem nosh:BinOp.mul≠.shl∧BinOp.mul≠.shr:=⟨fun h=>(by cases h),fun h=>(by cases h)⟩
theorem mulr2{i:Nat}(h:2*i≤9223372036854775807):intBinA .mul .i64 (i:Int) 2=some (.int .i64 ((2*i:Nat):Int)):=by
 simp only[intBinA];rw[wrap64 ⟨by omega,by omega⟩];congr 2;omega
theorem small_spec(F:Frz)(i:Nat)(hi:i<100):Abs.Spec CC 242 [.int .i64 i] F [] fun _ v o=>o=[]∧v=.string (strB (itoaB i)):=by
 refine Abs.Spec.fn (n:=15) Tryz.func242 rfl rfl fun own=>?_;refine zC4 ?_;refine AW.cond Z (fun h=>?_) (fun h=>?_)
 ·have h:i<10:=by simp at h;omega
  refine zC4 ?_;refine WT.sliceTab hT (j:=i) (m:=10) (fun j=>j) (fun j=>j+1) itoaB Z Z Z Z Z Z Z Z Z h (by decide +kernel) ?_;refine zC4 ?_;exact AW.ret ⟨_,[],⟨_,_,rfl,rfl,rfl⟩,zsb,rfl,rfl⟩
 ·have h:¬i<10:=by simp at h;omega
  refine zC4 ?_;refine WT.binV (v:=.int .i64 ((2*i:Nat):Int)) Z Z Z Z Z Z nosh (mulr2 zo) ?_;refine zC4 ?_;refine WT.binV (v:=.int .i64 ((2*i:Nat):Int)) Z Z Z Z Z Z nosh (mulr2 zo) ?_;refine zC4 ?_;refine WT.sliceTab hT (j:=i) (m:=100) (fun j=>2*j) (fun j=>2*j+2) (fun j=>[UInt8.ofNat (48+j / 10),UInt8.ofNat (48+j % 10)]) Z Z Z Z Z Z Z Z Z hi (by decide +kernel) ?_;refine zC4 ?_;refine AW.ret ⟨_,[],⟨_,_,rfl,rfl,rfl⟩,zsb,rfl,?_⟩;unfold itoaB;rw[if_neg h];rfl
theorem formatInt_spec(F:Frz)(i:Nat)(hi:i<100):Abs.Spec CC 220 [.int .i64 i,.int .i64 10] F [] fun _ v o=>o=[]∧v=.string (strB (itoaB i)):=by
 refine Abs.Spec.fn (n:=54) Tryz.func220 rfl rfl fun own=>?_;refine zC4 ?_;refine AW.cond Z (fun _=>?_) (fun h=>(by cases h));refine zC4 ?_;refine AW.cond Z (fun _=>?_) (fun h=>(by simp at h;omega));refine zC4 ?_;refine WT.callV Tryz.func242 Z Z Z Z Z Z (small_spec _ i hi) (fun v hv=>?_);subst hv;refine zC4 ?_;exact AW.ret ⟨_,[],⟨_,_,rfl,rfl,rfl⟩,zsb,rfl,rfl⟩
theorem itoa0_spec(F:Frz)(i:Nat)(hi:i<100):Abs.Spec CC 191 [.int .i64 i] F [] fun _ v o=>o=[]∧v=.string (strB (itoaB i)):=by
 refine Abs.Spec.fn (n:=5) Tryz.func191 rfl rfl fun own=>?_;refine zC4 ?_;refine WT.callV Tryz.func220 Z Z Z Z Z Z (formatInt_spec _ i hi) (fun v hv=>?_);subst hv;refine zC4 ?_;exact AW.ret ⟨_,[],⟨_,_,rfl,rfl,rfl⟩,zsb,rfl,rfl⟩
theorem itoa_spec(F:Frz)(i:Nat)(hi:i<100):Abs.Spec CC 149 [.int .i64 i] F [] fun _ v o=>o=[]∧v=.string (strB (itoaB i)):=by
 refine Abs.Spec.fn (n:=5) Tryz.func149 rfl rfl fun own=>?_;refine zC4 ?_;refine WT.callV Tryz.func191 Z Z Z Z Z Z (itoa0_spec _ i hi) (fun v hv=>?_);subst hv;refine zC4 ?_;exact AW.ret ⟨_,[],⟨_,_,rfl,rfl,rfl⟩,zsb,rfl,rfl⟩
theorem itoaB_len(i:Nat):(itoaB i).length≤2:=by unfold itoaB;split<;>simp
theorem keyIt_spec(F:Frz)(x:Lr)(hx:x.rule<100∧x.dot<100):Abs.Spec CC 148 [.agg ⟨[.int .i64 x.rule,.int .i64 x.dot]⟩] F [] fun _ v o=>o=[]∧v=.string (strB (keyIt x)):=by
 have h1:=itoaB_len x.rule;have h2:=itoaB_len x.dot;refine Abs.Spec.fn (n:=11) Tryz.func148 rfl rfl fun own=>?_;refine AW.seq (AW.reg ?_);refine WT.boxT Z Z Z Z Z Z (fun i1 hi1=>?_);refine zC4 ?_;refine AW.draw (ps:=[(3,6),(5,2)]) Z Z ?_;refine zC4 ?_;refine WT.callV Tryz.func149 Z Z Z Z Z Z (itoa_spec _ x.rule hx.1) (fun v hv=>?_);subst hv;refine WT.addStr Z Z Z Z Z Z (by rw[strB_size];show _+1≤_;omega) ?_;refine zC4 ?_;refine WT.callV Tryz.func149 Z Z Z Z Z Z (itoa_spec _ x.dot hx.2) (fun v hv=>?_);subst hv
 refine WT.addStr Z Z Z Z Z Z (by rw[show (strB (itoaB x.rule)++{ data:=#[46] }:ByteArray)=strB (itoaB x.rule)++strB [46] from rfl,strB_app,strB_size,strB_size,List.length_append];show _+1+_≤_;omega) ?_;refine zC4 ?_;refine⟨zrC,?_⟩;refine AW.ret ⟨_,[],⟨_,_,rfl,rfl,rfl⟩,zsb,rfl,?_⟩;show Value.string (strB (itoaB x.rule)++strB [46]++strB (itoaB x.dot))=_;rw[strB_app,strB_app,List.append_assoc];rfl
theorem keyIt_len(x:Lr):(keyIt x).length≤5:=by
 have h1:=itoaB_len x.rule;have h2:=itoaB_len x.dot;unfold keyIt;simp only[List.length_append,List.length_cons];omega
def LrOk(g:Gram)(x:Lr):Prop:=x.rule≤g.rules.length∧x.dot≤(if x.rule=g.rules.length then 1 else ((g.rules[x.rule]?).map (·.right.length)).getD 0)
theorem Clos.ok{g:Gram}{l:List Lr}(hl:∀x∈l,LrOk g x){x:Lr}(h:Clos g l x):LrOk g x:=by
 induction h with
 | base h=>exact hl _ h
 | more _ _ h _ _=>exact⟨Nat.le_of_lt (gS h).1,Nat.zero_le _⟩
theorem lrClose_spec(F:Frz)(g:Gram)(hg:Valid g){a:Option Addr}{m c:Nat}(hr:Arr tRule F a m c g.rules){b:Option Addr}{n d:Nat}{l:List Lr}(hl:Arr tLr F b n d l)(hn:n≤1000)(hok:∀x∈l,LrOk g x) :
  Abs.Spec CC 189 [.agg ⟨gramCells g a m c⟩,.slice b n d] F [] fun F' v o=>o=[]∧∃a' m' c' zs,v=.tuple ⟨[.slice a' m' c',.int .i64 0]⟩∧Arr tLr F' a' m' c' zs∧m'≤n+m∧Strict zs∧∀z,z∈zs↔Clos g l z:=by
 have hml:=hr.len;have hll:=hl.len;have hgl:=hg.range.rules;have hg4:∀r∈g.rules,r.right.length≤100:=fun r h=>by have:=(hg.right r h).2.1;omega
 unfold gramCells;refine Abs.Spec.fn (n:=50) Tryz.func189 rfl rfl fun own=>?_;refine AW.seq (AW.reg ?_);refine WT.boxT Z Z Z Z Z Z (fun i2 hi2=>?_);refine zB4 ?_;refine WT.callV Tryz.func85 Z Z Z Z Z Z (check_spec _ g hg.range hr) (fun v hv=>?_);rw[hg.no_err] at hv;subst hv;refine zB4 ?_;refine AW.cond Z (fun h=>(by cases h)) (fun _=>?_);refine zB4 ?_;refine AW.range (S:=Unit) (fun _=>[]) (fun _=>_) (fun j _ G=>True) n () Z Z Z Z Z Z Z Z Z zo Z Z (fun _=>rfl) (fun _=>rfl) sM oR trivial ?_ ?_
 ·intro j _ F1 hF1 hj _;have hr1:=hr.mono hF1;have hl1:=hl.mono hF1;refine zB4 ?_;refine WT.idxL hT hl1 Z Z Z Z Z Z Z Z Z zo (fun x hxj b1 off ro cs lx hb hp1 hrel=>?_);obtain rfl:lx=_:=hrel;obtain⟨hx1,hx2⟩:=hok x (gM hxj);refine zB4 ?_;refine WT.allocT hT Z Z Z Z Z Z (fun i8 hi8=>?_);refine zB4 ?_;refine AW.draw (ps:=[(18,22)]) Z Z ?_;refine zB4 ?_;refine WT.split 23 Z (fun h=>(by simp at h;omega)) (fun _=>?_);refine WT.split 31 Z (fun h=>(by simp at h;omega)) (fun _=>?_);refine zB4 ?_;refine WT.split 36 Z (fun h=>(by simp at h;omega)) (fun _=>?_)
  refine WT.callV Tryz.func144 Z Z Z Z Z Z (lrRight_spec _ g hg4 hr1 zo x.rule zo) (fun v hv=>?_);obtain⟨rb,rn,rd,rfl,hrn⟩:=hv;rw[←hml] at hx2;rw[←hrn] at hx2;refine zB4 ?_;refine⟨zrC,?_⟩;refine AW.cond Z (fun h=>(by simp at h;omega)) (fun _=>?_);refine zB4 ?_;exact⟨(),sM,zow,trivial⟩
 ·intro _ F1 hF1 _;have hr1:=hr.mono hF1;have hl1:=hl.mono hF1;refine zB4 ?_;refine WT.callF0 Tryz.func152 Z Z Z Z Z Z (closure_spec _ g hg4 hr1 zo hl1 hn (fun x hx=>(hok x hx).1)) (fun F2 v hF2 hv=>?_);obtain⟨a8,m8,c8,zs,rfl,hz,hzm,hst,hmem⟩:=hv;refine zB4 ?_;exact AW.ret ⟨_,[],⟨_,_,rfl,⟨_,_,rfl,rfl,rfl⟩,rfl⟩,zsb,rfl,a8,m8,c8,zs,rfl,hz,hzm,hst,hmem⟩
structure ISt where
 xs:List Lr
 a:Option Addr
 c:Nat
 B:List (Nat×Blk)
structure SyS where
 a:Option Addr
 m:Nat
 c:Nat
 B:List (Nat×Blk)
theorem symsL_T{g:Gram}{j:Nat}(h:j<g.terms):(symsL g).take (j+1)=(symsL g).take j++[⟨true,j⟩]:=by
 have:(symsL g)[j]?=some ⟨true,j⟩:=symsL_at (y:=⟨true,j⟩) h;rw[List.take_add_one,this];rfl
theorem symsL_N{g:Gram}{j:Nat}(h:j<g.nons):(symsL g).take (g.terms+j+1)=(symsL g).take (g.terms+j)++[⟨false,j⟩]:=by
 have:(symsL g)[j+g.terms]?=some ⟨false,j⟩:=symsL_at (y:=⟨false,j⟩) h;rw[Nat.add_comm] at this;rw[List.take_add_one,this];rfl
theorem symbols_spec(F:Frz)(g:Gram)(hg:Valid g){a:Option Addr}{m c:Nat} :
  Abs.Spec CC 146 [.agg ⟨gramCells g a m c⟩] F [] fun F' v o=>o=[]∧∃a' n' c',v=.slice a' n' c'∧Arr tSym F' a' n' c' (symsL g):=by
 have hgt:=hg.range.terms;have hgn:=hg.range.nons;unfold gramCells;refine Abs.Spec.fn (n:=29) Tryz.func146 rfl rfl fun own=>?_;refine AW.seq (AW.reg ?_);refine WT.boxT Z Z Z Z Z Z (fun i1 hi1=>?_);refine zC4 ?_;refine AW.range (S:=SyS) (fun s=>[(3,.slice s.a s.m s.c)]) (fun s=>s.B::[(i1,.cells false [.int .i64 g.terms,.int .i64 g.nons,.int .i64 g.start,.slice a m c])]::own) (fun j s G=>Bld tSym G s.a s.m s.c s.B ((symsL g).take j)) g.terms ⟨none,0,0,[]⟩
  Z Z Z Z Z Z Z Z Z zo rfl rfl (fun _=>rfl) (fun _=>rfl) sM (OwnLe.flat (List.Perm.refl _)) (Bld.nil_ _ _) ?_ ?_
 ·intro j s F1 hF1 hj hb;have hbl:=hb.len;rw[List.length_take,symsL_len] at hbl;refine zC4 ?_;refine WT.callV Tryz.func115 Z Z Z Z Z Z (gT_spec _ _) (fun v hv=>?_);subst hv;refine WT.buildT hT Z Z Z Z Z Z Z Z Z Z Z Z Z Z (fun i9 hi9=>?_);refine WT.appendT (R:=tSym) (ys:=[(⟨true,j⟩:Sym)]) hT 1 hb Z (fun _=>rfl) Z Z Z Z Z Z Z Z Z Z Z (fun h0 s0=>news_own hT s0 0 Z Z Z Z) (Cells.single (R:=tSym) (x:=⟨true,j⟩) rfl) Z (by decide) zom (fun a3 c3 B3 hB3=>?_);refine zC4 ?_;exact⟨⟨a3,s.m+1,c3,B3⟩,sM,zow,by show Bld tSym _ _ _ _ _ ((symsL g).take (j+1));rw[symsL_T hj];exact hB3⟩
 ·intro s F1 hF1 hb;refine zC4 ?_;refine AW.range (S:=SyS) (fun s=>[(3,.slice s.a s.m s.c)]) (fun s=>s.B::[(i1,.cells false [.int .i64 g.terms,.int .i64 g.nons,.int .i64 g.start,.slice a m c])]::own) (fun j s G=>Bld tSym G s.a s.m s.c s.B ((symsL g).take (g.terms+j))) g.nons ⟨s.a,s.m,s.c,s.B⟩
   Z Z Z Z Z Z Z Z Z zo rfl rfl (fun _=>rfl) (fun _=>rfl) sM oR hb ?_ ?_
  ·intro j s F2 hF2 hj hb;have hbl:=hb.len;rw[List.length_take,symsL_len] at hbl;refine zC4 ?_;refine WT.callV Tryz.func84 Z Z Z Z Z Z (gN_spec _ _) (fun v hv=>?_);subst hv;refine WT.buildT hT Z Z Z Z Z Z Z Z Z Z Z Z Z Z (fun i9 hi9=>?_);refine WT.appendT (R:=tSym) (ys:=[(⟨false,j⟩:Sym)]) hT 1 hb Z (fun _=>rfl) Z Z Z Z Z Z Z Z Z Z Z (fun h0 s0=>news_own hT s0 0 Z Z Z Z) (Cells.single (R:=tSym) (x:=⟨false,j⟩) rfl) Z (by decide) zom (fun a3 c3 B3 hB3=>?_);refine zC4 ?_;exact⟨⟨a3,s.m+1,c3,B3⟩,sM,zow,by show Bld tSym _ _ _ _ _ ((symsL g).take (g.terms+j+1));rw[symsL_N hj];exact hB3⟩
  ·intro s F2 hF2 hb;rw[List.take_of_length_le (by rw[symsL_len];exact Nat.le_refl _)] at hb;refine AW.freezeAll 0 Z Z (fun F3 hF3 hB3=>?_);refine zC4 ?_;exact AW.ret ⟨_,[],⟨_,_,rfl,rfl,rfl⟩,zsb,rfl,_,_,_,rfl,hb.frozen hF3 hB3⟩
noncomputable def nextI(g:Gram)(st:List Lr)(y:Sym):Option (List Lr):=if kern g st y=[] then none else some (closL g (kern g st y))
theorem kern_take{g:Gram}{st:List Lr}{y:Sym}{j:Nat}{x:Lr}(h:st[j]?=some x):kern g (st.take (j+1)) y=kern g (st.take j) y++(if afterL g x=some y then [⟨x.rule,x.dot+1⟩] else []):=by
 unfold kern;rw[List.take_add_one,h,List.filterMap_append];congr 1;simp only[Option.toList_some,List.filterMap_cons,List.filterMap_nil];by_cases e:afterL g x=some y
 ·rw[if_pos e,if_pos e]
 ·rw[if_neg e,if_neg e]
structure NxS where
 a:Option Addr
 m:Nat
 c:Nat
 B:List (Nat×Blk)
 l:List Lr
theorem nextI_spec(F:Frz)(g:Gram)(hg:Valid g){ig:Nat}{ro:Bool}{a:Option Addr}{m c:Nat}(hi:F ig=some (.cells ro (gramCells g a m c)))(hr:Arr tRule F a m c g.rules){b:Option Addr}{n d:Nat}{st:List Lr}(hst:Arr tLr F b n d st)(hn:n≤1000)(hok:∀x∈st,OkLr g x)(y:Sym)(hy:SymOk g.terms g.nons y) :
  Abs.Spec CC 153 [.slice b n d,.agg ⟨[.bool y.term,.int .i64 y.n]⟩,.pointer (some ⟨ig,0,none⟩)] F [] fun F' v o=>o=[]∧∃a' n' c' z s,v=.tuple ⟨[.slice a' n' c',.bool z]⟩∧Arr tLr F' a' n' c' s∧nextI g st y=if z=true then some s else none:=by
 have hgr:=hg.range.rules;have hrl:=hr.len;have hsl:=hst.len;have hg4:∀r∈g.rules,r.right.length≤100:=fun r h=>by have:=(hg.right r h).2.1;omega
 unfold gramCells at hi;obtain⟨yt,yn⟩:=y;refine Abs.Spec.fn (n:=46) Tryz.func153 rfl rfl fun own=>?_;refine AW.seq (AW.reg ?_);refine WT.boxT Z Z Z Z Z Z (fun i4 hi4=>?_);refine zC4 ?_;refine AW.range (S:=NxS) (fun s=>[(7,.slice s.a s.m s.c)]) (fun s=>s.B::[(i4,.cells false [.bool yt,.int .i64 yn])]::own) (fun j s G=>Bld tLr G s.a s.m s.c s.B s.l∧s.l=kern g (st.take j) ⟨yt,yn⟩∧s.m≤j) n ⟨none,0,0,[],[]⟩
  Z Z Z Z Z Z Z Z Z zo rfl rfl (fun _=>rfl) (fun _=>rfl) sM (OwnLe.flat (List.Perm.refl _)) ⟨Bld.nil_ _ _,rfl,Nat.le_refl _⟩ ?_ ?_
 ·intro j s F1 hF1 hj hP;obtain⟨hb,hsk,hsm⟩:=hP;have hst1:=hst.mono hF1;have hr1:=hr.mono hF1;have hi1:=hF1 _ _ hi;refine zC4 ?_;refine WT.idxL hT hst1 Z Z Z Z Z Z Z Z Z zo (fun x hxj b1 off ro1 cs lx hb1 hp1 hrel=>?_);obtain rfl:lx=_:=hrel;have hxo:=hok x (gM hxj);have hkt:=kern_take (g:=g) (y:=⟨yt,yn⟩) hxj;refine zC4 ?_;refine WT.allocT hT Z Z Z Z Z Z (fun i9 hi9=>?_);refine zC4 ?_;have haf:=lrAfter_spec F1 g hg4 hr1 zo x (by have:=hxo.1;omega);unfold gramCells at haf;refine WT.callV Tryz.func150 Z Z Z Z Z Z haf (fun v hv=>?_);obtain⟨z,bo,rfl,hay,han⟩:=hv;obtain⟨zt,zn⟩:=z;refine zC4 ?_
  refine WT.allocT hT Z Z Z Z Z Z (fun i10 hi10=>?_);refine zC4 ?_;have hbl:=hb.len;refine WT.split 25 Z (fun hbo=>?_) (fun hbo=>?_)
  ·have hay:=hay hbo;refine zC4 ?_;refine AW.cond Z (fun h=>?_) (fun h=>?_)
   ·have e:(⟨zt,zn⟩:Sym)=⟨yt,yn⟩:=by
     simp only[Bool.and_true,Bool.and_eq_true,beq_iff_eq] at h;obtain⟨h1,h2⟩:=h;subst h1;congr 1;omega
    rw[e] at hay;have hxd:x.dot≤100:=by
     have:=hxo.2;have h2:(rightL g x.rule).length≤100:=by
      unfold rightL;split
      ·simp
      ·cases hq:g.rules[x.rule]? with
       | none=>simp
       | some r=>exact hg4 r (gM hq)
     omega
    refine zC4 ?_;refine WT.buildT hT Z Z Z Z Z Z Z Z Z Z Z Z Z Z (fun i37 hi37=>?_);refine WT.appendT (R:=tLr) (ys:=[(⟨x.rule,x.dot+1⟩:Lr)]) hT 3 hb Z (fun _=>rfl) Z Z Z Z Z Z Z Z Z Z Z (fun h0 s0=>news_own hT s0 0 Z Z Z Z) (Cells.single (R:=tLr) (x:=⟨x.rule,x.dot+1⟩) rfl) Z (by decide) zom (fun a3 c3 B3 hB3=>?_);refine zC4 ?_;refine⟨⟨a3,s.m+1,c3,B3,s.l++[⟨x.rule,x.dot+1⟩]⟩,sM,zow,hB3,?_,by dsimp only;omega⟩;show s.l++_=_;rw[hkt,if_pos hay,hsk]
   ·have hno:¬afterL g x=some ⟨yt,yn⟩:=fun e=>by
     rw[hay] at e;have e:=Option.some.inj e;simp only[Sym.mk.injEq] at e;rw[e.1,e.2] at h;simp at h
    refine zC4 ?_;refine⟨s,sM,zow,hb,?_,by omega⟩;rw[hkt,if_neg hno,List.append_nil];exact hsk
  ·have han:=han hbo;have hno:¬afterL g x=some ⟨yt,yn⟩:=fun e=>by rw[han] at e;cases e
   refine zC4 ?_;refine AW.cond Z (fun h=>(by cases h)) (fun _=>?_);refine zC4 ?_;refine⟨s,sM,zow,hb,?_,by omega⟩;rw[hkt,if_neg hno,List.append_nil];exact hsk
 ·intro s F1 hF1 hP;obtain⟨hb,hsk,hsm⟩:=hP;rw[List.take_of_length_le zo] at hsk;have hbl:=hb.len;have hi1:=hF1 _ _ hi;refine AW.freezeAll 0 Z Z (fun F2 hF2 hB2=>?_);have hx:=hb.frozen hF2 hB2;have hi2:=hF2 _ _ hi1;have hkok:∀z∈s.l,z.rule≤g.rules.length:=fun z hz=>by rw[hsk] at hz;exact(kern_ok z hz).1.1
  refine zC4 ?_;have hcs:=closure_spec F2 g hg4 ((hr.mono hF1).mono hF2) zo hx zo hkok;unfold gramCells at hcs;refine WT.callF0 Tryz.func152 Z Z Z Z Z Z hcs (fun F3 v hF3 hv=>?_);obtain⟨a8,m8,c8,zs,rfl,hz,hzm,hstr,hmem⟩:=hv;refine zC4 ?_;refine AW.ret ⟨_,[],⟨_,_,rfl,⟨_,_,rfl,rfl,rfl⟩,rfl⟩,zsb,rfl,a8,m8,c8,_,zs,rfl,hz,?_⟩;unfold nextI;by_cases e:kern g st ⟨yt,yn⟩=[]
  ·rw[if_pos e,if_neg];rw[hsk,e] at hbl;have:s.m=0:=hbl;simp[this]
  ·rw[if_neg e,if_pos]
   ·congr 1;refine(closL_eq (fun z hz=>(kern_ok z hz).1) hstr fun z=>?_).symm;rw[hmem,hsk]
   ·have:0<s.m:=by
     rw[hbl,hsk];exact List.length_pos_iff.2 e
    exact decide_eq_true zo
end Go.Proofs.D