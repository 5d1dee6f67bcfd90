/-
  Walks: what functions of the program do, over the abstract machine.
-/
import Derived.Test.YtnbhiijpjbnfaaaGreatDoorWk2
set_option linter.unusedVariables false
set_option maxRecDepth 20000
set_option maxHeartbeats 0
open Go Go.Abs Go.Proofs Go.Proofs.D
namespace Go.Proofs.D
structure FwI(g:Gram)(Fo:List (List Bool)):Prop where
 tab:TabOk g.nons (g.terms+1) Fo
 snd:∀n t,(Fo.getD n []).getD t false=true→Fol g n t
 start:(Fo.getD g.start []).getD g.terms false=true
def SymCl(g:Gram)(Fo:List (List Bool))(r:Rule)(i:Nat):Prop:=∀n,r.right[i]?=some ⟨false,n⟩→(∀t,BegL g (r.right.drop (i+1)) t→(Fo.getD n []).getD t false=true)∧(NulL g (r.right.drop (i+1))→∀t,(Fo.getD r.left []).getD t false=true→(Fo.getD n []).getD t false=true)
theorem getD_setN{α:Type}{l:List α}{n k:Nat}{x d:α}(hn:n<l.length):(l.set n x).getD k d=if k=n then x else l.getD k d:=by
 rw[List.getD_eq_getElem?_getD,List.getElem?_set];by_cases h:n=k
 ·subst h;rw[if_pos rfl,if_pos hn,if_pos rfl];rfl
 ·rw[if_neg h,if_neg (fun e=>h e.symm),List.getD_eq_getElem?_getD]
theorem FwI.row{g:Gram}{Fo:List (List Bool)}(h:FwI g Fo){n:Nat}(hn:n<g.nons):(Fo.getD n []).length=g.terms+1:=by
 have:=gE (show n<Fo.length by rw[h.tab.size];exact hn);rw[List.getD_eq_getElem?_getD,this];exact h.tab.row _ (List.getElem_mem _)
theorem FwI.or{g:Gram}{Fo:List (List Bool)}(h:FwI g Fo){n:Nat}(hn:n<g.nons){zs:List Bool}(hz:zs.length=g.terms+1)(hs:∀t,zs.getD t false=true→Fol g n t):FwI g (Fo.set n (orRow (Fo.getD n []) zs)):=by
 have hl:=h.row hn;have hn2:n<Fo.length:=by rw[h.tab.size];exact hn
 refine⟨h.tab.setRow _ (by rw[orRow_len zo];exact hl),fun k t ht=>?_,?_⟩
 ·rw[getD_setN hn2] at ht;split at ht
  ·rename_i e;subst e;rcases orRow_get ht with h1 | h1
   ·exact h.snd _ _ h1
   ·exact hs t h1
  ·exact h.snd _ _ ht
 ·rw[getD_setN hn2];split
  ·rename_i e;rw[←e];exact orRow_left (by rw[h.row (by rw[e];exact hn)];exact hz.symm) (.inl h.start)
  ·exact h.start
theorem FwI.grow{g:Gram}{Fo:List (List Bool)}(h:FwI g Fo){n:Nat}(hn:n<g.nons){zs:List Bool}(hz:zs.length=g.terms+1):onesT Fo≤onesT (Fo.set n (orRow (Fo.getD n []) zs))∧(orRow (Fo.getD n []) zs≠Fo.getD n []→onesT Fo<onesT (Fo.set n (orRow (Fo.getD n []) zs))):=by
 have hl:=h.row hn;have hn2:n<Fo.length:=by rw[h.tab.size];exact hn
 have h0:Fo[n]?=some (Fo.getD n []):=by rw[List.getD_eq_getElem?_getD,gE hn2];rfl
 have h1:=onesT_set (row':=orRow (Fo.getD n []) zs) h0;have h2:=ones_or (xs:=Fo.getD n []) (ys:=zs) zo;exact⟨by have:=h2.1;omega,fun hne=>by have:=h2.2 hne;omega⟩
theorem set_getD{Fo:List (List Bool)}{n:Nat}(hn:n<Fo.length):Fo.set n (Fo.getD n [])=Fo:=by
 apply List.ext_getElem?;intro i;by_cases hi:i=n
 ·subst hi;rw[List.getElem?_set_self hn,List.getD_eq_getElem?_getD,gE hn];rfl
 ·rw[List.getElem?_set_ne zo]
theorem or_same{xs zs:List Bool}(hl:xs.length=zs.length)(h:orRow xs zs=xs){t:Nat}(ht:zs.getD t false=true):xs.getD t false=true:=by
 rw[←h];exact orRow_left hl (.inr ht)
theorem orRow_self:∀xs:List Bool,orRow xs xs=xs
 | []=>rfl
 | x::xs=>by
  have:=orRow_self xs;unfold orRow at this ⊢;rw[List.zipWith_cons_cons,this,Bool.or_self]
structure FolF(g:Gram)(Fo:List (List Bool)):Prop where
 tab:TabOk g.nons (g.terms+1) Fo
 at_:∀n t,(Fo.getD n []).getD t false=true↔Fol g n t
theorem FolF.of{g:Gram}{Fo:List (List Bool)}(h:FwI g Fo)(hc:∀r∈g.rules,Rch g r.left→∀j,SymCl g Fo r j):FolF g Fo:=by
 have hat:∀{r:Rule} {pre post:List Sym} {m:Nat},r.right=pre++⟨false,m⟩::post→r.right[pre.length]?=some ⟨false,m⟩∧r.right.drop (pre.length+1)=post:=fun {r pre post m} e=>by
  rw[e];refine⟨by rw[List.getElem?_append_right (Nat.le_refl _),Nat.sub_self];rfl,?_⟩;rw[show pre++⟨false,m⟩::post=(pre++[⟨false,m⟩])++post by simp,List.drop_left' (by simp)]
 refine⟨h.tab,fun n t=>⟨h.snd n t,fun hf=>?_⟩⟩
 induction hf with
 | start=>exact h.start
 | beg h1 h2 h3 h4=>
  obtain⟨q1,q2⟩:=hat h3;exact(hc _ h1 h2 _ _ q1).1 _ (by rw[q2];exact h4)
 | pass h1 h2 h3 h4 _ ih=>
  obtain⟨q1,q2⟩:=hat h3;exact(hc _ h1 h2 _ _ q1).2 (by rw[q2];exact h4) _ ih
structure FwS where
 Fo:List (List Bool)
 bs:List (Nat×Blk)
 again:Bool
theorem FwI.step{g:Gram}{t0 u v:FwS}{r:Rule}{i n:Nat}(hr:r∈g.rules)(hR:Rch g r.left)(hlr:r.left<g.nons)(hx:r.right[i]?=some ⟨false,n⟩)(hn:n<g.nons)(hv:FwI g v.Fo)
  (hT:v.again=true→onesT t0.Fo<onesT v.Fo) (hut:u.again=false→u.Fo=t0.Fo) (hC:v.again=false→u.again=false∧v.Fo=u.Fo∧∀j<i,SymCl g u.Fo r j)
  {row:List Bool} {emp:Bool} (hrl:row.length=g.terms) (hb:∀t,row.getD t false=true↔BegL g (r.right.drop (i+1)) t) (he:emp=true↔NulL g (r.right.drop (i+1)))
  {Fo1 Fo2:List (List Bool)} (h1:Fo1=v.Fo.set n (orRow (v.Fo.getD n []) (padF (g.terms+1) row)))
  (h2:Fo2=if emp=true then Fo1.set n (orRow (Fo1.getD n []) (Fo1.getD r.left [])) else Fo1) {ag:Bool}
  (ha1:v.again=true→ag=true) (ha2:orRow (v.Fo.getD n []) (padF (g.terms+1) row)≠v.Fo.getD n []→ag=true) (ha3:emp=true→orRow (Fo1.getD n []) (Fo1.getD r.left [])≠Fo1.getD n []→ag=true)
  (ha4:ag=true→v.again=true∨orRow (v.Fo.getD n []) (padF (g.terms+1) row)≠v.Fo.getD n []∨(emp=true∧orRow (Fo1.getD n []) (Fo1.getD r.left [])≠Fo1.getD n [])) :
  FwI g Fo2∧(ag=true→onesT t0.Fo<onesT Fo2)∧(ag=false→u.again=false∧Fo2=u.Fo∧∀j<i+1,SymCl g u.Fo r j):=by
 have hsp:r.right=r.right.take i++⟨false,n⟩::r.right.drop (i+1):=by
  have h3:=(gS hx);obtain⟨h4,h5⟩:=h3;rw[←h5,List.getElem_cons_drop h4,List.take_append_drop]
 have hpl:(padF (g.terms+1) row).length=g.terms+1:=padF_len zo;have hI1:FwI g Fo1:=by
  rw[h1];refine hv.or hn hpl fun t ht=>?_;rw[padF_get,hb] at ht;exact .beg hr hR hsp ht
 have hg1:=hv.grow hn hpl;rw[←h1] at hg1;have hz2:(Fo1.getD r.left []).length=g.terms+1:=hI1.row hlr;have hI2:FwI g Fo2:=by
  rw[h2];split
  ·rename_i hem;exact hI1.or hn hz2 fun t ht=>.pass hr hR hsp (he.1 hem) (hI1.snd _ _ ht)
  ·exact hI1
 have hg2:onesT Fo1≤onesT Fo2∧(emp=true→orRow (Fo1.getD n []) (Fo1.getD r.left [])≠Fo1.getD n []→onesT Fo1<onesT Fo2):=by
  rw[h2];split
  ·have:=hI1.grow hn hz2;exact⟨this.1,fun _=>this.2⟩
  ·rename_i hem;exact⟨Nat.le_refl _,fun h=>absurd h hem⟩
 have hn2:n<v.Fo.length:=by rw[hv.tab.size];exact hn
 refine⟨hI2,fun hag=>?_,fun hag=>?_⟩
 ·have hle:onesT t0.Fo≤onesT v.Fo:=by
   cases hva:v.again with
   | true=>exact Nat.le_of_lt (hT hva)
   | false=>
    obtain⟨q1,q2,_⟩:=hC hva;rw[q2,hut q1];exact Nat.le_refl _
  have e1:=hg1.1;have e2:=hg2.1;rcases ha4 hag with h3 | h3 | ⟨h3,h4⟩
  ·have:=hT h3;omega
  ·have:=hg1.2 h3;omega
  ·have:=hg2.2 h3 h4;omega
 ·have hva:v.again=false:=by
   cases h:v.again with
   | false=>rfl
   | true=>rw[ha1 h] at hag;cases hag
  obtain⟨q1,q2,q3⟩:=hC hva;have e1:orRow (v.Fo.getD n []) (padF (g.terms+1) row)=v.Fo.getD n []:=Classical.byContradiction fun h=>by rw[ha2 h] at hag;cases hag
  have eF1:Fo1=v.Fo:=by rw[h1,e1,set_getD hn2]
  have e2:emp=true→orRow (v.Fo.getD n []) (v.Fo.getD r.left [])=v.Fo.getD n []:=fun hem=>Classical.byContradiction fun h=>by rw[ha3 hem (by rw[eF1];exact h)] at hag;cases hag
  have eF2:Fo2=v.Fo:=by
   rw[h2];split
   ·rename_i hem;rw[eF1,e2 hem,set_getD hn2]
   ·exact eF1
  refine⟨q1,by rw[eF2,q2],fun j hj=>?_⟩;rcases Nat.lt_or_ge j i with h6 | h6
  ·exact q3 j h6
  ·obtain rfl:j=i:=by omega
   intro n' hn';rw[hx] at hn';simp only[Option.some.injEq,Sym.mk.injEq,true_and] at hn';subst hn';rw[←q2];refine⟨fun t ht=>or_same (by rw[hv.row hn,hpl]) e1 (by rw[padF_get];exact(hb t).2 ht),fun hnul t ht=>or_same (by rw[hv.row hn,hv.row hlr]) (e2 (he.2 hnul)) ht⟩
theorem FwI.skip{g:Gram}{u v:FwS}{r:Rule}{i:Nat}{y:Sym}(hx:r.right[i]?=some y)(hy:y.term=true)(hC:v.again=false→u.again=false∧v.Fo=u.Fo∧∀j<i,SymCl g u.Fo r j):v.again=false→u.again=false∧v.Fo=u.Fo∧∀j<i+1,SymCl g u.Fo r j:=fun hag=>by
 obtain⟨q1,q2,q3⟩:=hC hag;refine⟨q1,q2,fun j hj=>?_⟩;rcases Nat.lt_or_ge j i with h6 | h6
 ·exact q3 j h6
 ·obtain rfl:j=i:=by omega
  intro n' hn';rw[hx] at hn';obtain rfl:=Option.some.inj hn';cases hy
theorem uniAny_spec(G:Frz){i1 i2:Nat}{xs zs:List Bool}{m c1 c2:Nat}{B:List (Nat×Blk)}(hB:∀i b,(i,b)∈B→G i=some b)(hm:m=xs.length)(hz:zs.length=m)(hmm:m≤1000000)
  (h:(i1=i2∧zs=xs)∨(i2,Blk.cells false (zs.map cBool.cell))∈B) (hc2:c2=if zs.length=0 then 0 else 1) :
  Abs.Spec CC 36 [.slice (some ⟨i1,0,none⟩) m c1,.slice (some ⟨i2,0,none⟩) m c2] G [[(i1,.cells false (xs.map cBool.cell))]] fun _ v o=>∃D',o=[D']∧D'=[(i1,.cells false ((orRow xs zs).map cBool.cell))]∧v=.bool (decide (orRow xs zs≠xs)):=by
 rcases h with ⟨rfl,rfl⟩ | h
 ·rw[orRow_self];refine(unionSelf_spec G hm hmm).mono fun F' v o _ ⟨D',h1,h2,h3⟩=>⟨D',h1,h2,?_⟩;rw[h3];simp
 ·have ha:=arr_of_cells (K:=cBool) (R:=tBool) (F:=G) (id:=i2) (row:=zs) (c:=if zs.length=0 then 0 else 1) (ro:=false) rfl (fun _ _=>rfl) rfl (hB i2 _ h);rw[hz] at ha;rw[hc2,hz];exact union_spec G hm ha zo hmm
theorem perm_lend{α:Type}{p q z y:α}{bs X own:List α}(h:bs.Perm (y::X)):(p::q::((z::bs)++own)).Perm ((z::X)++(y::p::q::own)):=by
 classical
 rw[List.perm_iff_count] at h ⊢;intro a;have:=h a;simp only[List.count_cons,List.count_append] at this ⊢;omega
theorem follow_spec(F:Frz)(g:Gram)(hg:Valid g){is:Nat}{a:Option Addr}{m c:Nat}{E:List Bool}{Fi:List (List Bool)}(hS:SetsF F is g a m c E Fi)(hFS:FSet g E Fi) :
  Abs.Spec CC 34 [.pointer (some ⟨is,0,none⟩)] F [] fun F' v o=>o=[]∧∃a' n' c' Fo,v=.slice a' n' c'∧Arr (tList tBool) F' a' n' c' Fo∧FolF g Fo:=by
 have hr:=hS.rules;have hrlen:=hr.len;have hgr:=hg.range.rules;have hgn:=hg.range.nons;have hgt:=hg.range.terms;have hgst:g.start<g.nons:=hg.range.start;obtain⟨ie,io0,ce,co,ro,hb0,hE0,hFi0⟩:=hS.blk;refine Abs.Spec.fn (n:=118) Tryz.func34 rfl rfl fun own=>?_;refine zC4 ?_;have hre:=reachedAll_spec F g hg hr;unfold gramCells at hre;refine WT.callF0 Tryz.func62 Z Z Z Z Z Z hre (fun F0 v hF0 hv=>?_);obtain⟨a3,c3,O,rfl,hO,hOR⟩:=hv;have hb0:=hF0 _ _ hb0;refine zC4 ?_;refine AW.range (S:=FS) (fun s=>[(5,.slice s.a s.m s.c)]) (fun s=>s.B::s.bs::own)
  (fun j s G=>Bld tRaw G s.a s.m s.c s.B s.vs∧Abs.Rows cBool s.vs s.bs (List.replicate j (List.replicate (g.terms+1) false))) g.nons ⟨none,0,0,[],[],[]⟩ Z Z Z Z Z Z Z Z Z zo rfl rfl (fun _=>rfl) (fun _=>rfl) sM (OwnLe.flat (List.Perm.refl _)) ⟨Bld.nil_ _ _,Abs.Rows.nil⟩ ?_ ?_
 ·intro j s F1 hF1 hj hP;obtain⟨hb,hR⟩:=hP;have hb1:=hF1 _ _ hb0;have hblen:=hb.len;have hvl:=hR.len.1;rw[List.length_replicate] at hvl;refine zC4 ?_;refine WT.makeT (l:=g.terms+1) hT Z Z Z Z Z Z Z Z Z Z Z Z zom (fun ir hir=>?_);rw[cap_eq];refine WT.buildT hT Z Z Z Z Z Z Z Z Z Z Z Z Z Z (fun i9 hi9=>?_);refine WT.appendT (R:=tRaw) (ys:=[.slice (some ⟨ir,0,none⟩) (g.terms+1) (if g.terms+1=0 then 0 else 1)]) hT 2 hb Z (fun _=>rfl) Z Z Z Z Z Z Z Z Z Z Z (fun h0 s0=>news_own hT s0 0 Z Z Z Z) (Cells.single (R:=tRaw) ⟨rfl,rfl⟩) Z (by decide) zom (fun a3 c3 B3 hB3=>?_);refine zC4 ?_
  refine⟨⟨a3,s.m+1,c3,B3,s.vs++[.slice (some ⟨ir,0,none⟩) (g.terms+1) (if g.terms+1=0 then 0 else 1)],s.bs++[(ir,.cells false (List.replicate (g.terms+1) (.bool false)))]⟩,sM,?_,hB3,?_⟩
  ·refine OwnLe.skip _ (OwnLe.flat ?_);simp only[List.flatten_cons,List.singleton_append];have:=perm_to_end (ir,Blk.cells false (List.replicate (g.terms+1) (.bool false))) B3 s.bs own.flatten;simpa using this
  ·rw[show List.replicate (j+1) (List.replicate (g.terms+1) false)=List.replicate j (List.replicate (g.terms+1) false)++[List.replicate (g.terms+1) false] from List.replicate_succ'];have:=hR.snoc (K:=cBool) (id:=ir) (row:=List.replicate (g.terms+1) false) (c:=if g.terms+1=0 then 0 else 1) (by simp);rw[List.length_replicate,List.map_replicate] at this;exact this
 ·intro s F1 hF1 hP;obtain⟨hb,hR⟩:=hP;have hb1:=hF1 _ _ hb0;have hvl:=hR.len.1;rw[List.length_replicate] at hvl;have hr1:=(hr.mono hF0).mono hF1;have hblen:=hb.len;obtain⟨io,cs,hia,hic,hiB,hcells,_⟩:=hb.at_.resolve_left (fun h=>by rw[h.1] at hvl;simp at hvl;omega);have hcs:=cells_raw hcells;subst hcs;have hic:s.c=1:=hic;refine AW.le (own2:=((io,.cells false s.vs)::s.bs)::own) (OwnLe.flat ?_) ?_
  ·rw[hiB];exact List.Perm.refl _
  rw[hia,hic,show s.m=g.nons by omega];obtain⟨id,cc,hvs,hbs,hcc⟩:=hR.at g.start (List.replicate (g.terms+1) false) (by rw[List.getElem?_replicate,if_pos hgst]);rw[List.length_replicate] at hvs;have hvs0:s.vs[0+g.start*1]?=some (.slice (some ⟨id,0,none⟩) (g.terms+1) cc):=by rw[Nat.zero_add,Nat.mul_one];exact hvs
  have hR0:=hR.set g.start (List.replicate (g.terms+1) false) ((List.replicate (g.terms+1) false).set g.terms true) id (by rw[List.getElem?_replicate,if_pos hgst]) (by simp) hbs;refine zC4 ?_;refine WT.idxA (j:=g.start) (s:=1) hT Z Z Z Z Z Z Z Z Z hgst ?_;refine WT.loadAt hT 0 Z Z Z Z Z Z me Z Z hvs0 ?_;refine zC4 ?_;refine WT.idxA (j:=g.terms) (s:=1) hT Z Z Z Z Z Z Z Z Z zo ?_;refine WT.storeAt hT 0 (g.start+1) Z Z Z Z Z Z hbs Z Z Z (by simp) Z Z ?_;refine zC4 ?_;refine AW.block ?_;refine AW.loopR (S:=FwS) (fun t=>[(6,.bool t.again)]) (fun t=>((io,.cells false s.vs)::t.bs)::own)
   (fun t G=>Abs.Rows cBool s.vs t.bs t.Fo∧FwI g t.Fo∧(t.again=false→∀r∈g.rules,Rch g r.left→∀j,SymCl g t.Fo r j)) (fun t=>if t.again=true then 1+(g.nons*(g.terms+1)-onesT t.Fo) else 0)
   ⟨(List.replicate g.nons (List.replicate (g.terms+1) false)).set g.start ((List.replicate (g.terms+1) false).set g.terms true),s.bs.set g.start (id,.cells false (((List.replicate (g.terms+1) false).set g.terms true).map cBool.cell)),true⟩
   sM (OwnLe.flat ?_) ⟨hR0,?_,fun h=>(by cases h)⟩ ?_
  ·dsimp only;rw[List.map_set,Nat.zero_add,Nat.mul_one];exact List.Perm.refl _
  ·refine⟨⟨by simp,fun row hrow=>?_⟩,fun n t ht=>?_,?_⟩
   ·rcases List.mem_or_eq_of_mem_set hrow with h1 | h1
    ·rw[List.eq_of_mem_replicate h1];simp
    ·rw[h1];simp
   ·rw[getD_setN (by simpa using hgst)] at ht;split at ht
    ·rename_i e;subst e;rcases set_get ht with rfl | h3
     ·exact .start
     ·exact absurd h3 zeros_get
    ·exfalso;rw[List.getD_eq_getElem?_getD (l:=List.replicate g.nons _),List.getElem?_replicate] at ht;split at ht
     ·exact absurd ht zeros_get
     ·simp at ht
   ·rw[getD_setN (by simpa using hgst),if_pos rfl];exact set_true (by simp)
  intro t F2 hF2 hP;obtain⟨hR,hI,hC⟩:=hP;have hr2:=hr1.mono hF2;have hb2:=hF2 _ _ hb1;have hO2:=(hO.mono hF1).mono hF2;refine zC4 ?_;refine AW.cond Z (fun h=>?_) (fun h=>?_)
  ·refine zC4 ?_;refine AW.block ?_;refine zC4 ?_;refine AW.range (S:=FwS) (fun t=>[(6,.bool t.again)]) (fun t=>((io,.cells false s.vs)::t.bs)::own)
    (fun k u G=>Abs.Rows cBool s.vs u.bs u.Fo∧FwI g u.Fo∧(u.again=true→onesT t.Fo<onesT u.Fo)∧(u.again=false→u.Fo=t.Fo∧∀r∈g.rules.take k,Rch g r.left→∀j,SymCl g t.Fo r j)) m ⟨t.Fo,t.bs,false⟩
    Z Z Z Z Z Z Z Z Z zo rfl rfl (fun _=>rfl) (fun _=>rfl) sM oR ⟨hR,hI,fun h=>(by cases h),fun _=>⟨rfl,by simp⟩⟩ ?_ ?_
   ·intro k u F3 hF3 hk hP;obtain⟨huR,huI,huT,huC⟩:=hP;have hr3:=hr2.mono hF3;have hb3:=hF3 _ _ hb2;have hO3:=hO2.mono hF3;have hOl:=hO3.len;refine zC4 ?_;refine WT.idxL hT hr3 Z Z Z Z Z Z Z Z Z zo (fun r hrk b1 off ro1 cs lx hb1' hp1 hrel=>?_);obtain⟨b2,n2,d2,rfl,hr4⟩:=hrel;obtain⟨hrl,hrr,hrs⟩:=hg.right r (gM hrk);have hr4l:=hr4.len;have htk:g.rules.take (k+1)=g.rules.take k++[r]:=by rw[List.take_add_one,hrk];rfl
    refine zC4 ?_;refine WT.allocT hT Z Z Z Z Z Z (fun i8 hi8=>?_);refine zC4 ?_;refine WT.idxL hT hO3 Z Z Z Z Z Z Z Z Z (by have:=hOR.len;omega) (fun e0 he0 b5 off5 ro5 cs5 lx5 hb5 hp5 hrel5=>?_);obtain rfl:lx5=_:=hrel5;have hgE:O.getD r.left false=e0:=by rw[List.getD_eq_getElem?_getD,he0];rfl
    refine zC4 ?_;refine AW.cond Z (fun h3=>?_) (fun h3=>?_)
    ·have h3:e0=false:=by simpa using h3
     refine AW.exit ?_;refine⟨u,sM,zow,huR,huI,huT,fun hag=>?_⟩;obtain⟨q1,q2⟩:=huC hag;refine⟨q1,fun r' hr'=>?_⟩;rw[htk] at hr';rcases List.mem_append.1 hr' with h4 | h4
     ·exact q2 r' h4
     ·rw[List.mem_singleton.1 h4];intro h5;rw[←hOR.at_,hgE,h3] at h5;cases h5
    ·have h3:e0=true:=by simpa using h3
     have hRch:Rch g r.left:=(hOR.at_ _).1 (by rw[hgE,h3]);refine zC4 ?_;refine AW.range (S:=FwS) (fun t=>[(6,.bool t.again)]) (fun t=>[(i8,.cells false [.int .i64 r.left,.slice b2 n2 d2])]::((io,.cells false s.vs)::t.bs)::own)
      (fun i v G=>Abs.Rows cBool s.vs v.bs v.Fo∧FwI g v.Fo∧(v.again=true→onesT t.Fo<onesT v.Fo)∧(v.again=false→u.again=false∧v.Fo=u.Fo∧∀j<i,SymCl g u.Fo r j)) n2 u
      Z Z Z Z Z Z Z Z Z zo rfl rfl (fun _=>rfl) (fun _=>rfl) sM oR ⟨huR,huI,huT,fun h=>⟨h,rfl,fun j hj=>absurd hj (Nat.not_lt_zero _)⟩⟩ ?_ ?_
     ·intro i v F4 hF4 hi hP;obtain⟨hvR,hvI,hvT,hvC⟩:=hP;have hr5:=hr4.mono hF4;have hb4:=hF4 _ _ hb3;refine zC4 ?_;refine WT.idxL hT hr5 Z Z Z Z Z Z Z Z Z zo (fun y hyi b5 off5 ro5 cs5 lx5 hb5 hp5 hrel5=>?_);obtain rfl:lx5=_:=hrel5;obtain⟨yt,yn⟩:=y;have hyo:=hrs _ (gM hyi);refine zC4 ?_;refine WT.allocT hT Z Z Z Z Z Z (fun i10 hi10=>?_);refine zC4 ?_;refine AW.cond Z (fun h4=>?_) (fun h4=>?_)
      ·have h4:yt=true:=by simpa using h4
       refine AW.exit ?_;exact⟨v,sM,zow,hvR,hvI,hvT,FwI.skip hyi h4 hvC⟩
      ·have h4:yt=false:=by simpa using h4
       subst h4;have hyn:yn<g.nons:=hyo;refine zC4 ?_;obtain⟨ra,rc,hrs2,hra⟩:=hr5.slice (C:=CC) (lo:=i+1) (hi:=n2) zo (Nat.le_refl _) hT (t:=56) Z Z Z (some (.int .i64 ((i+1:Nat):Int))) none (by simp[boundA];omega) rfl;refine WT.slice Z Z Z Z Z Z Z Z hrs2 ?_;rw[List.take_of_length_le zo] at hra;have hF34:=((((hF0.trans hF1).trans hF2).trans hF3).trans hF4);have hlst:=hFS.list (l:=r.right.drop (i+1)) (fun y hy=>hrs y (List.mem_of_mem_drop hy))
       refine WT.callN Tryz.func35 Z Z Z Z Z Z (sof_spec F4 hb4 (hE0.mono hF34) (hFi0.mono hF34) hS.row zo hra zo (fun y hy=>hrs y (List.mem_of_mem_drop hy))) (fun F5 w B5 hF5 hv=>?_);obtain⟨ir,rfl,hrl5,rfl⟩:=hv;refine WT.freezeAll 0 Z Z (fun F6 hF6 hB6=>?_);have hrow:Arr tBool F6 (some ⟨ir,0,none⟩) g.terms (if g.terms=0 then 0 else 1) (ofRow E Fi (List.replicate g.terms false) (r.right.drop (i+1))).1:=by
        have:=arr_of_cells (K:=cBool) (R:=tBool) (F:=F6) (id:=ir) (row:=(ofRow E Fi (List.replicate g.terms false) (r.right.drop (i+1))).1) (c:=if (ofRow E Fi (List.replicate g.terms false) (r.right.drop (i+1))).1.length=0 then 0 else 1) (ro:=false) rfl (fun _ _=>rfl) rfl (hB6 ir _ me);rw[hrl5] at this;exact this
       generalize ofRow E Fi (List.replicate g.terms false) (r.right.drop (i+1))=fr at hlst hrow hrl5 ⊢;obtain⟨row,emp⟩:=fr;dsimp only at hlst hrow hrl5;have hnl:yn<v.Fo.length:=by rw[hvI.tab.size];exact hyn
       have hrow0:v.Fo[yn]?=some (v.Fo.getD yn []):=by rw[List.getD_eq_getElem?_getD,gE hnl];rfl
       have holdl:=hvI.row hyn;obtain⟨id1,cc1,hvs1,hbs1,hcc1⟩:=hvR.at yn _ hrow0;have hst:=fun (Fo2:List (List Bool)) (h2:Fo2=if emp=true then (v.Fo.set yn (orRow (v.Fo.getD yn []) (padF (g.terms+1) row))).set yn (orRow ((v.Fo.set yn (orRow (v.Fo.getD yn []) (padF (g.terms+1) row))).getD yn []) ((v.Fo.set yn (orRow (v.Fo.getD yn []) (padF (g.terms+1) row))).getD r.left [])) else v.Fo.set yn (orRow (v.Fo.getD yn []) (padF (g.terms+1) row))) (ag:Bool)=>FwI.step (t0:=t) (u:=u) (v:=v) (gM hrk) hRch hrl hyi hyn hvI hvT (fun h=>(huC h).1) hvC hrl5 hlst.1 hlst.2 rfl h2 (ag:=ag)
       generalize hold:v.Fo.getD yn []=old at hrow0 holdl hvs1 hbs1 hst;have hpl:(padF (g.terms+1) row).length=g.terms+1:=padF_len zo;have hR1:=hvR.set yn old (orRow old (padF (g.terms+1) row)) id1 hrow0 (by rw[orRow_len zo]) hbs1;rw[holdl] at hvs1;have hvs1':s.vs[0+yn*1]?=some (.slice (some ⟨id1,0,none⟩) (g.terms+1) cc1):=by rw[Nat.zero_add,Nat.mul_one];exact hvs1
       refine zC4 ?_;refine WT.idxA (j:=yn) (s:=1) hT Z Z Z Z Z Z Z Z Z hyn ?_;refine WT.loadAt hT 3 Z Z Z Z Z Z me Z Z hvs1' ?_;refine zC4 ?_;have hpk:=perm_pick hbs1;have hn1:(v.Fo.set yn (orRow old (padF (g.terms+1) row))).getD yn []=orRow old (padF (g.terms+1) row):=by rw[getD_setN hnl,if_pos rfl]
       rw[hn1] at hst;have hnewl:(orRow old (padF (g.terms+1) row)).length=g.terms+1:=by rw[orRow_len zo];exact holdl
       refine WT.le (own2:=((io,.cells false s.vs)::v.bs.eraseIdx yn)::[(id1,.cells false (old.map cBool.cell))]::[(i10,.cells false [.bool false,.int .i64 yn])]::[(i8,.cells false [.int .i64 r.left,.slice b2 n2 d2])]::own) (OwnLe.flat (perm_lend hpk)) ?_
       refine WT.callLend1 (upd:=fun D'=>((io,.cells false s.vs)::v.bs.eraseIdx yn)::D'::[(i10,.cells false [.bool false,.int .i64 yn])]::[(i8,.cells false [.int .i64 r.left,.slice b2 n2 d2])]::own) 0 1 Tryz.func36 Z Z Z Z Z Z (List.Perm.refl _) (fun _=>List.Perm.refl _) (fun G hG hBG=>union2_spec G (it:=id1) (xs:=old) (ys:=row) (m:=g.terms+1) zo (hrow.mono hG) zo zo) (fun w D hw=>?_);obtain⟨rfl,rfl⟩:=hw;rw[holdl];generalize orRow old (padF (g.terms+1) row)=new1 at hst hR1 hnewl ⊢
       refine WT.le (own2:=[(i10,.cells false [.bool false,.int .i64 yn])]::[(i8,.cells false [.int .i64 r.left,.slice b2 n2 d2])]::((io,.cells false s.vs)::v.bs.set yn (id1,.cells false (new1.map cBool.cell)))::own) (OwnLe.flat (perm_lend (perm_set (id1,Blk.cells false (new1.map cBool.cell)) hbs1)).symm) ?_;have hbl:=(gS hbs1).1;have hbs1':(v.bs.set yn (id1,Blk.cells false (new1.map cBool.cell)))[yn]?=some (id1,.cells false (new1.map cBool.cell)):=List.getElem?_set_self hbl;generalize hbs1e:v.bs.set yn (id1,Blk.cells false (new1.map cBool.cell))=bs1 at hR1 hbs1' ⊢
       have hl1:r.left<(v.Fo.set yn new1).length:=by rw[List.length_set,hvI.tab.size];exact hrl
       have hrow1:(v.Fo.set yn new1)[yn]?=some new1:=List.getElem?_set_self hnl;have hrow2:(v.Fo.set yn new1)[r.left]?=some ((v.Fo.set yn new1).getD r.left []):=by rw[List.getD_eq_getElem?_getD,gE hl1];rfl
       have hzsl:((v.Fo.set yn new1).getD r.left []).length=g.terms+1:=by
        rw[getD_setN hnl];split
        ·exact hnewl
        ·exact hvI.row hrl
       have hzsn:r.left=yn→(v.Fo.set yn new1).getD r.left []=new1:=fun e=>by rw[getD_setN hnl,if_pos e]
       generalize hFo1:v.Fo.set yn new1=Fo1 at hst hR1 hrow1 hrow2 hzsl hzsn ⊢;generalize Fo1.getD r.left []=zs at hst hrow2 hzsl hzsn ⊢;obtain⟨id2,cc2,hvs2,hbs2,hcc2⟩:=hR1.at r.left zs hrow2;rw[hzsl] at hvs2;have hvs2':s.vs[0+r.left*1]?=some (.slice (some ⟨id2,0,none⟩) (g.terms+1) cc2):=by rw[Nat.zero_add,Nat.mul_one];exact hvs2
       have hR2:=hR1.set yn new1 (orRow new1 zs) id1 hrow1 (by rw[orRow_len zo]) hbs1';have hself:(id1=id2∧zs=new1)∨(id2,Blk.cells false (zs.map cBool.cell))∈((io,.cells false s.vs)::bs1.eraseIdx yn):=by
        by_cases e:r.left=yn
        ·left;refine⟨?_,hzsn e⟩;rw[e,hvs1] at hvs2;simp only[Option.some.injEq,Value.slice.injEq,Addr.mk.injEq] at hvs2;exact hvs2.1.1
        ·right;exact List.mem_cons_of_mem _ (List.mem_eraseIdx_iff_getElem?.2 ⟨r.left,e,hbs2⟩)
       refine zC4 ?_;refine WT.split 97 Z (fun h7=>?_) (fun h7=>?_)
       ·have h7:new1≠old:=of_decide_eq_true h7;refine zC4 ?_;refine AW.cond Z (fun h5=>?_) (fun h5=>?_)
        ·have h5:emp=true:=h5;refine zC4 ?_;refine WT.idxA (j:=yn) (s:=1) hT Z Z Z Z Z Z Z Z Z hyn ?_;refine WT.loadAt hT 2 Z Z Z Z Z Z me Z Z hvs1' ?_;refine zC4 ?_;refine WT.idxA (j:=r.left) (s:=1) hT Z Z Z Z Z Z Z Z Z hrl ?_;refine WT.loadAt hT 2 Z Z Z Z Z Z me Z Z hvs2' ?_;refine WT.le (own2:=((io,.cells false s.vs)::bs1.eraseIdx yn)::[(id1,.cells false (new1.map cBool.cell))]::[(i10,.cells false [.bool false,.int .i64 yn])]::[(i8,.cells false [.int .i64 r.left,.slice b2 n2 d2])]::own) (OwnLe.flat (perm_lend (perm_pick hbs1'))) ?_
         refine WT.callLend1 (upd:=fun D'=>((io,.cells false s.vs)::bs1.eraseIdx yn)::D'::[(i10,.cells false [.bool false,.int .i64 yn])]::[(i8,.cells false [.int .i64 r.left,.slice b2 n2 d2])]::own) 0 1 Tryz.func36 Z Z Z Z Z Z (List.Perm.refl _) (fun _=>List.Perm.refl _) (fun G hG hBG=>uniAny_spec G (i1:=id1) (i2:=id2) (xs:=new1) (zs:=zs) (m:=g.terms+1) hBG hnewl.symm hzsl zo hself hcc2) (fun w D hw=>?_);obtain⟨rfl,rfl⟩:=hw
         refine WT.le (own2:=[(i10,.cells false [.bool false,.int .i64 yn])]::[(i8,.cells false [.int .i64 r.left,.slice b2 n2 d2])]::((io,.cells false s.vs)::bs1.set yn (id1,.cells false ((orRow new1 zs).map cBool.cell)))::own) (OwnLe.flat (perm_lend (perm_set (id1,Blk.cells false ((orRow new1 zs).map cBool.cell)) hbs1')).symm) ?_;refine zC4 ?_;refine WT.split 112 Z (fun h6=>?_) (fun h6=>?_)
         ·have h6:orRow new1 zs≠new1:=of_decide_eq_true h6;refine zC4 ?_;exact⟨⟨Fo1.set yn (orRow new1 zs),bs1.set yn (id1,.cells false ((orRow new1 zs).map cBool.cell)),true⟩,sM,zow,hR2,hst _ (by rw[if_pos h5]) true (fun _=>rfl) (fun _=>rfl) (fun _ _=>rfl) (fun _=>.inr (.inr ⟨h5,h6⟩))⟩
         ·have h6:orRow new1 zs=new1:=by simpa using h6
          refine zC4 ?_;exact⟨⟨Fo1.set yn (orRow new1 zs),bs1.set yn (id1,.cells false ((orRow new1 zs).map cBool.cell)),true⟩,sM,zow,hR2,hst _ (by rw[if_pos h5]) true (fun _=>rfl) (fun _=>rfl) (fun _ h=>absurd h6 h) (fun _=>.inr (.inl h7))⟩
        ·have h5:emp=false:=h5;refine zC4 ?_;exact⟨⟨Fo1,bs1,true⟩,sM,zow,hR1,hst _ (by rw[if_neg (by rw[h5];simp)]) true (fun _=>rfl) (fun _=>rfl) (fun h=>by rw[h5] at h;cases h) (fun _=>.inr (.inl h7))⟩
       ·have h7:new1=old:=by simpa using h7
        refine zC4 ?_;refine AW.cond Z (fun h5=>?_) (fun h5=>?_)
        ·have h5:emp=true:=h5;refine zC4 ?_;refine WT.idxA (j:=yn) (s:=1) hT Z Z Z Z Z Z Z Z Z hyn ?_;refine WT.loadAt hT 2 Z Z Z Z Z Z me Z Z hvs1' ?_;refine zC4 ?_;refine WT.idxA (j:=r.left) (s:=1) hT Z Z Z Z Z Z Z Z Z hrl ?_;refine WT.loadAt hT 2 Z Z Z Z Z Z me Z Z hvs2' ?_;refine WT.le (own2:=((io,.cells false s.vs)::bs1.eraseIdx yn)::[(id1,.cells false (new1.map cBool.cell))]::[(i10,.cells false [.bool false,.int .i64 yn])]::[(i8,.cells false [.int .i64 r.left,.slice b2 n2 d2])]::own) (OwnLe.flat (perm_lend (perm_pick hbs1'))) ?_
         refine WT.callLend1 (upd:=fun D'=>((io,.cells false s.vs)::bs1.eraseIdx yn)::D'::[(i10,.cells false [.bool false,.int .i64 yn])]::[(i8,.cells false [.int .i64 r.left,.slice b2 n2 d2])]::own) 0 1 Tryz.func36 Z Z Z Z Z Z (List.Perm.refl _) (fun _=>List.Perm.refl _) (fun G hG hBG=>uniAny_spec G (i1:=id1) (i2:=id2) (xs:=new1) (zs:=zs) (m:=g.terms+1) hBG hnewl.symm hzsl zo hself hcc2) (fun w D hw=>?_);obtain⟨rfl,rfl⟩:=hw
         refine WT.le (own2:=[(i10,.cells false [.bool false,.int .i64 yn])]::[(i8,.cells false [.int .i64 r.left,.slice b2 n2 d2])]::((io,.cells false s.vs)::bs1.set yn (id1,.cells false ((orRow new1 zs).map cBool.cell)))::own) (OwnLe.flat (perm_lend (perm_set (id1,Blk.cells false ((orRow new1 zs).map cBool.cell)) hbs1')).symm) ?_;refine zC4 ?_;refine WT.split 112 Z (fun h6=>?_) (fun h6=>?_)
         ·have h6:orRow new1 zs≠new1:=of_decide_eq_true h6;refine zC4 ?_;exact⟨⟨Fo1.set yn (orRow new1 zs),bs1.set yn (id1,.cells false ((orRow new1 zs).map cBool.cell)),true⟩,sM,zow,hR2,hst _ (by rw[if_pos h5]) true (fun _=>rfl) (fun _=>rfl) (fun _ _=>rfl) (fun _=>.inr (.inr ⟨h5,h6⟩))⟩
         ·have h6:orRow new1 zs=new1:=by simpa using h6
          refine zC4 ?_;exact⟨⟨Fo1.set yn (orRow new1 zs),bs1.set yn (id1,.cells false ((orRow new1 zs).map cBool.cell)),v.again⟩,sM,zow,hR2,hst _ (by rw[if_pos h5]) v.again (fun h=>h) (fun h=>absurd h7 h) (fun _ h=>absurd h6 h) (fun h=>.inl h)⟩
        ·have h5:emp=false:=h5;refine zC4 ?_;exact⟨⟨Fo1,bs1,v.again⟩,sM,zow,hR1,hst _ (by rw[if_neg (by rw[h5];simp)]) v.again (fun h=>h) (fun h=>absurd h7 h) (fun h=>by rw[h5] at h;cases h) (fun h=>.inl h)⟩
     ·intro v F4 hF4 hP;obtain⟨hvR,hvI,hvT,hvC⟩:=hP;refine⟨v,sM,zow,hvR,hvI,hvT,fun hag=>?_⟩;obtain⟨q1,q2,q3⟩:=hvC hag;obtain⟨q4,q5⟩:=huC q1;refine⟨by rw[q2,q4],fun r' hr'=>?_⟩;rw[htk] at hr';rcases List.mem_append.1 hr' with h6 | h6
      ·exact q5 r' h6
      ·rw[List.mem_singleton.1 h6];intro _ j;rw[←q4];rcases Nat.lt_or_ge j n2 with h7 | h7
       ·exact q3 j h7
       ·intro n' hn';rw[List.getElem?_eq_none zo] at hn';cases hn'
   ·intro u F3 hF3 hP;obtain⟨huR,huI,huT,huC⟩:=hP;rw[List.take_of_length_le zo] at huC;refine⟨u,?_,sM,zow,huR,huI,fun hag=>?_⟩
    ·have h1:=onesT_le huI.tab;rw[h,if_pos rfl];split
     ·rename_i h4;have:=huT h4;omega
     ·omega
    ·obtain⟨q1,q2⟩:=huC hag;rw[q1];exact q2
  ·refine AW.exit ?_;refine AW.freezeAll 0 Z Z (fun F3 hF3 hB3=>?_);refine zC4 ?_;have hFa:=Abs.Rows.arr (K:=cBool) (R:=tBool) rfl (fun _ _=>rfl) (F:=F3) (o:=io) (c:=if t.Fo.length=0 then 0 else 1) (ro:=false) hR (fun i b hm=>hB3 i b (by simp[hm])) rfl (hB3 io _ (by simp));rw[hI.tab.size,if_neg zo] at hFa;exact AW.ret ⟨_,[],⟨_,_,rfl,rfl,rfl⟩,zsb,rfl,_,_,_,t.Fo,rfl,hFa,.of hI (hC h)⟩
def RowP(g:Gram)(r:Rule)(row:List Bool):Prop:=row.length=g.terms+1∧∀t,row.getD t false=true↔Can g r t
theorem cells_bool{F:Frz}:∀{xs:List Bool} {cs:List Value},Cells tBool F cs xs→cs=xs.map cBool.cell:=by
 intro xs cs h
 induction h with
 | nil=>rfl
 | cons h1 _ ih=>
  rw[List.map_cons,←ih,show _=_ from h1];rfl
theorem boolCells2{F:Frz}:∀K:List Bool,Cells tBool F (K.map cBool.cell) K
 | []=>.nil
 | b::K=>Cells.cons (l:=[.bool b]) rfl (boolCells2 K)
theorem getD_snoc{l:List Bool}{t:Nat}:(l++[false]).getD t false=true↔l.getD t false=true:=by
 rw[List.getD_eq_getElem?_getD,List.getD_eq_getElem?_getD];rcases Nat.lt_trichotomy t l.length with h | h | h
 ·rw[List.getElem?_append_left h]
 ·subst h;rw[List.getElem?_append_right (Nat.le_refl _),Nat.sub_self,List.getElem?_eq_none (l:=l) (Nat.le_refl _)];rfl
 ·rw[List.getElem?_eq_none (by simp;omega),List.getElem?_eq_none zo]
theorem snoc_rows{g:Gram}{P:List (List Bool)}{j:Nat}{r:Rule}{row:List Bool}(hl:P.length=j)(hP:∀i r,i<j→g.rules[i]?=some r→RowP g r (P.getD i []))(hr:g.rules[j]?=some r)(h:RowP g r row) :
  ∀i r',i<j+1→g.rules[i]?=some r'→RowP g r' ((P++[row]).getD i []):=by
 intro i r' hi hr';rw[List.getD_eq_getElem?_getD];by_cases e:i=j
 ·subst e;rw[hr] at hr';obtain rfl:=Option.some.inj hr';rw[List.getElem?_append_right zo,hl,Nat.sub_self];exact h
 ·rw[List.getElem?_append_left zo,←List.getD_eq_getElem?_getD];exact hP i r' zo hr'
structure PdS where
 a:Option Addr
 m:Nat
 c:Nat
 B:List (Nat×Blk)
 P:List (List Bool)
theorem predict_spec(F:Frz)(g:Gram)(hg:Valid g)(ht0:0<g.terms){a:Option Addr}{m c:Nat}(hr:Arr tRule F a m c g.rules) :
  Abs.Spec CC 14 [.agg ⟨gramCells g a m c⟩] F [] fun F' v o=>o=[]∧∃a' n' c' P,v=.tuple ⟨[.slice a' n' c',.int .i64 0]⟩∧Arr (tList tBool) F' a' n' c' P∧P.length=g.rules.length∧
   ∀i r,g.rules[i]?=some r→RowP g r (P.getD i []):=by
 have hml:=hr.len;have hgr:=hg.range.rules;have hgt:=hg.range.terms;have hgn:=hg.range.nons;unfold gramCells;refine Abs.Spec.fn (n:=52) Tryz.func14 rfl rfl fun own=>?_;refine AW.seq (AW.reg ?_);refine WT.boxT Z Z Z Z Z Z (fun i1 hi1=>?_);refine WT.freezeAll 0 Z Z (fun F0 hF0 hB0=>?_);have hi1:=hB0 i1 _ me;have hr:=hr.mono hF0;have hck:=check_spec F0 g hg.range hr;have hmk:=make2_spec F0 g hg hr;rw[hg.no_err] at hck;unfold gramCells at hck hmk;refine zC4 ?_;refine WT.callV Tryz.func32 Z Z Z Z Z Z hck (fun v hv=>?_);subst hv;refine zC4 ?_;refine AW.cond Z (fun h=>(by cases h)) (fun _=>?_)
 refine zC4 ?_;refine WT.callF0 Tryz.func33 Z Z Z Z Z Z hmk (fun F1 v hF1 hv=>?_);obtain⟨is,E,Fi,rfl,hS,hFS⟩:=hv;have hr1:=hr.mono hF1;have hi1:=hF1 _ _ hi1;refine zC4 ?_;refine WT.callF0 Tryz.func34 Z Z Z Z Z Z (follow_spec F1 g hg hS hFS) (fun F2 v hF2 hv=>?_);obtain⟨fa,fn,fc,Fo,rfl,hFo,hFoF⟩:=hv;have hr2:=hr1.mono hF2;have hi1:=hF2 _ _ hi1;obtain⟨ie,io,ce,co,ro,hb0,hE0,hFi0⟩:=hS.blk;have hfl:=hFo.len;have hFsz:=hFoF.tab.size;refine zC4 ?_;refine AW.range (S:=PdS) (fun s=>[(7,.slice s.a s.m s.c)]) (fun s=>s.B::own)
  (fun j s G=>Bld (tList tBool) G s.a s.m s.c s.B s.P∧s.P.length=j∧∀i r,i<j→g.rules[i]?=some r→RowP g r (s.P.getD i [])) m ⟨none,0,0,[],[]⟩ Z Z Z Z Z Z Z Z Z zo rfl rfl (fun _=>rfl) (fun _=>rfl) sM (OwnLe.flat (List.Perm.refl _)) ⟨Bld.nil_ _ _,rfl,fun i r h=>by omega⟩ ?_ ?_
 ·intro j s F3 hF3 hj hP;obtain⟨hb,hPl,hPr⟩:=hP;have hr3:=hr2.mono hF3;have hF23:=hF2.trans hF3;have hblen:=hb.len;refine zC4 ?_;refine WT.idxL hT hr3 Z Z Z Z Z Z Z Z Z zo (fun r hrk b1 off ro1 cs1 lx1 hb1 hp1 hrel=>?_);obtain⟨b2,n2,d2,rfl,hr4⟩:=hrel;obtain⟨hrl,hrr,hrs⟩:=hg.right r (gM hrk);have hr4l:=hr4.len;refine zC4 ?_;refine WT.allocT hT Z Z Z Z Z Z (fun i9 hi9=>?_);refine zC4 ?_;have hlst:=hFS.list (l:=r.right) hrs;refine WT.callN Tryz.func35 Z Z Z Z Z Z (sof_spec F3 (hF23 _ _ hb0) (hE0.mono hF23) (hFi0.mono hF23) hS.row zo hr4 zo hrs) (fun F5 v B5 hF5 hv=>?_);obtain⟨ir,rfl,hrl5,rfl⟩:=hv
  generalize ofRow E Fi (List.replicate g.terms false) r.right=fr at hlst hrl5 ⊢;obtain⟨row,emp⟩:=fr;dsimp only at hlst hrl5;have hbr:Bld tBool F5 (some ⟨ir,0,none⟩) g.terms 1 [(ir,.cells false (row.map cBool.cell))] row:=⟨hrl5.symm,.inr ⟨ir,_,rfl,rfl,rfl,boolCells2 row,by decide⟩⟩;rw[if_neg zo];refine zC4 ?_;refine WT.buildT hT Z Z Z Z Z Z Z Z Z Z Z Z Z Z (fun i36 hi36=>?_);refine WT.appendT (R:=tBool) (ys:=[false]) hT 1 hbr Z (fun _=>rfl) Z Z Z Z Z Z Z Z Z Z Z (fun h0 s0=>news_own hT s0 0 Z Z Z Z) (Cells.single (R:=tBool) rfl) Z (by decide) zom (fun a6 c6 B6 hB6=>?_)
  obtain⟨i6,cs6,rfl,hc6,rfl,hcells6,_⟩:=hB6.at_.resolve_left (fun h=>by simp at h);have hcs6:=cells_bool hcells6;subst hcs6;have hc6:c6=1:=hc6;subst hc6;have hlen6:(row++[false]).length=g.terms+1:=by rw[List.length_append];simp;omega
  have hrow6:∀t,(row++[false]).getD t false=true↔BegL g r.right t:=fun t=>by rw[getD_snoc];exact hlst.1 t
  refine zC4 ?_;refine AW.cond Z (fun he=>?_) (fun he=>?_)
  ·have hnul:=hlst.2.1 he;have hFo5:=(hFo.mono hF3).mono hF5;refine zC4 ?_;refine WT.idxL hT hFo5 Z Z Z Z Z Z Z Z Z zo (fun fo hfo b3 off3 ro3 cs3 lx3 hb3 hp3 hrel3=>?_);obtain⟨b4,n4,d4,rfl,hfo4⟩:=hrel3;have hfol:=hFoF.tab.row fo (gM hfo);have hfl4:=hfo4.len;have hfoD:Fo.getD r.left []=fo:=by rw[List.getD_eq_getElem?_getD,hfo];rfl
   have hfat:∀t,fo.getD t false=true↔Fol g r.left t:=fun t=>by rw[←hfoD];exact hFoF.at_ r.left t
   refine zC4 ?_;refine WT.call1 1 Tryz.func36 Z Z Z Z Z Z Z (fun _=>rfl) (union_spec F5 (it:=i6) (xs:=row++[false]) (m:=g.terms+1) zo hfo4 zo zo) (fun v B hv=>?_);obtain⟨rfl,rfl⟩:=hv;have hnewl:(orRow (row++[false]) fo).length=g.terms+1:=by rw[orRow_len zo];exact hlen6
   have hnew:RowP g r (orRow (row++[false]) fo):=⟨hnewl,fun t=>⟨fun h=>(orRow_get h).elim (fun h=>.inl ((hrow6 t).1 h)) (fun h=>.inr ⟨hnul,(hfat t).1 h⟩),fun h=>orRow_left zo (h.elim (fun h=>.inl ((hrow6 t).2 h)) fun h=>.inr ((hfat t).2 h.2))⟩⟩;refine WT.freezeAll 1 Z Z (fun F6 hF6 hBf=>?_);have hrowA:Arr tBool F6 (some ⟨i6,0,none⟩) (g.terms+1) 1 (orRow (row++[false]) fo):=by
    have:=arr_of_cells (K:=cBool) (R:=tBool) (F:=F6) (id:=i6) (row:=orRow (row++[false]) fo) (c:=1) (ro:=false) rfl (fun _ _=>rfl) (by rw[hnewl];rfl) (hBf i6 _ me);rw[hnewl] at this;exact this
   refine zC4 ?_;refine WT.buildT hT Z Z Z Z Z Z Z Z Z Z Z Z Z Z (fun i48 hi48=>?_);refine WT.appendT (R:=tList tBool) (ys:=[orRow (row++[false]) fo]) hT 4 (hb.mono (hF5.trans hF6)) Z (fun _=>rfl) Z Z Z Z Z Z Z Z Z Z Z (fun h0 s0=>news_own hT s0 0 Z Z Z Z) (Cells.single (R:=tList tBool) ⟨_,_,_,rfl,hrowA⟩) Z (by decide) zom (fun a7 c7 B7 hB7=>?_);refine zC4 ?_;exact⟨⟨a7,s.m+1,c7,B7,s.P++[orRow (row++[false]) fo]⟩,sM,zow,hB7,by simp[hPl],snoc_rows hPl hPr hrk hnew⟩
  ·have hnew:RowP g r (row++[false]):=⟨hlen6,fun t=>⟨fun h=>.inl ((hrow6 t).1 h),fun h=>(hrow6 t).2 (h.resolve_right fun h=>by
    have:=hlst.2.2 h.1;simp at he;rw[he] at this;cases this)⟩⟩
   refine zC4 ?_;refine WT.freezeAll 1 Z Z (fun F6 hF6 hBf=>?_);have hrowA:Arr tBool F6 (some ⟨i6,0,none⟩) (g.terms+1) 1 (row++[false]):=by
    have:=arr_of_cells (K:=cBool) (R:=tBool) (F:=F6) (id:=i6) (row:=row++[false]) (c:=1) (ro:=false) rfl (fun _ _=>rfl) (by rw[hlen6];rfl) (hBf i6 _ me);rw[hlen6] at this;exact this
   refine WT.buildT hT Z Z Z Z Z Z Z Z Z Z Z Z Z Z (fun i48 hi48=>?_);refine WT.appendT (R:=tList tBool) (ys:=[row++[false]]) hT 4 (hb.mono (hF5.trans hF6)) Z (fun _=>rfl) Z Z Z Z Z Z Z Z Z Z Z (fun h0 s0=>news_own hT s0 0 Z Z Z Z) (Cells.single (R:=tList tBool) ⟨_,_,_,rfl,hrowA⟩) Z (by decide) zom (fun a7 c7 B7 hB7=>?_);refine zC4 ?_;exact⟨⟨a7,s.m+1,c7,B7,s.P++[row++[false]]⟩,sM,zow,hB7,by simp[hPl],snoc_rows hPl hPr hrk hnew⟩
 ·intro s F3 hF3 hP;obtain⟨hb,hPl,hPr⟩:=hP;refine AW.freezeAll 0 Z Z (fun F4 hF4 hB4=>?_);refine zC4 ?_;have:=hb.frozen hF4 hB4;exact AW.ret ⟨_,[],⟨_,_,rfl,⟨_,_,rfl,rfl,rfl⟩,rfl⟩,zsb,rfl,_,_,_,_,rfl,this,by omega,fun i r hi=>hPr i r (by have:=(gS hi).1;omega) hi⟩
def candB(g:Gram)(P:List (List Bool))(n t i:Nat):Bool:=(match g.rules[i]? with | some r=>decide (r.left=n) | none=>false)&&(P.getD i []).getD t false
def candsF(g:Gram)(P:List (List Bool))(n t k:Nat):List Nat:=(List.range k).filter (candB g P n t)
def entF(l:List Nat):Int:=match l with
 | []=>-1
 | i::_=>i
theorem candsF_succ(g:Gram)(P:List (List Bool))(n t k:Nat):candsF g P n t (k+1)=candsF g P n t k++(if candB g P n t k=true then [k] else []):=by
 unfold candsF;rw[List.range_succ,List.filter_append];congr 1;rw[List.filter_cons];rfl
def fewC(g:Gram)(P:List (List Bool))(n t:Nat):Prop:=(candsF g P n t g.rules.length).length≤1
def tabP(g:Gram)(P:List (List Bool))(n t:Nat):Option Nat:=if n<g.nons∧t≤g.terms then (candsF g P n t g.rules.length).head? else none
theorem Fol.le{g:Gram}(hg:Valid g){n t:Nat}(h:Fol g n t):t≤g.terms:=by
 induction h with
 | start=>exact Nat.le_refl _
 | beg hr hR e hb=>
  have hs:=(hg.right _ hr).2.2;rw[e] at hs;exact Nat.le_of_lt (hb.lt hg fun s hm=>hs s (List.mem_append_right _ (List.mem_cons_of_mem _ hm)))
 | pass _ _ _ _ _ ih=>exact ih
theorem llok_of{g:Gram}(hg:Valid g){P:List (List Bool)}(hP:∀i r,g.rules[i]?=some r→RowP g r (P.getD i []))(hno:∀n t,n<g.nons→t≤g.terms→fewC g P n t):LLok g (tabP g P):=by
 constructor
 ·intro n t k h;unfold tabP at h;split at h
  ·have hm:=List.mem_of_mem_head? h;unfold candsF at hm;rw[List.mem_filter,List.mem_range] at hm;obtain⟨hk,hc⟩:=hm;unfold candB at hc;have hr:=gE hk;rw[hr] at hc;simp only[Bool.and_eq_true,decide_eq_true_eq] at hc;exact⟨_,hr,hc.1,((hP _ _ hr).2 t).1 hc.2⟩
  ·cases h
 ·intro k t r hr hc;have hrm:=gM hr;have hl:=(hg.right r hrm).1;have ht:t≤g.terms:=hc.elim (fun h=>Nat.le_of_lt (h.lt hg (hg.right r hrm).2.2)) fun h=>h.2.le hg;have hm:k∈candsF g P r.left t g.rules.length:=by
   unfold candsF;rw[List.mem_filter,List.mem_range];refine⟨(gS hr).1,?_⟩;unfold candB;rw[hr];simp only[Bool.and_eq_true,decide_eq_true_eq];exact⟨trivial,((hP _ _ hr).2 t).2 hc⟩
  unfold tabP;rw[if_pos ⟨hl,ht⟩];have hf:=hno r.left t hl ht;unfold fewC at hf
  match hq:candsF g P r.left t g.rules.length with
  | []=>rw[hq] at hm;cases hm
  | [x]=>rw[hq] at hm;rw[List.mem_singleton.1 hm];rfl
  | x::y::l=>rw[hq] at hf;simp at hf
def ROk(g:Gram)(P:List (List Bool))(n k:Nat)(row:List Int):Prop:=row.length=k∧∀t,t<k→row.getD t 0=entF (candsF g P n t g.rules.length)
def tCl:Ty Unit where
 size:=3
 rel:=fun _ l _=>∃n t a m c,l=[.int .i64 n,.int .i64 t,.slice a m c]
 len:=fun _ _ _ ⟨_,_,_,_,_,h⟩=>by rw[h];rfl
 one:=fun _ _ _ ⟨_,_,_,_,_,h⟩=>by rw[h];rfl
 mono:=fun _ _ _ _ _ h=>h
structure OfS where
 ra:Option Addr
 rn:Nat
 rc:Nat
 RB:List (Nat×Blk)
 R:List (List Int)
 ca:Option Addr
 cn:Nat
 cc:Nat
 CB:List (Nat×Blk)
 U:List Unit
structure OfT where
 ca:Option Addr
 cn:Nat
 cc:Nat
 CB:List (Nat×Blk)
 U:List Unit
 wa:Option Addr
 wn:Nat
 wc:Nat
 WB:List (Nat×Blk)
 ws:List Int
structure OfC where
 ca:Option Addr
 cn:Nat
 cc:Nat
 CB:List (Nat×Blk)
 U:List Unit
structure OfL where
 la:Option Addr
 ln:Nat
 lc:Nat
 LB:List (Nat×Blk)
 ls:List Nat
theorem tabs_few{g:Gram}{cn j n:Nat}(h:cn≤j*(g.terms+1)+n)(hj:j≤10)(hn:n≤9)(ht:g.terms≤8):cn≤1000:=by
 have:=Nat.mul_le_mul hj (show g.terms+1≤9 by omega);omega
theorem predictOf_spec(F:Frz)(g:Gram)(hg:Valid g){a:Option Addr}{m c:Nat}(hr:Arr tRule F a m c g.rules) :
  Abs.Spec CC 5 [.agg ⟨gramCells g a m c⟩] F [] fun F' v o=>o=[]∧∃ra rn rc R ca cn cc P,v=.tuple ⟨[.agg ⟨[.slice ra rn rc,.slice ca cn cc]⟩,.int .i64 0]⟩∧Arr (tList tInt) F' ra rn rc R∧
   R.length=g.nons∧(∀n,n<g.nons→ROk g P n (g.terms+1) (R.getD n []))∧
   (cn=0↔∀n t,n<g.nons→t≤g.terms→fewC g P n t)∧cn≤1000∧∀i r,g.rules[i]?=some r→RowP g r (P.getD i []):=by
 have hml:=hr.len;have hgr:=hg.range.rules;have hgt:=hg.range.terms;have hgn:=hg.range.nons;unfold gramCells;refine Abs.Spec.fn (n:=88) Tryz.func5 rfl rfl fun own=>?_;refine AW.seq (AW.reg ?_);refine WT.boxT Z Z Z Z Z Z (fun i1 hi1=>?_);refine WT.freezeAll 0 Z Z (fun F0 hF0 hB0=>?_);have hi1:=hB0 i1 _ me;have hr:=hr.mono hF0;have hpr:=predict_spec F0 g hg zo hr;unfold gramCells at hpr;refine WT.allocT hT Z Z Z Z Z Z (fun i2 hi2=>?_);refine zC4 ?_;refine WT.callF0 Tryz.func14 Z Z Z Z Z Z hpr (fun F1 v hF1 hv=>?_);obtain⟨pa,pn,pc,P,rfl,hPa,hPl,hPr⟩:=hv;have hr1:=hr.mono hF1;have hi1:=hF1 _ _ hi1
 have hpl:=hPa.len;refine zC4 ?_;refine AW.cond Z (fun h=>(by cases h)) (fun _=>?_);refine zC4 ?_;refine WT.allocT hT Z Z Z Z Z Z (fun i6 hi6=>?_);refine zC4 ?_;refine AW.range (S:=OfS) (fun s=>[]) (fun s=>[(i6,.cells false [.slice s.ra s.rn s.rc,.slice s.ca s.cn s.cc])]::s.RB::s.CB::[(i2,.cells false [.slice none 0 0,.slice none 0 0])]::own)
  (fun j s G=>Bld (tList tInt) G s.ra s.rn s.rc s.RB s.R∧s.R.length=j∧(∀n,n<j→ROk g P n (g.terms+1) (s.R.getD n []))∧Bld tCl G s.ca s.cn s.cc s.CB s.U∧s.cn≤j*(g.terms+1)∧(s.cn=0↔∀n t,n<j→t≤g.terms→fewC g P n t)) g.nons ⟨none,0,0,[],[],none,0,0,[],[]⟩
  Z Z Z Z Z Z Z Z Z zo rfl rfl (fun _=>rfl) (fun _=>rfl) sM (OwnLe.flat (List.Perm.refl _)) ⟨Bld.nil_ _ _,rfl,fun n h=>by omega,Bld.nil_ _ _,by simp,by simp⟩ ?_ ?_
 ·intro j s F2 hF2 hj hP;obtain⟨hb,hRl,hR,hcb,hcn,hcl⟩:=hP;have hi1:=hF2 _ _ hi1;have hblen:=hb.len;refine zC4 ?_;refine AW.range (S:=OfT) (fun u=>[(8,.slice u.wa u.wn u.wc)]) (fun u=>[(i6,.cells false [.slice s.ra s.rn s.rc,.slice u.ca u.cn u.cc])]::u.WB::s.RB::u.CB::[(i2,.cells false [.slice none 0 0,.slice none 0 0])]::own)
   (fun t u G=>Bld tInt G u.wa u.wn u.wc u.WB u.ws∧ROk g P j t u.ws∧Bld tCl G u.ca u.cn u.cc u.CB u.U∧u.cn≤j*(g.terms+1)+t∧(u.cn=0↔s.cn=0∧∀t',t'<t→fewC g P j t')) (g.terms+1) ⟨s.ca,s.cn,s.cc,s.CB,s.U,none,0,0,[],[]⟩
   Z Z Z Z Z Z Z Z Z zo rfl rfl (fun _=>rfl) (fun _=>rfl) sM (OwnLe.flat (List.Perm.refl _)) ⟨Bld.nil_ _ _,⟨rfl,fun t h=>by omega⟩,hcb,by simpa using hcn,by simp⟩ ?_ ?_
  ·intro t u F3 hF3 ht hP;obtain⟨hwb,hws,hcb3,hcn3,hcl3⟩:=hP;have hi1:=hF3 _ _ hi1;have hcn4:=tabs_few hcn3 zo zo hgt.2;have hr3:=(hr1.mono hF2).mono hF3;have hPa3:=(hPa.mono hF2).mono hF3;have hwl:=hwb.len;have hwsl:=hws.1;refine zC4 ?_;refine AW.range (S:=OfL) (fun v=>[(10,.slice v.la v.ln v.lc)]) (fun v=>v.LB::[(i6,.cells false [.slice s.ra s.rn s.rc,.slice u.ca u.cn u.cc])]::u.WB::s.RB::u.CB::[(i2,.cells false [.slice none 0 0,.slice none 0 0])]::own)
    (fun i v G=>Bld tInt G v.la v.ln v.lc v.LB (v.ls.map fun x:Nat=>(x:Int))∧v.ls=candsF g P j t i) m ⟨none,0,0,[],[]⟩
    Z Z Z Z Z Z Z Z Z zo rfl rfl (fun _=>rfl) (fun _=>rfl) sM (OwnLe.flat (List.Perm.refl _)) ⟨Bld.nil_ _ _,rfl⟩ ?_ ?_
   ·intro i v F4 hF4 hi hP;obtain⟨hlb,hls⟩:=hP;have hi1:=hF4 _ _ hi1;have hr4:=hr3.mono hF4;have hPa4:=hPa3.mono hF4;have hll:=hlb.len;have hlf:v.ls.length≤i:=by rw[hls];exact Nat.le_trans (List.length_filter_le _ _) (Nat.le_of_eq (List.length_range ..))
    rw[List.length_map] at hll;refine zC4 ?_;refine WT.idxL hT hr4 Z Z Z Z Z Z Z Z Z zo (fun r hrk b1 off ro1 cs1 lx1 hb1 hp1 hrel=>?_);obtain⟨b2,n2,d2,rfl,hr5⟩:=hrel;refine zC4 ?_;refine WT.allocT hT Z Z Z Z Z Z (fun i12 hi12=>?_);refine zC4 ?_;by_cases e:r.left=j
    ·refine WT.know (v':=.bool true) 45 Z (by congr 1;simp;omega) ?_;refine zC4 ?_;refine WT.idxL hT hPa4 Z Z Z Z Z Z Z Z Z zo (fun row hrow b3 off3 ro3 cs3 lx3 hb3 hp3 hrel3=>?_);obtain⟨b4,n4,d4,rfl,hrow4⟩:=hrel3;have hPD:P.getD i []=row:=by rw[List.getD_eq_getElem?_getD,hrow];rfl
     have hrl:=(hPr i r hrk).1;rw[hPD] at hrl;have hrl4:=hrow4.len;refine zC4 ?_;refine WT.idxL hT hrow4 Z Z Z Z Z Z Z Z Z zo (fun x hx b5 off5 ro5 cs5 lx5 hb5 hp5 hrel5=>?_);obtain rfl:lx5=_:=hrel5;have hcand:candB g P j t i=x:=by
      unfold candB;rw[hrk,hPD,List.getD_eq_getElem?_getD,hx];simp[e]
     refine zC4 ?_;refine AW.cond Z (fun he=>?_) (fun he=>?_)
     ·have hx1:x=true:=he;rw[hx1] at hcand;refine zC4 ?_;refine WT.buildT hT Z Z Z Z Z Z Z Z Z Z Z Z Z Z (fun i56 hi56=>?_);refine WT.appendT (R:=tInt) (ys:=[(i:Int)]) hT 2 hlb Z (fun _=>rfl) Z Z Z Z Z Z Z Z Z Z Z (fun h0 s0=>news_own hT s0 0 Z Z Z Z) (Cells.single (R:=tInt) (x:=(i:Int)) rfl) Z (by decide) zom (fun a7 c7 B7 hB7=>?_);refine zC4 ?_;exact⟨⟨a7,v.ln+1,c7,B7,v.ls++[i]⟩,sM,zow,by rw[List.map_append];exact hB7,by rw[candsF_succ,hcand,hls];rfl⟩
     ·have hx0:x=false:=he;rw[hx0] at hcand;refine zC4 ?_;exact⟨v,sM,zow,hlb,by rw[candsF_succ,hcand,hls];simp⟩
    ·refine WT.know (v':=.bool false) 45 Z (by congr 1;simp;omega) ?_;have hcand:candB g P j t i=false:=by
      unfold candB;rw[hrk];simp[e]
     refine zC4 ?_;refine AW.cond Z (fun h=>(by cases h)) (fun _=>?_);refine zC4 ?_;exact⟨v,sM,zow,hlb,by rw[candsF_succ,hcand,hls];simp⟩
   ·intro v F4 hF4 hP;obtain⟨hlb,hls⟩:=hP;rw[hml] at hls;have hll:=hlb.len;rw[List.length_map] at hll;have hlf:v.ls.length≤g.rules.length:=by rw[hls];exact Nat.le_trans (List.length_filter_le _ _) (Nat.le_of_eq (List.length_range ..))
    have hfew:fewC g P j t↔v.ln≤1:=by unfold fewC;rw[←hls,hll]
    refine zC4 ?_;refine AW.jnT (S:=OfC) (fun _=>[]) (fun x=>v.LB::[(i6,.cells false [.slice s.ra s.rn s.rc,.slice x.ca x.cn x.cc])]::u.WB::s.RB::x.CB::[(i2,.cells false [.slice none 0 0,.slice none 0 0])]::own)
     (fun x G=>Bld tCl G x.ca x.cn x.cc x.CB x.U∧x.cn≤j*(g.terms+1)+t+1∧(x.cn=0↔u.cn=0∧fewC g P j t)) ?_ (fun x F5 hF5 hP=>?_)
    ·refine AW.cond Z (fun hgt2=>?_) (fun hle2=>?_)
     ·have hgt2:1<v.ln:=by simp at hgt2;omega
      have hcb4:=hcb3.mono hF4;have hcbl:=hcb3.len;refine zC4 ?_;refine WT.buildT hT Z Z Z Z Z Z Z Z Z Z Z Z Z Z (fun i68 hi68=>?_);refine WT.appendT (R:=tCl) (ys:=[()]) hT 5 hcb4 Z (fun _=>rfl) Z Z Z Z Z Z Z Z Z Z Z (fun h0 s0=>news_own hT s0 0 Z Z Z Z) (Cells.single (R:=tCl) (x:=()) ⟨_,_,_,_,_,rfl⟩) Z (by decide) zom (fun a7 c7 B7 hB7=>?_);refine zC4 ?_;exact⟨⟨a7,u.cn+1,c7,B7,u.U++[()]⟩,sM,zow,hB7,by show u.cn+1≤_;omega,by show u.cn+1=0↔_;rw[hfew];omega⟩
     ·have hle2:v.ln≤1:=by simp at hle2;omega
      refine zC4 ?_;exact⟨⟨u.ca,u.cn,u.cc,u.CB,u.U⟩,sM,zow,hcb3.mono hF4,by show u.cn≤_;omega,by show u.cn=0↔_;rw[hfew];omega⟩
    obtain⟨hcb5,hcn5,hcl5⟩:=hP;have hlb5:=hlb.mono hF5;have hwb5:=(hwb.mono hF4).mono hF5;refine zC4 ?_;refine WT.buildT hT Z Z Z Z Z Z Z Z Z Z Z Z Z Z (fun i73 hi73=>?_);refine WT.appendT (R:=tInt) (ys:=[-1]) hT 1 hlb5 Z (fun _=>rfl) Z Z Z Z Z Z Z Z Z Z Z (fun h0 s0=>news_own hT s0 0 Z Z Z Z) (Cells.single (R:=tInt) (x:=-1) rfl) Z (by decide) zom (fun a7 c7 B7 hB7=>?_);refine WT.freezeAll 1 Z Z (fun F6 hF6 hB6=>?_);have hA7:=hB7.frozen hF6 hB6;refine WT.idxL (j:=0) hT hA7 Z Z Z Z Z Z Z Z Z (by first | omega | simp) (fun x7 hx7 b5 off5 ro5 cs5 lx5 hb5 hp5 hrel5=>?_)
    obtain rfl:lx5=_:=hrel5;have hx7e:x7=entF (candsF g P j t g.rules.length):=by
     rw[←hls];cases hq:v.ls with
     | nil=>rw[hq] at hx7;simp at hx7;rw[←hx7];rfl
     | cons y l=>rw[hq] at hx7;simp at hx7;rw[←hx7];rfl
    refine zC4 ?_;refine WT.buildT hT Z Z Z Z Z Z Z Z Z Z Z Z Z Z (fun i77 hi77=>?_);refine WT.appendT (R:=tInt) (ys:=[x7]) hT 4 (hwb5.mono hF6) Z (fun _=>rfl) Z Z Z Z Z Z Z Z Z Z Z (fun h0 s0=>news_own hT s0 0 Z Z Z Z) (Cells.single (R:=tInt) (x:=x7) rfl) Z (by decide) zom (fun a8 c8 B8 hB8=>?_);refine zC4 ?_;refine⟨⟨x.ca,x.cn,x.cc,x.CB,x.U,a8,u.wn+1,c8,B8,u.ws++[x7]⟩,sM,zow,hB8,⟨by simp[hwsl],fun t' ht'=>?_⟩,hcb5.mono hF6,hcn5,?_⟩
    ·rw[List.getD_eq_getElem?_getD];by_cases e:t'=t
     ·subst e;rw[List.getElem?_append_right zo,hwsl,Nat.sub_self];exact hx7e
     ·rw[List.getElem?_append_left zo,←List.getD_eq_getElem?_getD];exact hws.2 t' zo
    ·show x.cn=0↔_;rw[hcl5,hcl3];constructor
     ·rintro⟨⟨h1,h2⟩,h3⟩;exact⟨h1,fun t' ht'=>if e:t'=t then e▸h3 else h2 t' zo⟩
     ·rintro⟨h1,h2⟩;exact⟨⟨h1,fun t' ht'=>h2 t' zo⟩,h2 t zo⟩
  ·intro u F3 hF3 hP;obtain⟨hwb,hws,hcb3,hcn3,hcl3⟩:=hP;refine zC4 ?_;refine WT.freezeAll 1 Z Z (fun F4 hF4 hB4=>?_);have hA4:=hwb.frozen hF4 hB4;refine WT.buildT hT Z Z Z Z Z Z Z Z Z Z Z Z Z Z (fun i83 hi83=>?_);refine WT.appendT (R:=tList tInt) (ys:=[u.ws]) hT 3 ((hb.mono hF3).mono hF4) Z (fun _=>rfl) Z Z Z Z Z Z Z Z Z Z Z (fun h0 s0=>news_own hT s0 0 Z Z Z Z) (Cells.single (R:=tList tInt) ⟨_,_,_,rfl,hA4⟩) Z (by decide) zom (fun a8 c8 B8 hB8=>?_);refine zC4 ?_;refine⟨⟨a8,s.rn+1,c8,B8,s.R++[u.ws],u.ca,u.cn,u.cc,u.CB,u.U⟩,sM,zow,hB8,by simp[hRl],fun n hn=>?_,hcb3.mono hF4,?_,?_⟩
   ·rw[List.getD_eq_getElem?_getD];by_cases e:n=j
    ·subst e;rw[List.getElem?_append_right zo,hRl,Nat.sub_self];exact hws
    ·rw[List.getElem?_append_left zo,←List.getD_eq_getElem?_getD];exact hR n zo
   ·show u.cn≤_;rw[Nat.succ_mul];exact hcn3
   ·show u.cn=0↔_;rw[hcl3,hcl];constructor
    ·rintro⟨h1,h2⟩ n t hn ht;exact if e:n=j then e▸h2 t zo else h1 n t zo ht
    ·intro h1;exact⟨fun n t hn ht=>h1 n t zo ht,fun t ht=>h1 j t zo zo⟩
 ·intro s F2 hF2 hP;obtain⟨hb,hRl,hR,hcb,hcn,hcl⟩:=hP;refine AW.freezeAll 1 Z Z (fun F3 hF3 hB3=>?_);have hA3:=hb.frozen hF3 hB3;refine zC4 ?_;have hcn4:=tabs_few (n:=0) hcn zo zo hgt.2;exact AW.ret ⟨_,[],⟨_,_,⟨_,rfl,fun G h0 s0=>loadA_cells (s0.has (p:=3) rfl me) (readT_ok hT rfl)⟩,⟨_,_,rfl,rfl,rfl⟩,rfl⟩,zsb,rfl,_,_,_,s.R,_,_,_,P,rfl,hA3,hRl,hR,by rw[hcl],hcn4,hPr⟩
structure PPl where
 ip:Nat
 a:Option Addr
 m:Nat
 c:Nat
 ra:Option Addr
 rn:Nat
 rc:Nat
 ca:Option Addr
 cn:Nat
 cc:Nat
 wa:Option Addr
 wn:Nat
 wc:Nat
def psC(g:Gram)(p:PPl)(i:Nat):List Value:=[.int .i64 g.terms,.int .i64 g.nons,.int .i64 g.start,.slice p.a p.m p.c,.slice p.ra p.rn p.rc,.slice p.ca p.cn p.cc,.slice p.wa p.wn p.wc,.int .i64 i]
def psB(g:Gram)(p:PPl)(i:Nat):List (Nat×Blk):=[(p.ip,.cells false (psC g p i))]
structure PEnv(F:Frz)(g:Gram)(p:PPl)(R:List (List Int))(w:List Nat):Prop where
 rules:Arr tRule F p.a p.m p.c g.rules
 tab:Arr (tList tInt) F p.ra p.rn p.rc R
 word:Arr tNat F p.wa p.wn p.wc w
theorem PEnv.mono{F G:Frz}{g:Gram}{p:PPl}{R:List (List Int)}{w:List Nat}(h:PEnv F g p R w)(hF:Frz.le F G):PEnv G g p R w:=⟨h.rules.mono hF,h.tab.mono hF,h.word.mono hF⟩
theorem pnext_spec(G:Frz)(g:Gram)(hg:Valid g){p:PPl}{R:List (List Int)}{w:List Nat}(hE:PEnv G g p R w)(hw:w.length≤2000){i:Nat}(hi:i≤w.length)(hp:G p.ip=some (.cells false (psC g p i))) :
  Abs.Spec CC 51 [.pointer (some ⟨p.ip,0,none⟩)] G [] fun _ v o=>o=[]∧v=.int .i64 (nextW g w i):=by
 have hwl:=hE.word.len;have hgt:=hg.range.terms;unfold psC at hp;refine Abs.Spec.fn (n:=28) Tryz.func51 rfl rfl fun own=>?_;refine zC4 ?_;refine AW.cond Z (fun he=>?_) (fun he=>?_)
 ·have he:i=w.length:=by simp at he;omega
  refine zC4 ?_;refine AW.ret ⟨_,[],⟨_,_,rfl,rfl,rfl⟩,zsb,rfl,?_⟩;unfold nextW;rw[List.getElem?_eq_none zo];rfl
 ·have he:i≠w.length:=by simp at he;omega
  refine zC4 ?_;refine WT.idxL hT hE.word Z Z Z Z Z Z Z Z Z zo (fun x hx b1 off ro cs lx hb1 hp1 hrel=>?_);obtain rfl:lx=_:=hrel;refine zC4 ?_;refine AW.ret ⟨_,[],⟨_,_,rfl,rfl,rfl⟩,zsb,rfl,?_⟩;rw[nextW_at hx];rfl
def symV(s:Sym):Value:=.agg ⟨[.bool s.term,.int .i64 s.n]⟩
def POk(g:Gram)(p:PPl)(R:List (List Int))(w:List Nat)(s:Sym)(i:Nat)(T:Tree)(j:Nat):Prop:=
 i≤w.length→SymOk g.terms g.nons s→∀F,PEnv F g p R w→Abs.Spec CC 23 [.pointer (some ⟨p.ip,0,none⟩),symV s] F [psB g p i] fun F' v o=>o=[psB g p j]∧∃cs,v=.agg ⟨cs⟩∧tTree.rel F' cs T
def PBad(g:Gram)(p:PPl)(R:List (List Int))(w:List Nat)(s:Sym)(i j:Nat):Prop:=
 i≤w.length→SymOk g.terms g.nons s→∀F,PEnv F g p R w→SpecPan CC 23 [.pointer (some ⟨p.ip,0,none⟩),symV s] F [psB g p i] fun F' o=>o=[psB g p j]
section
variable {g:Gram}{p:PPl}{R:List (List Int)}{w:List Nat}
theorem parse_leaf(hg:Valid g)(hw:w.length≤2000){t i:Nat}(h:w[i]?=some t):POk g p R w ⟨true,t⟩ i (.mk (-1) t []) (i+1):=by
 intro hi hs F hE;have hil:=(gS h).1;unfold symV psB;refine Abs.Spec.fn (n:=71) Tryz.func23 rfl rfl fun own=>?_;refine AW.seq (AW.reg ?_);refine WT.boxT Z Z Z Z Z Z (fun i3 hi3=>?_);refine WT.freezeAll 0 Z Z (fun F0 hF0 hB0=>?_);have hi3:=hB0 i3 _ me;have hE:=hE.mono hF0;refine WT.allocT hT Z Z Z Z Z Z (fun i4 hi4=>?_);refine zC4 ?_;refine AW.cond Z (fun _=>?_) (fun h=>(by cases h));refine zC4 ?_;refine AW.draw (ps:=[(3,1)]) Z Z ?_;refine zC4 ?_;refine WT.callLend 2 Tryz.func51 Z Z Z Z Z Z Z (fun G hG hBG=>pnext_spec G g hg (hE.mono hG) hw hi (hBG _ _ me)) (fun v hv=>?_);subst hv
 rw[nextW_at h];refine zC4 ?_;refine⟨zrC,?_⟩;refine AW.cond Z (fun h=>(by simp at h)) (fun _=>?_);unfold psC;refine zC4 ?_;refine WT.callF0 Tryz.func52 Z Z Z Z Z Z (leaf_spec _ t) (fun F2 v hF2 hv=>?_);obtain⟨cs,rfl,hrel⟩:=hv;obtain⟨za,zn,zc,rfl,_,_⟩:=tTree_cases hrel;refine zC4 ?_;exact AW.ret ⟨_,[psB g p (i+1)],⟨_,_,⟨_,rfl,fun G h0 s0=>loadA_cells (s0.has (p:=0) rfl me) (readT_ok hT rfl)⟩,rfl,rfl⟩,zsb,rfl,_,rfl,hrel⟩
theorem parse_other(hg:Valid g)(hw:w.length≤2000){t i:Nat}(h:¬w[i]?=some t):PBad g p R w ⟨true,t⟩ i i:=by
 intro hi hs F hE;have hst:t<g.terms:=by unfold SymOk at hs;rw[if_pos rfl] at hs;exact hs
 have hne:nextW g w i≠t:=by
  unfold nextW;cases hq:w[i]? with
  | none=>show g.terms≠t;omega
  | some x=>intro e;exact h (by rw[hq];exact congrArg some e)
 unfold symV psB;refine SpecPan.fn (n:=71) Tryz.func23 rfl rfl fun own=>?_;refine AW.seq (AW.reg ?_);refine WT.boxT Z Z Z Z Z Z (fun i3 hi3=>?_);refine WT.freezeAll 0 Z Z (fun F0 hF0 hB0=>?_);have hi3:=hB0 i3 _ me;have hE:=hE.mono hF0;refine WT.allocT hT Z Z Z Z Z Z (fun i4 hi4=>?_);refine zC4 ?_;refine AW.cond Z (fun _=>?_) (fun h=>(by cases h));refine zC4 ?_;refine AW.draw (ps:=[(3,1)]) Z Z ?_;refine zC4 ?_;refine WT.callLend 2 Tryz.func51 Z Z Z Z Z Z Z (fun G hG hBG=>pnext_spec G g hg (hE.mono hG) hw hi (hBG _ _ me)) (fun v hv=>?_);subst hv;generalize nextW g w i=q at hne;refine zC4 ?_
 refine⟨zrC,?_⟩;refine AW.cond Z (fun _=>?_) (fun h=>(by simp at h;omega));refine AW.panS [_,_] Z Z ?_;refine zC4 ?_;refine WT.ifaceT hT Z Z Z Z Z Z ?_;refine zC4 ?_;exact⟨rfl,rfl,[psB g p i],zsb,rfl⟩
def TabR(g:Gram)(tab:Nat→Nat→Option Nat)(R:List (List Int)):Prop:=R.length=g.nons∧∀n t,n<g.nons→t≤g.terms→∃row z,R[n]?=some row∧row.length=g.terms+1∧row[t]?=some z∧z=match tab n t with
 | none=>-1
 | some k=>(k:Int)
theorem nextW_le(hw2:∀t∈w,t<g.terms)(i:Nat):nextW g w i≤g.terms:=by
 unfold nextW;cases hq:w[i]? with
 | none=>exact Nat.le_refl _
 | some x=>exact Nat.le_of_lt (hw2 x (gM hq))
variable {tab:Nat→Nat→Option Nat}
theorem parse_none(hg:Valid g)(hw:w.length≤2000)(hw2:∀t∈w,t<g.terms)(hTR:TabR g tab R){n i:Nat}(h:tab n (nextW g w i)=none):PBad g p R w ⟨false,n⟩ i i:=by
 intro hi hs F hE;have hsn:n<g.nons:=by unfold SymOk at hs;rw[if_neg (by simp)] at hs;exact hs
 obtain⟨row,z,hrow,hrl,hz,hzv⟩:=hTR.2 n _ hsn (nextW_le hw2 i);rw[h] at hzv;simp only at hzv;subst hzv;have hnl:=nextW_le hw2 i;have hgt:=hg.range.terms;have hgn:=hg.range.nons;have hRl:=hE.tab.len;have hRl2:=hTR.1;unfold symV psB;refine SpecPan.fn (n:=71) Tryz.func23 rfl rfl fun own=>?_;refine AW.seq (AW.reg ?_);refine WT.boxT Z Z Z Z Z Z (fun i3 hi3=>?_);refine WT.freezeAll 0 Z Z (fun F0 hF0 hB0=>?_);have hi3:=hB0 i3 _ me;have hE:=hE.mono hF0;refine WT.allocT hT Z Z Z Z Z Z (fun i4 hi4=>?_);refine zC4 ?_;refine AW.cond Z (fun h=>(by cases h)) (fun _=>?_);refine zC4 ?_
 refine AW.draw (ps:=[(4,10),(4,14),(6,10),(6,14),(8,10),(8,14),(12,14)]) Z Z ?_;unfold psC;refine zC4 ?_;refine WT.idxL hT hE.tab Z Z Z Z Z Z Z Z Z (by dsimp only;omega) (fun row' hrow' b1 off ro cs lx hb1 hp1 hrel=>?_);obtain rfl:row'=row:=Option.some.inj (hrow'.symm.trans hrow);obtain⟨b2,n2,d2,rfl,hrow2⟩:=hrel;have hrl2:=hrow2.len;refine zC4 ?_;refine WT.callLend 2 Tryz.func51 Z Z Z Z Z Z Z (fun G hG hBG=>pnext_spec G g hg (hE.mono hG) hw hi (hBG _ _ me)) (fun v hv=>?_);subst hv;generalize nextW g w i=q at hz hnl
 refine WT.idxL hT hrow2 Z Z Z Z Z Z Z Z Z zo (fun z' hz' b3 off3 ro3 cs3 lx3 hb3 hp3 hrel3=>?_);obtain rfl:z'=-1:=Option.some.inj (hz'.symm.trans hz);obtain rfl:lx3=_:=hrel3;refine zC4 ?_;refine WT.allocT hT Z Z Z Z Z Z (fun i5 hi5=>?_);refine zC4 ?_;refine⟨zrC,?_⟩;refine zC4 ?_;refine AW.cond Z (fun _=>?_) (fun h=>(by simp at h));refine AW.panS [_,_] Z Z ?_;refine zC4 ?_;refine WT.ifaceT hT Z Z Z Z Z Z ?_;refine zC4 ?_;exact⟨rfl,rfl,[psB g p i],zsb,rfl⟩
structure KdS where
 ka:Option Addr
 kn:Nat
 kc:Nat
 KB:List (Nat×Blk)
 i:Nat
theorem opA_callF{C:Ctx}{k:Kno}{o:Oper}{f:FuncId}{fn:Func}{as_:Array Operand}{ts:Array TypeId}{args:List Value}(hf:C.func f=some fn)(hb:fn.body.isSome=true)(hop:o.op=.call ⟨.value (.func f),as_,ts⟩)(hv:vals (evK C k) as_.toList=some args)(h:Heap) :
  opA C (evK C k) h o.op=some (.call f args):=by
 rw[hop];simp only[opA,evK,hv,callA,hf,hb,cond_true];simp
theorem parse_node(hg:Valid g)(hw:w.length≤2000)(hw2:∀t∈w,t<g.terms)(hTR:TabR g tab R){n i k j:Nat}{r:Rule}{ts:List Tree}{pos:Nat→Nat}(h:tab n (nextW g w i)=some k)(hr:g.rules[k]?=some r)(hp0:pos 0=i)(hpn:pos r.right.length=j)(htl:ts.length=r.right.length)
  (hkid:∀q s T,r.right[q]?=some s→ts[q]?=some T→pos q≤w.length∧POk g p R w s (pos q) T (pos (q+1))):POk g p R w ⟨false,n⟩ i (.mk k 0 ts) j:=by
 intro hi hs F hE;have hsn:n<g.nons:=by unfold SymOk at hs;rw[if_neg (by simp)] at hs;exact hs
 obtain⟨row,z,hrow,hrl,hz,hzv⟩:=hTR.2 n _ hsn (nextW_le hw2 i);rw[h] at hzv;simp only at hzv;subst hzv;have hnl:=nextW_le hw2 i;have hgt:=hg.range.terms;have hkl:=(gS hr).1;have hgr:=hg.range.rules;have hgn:=hg.range.nons;have hRl:=hE.tab.len;have hRl2:=hTR.1;unfold symV psB;refine Abs.Spec.fn (n:=71) Tryz.func23 rfl rfl fun own=>?_;refine AW.seq (AW.reg ?_);refine WT.boxT Z Z Z Z Z Z (fun i3 hi3=>?_);refine WT.freezeAll 0 Z Z (fun F0 hF0 hB0=>?_);have hi3:=hB0 i3 _ me;have hE:=hE.mono hF0;refine WT.allocT hT Z Z Z Z Z Z (fun i4 hi4=>?_);refine zC4 ?_
 refine AW.cond Z (fun h=>(by cases h)) (fun _=>?_);refine zC4 ?_;refine AW.draw (ps:=[(4,10),(4,14),(6,10),(6,14),(8,10),(8,14),(12,14)]) Z Z ?_;unfold psC;refine zC4 ?_;refine WT.idxL hT hE.tab Z Z Z Z Z Z Z Z Z (by dsimp only;omega) (fun row' hrow' b1 off ro cs lx hb1 hp1 hrel=>?_);obtain rfl:row'=row:=Option.some.inj (hrow'.symm.trans hrow);obtain⟨b2,n2,d2,rfl,hrow2⟩:=hrel;have hrl2:=hrow2.len;refine zC4 ?_;refine WT.callLend 2 Tryz.func51 Z Z Z Z Z Z Z (fun G hG hBG=>pnext_spec G g hg (hE.mono hG) hw hi (hBG _ _ me)) (fun v hv=>?_);subst hv;generalize nextW g w i=q at hz hnl
 refine WT.idxL hT hrow2 Z Z Z Z Z Z Z Z Z zo (fun z' hz' b3 off3 ro3 cs3 lx3 hb3 hp3 hrel3=>?_);obtain rfl:z'=(k:Int):=Option.some.inj (hz'.symm.trans hz);obtain rfl:lx3=_:=hrel3;refine zC4 ?_;refine WT.allocT hT Z Z Z Z Z Z (fun i5 hi5=>?_);refine zC4 ?_;refine⟨zrC,?_⟩;refine zC4 ?_;refine AW.cond Z (fun h=>(by simp at h;omega)) (fun _=>?_);refine zC4 ?_;refine WT.idxL hT hE.rules Z Z Z Z Z Z Z Z Z zo (fun r' hr' b6 off6 ro6 cs6 lx6 hb6 hp6 hrel6=>?_);obtain rfl:r'=r:=Option.some.inj (hr'.symm.trans hr);obtain⟨b7,n7,d7,rfl,hr7⟩:=hrel6;have hr7l:=hr7.len;obtain⟨_,hr4,hrs⟩:=hg.right r' (gM hr)
 refine zC4 ?_;refine AW.range (S:=KdS) (fun _=>[]) (fun s=>[(i5,.cells false [.int .i64 k,.int .i64 0,.slice s.ka s.kn s.kc])]::s.KB::[(i4,.cells false [.int .i64 0,.int .i64 0,.slice none 0 0])]::[]::[(p.ip,.cells false [.int .i64 g.terms,.int .i64 g.nons,.int .i64 g.start,.slice p.a p.m p.c,.slice p.ra p.rn p.rc,.slice p.ca p.cn p.cc,.slice p.wa p.wn p.wc,.int .i64 (s.i:Nat)])]::own)
  (fun q s G=>s.i=pos q∧Bld tTree G s.ka s.kn s.kc s.KB (ts.take q)) n7 ⟨none,0,0,[],i⟩ Z Z Z Z Z Z Z Z Z zo rfl rfl (fun _=>rfl) (fun _=>rfl) sM zow ⟨hp0.symm,Bld.nil_ _ _⟩ ?_ ?_
 ·intro q s F5 hF5 hq hP;obtain⟨hsi,hb⟩:=hP;have hr8:=hr7.mono hF5;have hbl:=hb.len;rw[List.length_take] at hbl;refine zC4 ?_;refine WT.idxL hT hr8 Z Z Z Z Z Z Z Z Z zo (fun y hy b8 off8 ro8 cs8 lx8 hb8 hp8 hrel8=>?_);obtain rfl:lx8=_:=hrel8;have hyok:=hrs y (gM hy);refine zC4 ?_;refine WT.allocT hT Z Z Z Z Z Z (fun i7 hi7=>?_);refine zC4 ?_;refine AW.draw (ps:=[(1,4),(1,5)]) Z Z ?_;refine zC4 ?_;obtain⟨T,hT0⟩:∃T,ts[q]?=some T:=⟨_,gE zo⟩;obtain⟨hpl,hk⟩:=hkid q y T hy hT0;have hsp:=hk hpl hyok _ (hE.mono hF5);rw[←hsi] at hsp;unfold symV at hsp
  refine WT.call1F 5 Tryz.func23 Z Z Z Z Z Z Z (fun _=>rfl) (P:=fun F' v B'=>B'=psB g p (pos (q+1))∧∃cs,v=.agg ⟨cs⟩∧tTree.rel F' cs T) (hsp.mono fun F' v o _ h=>⟨_,h.1,rfl,h.2⟩) (fun F6 v B6 hF6 hv=>?_);obtain⟨rfl,cs,rfl,hrel⟩:=hv;unfold psB psC;obtain⟨tr,tu,tks⟩:=T;obtain⟨za,zn,zc,rfl,_,_⟩:=tTree_cases hrel;refine WT.buildT hT Z Z Z Z Z Z Z Z Z Z Z Z Z Z (fun i66 hi66=>?_);refine WT.appendT (R:=tTree) (ys:=[.mk tr tu tks]) hT 3 (hb.mono hF6) Z (fun _=>rfl) Z Z Z Z Z Z Z Z Z Z Z (fun h0 s0=>news_own hT s0 0 Z Z Z Z) (Cells.single (R:=tTree) hrel) Z (by decide) zom (fun a7 c7 B7 hB7=>?_)
  refine zC4 ?_;refine⟨zrC,?_⟩;refine⟨⟨a7,s.kn+1,c7,B7,pos (q+1)⟩,sM,zow,rfl,?_⟩;show Bld tTree F6 a7 (s.kn+1) c7 B7 (ts.take (q+1));rw[List.take_add_one,hT0];exact hB7
 ·intro s F5 hF5 hP;obtain⟨hsi,hb⟩:=hP;rw[hr7l,hpn] at hsi;rw[hr7l,←htl,List.take_length] at hb;refine AW.freezeAll 1 Z Z (fun F6 hF6 hB6=>?_);have hA:=hb.frozen hF6 hB6;refine zC4 ?_;subst hsi;exact AW.ret ⟨_,[[(p.ip,.cells false [.int .i64 g.terms,.int .i64 g.nons,.int .i64 g.start,.slice p.a p.m p.c,.slice p.ra p.rn p.rc,.slice p.ca p.cn p.cc,.slice p.wa p.wn p.wc,.int .i64 (s.i:Nat)])]],⟨_,_,⟨_,rfl,fun G h0 s0=>loadA_cells (s0.has (p:=2) rfl me) (readT_ok hT rfl)⟩,rfl,rfl⟩,zsb,rfl,_,rfl,tTree_mk hA zo⟩
theorem parse_bad(hg:Valid g)(hw:w.length≤2000)(hw2:∀t∈w,t<g.terms)(hTR:TabR g tab R){n i k j:Nat}{r:Rule}{ts:List Tree}{pos:Nat→Nat}(h:tab n (nextW g w i)=some k)(hr:g.rules[k]?=some r)(hp0:pos 0=i){q0:Nat}{s0:Sym}(hs0:r.right[q0]?=some s0)(htl:ts.length=q0)
  (hkid:∀q s T,r.right[q]?=some s→ts[q]?=some T→pos q≤w.length∧POk g p R w s (pos q) T (pos (q+1))) (hpq:pos q0≤w.length) (hbad:PBad g p R w s0 (pos q0) j):PBad g p R w ⟨false,n⟩ i j:=by
 intro hi hs F hE;have hsn:n<g.nons:=by unfold SymOk at hs;rw[if_neg (by simp)] at hs;exact hs
 obtain⟨row,z,hrow,hrl,hz,hzv⟩:=hTR.2 n _ hsn (nextW_le hw2 i);rw[h] at hzv;simp only at hzv;subst hzv;have hnl:=nextW_le hw2 i;have hgt:=hg.range.terms;have hkl:=(gS hr).1;have hgr:=hg.range.rules;have hgn:=hg.range.nons;have hRl:=hE.tab.len;have hRl2:=hTR.1;unfold symV psB;have hq0:=(gS hs0).1;refine SpecPan.fn (n:=71) Tryz.func23 rfl rfl fun own=>?_;refine AW.seq (AW.reg ?_);refine WT.boxT Z Z Z Z Z Z (fun i3 hi3=>?_);refine WT.freezeAll 0 Z Z (fun F0 hF0 hB0=>?_);have hi3:=hB0 i3 _ me;have hE:=hE.mono hF0;refine WT.allocT hT Z Z Z Z Z Z (fun i4 hi4=>?_);refine zC4 ?_
 refine AW.cond Z (fun h=>(by cases h)) (fun _=>?_);refine zC4 ?_;refine AW.draw (ps:=[(4,10),(4,14),(6,10),(6,14),(8,10),(8,14),(12,14)]) Z Z ?_;unfold psC;refine zC4 ?_;refine WT.idxL hT hE.tab Z Z Z Z Z Z Z Z Z (by dsimp only;omega) (fun row' hrow' b1 off ro cs lx hb1 hp1 hrel=>?_);obtain rfl:row'=row:=Option.some.inj (hrow'.symm.trans hrow);obtain⟨b2,n2,d2,rfl,hrow2⟩:=hrel;have hrl2:=hrow2.len;refine zC4 ?_;refine WT.callLend 2 Tryz.func51 Z Z Z Z Z Z Z (fun G hG hBG=>pnext_spec G g hg (hE.mono hG) hw hi (hBG _ _ me)) (fun v hv=>?_);subst hv;generalize nextW g w i=q at hz hnl
 refine WT.idxL hT hrow2 Z Z Z Z Z Z Z Z Z zo (fun z' hz' b3 off3 ro3 cs3 lx3 hb3 hp3 hrel3=>?_);obtain rfl:z'=(k:Int):=Option.some.inj (hz'.symm.trans hz);obtain rfl:lx3=_:=hrel3;refine zC4 ?_;refine WT.allocT hT Z Z Z Z Z Z (fun i5 hi5=>?_);refine zC4 ?_;refine⟨zrC,?_⟩;refine zC4 ?_;refine AW.cond Z (fun h=>(by simp at h;omega)) (fun _=>?_);refine zC4 ?_;refine WT.idxL hT hE.rules Z Z Z Z Z Z Z Z Z zo (fun r' hr' b6 off6 ro6 cs6 lx6 hb6 hp6 hrel6=>?_);obtain rfl:r'=r:=Option.some.inj (hr'.symm.trans hr);obtain⟨b7,n7,d7,rfl,hr7⟩:=hrel6;have hr7l:=hr7.len;obtain⟨_,hr4,hrs⟩:=hg.right r' (gM hr)
 refine zC4 ?_;refine AW.range (S:=KdS) (fun _=>[]) (fun s=>[(i5,.cells false [.int .i64 k,.int .i64 0,.slice s.ka s.kn s.kc])]::s.KB::[(i4,.cells false [.int .i64 0,.int .i64 0,.slice none 0 0])]::[]::[(p.ip,.cells false [.int .i64 g.terms,.int .i64 g.nons,.int .i64 g.start,.slice p.a p.m p.c,.slice p.ra p.rn p.rc,.slice p.ca p.cn p.cc,.slice p.wa p.wn p.wc,.int .i64 (s.i:Nat)])]::own)
  (fun q s G=>q≤q0∧s.i=pos q∧Bld tTree G s.ka s.kn s.kc s.KB (ts.take q)) n7 ⟨none,0,0,[],i⟩ Z Z Z Z Z Z Z Z Z zo rfl rfl (fun _=>rfl) (fun _=>rfl) sM zow ⟨Nat.zero_le _,hp0.symm,Bld.nil_ _ _⟩ ?_ ?_
 ·intro q s F5 hF5 hq hP;obtain⟨hqq,hsi,hb⟩:=hP;have hr8:=hr7.mono hF5;have hbl:=hb.len;rw[List.length_take] at hbl;refine zC4 ?_;refine WT.idxL hT hr8 Z Z Z Z Z Z Z Z Z zo (fun y hy b8 off8 ro8 cs8 lx8 hb8 hp8 hrel8=>?_);obtain rfl:lx8=_:=hrel8;have hyok:=hrs y (gM hy);refine zC4 ?_;refine WT.allocT hT Z Z Z Z Z Z (fun i7 hi7=>?_);refine zC4 ?_;by_cases e:q<q0
  ·refine AW.draw (ps:=[(1,4),(1,5)]) Z Z ?_;refine zC4 ?_;obtain⟨T,hT0⟩:∃T,ts[q]?=some T:=⟨_,gE zo⟩;obtain⟨hpl,hk⟩:=hkid q y T hy hT0;have hsp:=hk hpl hyok _ (hE.mono hF5);rw[←hsi] at hsp;unfold symV at hsp;refine WT.call1F 5 Tryz.func23 Z Z Z Z Z Z Z (fun _=>rfl) (P:=fun F' v B'=>B'=psB g p (pos (q+1))∧∃cs,v=.agg ⟨cs⟩∧tTree.rel F' cs T) (hsp.mono fun F' v o _ h=>⟨_,h.1,rfl,h.2⟩) (fun F6 v B6 hF6 hv=>?_);obtain⟨rfl,cs,rfl,hrel⟩:=hv;unfold psB psC;obtain⟨tr,tu,tks⟩:=T;obtain⟨za,zn,zc,rfl,_,_⟩:=tTree_cases hrel;refine WT.buildT hT Z Z Z Z Z Z Z Z Z Z Z Z Z Z (fun i66 hi66=>?_)
   refine WT.appendT (R:=tTree) (ys:=[.mk tr tu tks]) hT 3 (hb.mono hF6) Z (fun _=>rfl) Z Z Z Z Z Z Z Z Z Z Z (fun h0 s0=>news_own hT s0 0 Z Z Z Z) (Cells.single (R:=tTree) hrel) Z (by decide) zom (fun a7 c7 B7 hB7=>?_);refine zC4 ?_;refine⟨zrC,?_⟩;refine⟨⟨a7,s.kn+1,c7,B7,pos (q+1)⟩,sM,zow,by omega,rfl,?_⟩;show Bld tTree F6 a7 (s.kn+1) c7 B7 (ts.take (q+1));rw[List.take_add_one,hT0];exact hB7
  ·obtain rfl:q=q0:=by omega
   obtain rfl:y=s0:=Option.some.inj (hy.symm.trans hs0);have hsp:=hbad hpq hyok _ (hE.mono hF5);rw[←hsi] at hsp;unfold symV at hsp;refine AW.panD (ps:=[(1,4),(1,5)]) [_,_,_,_] Z Z Z Z ?_;refine zC4 ?_;refine⟨_,_,[psB g p s.i],_,_,[],rfl,rfl,opA_callF Tryz.func23 Z Z Z,hsp,perm_pick (p:=5) rfl,fun F6 oout hF6 hP=>?_⟩;subst hP
   show WT CC 71 _ _ ((65,.agg ⟨[.int .i64 0,.int .i64 0,.slice none 0 0]⟩)::_) _ ([psB g p j]++([(i7,.cells false [.bool y.term,.int .i64 y.n])]::[(i5,.cells false [.int .i64 k,.int .i64 0,.slice s.ka s.kn s.kc])]::s.KB::[(i4,.cells false [.int .i64 0,.int .i64 0,.slice none 0 0])]::[]::own)) _;refine WT.buildT hT Z Z Z Z Z Z Z Z Z Z Z Z Z Z (fun i66 hi66=>?_)
   refine WT.appendT (R:=tTree) (ys:=[.mk 0 0 []]) hT 4 (hb.mono hF6) Z (fun _=>rfl) Z Z Z Z Z Z Z Z Z Z Z (fun h0 s0=>news_own hT s0 0 Z Z Z Z) (Cells.single (R:=tTree) (tTree_mk (Arr.nil_ _ _) (by simp))) Z (by decide) zom (fun a7 c7 B7 hB7=>?_);refine zC4 ?_;refine⟨zrC,?_⟩;exact⟨[psB g p j],List.Sublist.cons_cons _ (show List.Sublist own ([(i7,.cells false [.bool y.term,.int .i64 y.n])]::[(i5,.cells false [.int .i64 k,.int .i64 0,.slice s.ka s.kn s.kc])]::s.KB::[(i4,.cells false [.int .i64 0,.int .i64 0,.slice none 0 0])]::[]::own) from zsb),rfl⟩
 ·intro s F5 hF5 hP;obtain⟨hqq,_⟩:=hP;omega
end
section
variable {g:Gram}{p:PPl}{R:List (List Int)}{w:List Nat}{tab:Nat→Nat→Option Nat}
def PRes(g:Gram)(p:PPl)(R:List (List Int))(w:List Nat)(s:Sym)(i j:Nat):Option Tree→Prop
 | some T=>POk g p R w s i T j
 | none=>PBad g p R w s i j
def KidR(g:Gram)(p:PPl)(R:List (List Int))(w:List Nat)(l:List Sym)(i j:Nat):Option (List Tree)→Prop
 | some ts=>∃pos:Nat→Nat,pos 0=i∧pos l.length=j∧ts.length=l.length∧∀q s T,l[q]?=some s→ts[q]?=some T→pos q≤w.length∧POk g p R w s (pos q) T (pos (q+1))
 | none=>∃(pos:Nat→Nat) (ts:List Tree) (q0:Nat) (s0:Sym),l[q0]?=some s0∧ts.length=q0∧pos 0=i∧(∀q s T,l[q]?=some s→ts[q]?=some T→pos q≤w.length∧POk g p R w s (pos q) T (pos (q+1)))∧pos q0≤w.length∧PBad g p R w s0 (pos q0) j
def shiftP(i:Nat)(pos:Nat→Nat):Nat→Nat
 | 0=>i
 | q+1=>pos q
theorem KidR.cons{s:Sym}{l:List Sym}{T:Tree}{i m j:Nat}{o:Option (List Tree)}(hi:i≤w.length)(h:POk g p R w s i T m)(h2:KidR g p R w l m j o):KidR g p R w (s::l) i j (o.map (T::·)):=by
 have step:∀(pos:Nat→Nat) (ts:List Tree),pos 0=m→(∀q s T,l[q]?=some s→ts[q]?=some T→pos q≤w.length∧POk g p R w s (pos q) T (pos (q+1)))→
   ∀q s' T',(s::l)[q]?=some s'→(T::ts)[q]?=some T'→shiftP i pos q≤w.length∧POk g p R w s' (shiftP i pos q) T' (shiftP i pos (q+1)):=by
  intro pos ts hm hk q s' T' h3 h4;cases q with
  | zero=>
   simp at h3 h4;subst h3 h4;exact⟨hi,by show POk g p R w s i T (pos 0);rw[hm];exact h⟩
  | succ q=>exact hk q s' T' (by simpa using h3) (by simpa using h4)
 cases o with
 | some ts=>
  obtain⟨pos,q1,q2,q3,q4⟩:=h2;exact⟨shiftP i pos,rfl,q2,by simp[q3],step pos ts q1 q4⟩
 | none=>
  obtain⟨pos,ts,q0,s0,q1,q2,q3,q4,q5,q6⟩:=h2;exact⟨shiftP i pos,T::ts,q0+1,s0,by simpa using q1,by simp[q2],rfl,step pos ts q3 q4,q5,q6⟩
mutual
theorem PR.walk(hg:Valid g)(ok:LLok g tab)(hw:w.length≤2000)(hw2:∀t∈w,t<g.terms)(hTR:TabR g tab R):∀{s:Sym} {i j:Nat} {o:Option Tree},PR g tab w s i o j→PRes g p R w s i j o
 | _,_,_,_,.leaf h=>parse_leaf hg hw h
 | _,_,_,_,.other h=>parse_other hg hw h
 | _,_,_,_,.none h=>parse_none hg hw hw2 hTR h
 | _,i,j,_,.node (ts:=ts) h hr h2=>fun hi=>by
  obtain⟨pos,q1,q2,q3,q4⟩:=PRL.walk hg ok hw hw2 hTR h2 hi;exact parse_node hg hw hw2 hTR h hr q1 q2 q3 q4 hi
 | _,i,j,_,.bad h hr h2=>fun hi=>by
  obtain⟨pos,ts,q0,s0,q1,q2,q3,q4,q5,q6⟩:=PRL.walk hg ok hw hw2 hTR h2 hi;exact parse_bad hg hw hw2 hTR h hr q3 q1 q2 q4 q5 q6 hi
theorem PRL.walk(hg:Valid g)(ok:LLok g tab)(hw:w.length≤2000)(hw2:∀t∈w,t<g.terms)(hTR:TabR g tab R):∀{l:List Sym} {i j:Nat} {o:Option (List Tree)},PRL g tab w l i o j→i≤w.length→KidR g p R w l i j o
 | _,i,_,_,.nil,_=>⟨fun _=>i,rfl,rfl,rfl,fun q s T h _=>by simp at h⟩
 | _,_,_,_,.cons (ts:=ts) h h2,hi=>KidR.cons (o:=some ts) hi (PR.walk hg ok hw hw2 hTR h) (PRL.walk hg ok hw hw2 hTR h2 (PR.le ok h hi).2)
 | _,i,_,_,.stop h,hi=>⟨fun _=>i,[],0,_,rfl,rfl,rfl,fun q s T _ h=>by simp at h,hi,PR.walk hg ok hw hw2 hTR h⟩
 | _,_,_,_,.later h h2,hi=>KidR.cons (o:=none) hi (PR.walk hg ok hw hw2 hTR h) (PRL.walk hg ok hw hw2 hTR h2 (PR.le ok h hi).2)
end
end
def ResOk(g:Gram)(w:List Nat)(F:Frz)(s:Sym)(i:Nat)(v:Value):Prop:=
 v=.agg ⟨[.pointer none,.int .i64 (-1)]⟩∨∃b ro cs t j,v=.agg ⟨[.pointer (some ⟨b,0,none⟩),.int .i64 (j:Nat)]⟩∧F b=some (.cells ro cs)∧tTree.rel F cs t∧TreeOf g w s t i j
theorem ResOk.mono{g:Gram}{w:List Nat}{F G:Frz}{s:Sym}{i:Nat}{v:Value}(h:ResOk g w F s i v)(hF:Frz.le F G):ResOk g w G s i v:=by
 rcases h with h | ⟨b,ro,cs,t,j,h1,h2,h3,h4⟩
 ·exact .inl h
 ·exact .inr ⟨b,ro,cs,t,j,h1,hF _ _ h2,tTree.mono _ _ _ _ hF h3,h4⟩
def MemoOk(g:Gram)(w:List Nat)(F:Frz)(es:Ents (Nat×Nat)):Prop:=∀n i v,Abs.look es (n,i)=some v→ResOk g w F ⟨false,n⟩ i v
theorem MemoOk.mono{g:Gram}{w:List Nat}{F G:Frz}{es:Ents (Nat×Nat)}(h:MemoOk g w F es)(hF:Frz.le F G):MemoOk g w G es:=fun n i v q=>(h n i v q).mono hF
structure PA where
 p:Nat
 im:Nat
 a:Option Addr
 m:Nat
 c:Nat
 b:Option Addr
 k:Nat
 d:Nat
structure ParserAt(F:Frz)(x:PA)(g:Gram)(w:List Nat):Prop where
 blk:∃ro,F x.p=some (.cells ro [.int .i64 g.terms,.int .i64 g.nons,.int .i64 g.start,.slice x.a x.m x.c,.slice x.b x.k x.d,.map (some x.im)])
 rules:Arr tRule F x.a x.m x.c g.rules
 word:Arr tNat F x.b x.k x.d w
theorem ParserAt.mono{F G:Frz}{x:PA}{g:Gram}{w:List Nat}(h:ParserAt F x g w)(hF:Frz.le F G):ParserAt G x g w:=
 ⟨let ⟨ro,q⟩:=h.blk;⟨ro,hF _ _ q⟩,h.rules.mono hF,h.word.mono hF⟩
structure PkI where
 ks:List Tree
 a:Option Addr
 c:Nat
 Bk:List (Nat×Blk)
 B:List (Nat×Blk)
 e:Int
 l:Nat
structure PO where
 q:Option Addr
 e:Int
 B:List (Nat×Blk)
theorem WT.assertNil{C:Ctx}{T:RT}{n:Nat}{k:Kno}{F:Frz}{own:Own}{ops rest:List Oper}{o:Oper}{Q:Kno→Frz→Own→List Rec→Prop}(hT:rowsOk C T=true){t tx:TypeId}{xo:Operand}{z:Value}{r:Row}{dst:Nat}(hop:o.op=.typeAssert xo tx t true)(hw:wantK ops k o=some true)(hdst:o.dst=some dst)(hn:Nat.blt dst n=true)
  (hx:evK C k xo=some .nilIface) (hr:rowOf T t=some r) (hz:zeroT T t=some z)
  (h:WT C n ops rest ((dst,.tuple ⟨[z,.bool false]⟩)::k) F own (fun k2 F2 own2 rs=>Q k2 F2 own2 (⟨F,own,F,own,[]⟩::rs))):WT C n ops (o::rest) k F own Q:=by
 refine WT.still hw (l:=[]) (by rw[hop];rfl) (fun h0 _=>?_) (by rw[hdst,putK_some hn];exact h);obtain⟨d,h1,h2⟩:=not_iface hT hr;rw[hop];simp only[opA,hx,typeAssertA,h1,h2,cond_false,cond_true,zeroT_ok hT hz];rfl
def zTree:List Value:=[.int .i64 0,.int .i64 0,.slice none 0 0]
theorem close_nil(F:Frz)(i9 i4 i5 i6:Nat):SpecClose CC .nilIface 22 [.pointer (some ⟨i9,0,none⟩),.pointer (some ⟨i4,0,none⟩),.pointer (some ⟨i5,0,none⟩),.pointer (some ⟨i6,0,none⟩)] F [] fun _ o=>o=[]:=by
 refine SpecClose.fn (n:=17) Tryz.func22 Z Z Z Z Z fun own=>?_;refine WT.assertNil (z:=.agg ⟨[]⟩) hT Z Z Z Z Z Z Z ?_;refine zC4 ?_;refine WT.allocT hT Z Z Z Z Z Z (fun i4 hi4=>?_);refine zC4 ?_;refine AW.cond Z (fun h=>(by cases h)) (fun _=>?_);refine zC4 ?_;exact⟨.inl rfl,[],zsb,rfl⟩
theorem close_pan(F:Frz)(g:Gram)(p:PPl)(j i9 i4 i5 i6:Nat):SpecClose CC (panV CC) 22 [.pointer (some ⟨i9,0,none⟩),.pointer (some ⟨i4,0,none⟩),.pointer (some ⟨i5,0,none⟩),.pointer (some ⟨i6,0,none⟩)] F
  [[(i9,.cells false [.pointer (some ⟨p.ip,0,none⟩)])],psB g p j,[(i4,.cells false zTree)],[(i5,.cells false [.int .i64 0])],[(i6,.cells false [.int .i64 0])]]
  fun _ o=>o=[[(i9,.cells false [.pointer (some ⟨p.ip,0,none⟩)])],psB g p j,[(i4,.cells false zTree)],[(i5,.cells false [.int .i64 j])],[(i6,.cells false [.int .i64 10])]]:=by
 unfold psB psC zTree;refine SpecClose.fn (n:=17) Tryz.func22 Z Z Z Z Z fun own=>?_;refine WT.assertT (v:=.agg ⟨[]⟩) hT Z Z Z Z Z Z ?_;refine zC4 ?_;refine WT.allocT hT Z Z Z Z Z Z (fun ia hia=>?_);refine zC4 ?_;refine AW.cond Z (fun _=>?_) (fun h=>(by cases h));refine zC7 ?_;exact⟨.inl rfl,[[(i9,.cells false [.pointer (some ⟨p.ip,0,none⟩)])],psB g p j,[(i4,.cells false zTree)],[(i5,.cells false [.int .i64 j])],[(i6,.cells false [.int .i64 10])]],zsb,rfl⟩
theorem tabR_of{g:Gram}{P:List (List Bool)}{R:List (List Int)}(hl:R.length=g.nons)(hr:∀n,n<g.nons→ROk g P n (g.terms+1) (R.getD n [])):TabR g (tabP g P) R:=by
 refine⟨hl,fun n t hn ht=>?_⟩;have hn2:n<R.length:=by omega
 obtain⟨h1,h2⟩:=hr n hn;rw[List.getD_eq_getElem?_getD,gE hn2] at h1 h2;have h3:=h2 t zo;simp only[Option.getD_some] at h1 h3;have ht2:t<(R[n]).length:=by omega
 rw[List.getD_eq_getElem?_getD,gE ht2] at h3;refine⟨R[n],(R[n])[t],gE hn2,h1,gE ht2,?_⟩;simp only[Option.getD_some] at h3;rw[h3];unfold tabP;rw[if_pos ⟨hn,ht⟩];cases candsF g P n t g.rules.length<;>rfl
def PStop(g:Gram)(w:List Nat)(j:Nat):Prop:=∃tab,LLok g tab∧(PR g tab w ⟨false,g.start⟩ 0 none j∨∃T,PR g tab w ⟨false,g.start⟩ 0 (some T) j∧j<w.length)
theorem PStop.no{g:Gram}{w:List Nat}{j:Nat}(h:PStop g w j):¬∃T,TreeOf g w ⟨false,g.start⟩ T 0 w.length:=by
 obtain⟨tab,ok,h⟩:=h;rintro⟨T,hT⟩;rcases h with h | ⟨T',h,hj⟩
 ·cases (PR.same h (pr_whole ok hT)).1
 ·have:=(PR.same h (pr_whole ok hT)).2;omega
def PAns(g:Gram)(w:List Nat)(F:Frz)(v:Value):Prop:=
 (∃T cs,v=.tuple ⟨[.agg ⟨cs⟩,.int .i64 0,.int .i64 0]⟩∧tTree.rel F cs T∧TreeOf g w ⟨false,g.start⟩ T 0 w.length)∨
 (∃j:Nat,v=.tuple ⟨[.agg ⟨zTree⟩,.int .i64 j,.int .i64 10]⟩∧PStop g w j)
theorem close_fin{g:Gram}{w:List Nat}{p:PPl}{j i9 i4 i5 i6:Nat}{k:Kno}{F:Frz}{own own' fr:Own}(h4:lk k 4=some (.pointer (some ⟨i4,0,none⟩)))(h5:lk k 5=some (.pointer (some ⟨i5,0,none⟩)))(h6:lk k 6=some (.pointer (some ⟨i6,0,none⟩)))
  (hperm:own'.Perm ([[(i9,.cells false [.pointer (some ⟨p.ip,0,none⟩)])],psB g p j,[(i4,.cells false zTree)],[(i5,.cells false [.int .i64 0])],[(i6,.cells false [.int .i64 0])]]++fr)) (hfr:own.Sublist fr) (hno:PStop g w j) :
  closeQ CC 22 [.pointer (some ⟨i9,0,none⟩),.pointer (some ⟨i4,0,none⟩),.pointer (some ⟨i5,0,none⟩),.pointer (some ⟨i6,0,none⟩)] Tryz.f9 own (fun F' v o=>o=[]∧PAns g w F' v) (panV CC) k F own':=by
 refine⟨_,fr,_,close_pan F g p j i9 i4 i5 i6,hperm,fun F3 oout hF hP=>?_⟩;subst hP;exact⟨_,[],⟨_,_,⟨_,h4,fun G h0 s0=>loadA_cells (s0.has (p:=2) rfl me) (readT_ok hT rfl)⟩,⟨_,_,⟨_,h5,fun G h0 s0=>loadA_cells (s0.has (p:=3) rfl me) (readT_ok hT rfl)⟩,
  ⟨_,_,⟨_,h6,fun G h0 s0=>loadA_cells (s0.has (p:=4) rfl me) (readT_ok hT rfl)⟩,rfl,rfl⟩,rfl⟩,rfl⟩,((((hfr.cons _).cons _).cons _).cons _).cons _,rfl,.inr ⟨j,rfl,hno⟩⟩
theorem close_good{g:Gram}{w:List Nat}{i9 i4 i5 i6:Nat}{k:Kno}{F:Frz}{own own':Own}{T:Tree}{tr:Int}{tu:Nat}{za:Option Addr}{zn zc:Nat}(h4:lk k 4=some (.pointer (some ⟨i4,0,none⟩)))(h5:lk k 5=some (.pointer (some ⟨i5,0,none⟩)))(h6:lk k 6=some (.pointer (some ⟨i6,0,none⟩)))
  {q4 q5 q6:Nat} (g4:own'[q4]?=some [(i4,.cells false [.int .i64 tr,.int .i64 tu,.slice za zn zc])]) (g5:own'[q5]?=some [(i5,.cells false [.int .i64 0])]) (g6:own'[q6]?=some [(i6,.cells false [.int .i64 0])]) (hfr:own.Sublist own')
  (hrel:tTree.rel F [.int .i64 tr,.int .i64 tu,.slice za zn zc] T) (hT0:TreeOf g w ⟨false,g.start⟩ T 0 w.length) :
  closeQ CC 22 [.pointer (some ⟨i9,0,none⟩),.pointer (some ⟨i4,0,none⟩),.pointer (some ⟨i5,0,none⟩),.pointer (some ⟨i6,0,none⟩)] Tryz.f9 own (fun F' v o=>o=[]∧PAns g w F' v) .nilIface k F own':=by
 refine⟨[],own',_,close_nil F i9 i4 i5 i6,List.Perm.refl _,fun F3 oout hF hP=>?_⟩;subst hP;exact⟨_,[],⟨_,_,⟨_,h4,fun G h0 s0=>loadA_cells (s0.has (p:=q4) g4 me) (readT_ok hT rfl)⟩,⟨_,_,⟨_,h5,fun G h0 s0=>loadA_cells (s0.has (p:=q5) g5 me) (readT_ok hT rfl)⟩,
  ⟨_,_,⟨_,h6,fun G h0 s0=>loadA_cells (s0.has (p:=q6) g6 me) (readT_ok hT rfl)⟩,rfl,rfl⟩,rfl⟩,rfl⟩,hfr,rfl,.inl ⟨T,_,rfl,tTree.mono _ _ _ _ hF hrel,hT0⟩⟩
theorem perm5{α:Type}(x0 x1 x2 x3 x4 x5 x6:α)(l:List α):(x0::x1::x2::x3::x4::x5::x6::l).Perm (x1::x2::x6::x5::x4::x0::x3::l):=by
 have p1:(x0::x1::x2::x3::x4::x5::x6::l).Perm (x1::x0::x2::x3::x4::x5::x6::l):=List.Perm.swap _ _ _;refine p1.trans (List.Perm.cons _ ?_);refine(List.Perm.swap x2 x0 _).trans (List.Perm.cons _ ?_);refine(perm_pick (p:=4) (x:=x6) rfl).trans (List.Perm.cons _ ?_);refine(perm_pick (p:=3) (x:=x5) rfl).trans (List.Perm.cons _ ?_);refine(perm_pick (p:=2) (x:=x4) rfl).trans (List.Perm.cons _ ?_);exact List.Perm.refl _
theorem perm4{α:Type}(x1 x2 x3 x4 x5 x6:α)(l:List α):(x2::x1::x3::x4::x5::x6::l).Perm (x1::x2::x6::x5::x4::x3::l):=by
 refine(List.Perm.swap x1 x2 _).trans (List.Perm.cons _ (List.Perm.cons _ ?_));refine(perm_pick (p:=3) (x:=x6) rfl).trans (List.Perm.cons _ ?_);refine(perm_pick (p:=2) (x:=x5) rfl).trans (List.Perm.cons _ ?_);refine(perm_pick (p:=1) (x:=x4) rfl).trans (List.Perm.cons _ ?_);exact List.Perm.refl _
theorem predParse_spec(F:Frz)(g:Gram)(hg:Valid g){a:Option Addr}{m c:Nat}(hr:Arr tRule F a m c g.rules){b:Option Addr}{n d:Nat}{w:List Nat}(hwA:Arr tNat F b n d w)(hw:w.length≤2000)(hw2:∀t∈w,t<g.terms)
  (hno:∀P,(∀i r,g.rules[i]?=some r→RowP g r (P.getD i []))→∀n t,n<g.nons→t≤g.terms→fewC g P n t) :
  Abs.Spec CC 9 [.agg ⟨gramCells g a m c⟩,.slice b n d] F [] fun F' v o=>o=[]∧PAns g w F' v:=by
 have hwl:=hwA.len;unfold gramCells;refine Spec.dfn (n:=53) Tryz.func9 rfl rfl fun own=>?_;refine DW.seq rfl (AW.reg ?_);refine WT.boxT Z Z Z Z Z Z (fun i2 hi2=>?_);refine WT.freezeAll 0 Z Z (fun F0 hF0 hB0=>?_);have hi2:=hB0 i2 _ me;have hr:=hr.mono hF0;have hwA:=hwA.mono hF0;refine WT.allocT hT Z Z Z Z Z Z (fun i4 hi4=>?_);refine WT.allocT hT Z Z Z Z Z Z (fun i5 hi5=>?_);refine WT.allocT hT Z Z Z Z Z Z (fun i6 hi6=>?_);refine WT.nil ?_;refine DW.seq rfl (AW.reg ?_);refine zC4 ?_;have hof:=predictOf_spec F0 g hg hr;unfold gramCells at hof
 refine WT.callF0 Tryz.func5 Z Z Z Z Z Z hof (fun F1 v hF1 hv=>?_);obtain⟨ra,rn,rc,R,ca,cn,cc,P,rfl,hRA,hRl,hRr,hcn,hcf,hPr⟩:=hv;have hi2:=hF1 _ _ hi2;have hr1:=hr.mono hF1;have hw1:=hwA.mono hF1;refine zC4 ?_;refine WT.allocT hT Z Z Z Z Z Z (fun i7 hi7=>?_);refine zC4 ?_;refine DW.seq rfl ?_;refine zC4 ?_;refine AW.cond Z (fun h=>(by cases h)) (fun _=>?_);refine zC4 ?_;refine DW.seq rfl ?_;refine zC4 ?_;have hgw:=gword_spec F1 g (a:=a) (m:=m) (c:=c) 2000 (by decide) hw1 zo;rw[wordErr_ok zo hw2] at hgw;unfold gramCells at hgw;refine WT.callV Tryz.func21 Z Z Z Z Z Z hgw (fun v hv=>?_);subst hv
 refine zC4 ?_;refine AW.cond Z (fun h=>(by cases h)) (fun _=>?_);refine zC4 ?_;refine DW.seq rfl ?_;refine zC4 ?_;have hcn0:cn=0:=hcn.2 (hno P hPr);refine AW.cond Z (fun h=>(by simp at h;omega)) (fun _=>?_);refine zC4 ?_;refine DW.seq rfl ?_;refine zC4 ?_;refine WT.boxT Z Z Z Z Z Z (fun ip hip=>?_);refine WT.allocT hT Z Z Z Z Z Z (fun i9 hi9=>?_);refine zC4 ?_;refine DW.defer rfl rfl ?_;refine zC4 ?_;refine⟨_,_,rfl,?_⟩;obtain⟨p,hp⟩:∃p:PPl,p=⟨ip,a,m,c,ra,rn,rc,ca,cn,cc,b,n,d⟩:=⟨_,rfl⟩;have hE:PEnv F1 g p R w:=by subst hp;exact⟨hr1,hRA,hw1⟩
 have hpi:p.ip=ip:=by rw[hp]
 have hpB:∀i,psB g p i=[(ip,.cells false [.int .i64 g.terms,.int .i64 g.nons,.int .i64 g.start,.slice a m c,.slice ra rn rc,.slice ca cn cc,.slice b n d,.int .i64 (i:Nat)])]:=fun i=>by rw[hp];rfl
 have ok:=llok_of hg hPr (hno P hPr);have hTR:=tabR_of hRl hRr;have hst:SymOk g.terms g.nons ⟨false,g.start⟩:=hg.range.start;obtain⟨o,j,hpr⟩:=pr_start (w:=w) hg ok;have hwk:=PR.walk (p:=p) hg ok hw hw2 hTR hpr;cases o with
 | some T=>
  have hsp:=hwk (Nat.zero_le _) hst F1 hE;have hTj:=PR.sound ok hpr;have hjl:=(PR.le ok hpr (Nat.zero_le _)).2;rw[hpB 0,hpi] at hsp;unfold symV at hsp;refine zC4 ?_;refine AW.draw (ps:=[(0,3),(0,5),(2,5)]) Z Z ?_;refine zC4 ?_;refine WT.callV Tryz.func24 Z Z Z Z Z Z (gN_spec _ _) (fun v hv=>?_);subst hv;refine WT.call1F 1 Tryz.func23 Z Z Z Z Z Z Z (fun _=>rfl) (P:=fun F' v B'=>B'=psB g p j∧∃cs,v=.agg ⟨cs⟩∧tTree.rel F' cs T) (hsp.mono fun F' v o _ h=>⟨_,h.1,rfl,h.2⟩) (fun F2 v B2 hF2 hv=>?_);obtain⟨rfl,cs,rfl,hrel⟩:=hv;have hi2:=hF2 _ _ hi2;rw[hpB j];obtain⟨tr,tu,tks⟩:=T
  obtain⟨za,zn,zc,rfl,_,_⟩:=tTree_cases hrel;refine WT.allocT hT Z Z Z Z Z Z (fun i10 hi10=>?_);refine zC4 ?_;refine⟨zrC,?_⟩;refine zC4 ?_;refine AW.cond Z (fun hlt=>?_) (fun hge=>?_)
  ·have hlt:j<w.length:=by simp at hlt;omega
   refine AW.panS [_,_] Z Z ?_;refine zC4 ?_;refine WT.ifaceT hT Z Z Z Z Z Z ?_;refine zC4 ?_;refine⟨rfl,rfl,?_⟩;refine close_fin (p:=p) (j:=j) (fr:=[(i10,.cells false [.int .i64 tr,.int .i64 tu,.slice za zn zc])]::[(i7,.cells false [.slice ra rn rc,.slice ca cn cc])]::[]::own) Z Z Z ?_ zsb ⟨_,ok,.inr ⟨_,hpr,hlt⟩⟩
   ·rw[hpB j,hpi];exact perm5 _ _ _ _ _ _ _ _
  ·have hje:j=w.length:=by simp at hge;omega
   refine zC7 ?_;exact AW.ret (close_good (q4:=6) (q5:=5) (q6:=4) Z Z Z Z Z Z zsb hrel (hje▸hTj))
 | none=>
  have hsp:=hwk (Nat.zero_le _) hst F1 hE;rw[hpB 0,hpi] at hsp;unfold symV at hsp;refine zC4 ?_;refine AW.panD (ps:=[(0,3),(0,5),(2,5)]) [_,_,_,_] Z Z Z Z ?_;refine zC4 ?_;refine WT.callV Tryz.func24 Z Z Z Z Z Z (gN_spec _ _) (fun v hv=>?_);subst hv;refine zC4 ?_;refine⟨_,_,[[(ip,.cells false [.int .i64 g.terms,.int .i64 g.nons,.int .i64 g.start,.slice a m c,.slice ra rn rc,.slice ca cn cc,.slice b n d,.int .i64 (0:Nat)])]],_,_,[],rfl,rfl,opA_callF Tryz.func23 Z Z Z,hsp,perm_pick (p:=1) rfl,fun F2 oout hF2 hP=>?_⟩;subst hP;have hi2:=hF2 _ _ hi2;rw[hpB j]
  show WT CC 53 _ _ ((42,.agg ⟨[.int .i64 0,.int .i64 0,.slice none 0 0]⟩)::_) _ ([(ip,.cells false [.int .i64 g.terms,.int .i64 g.nons,.int .i64 g.start,.slice a m c,.slice ra rn rc,.slice ca cn cc,.slice b n d,.int .i64 (j:Nat)])]::[(i9,.cells false [.pointer (some ⟨ip,0,none⟩)])]::[(i7,.cells false [.slice ra rn rc,.slice ca cn cc])]::[(i6,.cells false [.int .i64 0])]::[(i5,.cells false [.int .i64 0])]::[(i4,.cells false [.int .i64 0,.int .i64 0,.slice none 0 0])]::[]::own) _;refine WT.allocT hT Z Z Z Z Z Z (fun i10 hi10=>?_);refine zC4 ?_;refine⟨zrC,?_⟩
  refine close_fin (p:=p) (j:=j) (fr:=[(i7,.cells false [.slice ra rn rc,.slice ca cn cc])]::[]::own) Z Z Z ?_ zsb ⟨_,ok,.inl hpr⟩;rw[hpB j,hpi];exact perm4 _ _ _ _ _ _ _
mutual
theorem TreeOf.keep{g:Gram}{w w':List Nat}:∀{T:Tree} {s:Sym} {i j:Nat},TreeOf g w s T i j→(∀q,q<j→w'[q]?=w[q]?)→TreeOf g w' s T i j
 | .mk _ _ _,_,_,_,.leaf h,e=>.leaf (by rw[e _ (Nat.lt_succ_self _)];exact h)
 | .mk _ _ ks,_,_,_,.node h h2,e=>.node h (TreesOf.keep h2 e)
theorem TreesOf.keep{g:Gram}{w w':List Nat}:∀{ts:List Tree} {l:List Sym} {i j:Nat},TreesOf g w l ts i j→(∀q,q<j→w'[q]?=w[q]?)→TreesOf g w' l ts i j
 | [],_,_,_,.nil,_=>.nil
 | _::_,_,_,_,.cons h1 h2,e=>.cons (TreeOf.keep h1 fun q hq=>e q (by have:=(TreesOf.le h2).1;omega)) (TreesOf.keep h2 e)
end
theorem Der.keep{g:Gram}{w w':List Nat}{s:Sym}{i j:Nat}(h:Der g w s i j)(e:∀q,q<j→w'[q]?=w[q]?):Der g w' s i j:=by
 obtain⟨T,hT⟩:=Der.tree h;exact TreeOf.toDer (hT.keep e)
section
variable {g:Gram}{tab:Nat→Nat→Option Nat}{w:List Nat}
theorem nextW_keep{w':List Nat}{i:Nat}(h:w'[i]?=w[i]?):nextW g w' i=nextW g w i:=by unfold nextW;rw[h]
mutual
theorem PR.up:∀{s:Sym} {i j:Nat} {o:Option Tree},PR g tab w s i o j→i≤j
 | _,_,_,_,.leaf _=>Nat.le_succ _
 | _,_,_,_,.other _=>Nat.le_refl _
 | _,_,_,_,.none _=>Nat.le_refl _
 | _,_,_,_,.node _ _ h=>PRL.up h
 | _,_,_,_,.bad _ _ h=>PRL.up h
theorem PRL.up:∀{l:List Sym} {i j:Nat} {o:Option (List Tree)},PRL g tab w l i o j→i≤j
 | _,_,_,_,.nil=>Nat.le_refl _
 | _,_,_,_,.cons h h2=>Nat.le_trans (PR.up h) (PRL.up h2)
 | _,_,_,_,.stop h=>PR.up h
 | _,_,_,_,.later h h2=>Nat.le_trans (PR.up h) (PRL.up h2)
end
mutual
theorem PR.keep{w':List Nat}:∀{s:Sym} {i j:Nat} {o:Option Tree},PR g tab w s i o j→(∀q,q≤j→w'[q]?=w[q]?)→PR g tab w' s i o j
 | _,_,_,_,.leaf h,e=>.leaf (by rw[e _ (Nat.le_succ _)];exact h)
 | _,_,_,_,.other h,e=>.other (by rw[e _ (Nat.le_refl _)];exact h)
 | _,_,_,_,.none h,e=>.none (by rw[nextW_keep (e _ (Nat.le_refl _))];exact h)
 | _,_,_,_,.node h hr h2,e=>.node (by rw[nextW_keep (e _ (PRL.up h2))];exact h) hr (PRL.keep h2 e)
 | _,_,_,_,.bad h hr h2,e=>.bad (by rw[nextW_keep (e _ (PRL.up h2))];exact h) hr (PRL.keep h2 e)
theorem PRL.keep{w':List Nat}:∀{l:List Sym} {i j:Nat} {o:Option (List Tree)},PRL g tab w l i o j→(∀q,q≤j→w'[q]?=w[q]?)→PRL g tab w' l i o j
 | _,_,_,_,.nil,_=>.nil
 | _,_,_,_,.cons h h2,e=>.cons (PR.keep h fun q hq=>e q (Nat.le_trans hq (PRL.up h2))) (PRL.keep h2 e)
 | _,_,_,_,.stop h,e=>.stop (PR.keep h e)
 | _,_,_,_,.later h h2,e=>.later (PR.keep h fun q hq=>e q (Nat.le_trans hq (PRL.up h2))) (PRL.keep h2 e)
end
theorem take_app{v:List Nat}{j q:Nat}(hj:j≤w.length)(hq:q<j):(w.take j++v)[q]?=w[q]?:=by
 rw[List.getElem?_append_left (by rw[List.length_take];omega),List.getElem?_take,if_pos hq]
mutual
theorem PR.viable(hg:Valid g)(hP:∀n,n<g.nons→HasWord g n)(ok:LLok g tab):∀{s:Sym} {i j:Nat} {o:Option Tree},PR g tab w s i o j→o=none→i≤w.length→SymOk g.terms g.nons s→j≤w.length∧∃v,Der g (w.take j++v) s i (j+v.length)
 | _,_,_,_,.leaf _,e,_,_=>by cases e
 | _,i,_,_,.other (t:=t) _,_,hi,_=>⟨hi,[t],.term (by rw[List.getElem?_append_right (by rw[List.length_take];omega)];simp[Nat.min_eq_left hi])⟩
 | _,i,_,_,.none (n:=n) _,_,hi,hs=>by
  obtain⟨z,hz⟩:=hP n hs;have h1:=der_wrap (u:=w.take i) (v:=[]) hz;rw[List.length_take,Nat.min_eq_left hi,List.append_nil] at h1;exact⟨hi,z,h1⟩
 | _,_,_,_,.node _ _ _,e,_,_=>by cases e
 | _,_,_,_,.bad (n:=n) h hr h2,_,hi,_=>by
  obtain⟨r',q1,rfl,_⟩:=ok.rule h;rw[hr] at q1;obtain rfl:=Option.some.inj q1;have hm:=gM hr;obtain⟨h3,v,h4⟩:=PRL.viable hg hP ok h2 rfl hi (hg.right _ hm).2.2;exact⟨h3,v,.non hm h4⟩
theorem PRL.viable(hg:Valid g)(hP:∀n,n<g.nons→HasWord g n)(ok:LLok g tab):∀{l:List Sym} {i j:Nat} {o:Option (List Tree)},PRL g tab w l i o j→o=none→i≤w.length→(∀s∈l,SymOk g.terms g.nons s)→j≤w.length∧∃v,Ders g (w.take j++v) l i (j+v.length)
 | _,_,_,_,.nil,e,_,_=>by cases e
 | _,_,_,_,.cons _ _,e,_,_=>by cases e
 | _,_,_,_,.stop (s:=s) (l:=l) (m:=m) h,_,hi,hs=>by
  obtain⟨h1,v1,h2⟩:=PR.viable hg hP ok h rfl hi (hs _ me);obtain⟨z,hz⟩:=hasWord_list l fun y hy=>by
   have:=hs y (List.mem_cons_of_mem _ hy);obtain⟨b,n⟩:=y;cases b with
   | true=>exact .inl rfl
   | false=>exact .inr (hP n this)
  have hl:(w.take m++v1).length=m+v1.length:=by rw[List.length_append,List.length_take,Nat.min_eq_left h1]
  have h3:=ders_wrap (u:=w.take m++v1) (v:=[]) hz;rw[hl,List.append_nil] at h3;refine⟨h1,v1++z,?_⟩;rw[←List.append_assoc,List.length_append,←Nat.add_assoc];exact .cons (h2.keep fun q hq=>List.getElem?_append_left (by rw[hl];exact hq)) h3
 | _,_,_,_,.later (s:=s) (l:=l) (m:=m) h h2,_,hi,hs=>by
  have hle:=PR.le ok h hi;obtain⟨h3,v,h4⟩:=PRL.viable hg hP ok h2 rfl hle.2 fun s hm=>hs s (List.mem_cons_of_mem _ hm);have hmj:=PRL.up h2;exact⟨h3,v,.cons ((TreeOf.toDer (PR.sound ok h)).keep fun q hq=>take_app h3 zo) h4⟩
end
def Via0(g:Gram)(u:List Nat):Prop:=∃v,Der g (u++v) ⟨false,g.start⟩ 0 (u++v).length
theorem PStop.place(hg:Valid g)(hP:∀n,n<g.nons→HasWord g n){j:Nat}(h:PStop g w j):j≤w.length∧Via0 g (w.take j)∧(j<w.length→¬Via0 g (w.take (j+1))):=by
 obtain⟨tab,ok,h⟩:=h;have hno:∀{o:Option Tree},PR g tab w ⟨false,g.start⟩ 0 o j→j<w.length→¬Via0 g (w.take (j+1)):=fun {o} h hj ⟨v,hv⟩=>by
  obtain⟨T,hT⟩:=Der.tree hv;have h1:=pr_whole ok hT;have h2:=h.keep (w':=w.take (j+1)++v) fun q hq=>take_app zo zo;have h3:=(PR.same h1 h2).2;rw[List.length_append,List.length_take] at h3;omega
 rcases h with h | ⟨T,h,hj⟩
 ·obtain⟨h1,v,h2⟩:=PR.viable hg hP ok h rfl (Nat.zero_le _) (show g.start<g.nons from hg.range.start);refine⟨h1,⟨v,?_⟩,hno h⟩;rw[List.length_append,List.length_take,Nat.min_eq_left h1];exact h2
 ·refine⟨Nat.le_of_lt hj,⟨[],?_⟩,hno h⟩;rw[List.append_nil,List.length_take,Nat.min_eq_left (Nat.le_of_lt hj)];refine(TreeOf.toDer (PR.sound ok h)).keep fun q hq=>?_;rw[List.getElem?_take,if_pos hq]
end
theorem der_toks{g:Gram}(hg:Valid g){w:List Nat}{s:Sym}{i j:Nat}(h:Der g w s i j):SymOk g.terms g.nons s→∀p,i≤p→p<j→∃t,w[p]?=some t∧t<g.terms:=by
 refine Der.rec (motive_1:=fun s i j _=>SymOk g.terms g.nons s→∀p,i≤p→p<j→∃t,w[p]?=some t∧t<g.terms) (motive_2:=fun l i j _=>(∀y∈l,SymOk g.terms g.nons y)→∀p,i≤p→p<j→∃t,w[p]?=some t∧t<g.terms) ?_ ?_ ?_ ?_ h
 ·intro t i h hs p h1 h2;obtain rfl:p=i:=by omega
  exact⟨t,h,hs⟩
 ·intro r i j hr _ ih _;exact ih (hg.right r hr).2.2
 ·intro i _ p h1 h2;omega
 ·intro s l i m j _ _ ih1 ih2 hs p h1 h2;rcases Nat.lt_or_ge p m with h3 | h3
  ·exact ih1 (hs _ me) p h1 h3
  ·exact ih2 (fun y hy=>hs y (List.mem_cons_of_mem _ hy)) p h3 h2
theorem word_toks{g:Gram}(hg:Valid g){w:List Nat}(h:Der g w ⟨false,g.start⟩ 0 w.length):∀t∈w,t<g.terms:=fun t ht=>by
 obtain⟨p,hp⟩:=List.getElem?_of_mem ht;have hlt:=(gS hp).1;obtain⟨t',h1,h2⟩:=der_toks hg h (show SymOk g.terms g.nons ⟨false,g.start⟩ from hg.range.start) p (Nat.zero_le _) hlt;rw[hp] at h1;obtain rfl:=Option.some.inj h1;exact h2
theorem sh_place{g:Gram}{it:Nat→Lr→Prop}{la:Nat→Lr→Nat→Prop}{go:Nat→Sym→Option Nat}{act:Nat→Nat→Act}{w:List Nat}(hg:Small g)(hP:∀n,n<g.nons→HasWord g n)(ok:LRok g it la go)(on:Only g it la go act)(hw:w.length≤10)
  {p:Nat} (hp:p<w.length) (h:Via0 g (w.take (p+1))):∃c0,confAt g go act 100000 (w.take (p+1)).reverse=some c0:=by
 obtain⟨v,hv⟩:=h;obtain⟨c0,hc0⟩:=conf_reads hg hP ok on (word_toks hg.valid hv) hv (p:=p) (by rw[List.length_append,List.length_take];omega) zo;have e:(w.take (p+1)++v).take (p+1)=w.take (p+1):=by
  rw[List.take_append_of_le_length (by rw[List.length_take];omega),List.take_of_length_le (by rw[List.length_take];omega)]
 rw[e] at hc0;exact⟨c0,hc0⟩
theorem via_less{g:Gram}{w:List Nat}{i j:Nat}(hij:i≤j)(h:Via0 g (w.take j)):Via0 g (w.take i):=by
 obtain⟨v,hv⟩:=h;refine⟨(w.take j).drop i++v,?_⟩;have e:w.take i++((w.take j).drop i++v)=w.take j++v:=by
  rw[←List.append_assoc];congr 1;have h1:=List.take_append_drop i (w.take j);rw[List.take_take,Nat.min_eq_left hij] at h1;exact h1
 rw[e];exact hv
def bitsL(l:List Look)(x:Lr)(t:Nat):Prop:=∃m,(⟨x,m⟩:Look)∈l∧m.testBit t=true
def mergeL:List Look→List Look→List Look
 | r::rs,x::xs=>⟨r.item,r.set ||| x.set⟩::mergeL rs xs
 | rs,_=>rs
theorem mergeL_nil(row:List Look):mergeL row []=row:=by cases row<;>rfl
theorem mergeL_items:∀(row l:List Look),itemsK (mergeL row l)=itemsK row
 | [],l=>by cases l<;>rfl
 | r::rs,[]=>rfl
 | r::rs,x::xs=>by
  have:=mergeL_items rs xs;unfold itemsK at this ⊢;show r.item::_=r.item::_;rw[this]
theorem mergeL_len(row l:List Look):(mergeL row l).length=row.length:=by
 have:=congrArg List.length (mergeL_items row l);unfold itemsK at this
 rwa [List.length_map,List.length_map] at this
theorem mergeL_step:∀{row l:List Look} {j:Nat} {r x:Look},row[j]?=some r→l[j]?=some x→mergeL row (l.take (j+1))=(mergeL row (l.take j)).set j ⟨r.item,r.set ||| x.set⟩∧(mergeL row (l.take j))[j]?=some r
 | [],_,_,_,_,h,_=>by simp at h
 | _::_,[],_,_,_,_,h=>by simp at h
 | r0::rs,x0::xs,0,r,x,h1,h2=>by
  simp only[List.getElem?_cons_zero,Option.some.injEq] at h1 h2;subst h1 h2;refine⟨?_,rfl⟩;show ⟨r0.item,r0.set ||| x0.set⟩::mergeL rs (xs.take 0)=_
  rw[List.take_zero,mergeL_nil];rfl
 | r0::rs,x0::xs,j+1,r,x,h1,h2=>by
  have:=@mergeL_step rs xs j r x (by simpa using h1) (by simpa using h2);refine⟨?_,this.2⟩;show ⟨r0.item,r0.set ||| x0.set⟩::mergeL rs (xs.take (j+1))=(⟨r0.item,r0.set ||| x0.set⟩::mergeL rs (xs.take j)).set (j+1) _
  rw[this.1];rfl
theorem mergeL_bits:∀{row l:List Look},itemsK row=itemsK l→∀x t,bitsL (mergeL row l) x t↔bitsL row x t∨bitsL l x t
 | [],[],_,x,t=>by unfold mergeL;exact⟨.inl,fun h=>h.elim id id⟩
 | [],_::_,h,_,_=>by cases h
 | _::_,[],h,_,_=>by cases h
 | r::rs,y::ys,h,x,t=>by
  unfold itemsK at h;simp only[List.map_cons,List.cons.injEq] at h;obtain⟨h1,h2⟩:=h;have ih:=mergeL_bits (row:=rs) (l:=ys) h2 x t;obtain⟨ri,rm⟩:=r;obtain⟨yi,ym⟩:=y;dsimp only at h1;subst h1;have hc:∀(z:Look) (l:List Look),bitsL (z::l) x t↔(z.item=x∧z.set.testBit t=true)∨bitsL l x t:=fun z l=>by
   obtain⟨zi,zm⟩:=z;constructor
   ·rintro⟨m,hm,ht⟩;rcases List.mem_cons.1 hm with e | e
    ·simp only[Look.mk.injEq] at e;exact .inl ⟨e.1.symm,by rw[←e.2];exact ht⟩
    ·exact .inr ⟨m,e,ht⟩
   ·rintro(⟨h1,h2⟩ | ⟨m,hm,ht⟩)
    ·exact⟨zm,by dsimp only at h1;rw[h1];exact List.mem_cons_self ..,h2⟩
    ·exact⟨m,List.mem_cons_of_mem _ hm,ht⟩
  show bitsL (⟨ri,rm ||| ym⟩::mergeL rs ys) x t↔_
  rw[hc,hc,hc,ih];dsimp only;rw[Nat.testBit_or,Bool.or_eq_true];constructor
  ·rintro(⟨h3,h4 | h4⟩ | h3 | h3)
   ·exact .inl (.inl ⟨h3,h4⟩)
   ·exact .inr (.inl ⟨h3,h4⟩)
   ·exact .inl (.inr h3)
   ·exact .inr (.inr h3)
  ·rintro((⟨h3,h4⟩ | h3) | (⟨h3,h4⟩ | h3))
   ·exact .inl ⟨h3,.inl h4⟩
   ·exact .inr (.inl h3)
   ·exact .inl ⟨h3,.inr h4⟩
   ·exact .inr (.inr h3)
theorem mergeL_small{B:Nat}:∀{row l:List Look},(∀x∈row,x.set<2 ^ B)→(∀x∈l,x.set<2 ^ B)→∀x∈mergeL row l,x.set<2 ^ B
 | [],l,h,_,x,hx=>by cases l<;>exact h x hx
 | r::rs,[],h,_,x,hx=>h x hx
 | r::rs,y::ys,h1,h2,x,hx=>by
  rcases List.mem_cons.1 hx with e | e
  ·rw[e];exact Nat.or_lt_two_pow (h1 r me) (h2 y me)
  ·exact mergeL_small (fun x hx=>h1 x (List.mem_cons_of_mem _ hx)) (fun x hx=>h2 x (List.mem_cons_of_mem _ hx)) x e
def roomL(l:List Look):Nat:=(l.map fun x=>512-x.set).sum
def roomT(L:List (List Look)):Nat:=(L.map roomL).sum
theorem mergeL_room:∀{row l:List Look},(∀x∈row,x.set<512)→(∀x∈mergeL row l,x.set<512)→roomL (mergeL row l)≤roomL row∧(mergeL row l≠row→roomL (mergeL row l)<roomL row)
 | [],l,_,_=>by cases l<;>exact⟨Nat.le_refl _,fun h=>absurd rfl h⟩
 | r::rs,[],_,_=>⟨Nat.le_refl _,fun h=>absurd rfl h⟩
 | r::rs,y::ys,h1,h2=>by
  obtain⟨a1,a2⟩:=mergeL_room (row:=rs) (l:=ys) (fun x hx=>h1 x (List.mem_cons_of_mem _ hx)) (fun x hx=>h2 x (List.mem_cons_of_mem _ hx));have b1:=h1 r me;have b2:r.set ||| y.set<512:=h2 ⟨r.item,r.set ||| y.set⟩ me
  have b3:r.set≤r.set ||| y.set:=Nat.left_le_or
  show (512-(r.set ||| y.set))+roomL (mergeL rs ys)≤(512-r.set)+roomL rs∧((⟨r.item,r.set ||| y.set⟩::mergeL rs ys:List Look)≠r::rs→(512-(r.set ||| y.set))+roomL (mergeL rs ys)<(512-r.set)+roomL rs)
  refine⟨by omega,fun hne=>?_⟩;by_cases e:r.set ||| y.set=r.set
  ·have:mergeL rs ys≠rs:=fun e2=>hne (by rw[e,e2]);have:=a2 this;omega
  ·omega
theorem roomT_set{L:List (List Look)}{k:Nat}{row row':List Look}(h:L[k]?=some row):roomT (L.set k row')+roomL row=roomT L+roomL row':=by
 unfold roomT;rw[List.map_set];exact sum_set (by rw[List.getElem?_map,h];rfl)
theorem laK_iff{S:List (List Look)}{s:Nat}{x:Lr}{t:Nat}:laK S s x t↔∃st,S[s]?=some st∧bitsL st x t:=
 ⟨fun ⟨st,m,h1,h2,h3⟩=>⟨st,h1,m,h2,h3⟩,fun ⟨st,h1,m,h2,h3⟩=>⟨st,m,h1,h2,h3⟩⟩
theorem laK_set{L:List (List Look)}{k:Nat}{row l:List Look}(hk:L[k]?=some row)(hi:itemsK row=itemsK l){s:Nat}{x:Lr}{t:Nat}:laK (L.set k (mergeL row l)) s x t↔laK L s x t∨(s=k∧bitsL l x t):=by
 have hlt:=(gS hk).1;rw[laK_iff,laK_iff];by_cases e:s=k
 ·subst e;rw[List.getElem?_set_self hlt];constructor
  ·rintro⟨st,h1,h2⟩;obtain rfl:=Option.some.inj h1;rcases (mergeL_bits hi x t).1 h2 with h3 | h3
   ·exact .inl ⟨row,hk,h3⟩
   ·exact .inr ⟨rfl,h3⟩
  ·rintro(⟨st,h1,h2⟩ | ⟨_,h2⟩)
   ·rw[hk] at h1;obtain rfl:=Option.some.inj h1;exact⟨_,rfl,(mergeL_bits hi x t).2 (.inl h2)⟩
   ·exact⟨_,rfl,(mergeL_bits hi x t).2 (.inr h2)⟩
 ·rw[List.getElem?_set_ne (fun e2=>e e2.symm)];exact⟨.inl,fun h=>h.resolve_right fun h2=>e h2.1⟩
section
variable {g:Gram}{I:List (List Lr)}{rows:List (List Int)}
structure LaI(g:Gram)(I:List (List Lr))(rows:List (List Int))(L:List (List Look)):Prop where
 items:L.map itemsK=I
 small:∀st∈L,∀x∈st,x.set<2 ^ (g.terms+1)
 snd:∀s x t,laK L s x t→LalA g I rows s x t
 pass:∀s x t k r,laK L s x t→afterL g x=some ⟨false,r.left⟩→g.rules[k]?=some r→NulL g (restL g x)→laK L s ⟨k,0⟩ t
def CloA(g:Gram)(rows:List (List Int))(L:List (List Look))(s:Nat)(y:Sym):Prop:=∀s' st,goR g rows s y=some s'→L[s]?=some st→∀z t,LAc g (kernK g st y) z t→laK L s' z t
def ZeroA(L:List (List Look))(s:Nat):Prop:=∀x t,¬laK L s x t
theorem LaI.it{L:List (List Look)}(h:LaI g I rows L){s:Nat}{x:Lr}{t:Nat}(hl:laK L s x t):itI I s x:=by
 obtain⟨st,m,h1,h2,_⟩:=hl;refine⟨itemsK st,?_,List.mem_map.2 ⟨_,h2,rfl⟩⟩;rw[←h.items,List.getElem?_map,h1];rfl
theorem LaI.put{L:List (List Look)}(h:LaI g I rows L){k:Nat}{row l:List Look}(hk:L[k]?=some row)(hi:itemsK row=itemsK l)(hl:∀x∈l,x.set<2 ^ (g.terms+1))
  (hs:∀x t,bitsL l x t→LalA g I rows k x t) (hp:∀x t j r,bitsL l x t→afterL g x=some ⟨false,r.left⟩→g.rules[j]?=some r→NulL g (restL g x)→bitsL l ⟨j,0⟩ t):LaI g I rows (L.set k (mergeL row l)):=by
 have hlt:=(gS hk).1;refine⟨?_,fun st hst=>?_,fun s x t ht=>?_,fun s x t j r ht h1 h2 h3=>?_⟩
 ·rw[←h.items,List.map_set,mergeL_items];apply List.ext_getElem?;intro i;by_cases e:i=k
  ·subst e;rw[List.getElem?_set_self (by simpa using hlt),List.getElem?_map,hk];rfl
  ·rw[List.getElem?_set_ne (fun e2=>e e2.symm)]
 ·rcases List.mem_or_eq_of_mem_set hst with h1 | h1
  ·exact h.small st h1
  ·rw[h1];exact mergeL_small (h.small row (gM hk)) hl
 ·rcases (laK_set hk hi).1 ht with h1 | ⟨rfl,h1⟩
  ·exact h.snd _ _ _ h1
  ·exact hs _ _ h1
 ·rw[laK_set hk hi] at ht ⊢;rcases ht with h4 | ⟨rfl,h4⟩
  ·exact .inl (h.pass _ _ _ _ _ h4 h1 h2 h3)
  ·exact .inr ⟨rfl,hp _ _ _ _ h4 h1 h2 h3⟩
theorem closeK_bits(hg:Valid g){l:List Look}(hl:∀x∈itemsK l,OkLr g x){z:Lr}{t:Nat}:bitsL (closeK g l) z t↔LAc g l z t:=look_closeK hg hl
theorem closeK_small{l:List Look}:∀x∈closeK g l,x.set<2 ^ (g.terms+1):=fun x hx=>by
 obtain⟨z,_,rfl⟩:=List.mem_map.1 hx;exact maskOf_lt _ _
theorem goto_exact(hg:Valid g)(h:autoI g=some (I,rows)){s s':Nat}{y:Sym}{st:List Lr}(hgo:goR g rows s y=some s')(hs:I[s]?=some st):I[s']?=some (closL g (kern g st y)):=by
 obtain⟨hA,hN⟩:=autoI_ok h;obtain⟨st2,st',h4,h5,_,h6⟩:=hA.goes hg hgo;rw[hs] at h4;obtain rfl:=Option.some.inj h4
 have hst:Strict st':=hN.all (P:=Strict) (closL_strict g _) (fun a b _ hb=>by
  obtain⟨y,_,hy⟩:=List.mem_map.1 hb;split at hy
  ·cases hy
  ·obtain rfl:=Option.some.inj hy;exact closL_strict g _) s' st' h5
 rw[h5,closL_eq (fun x hx=>(kern_ok x hx).1) hst h6]
theorem LaI.goto(hg:Valid g)(hau:autoI g=some (I,rows)){L:List (List Look)}(h:LaI g I rows L){s s':Nat}{y:Sym}(hgo:goR g rows s y=some s'){st row:List Look}(hs:L[s]?=some st)(hk:L[s']?=some row)(hne:¬ZeroA L s) :
  itemsK row=itemsK (closeK g (kernK g st y))∧LaI g I rows (L.set s' (mergeL row (closeK g (kernK g st y)))):=by
 have hIs:I[s]?=some (itemsK st):=by rw[←h.items,List.getElem?_map,hs];rfl
 have hIk:I[s']?=some (itemsK row):=by rw[←h.items,List.getElem?_map,hk];rfl
 have hex:=goto_exact hg hau hgo hIs;rw[hIk] at hex;have hi:itemsK row=itemsK (closeK g (kernK g st y)):=by rw[closeK_items,kernK_items];exact Option.some.inj hex
 have hok:∀x∈itemsK (kernK g st y),OkLr g x:=fun x hx=>by rw[kernK_items] at hx;exact(kern_ok x hx).1
 refine⟨hi,h.put hk hi closeK_small (fun x t ht=>?_) (fun x t j r ht h1 h2 h3=>?_)⟩
 ·rw[closeK_bits hg hok] at ht;have hit:∀{x:Lr},Clos g (itemsK (kernK g st y)) x→itI I s' x:=fun {x} hx=>⟨itemsK row,hIk,by rw[hi,closeK_items];exact(mem_closL hok).2 hx⟩;have hsome:∃v u,laK L s v u:=by
   refine Classical.byContradiction fun hn=>hne fun x t hx=>hn ⟨x,t,hx⟩
  obtain⟨v,u,hvu⟩:=hsome
  induction ht with
  | base h4 h5 _=>
   obtain⟨x0,h6,h7,rfl⟩:=mem_kernK.1 h4;exact .goto (h.snd _ _ _ ⟨st,_,hs,h6,h5⟩) ⟨itemsK st,hIs,List.mem_map.2 ⟨_,h6,rfl⟩⟩ h7 hgo
  | beg h4 h5 h6 h7=>exact .beg (h.snd _ _ _ hvu) (h.it hvu) hgo (hit h4) h5 h6 h7
  | pass h4 h5 h6 h7 _ ih=>exact .pass ih (hit h4) h5 h6 h7
 ·rw[closeK_bits hg hok] at ht ⊢;exact .pass ht.clos h1 h2 h3 ht
theorem LaI.zero(hsm:True):LaI g I rows (I.map fun st=>st.map fun x=>(⟨x,0⟩:Look))∧∀s,ZeroA (I.map fun st=>st.map fun x=>(⟨x,0⟩:Look)) s:=by
 have hz:∀s x t,¬laK (I.map fun st=>st.map fun x=>(⟨x,0⟩:Look)) s x t:=fun s x t ⟨st,m,h1,h2,h3⟩=>by
  rw[List.getElem?_map] at h1;cases hI:I[s]? with
  | none=>rw[hI] at h1;cases h1
  | some st0=>
   rw[hI] at h1;obtain rfl:=Option.some.inj h1;obtain⟨x0,_,e⟩:=List.mem_map.1 h2;simp only[Look.mk.injEq] at e;rw[←e.2] at h3;simp at h3
 refine⟨⟨?_,fun st hst x hx=>?_,fun s x t ht=>absurd ht (hz s x t),fun s x t k r ht=>absurd ht (hz s x t)⟩,hz⟩
 ·rw[List.map_map];have:(itemsK ∘ fun st:List Lr=>st.map fun x=>(⟨x,0⟩:Look))=id:=by
   funext st;show (st.map fun x=>(⟨x,0⟩:Look)).map (·.item)=st;rw[List.map_map];exact List.map_id _
  rw[this,List.map_id]
 ·obtain⟨st0,_,rfl⟩:=List.mem_map.1 hst;obtain⟨x0,_,rfl⟩:=List.mem_map.1 hx;exact Nat.two_pow_pos _
def Started(g:Gram)(L:List (List Look)):Prop:=∀z t,LAc g [⟨⟨g.rules.length,0⟩,2 ^ g.terms⟩] z t→laK L 0 z t
theorem startK_ok:∀x∈itemsK [(⟨⟨g.rules.length,0⟩,2 ^ g.terms⟩:Look)],OkLr g x:=fun x hx=>start_ok x hx
theorem LaI.start(hg:Valid g)(hau:autoI g=some (I,rows)){L:List (List Look)}(h:LaI g I rows L){row:List Look}(hk:L[0]?=some row) :
  itemsK row=itemsK (firstK g)∧LaI g I rows (L.set 0 (mergeL row (firstK g)))∧Started g (L.set 0 (mergeL row (firstK g)))∧laK (L.set 0 (mergeL row (firstK g))) 0 ⟨g.rules.length,0⟩ g.terms:=by
 obtain⟨hA,hN⟩:=autoI_ok hau;have hIk:I[0]?=some (itemsK row):=by rw[←h.items,List.getElem?_map,hk];rfl
 have hi:itemsK row=itemsK (firstK g):=by
  have:=hN.first
  rw[hIk] at this;unfold firstK;rw[closeK_items];exact Option.some.inj this
 have hit:∀{x:Lr},Clos g (itemsK [(⟨⟨g.rules.length,0⟩,2 ^ g.terms⟩:Look)]) x→itI I 0 x:=fun {x} hx=>⟨itemsK row,hIk,by rw[hi];unfold firstK;rw[closeK_items];exact(mem_closL startK_ok).2 hx⟩;have hI:=h.put hk hi closeK_small (fun x t ht=>?_) (fun x t j r ht h1 h2 h3=>?_)
 ·have hst:Started g (L.set 0 (mergeL row (firstK g))):=fun z t ht=>(laK_set hk hi).2 (.inr ⟨rfl,(closeK_bits hg startK_ok).2 ht⟩);exact⟨hi,hI,hst,hst _ _ (.base (List.mem_singleton_self _) (by rw[Nat.testBit_two_pow_self]) (Nat.le_refl _))⟩
 ·rw[show firstK g=closeK g _ from rfl,closeK_bits hg startK_ok] at ht
  induction ht with
  | base h4 h5 _=>
   have e:=List.mem_singleton.1 h4;simp only[Look.mk.injEq] at e;obtain⟨rfl,rfl⟩:=e;rw[Nat.testBit_two_pow] at h5;have:g.terms=_:=of_decide_eq_true h5;rw[←this];exact .start
  | beg h4 h5 h6 h7=>exact .beg0 (hit h4) h5 h6 h7
  | pass h4 h5 h6 h7 _ ih=>exact .pass ih (hit h4) h5 h6 h7
 ·rw[show firstK g=closeK g _ from rfl,closeK_bits hg startK_ok] at ht ⊢;exact .pass ht.clos h1 h2 h3 ht
theorem LaI.done(hg:Valid g)(hau:autoI g=some (I,rows)){L:List (List Look)}(h:LaI g I rows L)(hst:Started g L)(hc:∀s,ZeroA L s∨∀y,CloA g rows L s y):L=lookS g I (LalA g I rows):=by
 obtain⟨hA,hN⟩:=autoI_ok hau;obtain⟨st0,hst0,hz⟩:=hA.zero;have hfull:∀{s:Nat} {x:Lr} {t:Nat},LalA g I rows s x t→laK L s x t:=by
  intro s x t hl;have hgo:∀{s s':Nat} {v:Lr} {u:Nat} {y:Sym},laK L s v u→goR g rows s y=some s'→∃st,L[s]?=some st∧I[s]?=some (itemsK st)∧∀z t,LAc g (kernK g st y) z t→laK L s' z t:=fun {s s' v u y} h1 h2=>by
   obtain⟨st,m,h3,_,_⟩:=id h1;exact⟨st,h3,by rw[←h.items,List.getElem?_map,h3];rfl,(hc s).resolve_left (fun hz=>hz _ _ h1) y s' st h2 h3⟩
  induction hl with
  | start=>exact hst _ _ (.base (List.mem_singleton_self _) (by rw[Nat.testBit_two_pow_self]) (Nat.le_refl _))
  | goto h1 h2 h3 h4 ih=>
   obtain⟨st,e1,_,e2⟩:=hgo ih h4;obtain⟨st',m,e3,e4,e5⟩:=id ih;rw[e1] at e3;obtain rfl:=Option.some.inj e3;exact e2 _ _ (.base (mem_kernK.2 ⟨_,e4,h3,rfl⟩) e5 (h1.le hg))
  | beg0 h1 h2 h3 h4=>
   obtain⟨st',e1,e2⟩:=h1;rw[hst0] at e1;obtain rfl:=Option.some.inj e1;exact hst _ _ (.beg ((hz _).1 e2) h2 h3 h4)
  | beg h1 h2 h3 h4 h5 h6 h7 ih=>
   obtain⟨st,e1,e3,e2⟩:=hgo ih h3;obtain⟨st',e4,e5⟩:=h4;have hex:=goto_exact hg hau h3 e3;rw[e4] at hex;obtain rfl:=Option.some.inj hex;refine e2 _ _ (.beg ?_ h5 h6 h7);rw[kernK_items];exact(mem_closL fun x hx=>(kern_ok x hx).1).1 e5
  | pass h1 h2 h3 h4 h5 ih=>exact h.pass _ _ _ _ _ ih h3 h4 h5
 apply List.ext_getElem?;intro s;rw[lookS_at];cases hL:L[s]? with
 | none=>
  have:I[s]?=none:=by rw[←h.items,List.getElem?_map,hL];rfl
  rw[this];rfl
 | some st=>
  have hIs:I[s]?=some (itemsK st):=by rw[←h.items,List.getElem?_map,hL];rfl
  rw[hIs];simp only[Option.map_some,Option.some.injEq]
  have hnd:(itemsK st).Nodup:=(hN.all (P:=Strict) (closL_strict g _) (fun a b _ hb=>by
   obtain⟨y,_,hy⟩:=List.mem_map.1 hb;split at hy
   ·cases hy
   ·obtain rfl:=Option.some.inj hy;exact closL_strict g _) s _ hIs).nodupL
  unfold itemsK at hnd ⊢;rw[List.map_map];have hkey:∀x∈st,x=(⟨x.item,maskOf (LalA g I rows s x.item) (g.terms+1)⟩:Look):=fun x hx=>by
   obtain⟨xi,xm⟩:=x;simp only[Look.mk.injEq,true_and];refine mask_uniq (h.small st (gM hL) _ hx) fun t=>⟨fun ht=>?_,fun ht=>?_⟩
   ·have:=h.snd s xi t ⟨st,xm,hL,hx,ht⟩;exact⟨Nat.lt_succ_of_le (this.le hg),this⟩
   ·obtain⟨st',m,e1,e2,e3⟩:=hfull ht.2;rw[hL] at e1;obtain rfl:=Option.some.inj e1;have:m=xm:=by
     have hpw:=List.pairwise_map.1 hnd;refine Classical.byContradiction fun hne=>?_;obtain⟨p,hp⟩:=List.getElem?_of_mem hx;obtain⟨q,hq⟩:=List.getElem?_of_mem e2;have hp1:=(gS hp).1;have hq1:=(gS hq).1;have hpq:p≠q:=fun e=>by
      subst e;rw[hp] at hq;simp only[Option.some.injEq,Look.mk.injEq,true_and] at hq;exact hne hq.symm
     have ep:st[p]=⟨xi,xm⟩:=(gS hp).2;have eq_:st[q]=⟨xi,m⟩:=(gS hq).2;have hall:=List.pairwise_iff_getElem.1 hpw;rcases Nat.lt_or_ge p q with h6 | h6
     ·exact hall p q hp1 hq1 h6 (by rw[ep,eq_])
     ·exact hall q p hq1 hp1 zo (by rw[ep,eq_])
    rw[←this];exact e3
  have:st.map (fun x=>(⟨x.item,maskOf (LalA g I rows s x.item) (g.terms+1)⟩:Look))=st:=by
   conv=>rhs;rw[←List.map_id st]
   exact List.map_congr_left fun x hx=>(hkey x hx).symm
  exact this.symm
end
def lkRow(l:List Look):List Value:=(l.map lkV).flatten
theorem lkRow_len(l:List Look):(lkRow l).length=l.length*3:=by
 unfold lkRow
 induction l with
 | nil=>rfl
 | cons x l ih=>simp only[List.map_cons,List.flatten_cons,List.length_append,List.length_cons,ih];show 3+_=_;omega
theorem lkRow_at:∀{l:List Look} {j:Nat} {x:Look},l[j]?=some x→(lkRow l)[0+j*3+2]?=some (.int .u32 (x.set:Nat))∧∀v:Nat,(lkRow l).set (0+j*3+2) (.int .u32 (v:Nat))=lkRow (l.set j ⟨x.item,v⟩)
 | [],_,_,h=>by simp at h
 | y::l,0,x,h=>by
  simp only[List.getElem?_cons_zero,Option.some.injEq] at h;subst h;exact⟨rfl,fun v=>rfl⟩
 | y::l,j+1,x,h=>by
  obtain⟨h1,h2⟩:=@lkRow_at l j x (by simpa using h);have e:lkRow (y::l)=.int .i64 y.item.rule::.int .i64 y.item.dot::.int .u32 (y.set:Nat)::lkRow l:=rfl;rw[show 0+(j+1)*3+2=(0+j*3+2)+1+1+1 by omega,e];refine⟨h1,fun v=>?_⟩;have:=h2 v;rw[List.set_cons_succ,List.set_cons_succ,List.set_cons_succ,this];rfl
theorem lkRow_cells{F:Frz}:∀l:List Look,Cells tLook F (lkRow l) l
 | []=>.nil
 | x::l=>.cons (R:=tLook) (rfl:tLook.rel F (lkV x) x) (lkRow_cells l)
structure LT(vs:List Value)(bs:List (Nat×Blk))(L:List (List Look)):Prop where
 vlen:vs.length=L.length
 blen:bs.length=L.length
 at_:∀k l,L[k]?=some l→∃id,vs[0+k*1]?=some (.slice (some ⟨id,0,none⟩) l.length 3)∧bs[k]?=some (id,.cells false (lkRow l))
theorem LT.set{vs:List Value}{bs:List (Nat×Blk)}{L:List (List Look)}(h:LT vs bs L){k id:Nat}{l l':List Look}(hk:L[k]?=some l)(hl:l'.length=l.length)(hb:bs[k]?=some (id,.cells false (lkRow l))):LT vs (bs.set k (id,.cells false (lkRow l'))) (L.set k l'):=by
 have hlt:=(gS hk).1;refine⟨by rw[List.length_set];exact h.vlen,by rw[List.length_set,List.length_set];exact h.blen,fun j x hj=>?_⟩;by_cases e:j=k
 ·subst e;rw[List.getElem?_set_self hlt] at hj;obtain rfl:=Option.some.inj hj;obtain⟨id2,h1,h2⟩:=h.at_ _ _ hk;rw[hb] at h2;simp only[Option.some.injEq,Prod.mk.injEq] at h2;rw[←h2.1] at h1;exact⟨id,by rw[h1,hl],List.getElem?_set_self (by rw[h.blen];exact hlt)⟩
 ·rw[List.getElem?_set_ne (fun e2=>e e2.symm)] at hj;obtain⟨id2,h1,h2⟩:=h.at_ _ _ hj;exact⟨id2,h1,by rw[List.getElem?_set_ne (fun e2=>e e2.symm)];exact h2⟩
structure MgS where
 cur:List Look
 ch:Bool
theorem merge_spec(F:Frz){i5 io n:Nat}{vs:List Value}{bs:List (Nat×Blk)}{L:List (List Look)}(hL:LT vs bs L)(hnL:n=L.length){i:Nat}{row:List Look}(hi:L[i]?=some row)
  {b:Option Addr} {bn bd:Nat} {l:List Look} (hl:Arr tLook F b bn bd l) (hbn:bn≤1000) (hll:l.length≤row.length) (h1:∀x∈row,x.set<512) (h2:∀x∈l,x.set<512) :
  Abs.Spec CC 73 [.int .i64 i,.slice b bn bd,.pointer (some ⟨i5,0,none⟩)] F [(i5,.cells false [.slice (some ⟨io,0,none⟩) n 1])::(io,.cells false vs)::bs] fun _ v o=>∃B',o=[B']∧(∃bs',B'=(i5,.cells false [.slice (some ⟨io,0,none⟩) n 1])::(io,.cells false vs)::bs'∧LT vs bs' (L.set i (mergeL row l)))∧v=.bool (decide (mergeL row l≠row)):=by
 have hlt:=(gS hi).1;have hlen:=hl.len;obtain⟨id,hvs,hbs⟩:=hL.at_ i row hi;have hbl:=(gS hbs).1;have hset0:bs.set i (id,.cells false (lkRow row))=bs:=by
  apply List.ext_getElem?;intro k;by_cases e:k=i
  ·subst e;rw[List.getElem?_set_self hbl,hbs]
  ·rw[List.getElem?_set_ne (fun e2=>e e2.symm)]
 refine Abs.Spec.fn (n:=43) Tryz.func73 rfl rfl fun own=>?_;refine zC4 ?_;refine AW.range (S:=MgS) (fun s=>[(6,.bool s.ch)]) (fun s=>((i5,.cells false [.slice (some ⟨io,0,none⟩) n 1])::(io,.cells false vs)::bs.set i (id,.cells false (lkRow s.cur)))::own) (fun j s G=>s.cur=mergeL row (l.take j)∧s.ch=decide (s.cur≠row)) bn ⟨row,false⟩
  Z Z Z Z Z Z Z Z Z zo rfl rfl (fun _=>rfl) (fun _=>rfl) sM (OwnLe.flat (by dsimp only;rw[hset0];exact List.Perm.refl _)) ⟨by rw[List.take_zero,mergeL_nil],by simp⟩ ?_ ?_
 ·intro j s F1 hF1 hj hP;obtain⟨hcur,hch⟩:=hP;have hl1:=hl.mono hF1;obtain⟨r,hr⟩:∃r,row[j]?=some r:=⟨_,gE zo⟩;refine zC4 ?_;refine WT.idxL hT hl1 Z Z Z Z Z Z Z Z Z zo (fun x hxj b1 off1 ro1 cs1 lx1 hb1 hp1 hrel1=>?_);obtain rfl:lx1=_:=hrel1;obtain⟨hst,hgt⟩:=mergeL_step hr hxj;rw[←hcur] at hst hgt;obtain⟨hc1,hc2⟩:=lkRow_at hgt;have hcl:(lkRow s.cur).length=s.cur.length*3:=lkRow_len _;have hcl2:s.cur.length=row.length:=by rw[hcur];exact mergeL_len _ _
  have hrs:=h1 r (gM hr);have hxs:=h2 x (gM hxj);have hbs2:(bs.set i (id,Blk.cells false (lkRow s.cur)))[i]?=some (id,.cells false (lkRow s.cur)):=List.getElem?_set_self hbl;refine zC4 ?_;refine WT.allocT hT Z Z Z Z Z Z (fun i8 hi8=>?_);refine zC4 ?_;refine WT.idxA (j:=i) (s:=1) hT Z Z Z Z Z Z Z Z Z zo ?_;refine WT.loadAt hT 1 Z Z Z Z Z Z (List.mem_cons_of_mem _ me) Z Z hvs ?_;refine zC4 ?_;refine WT.idxA (j:=j) (s:=3) hT Z Z Z Z Z Z Z Z Z zo ?_;refine zC4 ?_;refine WT.loadAt hT 1 Z Z Z Z Z Z (gM (i:=i+2) hbs2) Z Z hc1 ?_;refine WT.andNot32 (x:=x.set) (y:=r.set) Z Z Z Z Z Z zo zo ?_
  refine zC4 ?_;refine AW.cond Z (fun hc=>?_) (fun hc=>?_)
  ·have hc:andNot x.set r.set≠0:=by simpa using hc
   have hgt2:=or_gt hc zo zo;refine zC4 ?_;refine WT.idxA (j:=i) (s:=1) hT Z Z Z Z Z Z Z Z Z zo ?_;refine WT.loadAt hT 1 Z Z Z Z Z Z (List.mem_cons_of_mem _ me) Z Z hvs ?_;refine zC4 ?_;refine WT.idxA (j:=j) (s:=3) hT Z Z Z Z Z Z Z Z Z zo ?_;refine zC4 ?_;refine WT.loadAt hT 1 Z Z Z Z Z Z (gM (i:=i+2) hbs2) Z Z hc1 ?_;refine zC4 ?_;refine WT.or32 (x:=r.set) (y:=x.set) Z Z Z Z Z Z zo zo ?_;refine WT.idxA (j:=j) (s:=3) hT Z Z Z Z Z Z Z Z Z zo ?_;refine zC4 ?_;refine WT.storeAt hT 1 (i+2) Z Z Z Z Z Z hbs2 Z Z Z zo Z Z ?_;refine zC4 ?_
   refine⟨⟨mergeL row (l.take (j+1)),true⟩,sM,OwnLe.skip _ (OwnLe.flat ?_),rfl,?_⟩
   ·dsimp only;rw[hst,←hc2 (r.set ||| x.set)]
    show (((i5,Blk.cells false _)::(io,Blk.cells false _)::(bs.set i _).set i _)++_).Perm _;rw[List.set_set];exact List.Perm.refl _
   ·refine(decide_eq_true ?_).symm;dsimp only;rw[hst];intro e;have e2:(s.cur.set j ⟨r.item,r.set ||| x.set⟩)[j]?=row[j]?:=by rw[e]
    rw[List.getElem?_set_self zo,hr] at e2;have e3:=congrArg Look.set (Option.some.inj e2);dsimp only at e3;omega
  ·have hc:andNot x.set r.set=0:=by simpa using hc
   have hsame:mergeL row (l.take (j+1))=s.cur:=by
    have e:r.set ||| x.set=r.set:=by
     apply Nat.eq_of_testBit_eq;intro k;rw[Nat.testBit_or];cases hx:x.set.testBit k with
     | false=>rw[Bool.or_false]
     | true=>rw[(andNot_zero zo zo).1 hc k hx];rfl
    rw[hst,e];apply List.ext_getElem?;intro k;by_cases e2:k=j
    ·subst e2;rw[List.getElem?_set_self zo,hgt]
    ·rw[List.getElem?_set_ne (fun e3=>e2 e3.symm)]
   refine zC4 ?_;exact⟨s,sM,zow,hsame.symm,hch⟩
 ·intro s F1 hF1 hP;obtain⟨hcur,hch⟩:=hP;rw[List.take_of_length_le zo] at hcur;refine zC4 ?_;refine AW.ret ⟨_,[_],⟨_,_,rfl,rfl,rfl⟩,List.Sublist.refl _,_,rfl,⟨_,rfl,?_⟩,?_⟩
  ·rw[hcur];exact hL.set hi (mergeL_len _ _) hbs
  ·rw[hch,hcur];rfl
theorem lookS_const(g:Gram)(I:List (List Lr))(P:Lr→Nat→Prop):lookS g I (fun _=>P)=I.map fun st=>st.map fun x=>⟨x,maskOf (P x) (g.terms+1)⟩:=by
 apply List.ext_getElem?;intro i;rw[lookS_at,List.getElem?_map]
theorem mask_add{P:Nat→Prop}{n:Nat}(h:P n):maskOf P (n+1)=maskOf P n+2 ^ n:=by
 show _+(if _ then 2 ^ n else 0)=_;rw[if_pos (@decide_eq_true _ (Classical.propDecidable _) h)]
theorem mask_no{P:Nat→Prop}{n:Nat}(h:¬P n):maskOf P (n+1)=maskOf P n:=by
 show _+(if _ then 2 ^ n else 0)=_;rw[if_neg (fun h2=>h (@of_decide_eq_true _ (Classical.propDecidable _) h2)),Nat.add_zero]
theorem mask_end(n:Nat):maskOf (fun t=>t=n) (n+1)=2 ^ n:=by
 rw[mask_add (P:=fun t=>t=n) (n:=n) rfl];have:∀k≤n,maskOf (fun t=>t=n) k=0:=by
  intro k
  induction k with
  | zero=>intro _;rfl
  | succ k ih=>
   intro hk;rw[mask_no (P:=fun t=>t=n) (n:=k) zo];exact ih zo
 rw[this n (Nat.le_refl _),Nat.zero_add]
theorem mask_congr{P Q:Nat→Prop}{n:Nat}(h:∀t,P t↔Q t):maskOf P n=maskOf Q n:=by
 have:P=Q:=funext fun t=>propext (h t);rw[this]
structure SlS where
 a:Option Addr
 m:Nat
 c:Nat
 B:List (Nat×Blk)
theorem slr_spec(F:Frz)(g:Gram)(hg:Valid g){im is:Nat}{a:Option Addr}{m c:Nat}{E:List Bool}{Fi:List (List Bool)}{eb ee:Ents Lr}(hM:MakerF F im g a m c E Fi is eb ee)
  {I:List (List Lr)} {a1 a2:Option Addr} {n1 c1 n2 c2:Nat} (hI:Arr (tList tLr) F a1 n1 c1 I) (hn1:n1≤1000) (hok:∀st∈I,st.length≤1000∧∀x∈st,OkLr g x) :
  Abs.Spec CC 45 [.pointer (some ⟨im,0,none⟩),.agg ⟨[.slice a1 n1 c1,.slice a2 n2 c2]⟩] F [] fun F' v o=>o=[]∧∃a' n' c',v=.slice a' n' c'∧Arr (tList tLook) F' a' n' c' (lookS g I fun _=>FolA g):=by
 rw[lookS_const];generalize hf:(fun x:Lr=>(⟨x,maskOf (FolA g x) (g.terms+1)⟩:Look))=f;have hgr:=hg.range.rules;have hgt:=hg.range.terms;have hgn:=hg.range.nons;have hp:=pow_small hg.range.terms.2;have hr:=hM.sets.rules;have hrl:=hr.len;have hIl:=hI.len;obtain⟨ib,ie,ro,h1,h2,h3⟩:=hM.blk;refine Abs.Spec.fn (n:=89) Tryz.func45 rfl rfl fun own=>?_;refine AW.seq (AW.reg ?_);refine WT.boxT Z Z Z Z Z Z (fun i3 hi3=>?_);refine zC4 ?_;refine WT.callF0 Tryz.func34 Z Z Z Z Z Z (follow_spec F g hg hM.sets hM.fset) (fun F0 v hF0 hv=>?_);obtain⟨a5,n5,c5,Fo,rfl,hFo,hFF⟩:=hv;have h10:=hF0 _ _ h1
 have hr0:=hr.mono hF0;have hI0:=hI.mono hF0;have hFol:=hFo.len;have hFs:=hFF.tab.size;refine zC4 ?_;refine AW.range (S:=SlS) (fun s=>[(6,.slice s.a s.m s.c)]) (fun s=>s.B::[(i3,.cells false [.slice a1 n1 c1,.slice a2 n2 c2])]::own) (fun j s G=>Bld (tList tLook) G s.a s.m s.c s.B ((I.take j).map fun st=>st.map f)) n1 ⟨none,0,0,[]⟩
  Z Z Z Z Z Z Z Z Z zo rfl rfl (fun _=>rfl) (fun _=>rfl) sM (OwnLe.flat (List.Perm.refl _)) (Bld.nil_ _ _) ?_ ?_
 ·intro j s F1 hF1 hj hb;have hI1:=hI0.mono hF1;have hbl:=hb.len;rw[List.length_map,List.length_take] at hbl;refine zC4 ?_;refine WT.idxL hT hI1 Z Z Z Z Z Z Z Z Z zo (fun st hsj b1 off1 ro1 cs1 lx1 hb1 hp1 hrel1=>?_);obtain⟨sa,sn,sc,rfl,hst⟩:=hrel1;have hsl:=hst.len;obtain⟨hs1,hs2⟩:=hok st (gM hsj);have htk:I.take (j+1)=I.take j++[st]:=by rw[List.take_add_one,hsj];rfl
  refine zC4 ?_;refine AW.range (S:=SlS) (fun s=>[(9,.slice s.a s.m s.c)]) (fun u=>u.B::s.B::[(i3,.cells false [.slice a1 n1 c1,.slice a2 n2 c2])]::own) (fun k u G=>Bld tLook G u.a u.m u.c u.B ((st.take k).map f)) sn ⟨none,0,0,[]⟩
   Z Z Z Z Z Z Z Z Z zo rfl rfl (fun _=>rfl) (fun _=>rfl) sM (OwnLe.flat (List.Perm.refl _)) (Bld.nil_ _ _) ?_ ?_
  ·intro k u F2 hF2 hk hub;have hst2:=hst.mono hF2;have h12:=hF2 _ _ (hF1 _ _ h10);have hr2:=(hr0.mono hF1).mono hF2;have hFo2:=(hFo.mono hF1).mono hF2;have hubl:=hub.len;rw[List.length_map,List.length_take] at hubl;refine zC4 ?_;refine WT.idxL hT hst2 Z Z Z Z Z Z Z Z Z zo (fun x hxk b5 off5 ro5 cs5 lx5 hb5 hp5 hrel5=>?_);obtain rfl:lx5=_:=hrel5;obtain⟨hx1,hx2⟩:=hs2 x (gM hxk);have htk2:st.take (k+1)=st.take k++[x]:=by rw[List.take_add_one,hxk];rfl
   have hp2:2 ^ g.terms≤256:=Nat.le_trans (Nat.pow_le_pow_right (by decide) hgt.2) (by decide);refine zC4 ?_;refine WT.allocT hT Z Z Z Z Z Z (fun i11 hi11=>?_);refine zC4 ?_;refine AW.draw (ps:=[(0,8),(5,8),(6,8)]) Z Z ?_;refine zC4 ?_;refine WT.shl32 (x:=1) (y:=g.terms) Z Z Z Z Z Z zo zo ?_;refine zC4 ?_;refine WT.allocT hT Z Z Z Z Z Z (fun i12 hi12=>?_);refine zC4 ?_;refine⟨zrC,?_⟩;refine zC4 ?_;refine AW.cond Z (fun h=>?_) (fun h=>?_)
   ·have h:x.rule<g.rules.length:=by simp at h;omega
    have hrx:=gE h;obtain⟨r,hrx⟩:∃r,g.rules[x.rule]?=some r:=⟨_,hrx⟩;have hrl2:=(hg.right r (gM hrx)).1;have hfx:f x=⟨x,maskOf (Fol g r.left) (g.terms+1)⟩:=by
     rw[←hf];dsimp only;congr 1;refine mask_congr fun t=>?_;unfold FolA;rw[if_pos h,leftL_at hrx]
    refine zC4 ?_;refine WT.idxL hT hr2 Z Z Z Z Z Z Z Z Z zo (fun r2 hr2x b6 off6 ro6 cs6 lx6 hb6 hp6 hrel6=>?_);rw[hrx] at hr2x;obtain rfl:=Option.some.inj hr2x;obtain⟨ra,rn,rc,rfl,hra⟩:=hrel6;refine zC4 ?_;refine WT.idxL hT hFo2 Z Z Z Z Z Z Z Z Z zo (fun row hrow b7 off7 ro7 cs7 lx7 hb7 hp7 hrel7=>?_);obtain⟨wa,wn,wc,rfl,hwa⟩:=hrel7;have hrowl:=hFF.tab.row row (gM hrow);have hwl:=hwa.len;have hrowb:∀t,row.getD t false=true↔Fol g r.left t:=fun t=>by
     rw[←hFF.at_ r.left t,List.getD_eq_getElem?_getD (l:=Fo),hrow];rfl
    refine zC4 ?_;refine AW.range (S:=Nat) (fun _=>[]) (fun S=>[(i12,.cells false [.int .i64 x.rule,.int .i64 x.dot,.int .u32 S])]::[(i11,.cells false [.int .i64 x.rule,.int .i64 x.dot])]::u.B::s.B::[(i3,.cells false [.slice a1 n1 c1,.slice a2 n2 c2])]::own) (fun t S G=>S=maskOf (Fol g r.left) t) wn 0
     Z Z Z Z Z Z Z Z Z zo rfl rfl (fun _=>rfl) (fun _=>rfl) sM oR rfl ?_ ?_
    ·intro t S F3 hF3 ht hS;have hwa3:=hwa.mono hF3;have hlt:=maskOf_lt (Fol g r.left) t;rw[←hS] at hlt;have hpt:2 ^ t≤256:=Nat.le_trans (Nat.pow_le_pow_right (by decide) (show t≤8 by omega)) (by decide);refine zC4 ?_;refine WT.idxL hT hwa3 Z Z Z Z Z Z Z Z Z zo (fun ok hok b8 off8 ro8 cs8 lx8 hb8 hp8 hrel8=>?_);obtain rfl:lx8=_:=hrel8;have hbit:ok=true↔Fol g r.left t:=by
      rw[←hrowb t,List.getD_eq_getElem?_getD,hok];rfl
     refine zC4 ?_;refine AW.cond Z (fun h=>?_) (fun h=>?_)
     ·have hnew:=mask_add (P:=Fol g r.left) (n:=t) (hbit.1 h);refine zC4 ?_;refine WT.shl32 (x:=1) (y:=t) Z Z Z Z Z Z zo zo ?_;refine WT.or32 (x:=S) (y:=1*2 ^ t) Z Z Z Z Z Z zo zo ?_;refine zC4 ?_;refine⟨S ||| 1*2 ^ t,sM,zow,?_⟩
      show S ||| 1*2 ^ t=maskOf (Fol g r.left) (t+1)
      rw[or_two_pow hlt,hnew,hS]
     ·have hnew:=mask_no (P:=Fol g r.left) (n:=t) (fun h2=>by rw[hbit.2 h2] at h;cases h);refine zC4 ?_;exact⟨S,sM,zow,by show S=maskOf (Fol g r.left) (t+1);rw[hnew];exact hS⟩
    ·intro S F3 hF3 hS;have hub3:=hub.mono hF3;rw[show wn=g.terms+1 by omega] at hS;have hxS:f x=⟨x,S⟩:=by rw[hfx,hS]
     refine zC4 ?_;refine WT.buildT hT Z Z Z Z Z Z Z Z Z Z Z Z Z Z (fun i33 hi33=>?_);refine WT.appendT (R:=tLook) (ys:=[⟨x,S⟩]) hT 3 hub3 Z (fun _=>rfl) Z Z Z Z Z Z Z Z Z Z Z (fun h0 s0=>news_own hT s0 0 Z Z Z Z) (Cells.single (R:=tLook) (x:=⟨x,S⟩) rfl) Z (by decide) zom (fun a3 c3 B3 hB3=>?_);refine zC4 ?_;refine⟨⟨a3,u.m+1,c3,B3⟩,sM,zow,?_⟩;dsimp only;rw[htk2,List.map_append,List.map_cons,List.map_nil,hxS];exact hB3
   ·have h:x.rule=g.rules.length:=by simp at h;omega
    have hfx:f x=⟨x,1*2 ^ g.terms⟩:=by
     rw[←hf];dsimp only;congr 1;rw[Nat.one_mul,←mask_end];refine mask_congr fun t=>?_;unfold FolA;rw[if_neg zo]
    refine zC4 ?_;refine WT.buildT hT Z Z Z Z Z Z Z Z Z Z Z Z Z Z (fun i33 hi33=>?_);refine WT.appendT (R:=tLook) (ys:=[⟨x,1*2 ^ g.terms⟩]) hT 3 hub Z (fun _=>rfl) Z Z Z Z Z Z Z Z Z Z Z (fun h0 s0=>news_own hT s0 0 Z Z Z Z) (Cells.single (R:=tLook) (x:=⟨x,1*2 ^ g.terms⟩) rfl) Z (by decide) zom (fun a3 c3 B3 hB3=>?_);refine zC4 ?_;refine⟨⟨a3,u.m+1,c3,B3⟩,sM,zow,?_⟩;dsimp only;rw[htk2,List.map_append,List.map_cons,List.map_nil,hfx];exact hB3
  ·intro u F2 hF2 hub;rw[List.take_of_length_le zo] at hub;have hb2:=hb.mono hF2;refine AW.freezeAll 0 Z Z (fun F3 hF3 hB3=>?_);have hrow:=hub.frozen hF3 hB3;have hb3:=hb2.mono hF3;refine zC4 ?_;refine WT.buildT hT Z Z Z Z Z Z Z Z Z Z Z Z Z Z (fun i89 hi89=>?_);refine WT.appendT (R:=tList tLook) (ys:=[st.map f]) hT 2 hb3 Z (fun _=>rfl) Z Z Z Z Z Z Z Z Z Z Z (fun h0 s0=>news_own hT s0 0 Z Z Z Z) (Cells.single (R:=tList tLook) (x:=st.map f) ⟨_,_,_,rfl,hrow⟩) Z (by decide) zom (fun a3 c3 B3 hB3'=>?_);refine zC4 ?_;refine⟨⟨a3,s.m+1,c3,B3⟩,sM,zow,?_⟩;dsimp only;rw[htk,List.map_append];exact hB3'
 ·intro s F1 hF1 hb;rw[List.take_of_length_le zo] at hb;refine AW.freezeAll 0 Z Z (fun F2 hF2 hB2=>?_);refine zC4 ?_;exact AW.ret ⟨_,[],⟨_,_,rfl,rfl,rfl⟩,zsb,rfl,_,_,_,rfl,hb.frozen hF2 hB2⟩
theorem afterO_spec(F:Frz)(g:Gram)(hg:Valid g){im is:Nat}{a:Option Addr}{m c:Nat}{E:List Bool}{Fi:List (List Bool)}{eb ee:Ents Lr}(hM:MakerF F im g a m c E Fi is eb ee)
  {id n:Nat} {st:List Look} {B:List (Nat×Blk)} (hmem:(id,Blk.cells false (lkRow st))∈B) (hsl:n=st.length) (hn:n≤1000) (hok:∀x∈st,OkLr g x.item∧x.set<2 ^ (g.terms+1)) (y:Sym) :
  Abs.Spec CC 43 [.pointer (some ⟨im,0,none⟩),.slice (some ⟨id,0,none⟩) n 3,.agg ⟨[.bool y.term,.int .i64 y.n]⟩] F [B] fun F' v o=>∃B',o=[B']∧B'=B∧∃a' n' c' z s,v=.tuple ⟨[.slice a' n' c',.bool z]⟩∧Arr tLook F' a' n' c' s∧nextK g st y=if z=true then some s else none:=by
 have hgr:=hg.range.rules;have hr:=hM.sets.rules;have hrl:=hr.len;have hgb:∀G,GB tLook G (some ⟨id,0,none⟩) n 3 [(id,.cells false (lkRow st))] st:=fun G=>⟨hsl,.inr ⟨id,lkRow st,[],rfl,rfl,by rw[List.append_nil],lkRow_cells st,by decide⟩⟩;have hg4:∀r∈g.rules,r.right.length≤100:=fun r h=>by have:=(hg.right r h).2.1;omega
 obtain⟨ib,ie,ro,h1,h2,h3⟩:=hM.blk;obtain⟨yt,yn⟩:=y;refine Abs.Spec.fn (n:=56) Tryz.func43 rfl rfl fun own=>?_;refine AW.seq (AW.reg ?_);refine WT.boxT Z Z Z Z Z Z (fun i4 hi4=>?_);refine zC4 ?_;refine AW.range (S:=AfS) (fun s=>[(8,.slice s.a s.m s.c)]) (fun s=>s.B::[(i4,.cells false [.bool yt,.int .i64 yn])]::B::own) (fun j s G=>Bld tLook G s.a s.m s.c s.B s.l∧s.l=kernK g (st.take j) ⟨yt,yn⟩∧s.m≤j) n ⟨none,0,0,[],[]⟩
  Z Z Z Z Z Z Z Z Z zo rfl rfl (fun _=>rfl) (fun _=>rfl) sM (OwnLe.flat (List.Perm.refl _)) ⟨Bld.nil_ _ _,rfl,Nat.le_refl _⟩ ?_ ?_
 ·intro j s F1 hF1 hj hP;obtain⟨hb,hsk,hsm⟩:=hP;have hr1:=hr.mono hF1;have h11:=hF1 _ _ h1;refine zC4 ?_;obtain⟨x,hxj⟩:∃x,st[j]?=some x:=⟨_,gE zo⟩;refine WT.gidx hT (hgb F1) Z Z Z Z Z Z Z Z Z zo (fun b1 hb1=>?_);refine WT.gldS (x:=x) hT 2 (hgb F1) hb1 hxj Z Z Z Z Z Z (fun z hz=>by rw[List.mem_singleton.1 hz];exact hmem) Z Z Z (fun lx hrel=>?_);obtain rfl:lx=_:=hrel;have hxo:=(hok x (gM hxj)).1;have hkt:=kernK_take (g:=g) (y:=⟨yt,yn⟩) hxj;exact shE2
 ·intro s F1 hF1 hP;obtain⟨hb,hsk,hsm⟩:=hP;rw[List.take_of_length_le zo] at hsk;have hbl:=hb.len;have hM1:=hM.mono hF1;refine AW.freezeAll 0 Z Z (fun F2 hF2 hB2=>?_);have hx:=hb.frozen hF2 hB2;have hM2:=hM1.mono hF2;have hkok:=kernK_ok (g:=g) (y:=⟨yt,yn⟩) (fun x hx=>(hok x hx).2);rw[←hsk] at hkok;refine zC4 ?_;refine AW.cond Z (fun h=>?_) (fun h=>?_)
  ·have h:s.m=0:=by simp at h;omega
   refine zC4 ?_;refine AW.ret ⟨_,[B],⟨_,_,rfl,⟨_,_,rfl,rfl,rfl⟩,rfl⟩,zsb,B,rfl,rfl,none,0,0,false,[],rfl,Arr.nil_ _ _,?_⟩;unfold nextK;rw[if_pos (by rw[←hsk];exact List.length_eq_zero_iff.1 zo)];rfl
  ·have h:0<s.m:=by simp at h;omega
   refine zC4 ?_;refine WT.callF0 Tryz.func66 Z Z Z Z Z Z (closeK_spec F2 g hg hM2 hx zo hkok) (fun F3 v hF3 hv=>?_);obtain⟨a8,m8,c8,rfl,hz⟩:=hv;refine zC4 ?_;refine AW.ret ⟨_,[B],⟨_,_,rfl,⟨_,_,rfl,rfl,rfl⟩,rfl⟩,zsb,B,rfl,rfl,a8,m8,c8,true,_,rfl,hz,?_⟩;unfold nextK;rw[if_neg (by rw[←hsk];intro e;rw[e] at hbl;simp at hbl;omega),hsk];rfl
section
variable {g:Gram}{I:List (List Lr)}{rows:List (List Int)}{L:List (List Look)}{W:List Nat}
structure JI(g:Gram)(I:List (List Lr))(rows:List (List Int))(i k:Nat)(L:List (List Look))(W:List Nat):Prop where
 la:LaI g I rows L
 st:Started g L
 wok:∀s∈W,s<I.length∧¬ZeroA L s
 oth:∀s,s≠i→s∈W∨ZeroA L s∨∀y,CloA g rows L s y
 cur:i∈W∨∀k'<k,∀y,(symsL g)[k']?=some y→CloA g rows L i y
 ne:¬ZeroA L i
structure KI(g:Gram)(I:List (List Lr))(rows:List (List Int))(L:List (List Look))(W:List Nat):Prop where
 la:LaI g I rows L
 st:Started g L
 wok:∀s∈W,s<I.length∧¬ZeroA L s
 all:∀s,s∈W∨ZeroA L s∨∀y,CloA g rows L s y
theorem KI.pop{i:Nat}(h:KI g I rows L (W++[i])):JI g I rows i 0 L W where
 la:=h.la
 st:=h.st
 wok:=fun s hs=>h.wok s (List.mem_append_left _ hs)
 oth:=fun s hs=>(h.all s).imp (fun h1=>(List.mem_append.1 h1).resolve_right fun h2=>hs (List.mem_singleton.1 h2)) id
 cur:=.inr fun k hk=>absurd hk (Nat.not_lt_zero _)
 ne:=(h.wok i (List.mem_append_right _ (List.mem_singleton_self _))).2
theorem JI.skip{i k:Nat}{y:Sym}(h:JI g I rows i k L W)(hy:(symsL g)[k]?=some y)(hgo:goR g rows i y=none):JI g I rows i (k+1) L W:=
 ⟨h.la,h.st,h.wok,h.oth,h.cur.imp id fun hc k' hk' y' hy'=>by
   rcases Nat.lt_or_ge k' k with h1 | h1
   ·exact hc k' h1 y' hy'
   ·obtain rfl:k'=k:=by omega
    rw[hy] at hy';obtain rfl:=Option.some.inj hy';intro s' st hg2;exact absurd hg2 (by rw[hgo];simp),h.ne⟩
theorem JI.fin{i k:Nat}(h:JI g I rows i k L W)(hk:(symsL g).length≤k):KI g I rows L W where
 la:=h.la
 st:=h.st
 wok:=h.wok
 all:=fun s=>by
  by_cases e:s=i
  ·subst e;refine h.cur.imp id fun hc=>.inr fun y=>?_;by_cases hy:symB g y=true
   ·have hat:=symsL_at (symB_iff.1 hy);exact hc _ (Nat.lt_of_lt_of_le (gS hat).1 hk) y hat
   ·intro s' st hg2;unfold goR at hg2;rw[if_neg hy] at hg2;cases hg2
  ·exact h.oth s e
theorem no_bits{m:Nat}(h:∀t,¬m.testBit t=true):m=0:=by
 apply Nat.eq_of_testBit_eq;intro t;rw[Nat.zero_testBit];cases hm:m.testBit t with
 | false=>rfl
 | true=>exact absurd hm (h t)
theorem mergeL_zero:∀{row l:List Look},(∀x t,¬bitsL (mergeL row l) x t)→mergeL row l=row
 | [],l,_=>by cases l<;>rfl
 | r::rs,[],_=>rfl
 | r::rs,y::ys,h=>by
  have h1:r.set ||| y.set=0:=no_bits fun t ht=>h r.item t ⟨_,List.mem_cons_self ..,ht⟩
  have h2:r.set≤r.set ||| y.set:=Nat.left_le_or
  have h3:r.set=0:=by omega
  have ih:=mergeL_zero (row:=rs) (l:=ys) fun x t ⟨m,h4,h5⟩=>h x t ⟨m,List.mem_cons_of_mem _ h4,h5⟩;show (⟨r.item,r.set ||| y.set⟩::mergeL rs ys:List Look)=r::rs
  rw[ih,h1,←h3]
theorem set_same{L:List (List Look)}{k:Nat}{row:List Look}(h:L[k]?=some row):L.set k row=L:=by
 apply List.ext_getElem?;intro i;by_cases e:i=k
 ·subst e;rw[List.getElem?_set_self (gS h).1,h]
 ·rw[List.getElem?_set_ne (fun e2=>e e2.symm)]
theorem JI.step(hg:Valid g)(hau:autoI g=some (I,rows)){i k s':Nat}{y:Sym}{st row:List Look}(h:JI g I rows i k L W)(hy:(symsL g)[k]?=some y)(hgo:goR g rows i y=some s')(hs:L[i]?=some st)(hk:L[s']?=some row){W':List Nat}
  (hW:W'=if mergeL row (closeK g (kernK g st y))≠row then W++[s'] else W):itemsK row=itemsK (closeK g (kernK g st y))∧JI g I rows i (k+1) (L.set s' (mergeL row (closeK g (kernK g st y)))) W':=by
 obtain⟨hi,hla⟩:=h.la.goto hg hau hgo hs hk h.ne;refine⟨hi,?_⟩;have hok:∀x∈itemsK (kernK g st y),OkLr g x:=fun x hx=>by rw[kernK_items] at hx;exact(kern_ok x hx).1
 have hbits:∀z t,LAc g (kernK g st y) z t→bitsL (closeK g (kernK g st y)) z t:=fun z t=>(closeK_bits hg hok).2;generalize closeK g (kernK g st y)=l at hi hla hW hbits ⊢;have hmono:∀{s x t},laK L s x t→laK (L.set s' (mergeL row l)) s x t:=fun {s x t} h1=>(laK_set hk hi).2 (.inl h1);have hnz:∀{s},¬ZeroA L s→¬ZeroA (L.set s' (mergeL row l)) s:=fun {s} h1 h2=>h1 fun x t h3=>h2 x t (hmono h3);have hst:Started g (L.set s' (mergeL row l)):=fun z t hz=>hmono (h.st z t hz);have hclo:∀{s y'},s≠s'→CloA g rows L s y'→CloA g rows (L.set s' (mergeL row l)) s y':=fun {s y'} hne hc s2 st2 h1 h2 z t hz=>by
  rw[List.getElem?_set_ne (fun e=>hne e.symm)] at h2;exact hmono (hc s2 st2 h1 h2 z t hz)
 have hzero:∀{s},s≠s'→ZeroA L s→ZeroA (L.set s' (mergeL row l)) s:=fun {s} hne hz x t h1=>hz x t (((laK_set hk hi).1 h1).resolve_right fun h2=>hne h2.1);have hnew:CloA g rows (L.set s' (mergeL row l)) i y∨i=s':=by
  by_cases e:i=s'
  ·exact .inr e
  ·left;intro s2 st2 h1 h2 z t hz;rw[List.getElem?_set_ne (fun e2=>e e2.symm),hs] at h2;obtain rfl:=Option.some.inj h2;rw[hgo] at h1;obtain rfl:=Option.some.inj h1;exact(laK_set hk hi).2 (.inr ⟨rfl,hbits z t hz⟩)
 by_cases hch:mergeL row l=row
 ·rw[if_neg (fun h1=>h1 hch)] at hW;subst hW;have hL:L.set s' (mergeL row l)=L:=by rw[hch,set_same hk]
  rw[hL];refine⟨h.la,h.st,h.wok,h.oth,h.cur.imp id fun hc k' hk' y' hy'=>?_,h.ne⟩;rcases Nat.lt_or_ge k' k with h1 | h1
  ·exact hc k' h1 y' hy'
  ·obtain rfl:k'=k:=by omega
   rw[hy] at hy';obtain rfl:=Option.some.inj hy';intro s2 st2 h1 h2 z t hz;rw[hs] at h2;obtain rfl:=Option.some.inj h2;rw[hgo] at h1;obtain rfl:=Option.some.inj h1;have:=(laK_set hk hi (s:=s') (x:=z) (t:=t)).2 (.inr ⟨rfl,hbits z t hz⟩);rw[hL] at this;exact this
 ·rw[if_pos hch] at hW;subst hW;have hs'I:s'<I.length:=by
   rw[←h.la.items,List.length_map];exact(gS hk).1
  have hs'z:¬ZeroA (L.set s' (mergeL row l)) s':=fun hz=>hch (mergeL_zero fun x t hb=>hz x t (laK_iff.2 ⟨_,List.getElem?_set_self (gS hk).1,hb⟩));refine⟨hla,hst,fun s hsm=>?_,fun s hne=>?_,?_,hnz h.ne⟩
  ·rcases List.mem_append.1 hsm with h1 | h1
   ·exact⟨(h.wok s h1).1,hnz (h.wok s h1).2⟩
   ·rw[List.mem_singleton.1 h1];exact⟨hs'I,hs'z⟩
  ·by_cases e:s=s'
   ·exact .inl (by rw[e];exact List.mem_append_right _ (List.mem_singleton_self _))
   ·exact(h.oth s hne).imp (List.mem_append_left _) fun h1=>h1.imp (hzero e) fun h2 y=>hclo e (h2 y)
  ·by_cases e:i=s'
   ·exact .inl (by rw[e];exact List.mem_append_right _ (List.mem_singleton_self _))
   ·refine h.cur.imp (List.mem_append_left _) fun hc k' hk' y' hy'=>?_;rcases Nat.lt_or_ge k' k with h1 | h1
    ·exact hclo e (hc k' h1 y' hy')
    ·obtain rfl:k'=k:=by omega
     rw[hy] at hy';obtain rfl:=Option.some.inj hy';exact hnew.resolve_right e
theorem KI.done(hg:Valid g)(hau:autoI g=some (I,rows))(h:KI g I rows L []):L=lookS g I (LalA g I rows):=
 h.la.done hg hau h.st fun s=>(h.all s).resolve_left fun h1=>by cases h1
theorem KI.begin(hg:Valid g)(hau:autoI g=some (I,rows))(h:LaI g I rows L)(hz:∀s,ZeroA L s){row:List Look}(hk:L[0]?=some row):itemsK row=itemsK (firstK g)∧KI g I rows (L.set 0 (mergeL row (firstK g))) [0]:=by
 obtain⟨hi,h1,h2,h3⟩:=h.start hg hau hk;refine⟨hi,h1,h2,fun s hs=>?_,fun s=>?_⟩
 ·rw[List.mem_singleton.1 hs];refine⟨?_,fun hz=>hz _ _ h3⟩;rw[←h.items,List.length_map];exact(gS hk).1
 ·by_cases e:s=0
  ·exact .inl (by rw[e];exact List.mem_singleton_self _)
  ·exact .inr (.inl fun x t hx=>((laK_set hk hi).1 hx).elim (hz s x t) fun h4=>e h4.1)
theorem roomL_le(l:List Look):roomL l≤l.length*512:=by
 unfold roomL
 induction l with
 | nil=>simp
 | cons x l ih=>simp only[List.map_cons,List.sum_cons,List.length_cons];omega
theorem roomT_le{B:Nat}:∀{L:List (List Look)},(∀l∈L,l.length≤B)→roomT L≤L.length*(B*512)
 | [],_=>by simp[roomT]
 | l::L,h=>by
  have ih:=roomT_le (L:=L) fun x hx=>h x (List.mem_cons_of_mem _ hx);have h1:=roomL_le l;have h2:=h l me;have h3:l.length*512≤B*512:=Nat.mul_le_mul_right _ h2;unfold roomT at ih ⊢;simp only[List.map_cons,List.sum_cons,List.length_cons,Nat.add_mul,Nat.one_mul];omega
end
theorem cells_look{F:Frz}{cs:List Value}{xs:List Look}(h:Cells tLook F cs xs):cs=lkRow xs:=by
 induction h with
 | nil=>rfl
 | @cons l cs x xs h1 h2 ih=>
  obtain rfl:l=lkV x:=h1;rw[ih];rfl
structure P1S where
 vs:List Value
 bs:List (Nat×Blk)
structure P2S where
 vs:List Value
 a:Option Addr
 m:Nat
 c:Nat
 B:List (Nat×Blk)
structure LwS where
 L:List (List Look)
 bs:List (Nat×Blk)
 W:List Nat
 a:Option Addr
 m:Nat
 c:Nat
 B:List (Nat×Blk)
def zLk(x:Lr):Look:=⟨x,0⟩
def iNat(s:Nat):Int:=(s:Int)
theorem goR_at{g:Gram}{rows:List (List Int)}{s k:Nat}{y:Sym}{row:List Int}{j:Int}(hy:(symsL g)[k]?=some y)(hr:rows[s]?=some row)(hj:row[k]?=some j):goR g rows s y=if 0≤j then some j.toNat else none:=by
 obtain⟨h1,h2⟩:=symsL_ok hy;unfold goR;rw[if_pos (symB_iff.2 h1),hr,h2];dsimp only;rw[hj]
theorem LT.arr{F:Frz}{vs:List Value}{bs:List (Nat×Blk)}{L:List (List Look)}(h:LT vs bs L){n io:Nat}{ro:Bool}(hn:n=L.length)(hp:0<n)(hio:F io=some (.cells ro vs))(hb:∀i b,(i,b)∈bs→F i=some b):Arr (tList tLook) F (some ⟨io,0,none⟩) n 1 L:=by
 refine⟨hn,.inr rfl,fun h=>zo,fun h=>(by cases h),fun p hp=>(by cases hp;rfl),fun j x hj=>?_⟩;obtain⟨id,h1,h2⟩:=h.at_ j x hj;have hg:GB tLook F (some ⟨id,0,none⟩) x.length 3 [(id,.cells false (lkRow x))] x:=⟨rfl,.inr ⟨id,lkRow x,[],rfl,rfl,by rw[List.append_nil],lkRow_cells x,by decide⟩⟩
 have ha:=hg.arr (Frz.le.refl F) (fun i b hm=>by
  have e:=List.mem_singleton.1 hm;simp only[Prod.mk.injEq] at e;rw[e.1,e.2];exact hb _ _ (gM h2))
 have hv:=(gS h1);refine⟨io,0,ro,vs,[.slice (some ⟨id,0,none⟩) x.length 3],rfl,hio,?_,_,_,_,rfl,ha⟩;refine partL_of ?_ rfl;show _=(vs.drop (0+j*1)).take 1;rw[List.drop_eq_getElem_cons hv.1,List.take_succ_cons,List.take_zero,hv.2]
theorem lalr_spec(F:Frz)(g:Gram)(hg:Valid g){im is:Nat}{a:Option Addr}{m c:Nat}{E:List Bool}{Fi:List (List Bool)}{eb ee:Ents Lr}(hM:MakerF F im g a m c E Fi is eb ee)
  {I:List (List Lr)} {rows:List (List Int)} (hau:autoI g=some (I,rows)) {a1 a2:Option Addr} {n1 c1 n2 c2:Nat} (hI:Arr (tList tLr) F a1 n1 c1 I) (hRw:Arr (tList tInt) F a2 n2 c2 rows) :
  Abs.Spec CC 46 [.pointer (some ⟨im,0,none⟩),.agg ⟨[.slice a1 n1 c1,.slice a2 n2 c2]⟩] F [] fun F' v o=>o=[]∧∃a' n' c',v=.slice a' n' c'∧Arr (tList tLook) F' a' n' c' (lookS g I (LalA g I rows)):=by
 obtain⟨hA,hN⟩:=autoI_ok hau;have hgr:=hg.range.rules;have hgt:=hg.range.terms;have hgn:=hg.range.nons;have hp:=pow_small hg.range.terms.2;have hr:=hM.sets.rules;have hrl:=hr.len;have hIl:=hI.len;have hfew:=hN.few;have hRl:=hRw.len;have hrI:rows.length=I.length:=hA.len
 have hPI:∀(s:Nat) (st:List Lr),I[s]?=some st→PI g st:=hN.all (P:=PI g) (closL_PI hg _) (fun st s _ hs=>by
  obtain⟨y,_,hy⟩:=List.mem_map.1 hs;split at hy
  ·cases hy
  ·obtain rfl:=Option.some.inj hy;exact closL_PI hg _)
 have hne:∀(s:Nat) (st:List Lr),I[s]?=some st→st≠[]:=fun s st hs=>by
  rcases Nat.eq_zero_or_pos s with rfl | hp
  ·obtain⟨st0,h1,h2⟩:=hA.zero;rw[h1] at hs;obtain rfl:=Option.some.inj hs;exact List.ne_nil_of_mem ((h2 _).2 (.base me))
  ·obtain⟨l,_,h2,h3⟩:=hA.from_ s st hp hs;obtain⟨z,l',rfl⟩:=List.exists_cons_of_ne_nil h2;exact List.ne_nil_of_mem ((h3 z).2 (.base me))
 have hI0:0<I.length:=(gS hN.first).1
 obtain⟨ib,ie,ro,h1,h2,h3⟩:=hM.blk;refine Abs.Spec.fn (n:=110) Tryz.func46 rfl rfl fun own=>?_;refine AW.seq (AW.reg ?_);refine WT.boxT Z Z Z Z Z Z (fun i3 hi3=>?_);refine zC4 ?_;refine WT.makeT (l:=n1) hT Z Z Z Z Z Z Z Z Z Z Z Z zom (fun io hio=>?_);rw[cap_eq,if_neg (show ¬n1=0 by omega)];refine WT.allocT hT Z Z Z Z Z Z (fun i5 hi5=>?_);refine zC4 ?_;refine AW.range (S:=P1S) (fun _=>[]) (fun s=>[(i5,.cells false [.slice (some ⟨io,0,none⟩) n1 1])]::[(io,.cells false s.vs)]::s.bs::[(i3,.cells false [.slice a1 n1 c1,.slice a2 n2 c2])]::own)
  (fun j s G=>s.vs.length=n1∧s.bs.length=j∧(∀k st,k<j→I[k]?=some st→∃id,s.vs[0+k*1]?=some (.slice (some ⟨id,0,none⟩) (st.map zLk).length 3)∧s.bs[k]?=some (id,.cells false (lkRow (st.map zLk))))∧∀k,j≤k→k<n1→s.vs[k]?=some (.slice none 0 0)) n1 ⟨List.replicate n1 (.slice none 0 0),[]⟩
  Z Z Z Z Z Z Z Z Z zo rfl rfl (fun _=>rfl) (fun _=>rfl) sM (OwnLe.flat (List.Perm.refl _)) ⟨by simp,rfl,fun k st hk=>absurd hk (Nat.not_lt_zero _),fun k _ hk=>by rw[List.getElem?_replicate,if_pos hk]⟩ ?_ ?_
 ·intro j s F1 hF1 hj hP;obtain⟨hvl,hbl,hold,hrest⟩:=hP;have hI1:=hI.mono hF1;refine zC4 ?_;refine WT.idxL hT hI1 Z Z Z Z Z Z Z Z Z zo (fun st hsj b1 off1 ro1 cs1 lx1 hb1 hp1 hrel1=>?_);obtain⟨sa,sn,sc,rfl,hst⟩:=hrel1;have hsl:=hst.len;have hs1:=(hPI j st hsj).1;have hst0:=hne j st hsj;have hjn:=hrest j (Nat.le_refl _) hj;refine zC4 ?_
  refine AW.range (S:=P2S) (fun _=>[]) (fun u=>u.B::[(i5,.cells false [.slice (some ⟨io,0,none⟩) n1 1])]::[(io,.cells false u.vs)]::s.bs::[(i3,.cells false [.slice a1 n1 c1,.slice a2 n2 c2])]::own) (fun k u G=>Bld tLook G u.a u.m u.c u.B ((st.take k).map zLk)∧u.vs=s.vs.set (0+j*1) (.slice u.a u.m u.c)) sn ⟨s.vs,none,0,0,[]⟩
   Z Z Z Z Z Z Z Z Z zo rfl rfl (fun _=>rfl) (fun _=>rfl) sM (OwnLe.flat (List.Perm.refl _)) ⟨Bld.nil_ _ _,?_⟩ ?_ ?_
  ·apply List.ext_getElem?;intro i;by_cases e:i=j
   ·subst e;rw[Nat.zero_add,Nat.mul_one,List.getElem?_set_self zo,hjn]
   ·rw[Nat.zero_add,Nat.mul_one,List.getElem?_set_ne (fun e2=>e e2.symm)]
  ·intro k u F2 hF2 hk hP;obtain⟨hub,huv⟩:=hP;have hst2:=hst.mono hF2;have hubl:=hub.len;rw[List.length_map,List.length_take] at hubl;have hvs1:u.vs[0+j*1]?=some (.slice u.a u.m u.c):=by rw[huv,List.getElem?_set_self zo]
   have huvl:u.vs.length=n1:=by rw[huv,List.length_set];exact hvl
   refine zC4 ?_;refine WT.idxL hT hst2 Z Z Z Z Z Z Z Z Z zo (fun x hxk b5 off5 ro5 cs5 lx5 hb5 hp5 hrel5=>?_);obtain rfl:lx5=_:=hrel5;have htk2:st.take (k+1)=st.take k++[x]:=by rw[List.take_add_one,hxk];rfl
   refine zC4 ?_;refine WT.allocT hT Z Z Z Z Z Z (fun i9 hi9=>?_);refine zC4 ?_;refine AW.draw (ps:=[(0,8),(0,9),(2,8),(5,8)]) Z Z ?_;refine zC4 ?_;refine WT.idxA (j:=j) (s:=1) hT Z Z Z Z Z Z Z Z Z hj ?_;refine WT.loadAt hT 3 Z Z Z Z Z Z me Z Z hvs1 ?_;refine zC4 ?_;refine WT.buildT hT Z Z Z Z Z Z Z Z Z Z Z Z Z Z (fun i33 hi33=>?_);refine WT.appendT (R:=tLook) (ys:=[zLk x]) hT 2 hub Z (fun _=>rfl) Z Z Z Z Z Z Z Z Z Z Z (fun h0 s0=>news_own hT s0 0 Z Z Z Z) (Cells.single (R:=tLook) (x:=zLk x) rfl) Z (by decide) zom (fun a3 c3 B3 hB3=>?_);refine WT.idxA (j:=j) (s:=1) hT Z Z Z Z Z Z Z Z Z hj ?_
   refine WT.storeAt hT 4 0 Z Z Z Z Z Z Z Z Z Z zo Z Z ?_;refine zC4 ?_;refine⟨zrC,?_⟩;refine⟨⟨u.vs.set (0+j*1) (.slice a3 (u.m+1) c3),a3,u.m+1,c3,B3⟩,sM,zow,?_,?_⟩
   ·dsimp only;rw[htk2,List.map_append];exact hB3
   ·dsimp only;rw[huv,List.set_set]
  ·intro u F2 hF2 hP;obtain⟨hub,huv⟩:=hP;rw[List.take_of_length_le zo] at hub;have hubl:=hub.len;rw[List.length_map] at hubl
   obtain⟨id,cs,hia,hic,hiB,hcells,_⟩:=hub.at_.resolve_left (fun h=>by
    have:=h.1;rw[List.map_eq_nil_iff] at this;exact hst0 this)
   obtain rfl:=cells_look hcells;have hic:u.c=3:=hic;refine⟨⟨u.vs,s.bs++[(id,.cells false (lkRow (st.map zLk)))]⟩,sM,?_,by dsimp only;rw[huv,List.length_set];exact hvl,by simp[hbl],fun k st' hk hst'=>?_,fun k h1 h2=>?_⟩
   ·refine OwnLe.flat ?_;rw[hiB];simp only[List.flatten_cons,List.singleton_append];have:=perm_to_end (id,Blk.cells false (lkRow (st.map zLk))) [(i5,.cells false [.slice (some ⟨io,0,none⟩) n1 1]),(io,.cells false u.vs)] s.bs ((i3,.cells false [.slice a1 n1 c1,.slice a2 n2 c2])::own.flatten);simpa using this
   ·dsimp only;rcases Nat.lt_or_ge k j with h6 | h6
    ·obtain⟨id2,e1,e2⟩:=hold k st' h6 hst';refine⟨id2,?_,by rw[List.getElem?_append_left zo];exact e2⟩;rw[huv,List.getElem?_set_ne zo];exact e1
    ·obtain rfl:k=j:=by omega
     rw[hsj] at hst';obtain rfl:=Option.some.inj hst';refine⟨id,?_,by rw[List.getElem?_append_right zo,hbl,Nat.sub_self];rfl⟩;rw[huv,List.getElem?_set_self zo,hia,hic,List.length_map,←hubl]
   ·dsimp only;rw[huv,List.getElem?_set_ne zo];exact hrest k zo h2
 ·intro s F1 hF1 hP;obtain⟨hvl,hbl,hold,_⟩:=hP;generalize hL0:(I.map fun st=>st.map zLk)=L0;have hLT:LT s.vs s.bs L0:=by
   rw[←hL0];refine⟨by simp;omega,by simp;omega,fun k l hl=>?_⟩;rw[List.getElem?_map] at hl;cases hk:I[k]? with
   | none=>rw[hk] at hl;cases hl
   | some st=>
    rw[hk] at hl;obtain rfl:=Option.some.inj hl;exact hold k st (by have:=(gS hk).1;omega) hk
  have hz:LaI g I rows L0∧∀s,ZeroA L0 s:=by rw[←hL0];exact LaI.zero (g:=g) (I:=I) (rows:=rows) trivial
  have hL0l:L0.length=I.length:=by rw[←hL0];simp
  have hL0r:∀l∈L0,l.length≤1000:=fun l hl=>by
   rw[←hL0] at hl;obtain⟨st,h5,rfl⟩:=List.mem_map.1 hl;obtain⟨k,hk⟩:=List.getElem?_of_mem h5;rw[List.length_map];exact(hPI k st hk).1
  obtain⟨row0,hrow0⟩:∃row,L0[0]?=some row:=⟨_,gE zo⟩;obtain⟨hi0,hK0⟩:=KI.begin hg hau hz.1 hz.2 hrow0;have hM1:=hM.mono hF1;have h11:=hF1 _ _ h1;have hrm:=roomT_le hL0r;clear hold;refine AW.le (own2:=((i5,.cells false [.slice (some ⟨io,0,none⟩) n1 1])::(io,.cells false s.vs)::s.bs)::[(i3,.cells false [.slice a1 n1 c1,.slice a2 n2 c2])]::own) (OwnLe.flat (List.Perm.refl _)) ?_;refine zC4 ?_;refine WT.callF0 Tryz.func41 Z Z Z Z Z Z (startK_spec F1 g hg hM1) (fun F2 v hF2 hv=>?_);obtain⟨fa,fn,fc,rfl,hfk⟩:=hv;have hfl:=hfk.len;have hil:(firstK g).length=row0.length:=by
   have:=congrArg List.length hi0;unfold itemsK at this;rw[List.length_map,List.length_map] at this;exact this.symm
  have hr0l:=hL0r row0 (gM hrow0);have small:∀{L:List (List Look)},LaI g I rows L→∀{k:Nat} {row:List Look},L[k]?=some row→∀x∈row,x.set<512:=fun h k row hk x hx=>Nat.lt_of_lt_of_le (h.small _ (gM hk) x hx) hp;have smallK:∀{l:List Look},∀x∈closeK g l,x.set<512:=fun x hx=>Nat.lt_of_lt_of_le (closeK_small x hx) hp;refine WT.callC1F 0 Tryz.func73 Z Z Z Z Z Z Z Z Z (fun _=>rfl) ((merge_spec F2 (i:=0) hLT zo hrow0 hfk zo zo (fun x hx=>small hz.1 hrow0 x hx) smallK).mono fun F' v o _ h=>h) (fun F3 v B3 hF3 hv=>?_);obtain⟨⟨bs3,rfl,hLT3⟩,rfl⟩:=hv;refine zC4 ?_
  refine WT.buildT hT Z Z Z Z Z Z Z Z Z Z Z Z Z Z (fun iw hiw=>?_);refine zC4 ?_;refine AW.block ?_;refine AW.loopR (S:=LwS) (fun w=>[(11,.slice w.a w.m w.c)]) (fun w=>w.B::((i5,.cells false [.slice (some ⟨io,0,none⟩) n1 1])::(io,.cells false s.vs)::w.bs)::[(i3,.cells false [.slice a1 n1 c1,.slice a2 n2 c2])]::own)
   (fun w G=>GB tInt G w.a w.m w.c w.B (w.W.map iNat)∧LT s.vs w.bs w.L∧KI g I rows w.L w.W∧w.W.length+roomT w.L≤300000000) (fun w=>w.W.length+roomT w.L) ⟨L0.set 0 (mergeL row0 (firstK g)),bs3,[0],some ⟨iw,0,none⟩,1,1,[(iw,.cells false [.int .i64 0])]⟩
   sM oR ⟨Bld.gb ⟨rfl,.inr ⟨iw,_,rfl,rfl,rfl,Cells.single (R:=tInt) (x:=0) rfl,by decide⟩⟩,hLT3,hK0,?_⟩ ?_
  ·have e1:=roomT_set (row':=mergeL row0 (firstK g)) hrow0;have e2:=(mergeL_room (row:=row0) (l:=firstK g) (fun x hx=>small hz.1 hrow0 x hx) (fun x hx=>small hK0.la (List.getElem?_set_self zo) x hx)).1;have e3:L0.length*(1000*512)≤400*(1000*512):=Nat.mul_le_mul_right _ zo;show 1+roomT (L0.set 0 (mergeL row0 (firstK g)))≤_;omega
  intro w F4 hF4 hP;obtain⟨hgb,hwT,hK,hmu⟩:=hP;have hgl:=hgb.len;rw[List.length_map] at hgl;have hM4:=((hM1.mono hF2).mono hF3).mono hF4;have h14:=hF4 _ _ (hF3 _ _ (hF2 _ _ h11));have hRw4:=(((hRw.mono hF1).mono hF2).mono hF3).mono hF4;refine zC4 ?_;refine AW.cond Z (fun h=>?_) (fun h=>?_)
  ·have h:0<w.m:=by simp at h;omega
   obtain⟨W0,i,hW⟩:∃W0 i,w.W=W0++[i]:=by
    rcases List.eq_nil_or_concat w.W with e | ⟨W0,i,e⟩
    ·rw[e] at hgl;simp at hgl;omega
    ·exact⟨W0,i,by rw[e,List.concat_eq_append]⟩
   have hWl:W0.length=w.m-1:=by rw[hgl,hW];simp
   have hget:(w.W.map iNat)[w.m-1]?=some (iNat i):=by rw[hW,List.map_append,List.getElem?_append_right (by simp;omega),List.length_map,hWl,Nat.sub_self];rfl
   have htake:(w.W.map iNat).take (w.m-1)=W0.map iNat:=by rw[hW,List.map_append,List.take_left' (by simp;omega)]
   rw[hW] at hK;have hJ0:=hK.pop;have hiI:i<I.length:=(hK.wok i (List.mem_append_right _ (List.mem_singleton_self _))).1;refine zC4 ?_;refine AW.block ?_;refine zC4 ?_;refine WT.gidx hT hgb Z Z Z Z Z Z Z Z Z zo (fun b1 hb1=>?_);refine WT.gld1 (x:=iNat i) hT 0 hgb hb1 hget Z Z Z Z Z Z (fun z hz=>hz) Z Z Z (fun v hv=>?_);obtain rfl:v=_:=(List.singleton_inj.1 hv);refine zC4 ?_;refine WT.sliceG hT hgb Z Z Z Z Z Z Z Z Z (show w.m-1≤w.m by omega) ?_;have hgb2:=hgb.take (show w.m-1≤w.m by omega);rw[htake] at hgb2;refine zC4 ?_;have hsy:=symbols_spec F4 g hg (a:=a) (m:=m) (c:=c)
   unfold gramCells at hsy;refine WT.callF0 Tryz.func65 Z Z Z Z Z Z hsy (fun F5 v hF5 hv=>?_);obtain⟨ya,yn,yc,rfl,hys⟩:=hv;have hyl:=hys.len;rw[symsL_len] at hyl;refine zC4 ?_;refine AW.range (S:=LwS) (fun w=>[(11,.slice w.a w.m w.c)]) (fun w=>w.B::((i5,.cells false [.slice (some ⟨io,0,none⟩) n1 1])::(io,.cells false s.vs)::w.bs)::[(i3,.cells false [.slice a1 n1 c1,.slice a2 n2 c2])]::own)
    (fun k u G=>GB tInt G u.a u.m u.c u.B (u.W.map iNat)∧LT s.vs u.bs u.L∧JI g I rows i k u.L u.W∧u.W.length+roomT u.L+1≤w.W.length+roomT w.L) yn ⟨w.L,w.bs,W0,w.a,w.m-1,w.c,w.B⟩
    Z Z Z Z Z Z Z Z Z zo rfl rfl (fun _=>rfl) (fun _=>rfl) sM oR ⟨hgb2.mono hF5,hwT,hJ0,by dsimp only;omega⟩ ?_ ?_
   ·intro k u F6 hF6 hk hP;obtain⟨hug,huT,huJ,humu⟩:=hP;have hul:=hug.len;rw[List.length_map] at hul;have hys6:=hys.mono hF6;have hRw6:=(hRw4.mono hF5).mono hF6;have hM6:=(hM4.mono hF5).mono hF6;have huL:u.L.length=I.length:=by rw[←huJ.la.items,List.length_map]
    refine zC4 ?_;refine WT.idxL hT hys6 Z Z Z Z Z Z Z Z Z (by rw[symsL_len];omega) (fun y hyk b5 off5 ro5 cs5 lx5 hb5 hp5 hrel5=>?_);obtain rfl:lx5=_:=hrel5;refine zC4 ?_;refine WT.allocT hT Z Z Z Z Z Z (fun i14 hi14=>?_);refine zC4 ?_;refine WT.idxL hT hRw6 Z Z Z Z Z Z Z Z Z zo (fun rw1 hrw1 b6 off6 ro6 cs6 lx6 hb6 hp6 hrel6=>?_);obtain⟨wa,wn,wc,rfl,hwa⟩:=hrel6;have hwl:=hwa.len;have hsti:=gE hiI;have hrowl:=hA.row i _ rw1 hsti hrw1;refine zC4 ?_;refine WT.idxL hT hwa Z Z Z Z Z Z Z Z Z zo (fun j hjk b7 off7 ro7 cs7 lx7 hb7 hp7 hrel7=>?_);obtain rfl:lx7=_:=hrel7;have hgo:=goR_at hyk hrw1 hjk
    refine zC4 ?_;refine AW.cond Z (fun h6=>?_) (fun h6=>?_)
    ·have h6:0≤j:=by simpa using h6
     obtain⟨to,rfl⟩:=Int.eq_ofNat_of_zero_le h6;rw[if_pos h6] at hgo;have hgo:goR g rows i y=some to:=hgo;obtain⟨st,hst⟩:∃st,u.L[i]?=some st:=⟨_,gE zo⟩;have hstI:I[i]?=some (itemsK st):=by rw[←huJ.la.items,List.getElem?_map,hst];rfl
     obtain⟨_,st',g1,g2,g3,_⟩:=hA.goes hg hgo;rw[hstI] at g1;obtain rfl:=Option.some.inj g1;have htoI:=(gS g2).1;obtain⟨row,hrow⟩:∃row,u.L[to]?=some row:=⟨_,gE zo⟩;have hknn:kernK g st y≠[]:=fun e=>g3 (kernK_nil.1 e);have hsl:st.length≤1000:=by have:=(hPI i _ hstI).1;unfold itemsK at this;rw[List.length_map] at this;exact this
     have hrowl2:row.length≤1000:=by
      have e:I[to]?=some (itemsK row):=by rw[←huJ.la.items,List.getElem?_map,hrow];rfl
      have:=(hPI to _ e).1;unfold itemsK at this;rw[List.length_map] at this;exact this
     have hok:∀x∈st,OkLr g x.item∧x.set<2 ^ (g.terms+1):=fun x hx=>⟨hA.ok i _ hstI _ (List.mem_map.2 ⟨x,hx,rfl⟩),huJ.la.small st (gM hst) x hx⟩;obtain⟨id,hvs,hbs⟩:=huT.at_ i st hst;obtain⟨hitm,hJ1⟩:=huJ.step hg hau hyk hgo hst hrow rfl;have hclen:(closeK g (kernK g st y)).length=row.length:=by
      have:=congrArg List.length hitm;unfold itemsK at this;rw[List.length_map,List.length_map] at this;exact this.symm
     obtain⟨yt,yv⟩:=y;refine zC4 ?_;refine WT.idxA (j:=i) (s:=1) hT Z Z Z Z Z Z Z Z Z zo ?_;refine WT.loadAt hT 2 Z Z Z Z Z Z (List.mem_cons_of_mem _ me) Z Z hvs ?_;refine zC4 ?_;refine WT.call1F 2 Tryz.func43 Z Z Z Z Z Z Z (fun _=>rfl) (afterO_spec F6 g hg hM6 (id:=id) (n:=st.length) (st:=st) (List.mem_cons_of_mem _ (List.mem_cons_of_mem _ (gM hbs))) Z hsl hok ⟨yt,yv⟩) (fun F7 v B7 hF7 hv=>?_);obtain⟨rfl,a',n',c',z,s',rfl,hs',hnx⟩:=hv;unfold nextK at hnx;rw[if_neg hknn] at hnx;have hz1:z=true:=by
      cases z with
      | true=>rfl
      | false=>cases hnx
     subst hz1;obtain rfl:=Option.some.inj hnx;have hs'l:=hs'.len;refine zC4 ?_;refine WT.callC1F 2 Tryz.func73 Z Z Z Z Z Z Z Z Z (fun _=>rfl) ((merge_spec F7 (i:=to) huT zo hrow hs' zo zo (fun x hx=>small huJ.la hrow x hx) smallK).mono fun F' v o _ h=>h) (fun F8 v B8 hF8 hv=>?_);obtain⟨⟨bs8,rfl,hLT8⟩,rfl⟩:=hv;have e1:=roomT_set (row':=mergeL row (closeK g (kernK g st ⟨yt,yv⟩))) hrow;have e2:=mergeL_room (row:=row) (l:=closeK g (kernK g st ⟨yt,yv⟩)) (fun x hx=>small huJ.la hrow x hx) (fun x hx=>small hJ1.la (List.getElem?_set_self zo) x hx);refine zC4 ?_
     refine AW.cond Z (fun hc=>?_) (fun hc=>?_)
     ·have hc:mergeL row (closeK g (kernK g st ⟨yt,yv⟩))≠row:=of_decide_eq_true hc;have hlt:=e2.2 hc;rw[if_pos hc] at hJ1;have hug8:=(hug.mono hF7).mono hF8;refine zC4 ?_;refine WT.buildT hT Z Z Z Z Z Z Z Z Z Z Z Z Z Z (fun i33 hi33=>?_);refine WT.appendG (R:=tInt) (ys:=[iNat to]) hT 2 hug8 Z (fun _=>rfl) Z Z Z Z Z Z Z Z Z Z Z (fun h0 s0=>news_own hT s0 0 Z Z Z Z) (Cells.single (R:=tInt) (x:=iNat to) rfl) Z (by decide) zom (fun a3 c3 B3 hB3=>?_);refine zC4 ?_;refine⟨⟨u.L.set to (mergeL row (closeK g (kernK g st ⟨yt,yv⟩))),bs8,u.W++[to],a3,u.m+1,c3,B3⟩,sM,zow,?_,hLT8,hJ1,?_⟩
      ·dsimp only;rw[List.map_append];exact hB3.gb
      ·dsimp only;rw[List.length_append,List.length_singleton];omega
     ·have hc:mergeL row (closeK g (kernK g st ⟨yt,yv⟩))=row:=by simpa using hc
      rw[if_neg (fun h=>h hc)] at hJ1;refine zC4 ?_;refine⟨⟨u.L.set to (mergeL row (closeK g (kernK g st ⟨yt,yv⟩))),bs8,u.W,u.a,u.m,u.c,u.B⟩,sM,zow,(hug.mono hF7).mono hF8,hLT8,hJ1,?_⟩;dsimp only;have:=e2.1;omega
    ·have h6:¬0≤j:=by simpa using h6
     rw[if_neg h6] at hgo;refine zC4 ?_;exact⟨u,sM,zow,hug,huT,huJ.skip hyk hgo,humu⟩
   ·intro u F6 hF6 hP;obtain⟨hug,huT,huJ,humu⟩:=hP;exact⟨u,by omega,sM,zow,hug,huT,huJ.fin (by rw[symsL_len];omega),by omega⟩
  ·have h:w.m=0:=by simp at h;omega
   have hW:w.W=[]:=List.length_eq_zero_iff.1 zo;rw[hW] at hK;have hL:=hK.done hg hau;refine AW.exit ?_;refine AW.freezeAll 1 Z Z (fun F5 hF5 hB5=>?_);have h5:=hB5 i5 _ me;refine zC4 ?_;have hwl:w.L.length=I.length:=by rw[←hK.la.items,List.length_map]
   have hres:=hwT.arr (n:=n1) (F:=F5) (ro:=false) zo zo (hB5 io _ (by simp)) (fun i b hm=>hB5 i b (by simp[hm]));rw[hL] at hres;exact AW.ret ⟨_,[],⟨_,_,rfl,rfl,rfl⟩,zsb,rfl,_,_,_,rfl,hres⟩
def tAct:Ty (Nat×Nat) where
 size:=2
 rel:=fun _ l x=>l=[.int .i64 x.1,.int .i64 x.2]
 len:=fun _ _ _ h=>by rw[h];rfl
 one:=fun _ _ _ h=>by rw[h];rfl
 mono:=fun _ _ _ _ _ h=>h
def actOne(g:Gram)(t:Nat)(lk:Look):Option (Nat×Nat):=if afterL g lk.item=none∧lk.set.testBit t=true then some (if lk.item.rule<g.rules.length then (2,lk.item.rule) else (3,0)) else none
def actPre(g:Gram)(row:List Int)(t:Nat):List (Nat×Nat):=if t<g.terms then (match row[t]? with | some j=>if 0≤j then [(1,j.toNat)] else [] | none=>[]) else []
theorem actsF_eq(g:Gram)(st:List Look)(row:List Int)(t:Nat):actsF g st row t=actPre g row t++st.filterMap (actOne g t):=rfl
theorem actPre_len{g:Gram}{row:List Int}{t:Nat}:(actPre g row t).length≤1:=by
 unfold actPre;by_cases h:t<g.terms
 ·rw[if_pos h];cases row[t]? with
  | none=>exact Nat.zero_le _
  | some j=>
   dsimp only;by_cases h2:0≤j
   ·rw[if_pos h2];exact Nat.le_refl _
   ·rw[if_neg h2];exact Nat.zero_le _
 ·rw[if_neg h];exact Nat.zero_le _
structure AcS where
 vs:List Value
 a:Option Addr
 m:Nat
 c:Nat
 B:List (Nat×Blk)
 l:List (Nat×Nat)
theorem fm_take{α β:Type}{f:α→Option β}{l:List α}{k:Nat}{x:α}(h:l[k]?=some x):(l.take (k+1)).filterMap f=(l.take k).filterMap f++(f x).toList:=by
 rw[List.take_add_one,h,List.filterMap_append];cases hf:f x<;>simp[hf]
theorem fm_len{α β:Type}(f:α→Option β)(l:List α)(k:Nat):((l.take k).filterMap f).length≤k:=Nat.le_trans (List.length_filterMap_le _ _) (by simp;omega)
theorem perm_tail3{α:Type}(B:List α)(x:α)(bs:List α)(own:List (List α)):(B::[x]::bs::own).flatten.Perm ([x]::(bs++B)::own).flatten:=by
 classical
 rw[List.perm_iff_count];intro y;simp only[List.flatten_cons,List.count_append];omega
theorem shE0{p:Prop} (h:p:=by
 intro k u F2 hF2 hk hP;obtain⟨hub,huv,hul⟩:=hP;have hst2:=hst1.mono hF2;have hr2:=(hr.mono hF1).mono hF2;have hubl:=hub.len;have hf1:=fm_len (actOne g t) st k;have hpre:(actPre g row t).length≤1:=by
  exact actPre_len
 have hull:u.l.length≤1+k:=by rw[hul,List.length_append];omega
 have hvs1:u.vs[0+t*1]?=some (.slice u.a u.m u.c):=by rw[huv,List.getElem?_set_self zo]
 have huvl:u.vs.length=g.terms+1:=by rw[huv,List.length_set];exact hvl
 refine zC8 ?_;refine WT.idxL hT hst2 Z Z Z Z Z Z Z Z Z zo (fun x hxk b5 off5 ro5 cs5 lx5 hb5 hp5 hrel5=>?_);obtain rfl:lx5=_:=hrel5;obtain⟨hxo,hxs⟩:=hok x (gM hxk);have hfm:=fm_take (f:=actOne g t) hxk;have hxr:=hxo.1;refine zC8 ?_;refine WT.allocT hT Z Z Z Z Z Z (fun i10 hi10=>?_);refine zC8 ?_;have haf:=lrAfter_spec F2 g hg4 hr2 zo x.item zo;unfold gramCells at haf;refine WT.callV Tryz.func69 Z Z Z Z Z Z haf (fun v hv=>?_);obtain⟨z,bo,rfl,hay,han⟩:=hv;obtain⟨zt,zn⟩:=z;refine zC8 ?_;refine WT.allocT hT Z Z Z Z Z Z (fun i11 hi11=>?_);refine zC8 ?_
 have skip:actOne g t x=none→u.l=actPre g row t++(st.take (k+1)).filterMap (actOne g t):=fun e=>by rw[hfm,e,hul];simp
 refine WT.split 61 Z (fun hbo=>?_) (fun hbo=>?_)
 ·refine zC8 ?_;refine AW.cond Z (fun _=>?_) (fun h=>(by cases h));refine AW.exit ?_;refine⟨u,sM,zow,hub,huv,skip ?_⟩;unfold actOne;rw[if_neg (by rw[hay hbo];simp)]
 ·have han:=han hbo;refine zC8 ?_;refine WT.shr32 (x:=x.set) (y:=t) Z Z Z Z Z Z zo ?_;refine WT.and32 (x:=x.set / 2 ^ t) (y:=1) Z Z Z Z Z Z (Nat.lt_of_le_of_lt (Nat.div_le_self _ _) zo) (by decide) ?_;rw[shift_bit];refine zC8 ?_;refine AW.cond Z (fun h=>?_) (fun h=>?_)
  ·have h:x.set.testBit t=false:=by
    cases hb:x.set.testBit t with
    | false=>rfl
    | true=>rw[hb] at h;simp at h
   refine AW.exit ?_;refine⟨u,sM,zow,hub,huv,skip ?_⟩;unfold actOne;rw[if_neg (by rw[h];simp)]
  ·have h:x.set.testBit t=true:=by
    cases hb:x.set.testBit t with
    | true=>rfl
    | false=>rw[hb] at h;simp at h
   refine zC8 ?_;refine AW.cond Z (fun h2=>?_) (fun h2=>?_)
   ·have h2:x.item.rule<g.rules.length:=by simp at h2;omega
    have hone:actOne g t x=some (2,x.item.rule):=by unfold actOne;rw[if_pos ⟨han,h⟩,if_pos h2]
    refine AW.draw (ps:=[(5,10)]) Z Z ?_;refine zC8 ?_;refine WT.idxA (j:=t) (s:=1) hT Z Z Z Z Z Z Z Z Z ht ?_;refine WT.loadAt hT 3 Z Z Z Z Z Z me Z Z hvs1 ?_;refine zC8 ?_;refine WT.buildT hT Z Z Z Z Z Z Z Z Z Z Z Z Z Z (fun i33 hi33=>?_);refine WT.appendT (R:=tAct) (ys:=[(2,x.item.rule)]) hT 3 hub Z (fun _=>rfl) Z Z Z Z Z Z Z Z Z Z Z (fun h0 s0=>news_own hT s0 0 Z Z Z Z) (Cells.single (R:=tAct) (x:=(2,x.item.rule)) rfl) Z (by decide) zom (fun a3 c3 B3 hB3=>?_);refine WT.idxA (j:=t) (s:=1) hT Z Z Z Z Z Z Z Z Z ht ?_;refine WT.storeAt hT 4 0 Z Z Z Z Z Z Z Z Z Z zo Z Z ?_;refine zC8 ?_
    refine⟨zrC,?_⟩;refine⟨⟨u.vs.set (0+t*1) (.slice a3 (u.m+1) c3),a3,u.m+1,c3,B3,u.l++[(2,x.item.rule)]⟩,sM,zow,hB3,?_,?_⟩
    ·dsimp only;rw[huv,List.set_set]
    ·dsimp only;rw[hul,hfm,List.append_assoc,hone];rfl
   ·have h2:x.item.rule=g.rules.length:=by simp at h2;omega
    have hone:actOne g t x=some (3,0):=by unfold actOne;rw[if_pos ⟨han,h⟩,if_neg zo]
    refine zC8 ?_;refine WT.idxA (j:=t) (s:=1) hT Z Z Z Z Z Z Z Z Z ht ?_;refine WT.loadAt hT 3 Z Z Z Z Z Z me Z Z hvs1 ?_;refine zC8 ?_;refine WT.buildT hT Z Z Z Z Z Z Z Z Z Z Z Z Z Z (fun i33 hi33=>?_);refine WT.appendT (R:=tAct) (ys:=[((3,0):Nat×Nat)]) hT 3 hub Z (fun _=>rfl) Z Z Z Z Z Z Z Z Z Z Z (fun h0 s0=>news_own hT s0 0 Z Z Z Z) (Cells.single (R:=tAct) (x:=((3,0):Nat×Nat)) rfl) Z (by decide) zom (fun a3 c3 B3 hB3=>?_);refine WT.idxA (j:=t) (s:=1) hT Z Z Z Z Z Z Z Z Z ht ?_;refine WT.storeAt hT 4 0 Z Z Z Z Z Z Z Z Z Z zo Z Z ?_;refine zC8 ?_
    refine⟨⟨u.vs.set (0+t*1) (.slice a3 (u.m+1) c3),a3,u.m+1,c3,B3,u.l++[((3,0):Nat×Nat)]⟩,sM,zow,hB3,?_,?_⟩
    ·dsimp only;rw[huv,List.set_set]
    ·dsimp only;rw[hul,hfm,List.append_assoc,hone];rfl):p:=h
theorem shE3{p:Prop} (h:p:=by
 intro u F2 hF2 hP;obtain⟨hub,huv,hul⟩:=hP;rw[List.take_of_length_le zo] at hul;have huvl:u.vs.length=g.terms+1:=by rw[huv,List.length_set];exact hvl
 rw[←actsF_eq] at hul;rw[hul] at hub;refine⟨⟨u.vs,bs++u.B⟩,sM,OwnLe.flat (perm_tail3 _ _ _ _),huvl,fun k hk=>?_,fun k h1 h2=>?_⟩
 ·rcases Nat.lt_or_ge k t with h6 | h6
  ·obtain⟨xa,xn,xc,e1,e2⟩:=hold k h6;exact⟨xa,xn,xc,by dsimp only;rw[huv,List.getElem?_set_ne zo];exact e1,fun H h1 h2=>e2 H (hF2.trans h1) fun i b hm=>h2 i b (List.mem_append_left _ hm)⟩
  ·obtain rfl:k=t:=by omega
   exact⟨_,_,_,by dsimp only;rw[huv,Nat.zero_add,Nat.mul_one,List.getElem?_set_self zo],fun H h1 h2=>hub.frozen h1 fun i b hm=>h2 i b (List.mem_append_right _ hm)⟩
 ·dsimp only;rw[huv,List.getElem?_set_ne zo];exact hrest k zo h2):p:=h
theorem shE10{p:Prop} (h:p:=by
 refine zC8 ?_;refine AW.range (S:=AcS) (fun _=>[]) (fun u=>u.B::[(io,.cells false u.vs)]::bs::[(i3,.cells false [.int .i64 g.terms,.int .i64 g.nons,.int .i64 g.start,.slice a m c])]::own)
  (fun k u G=>Bld tAct G u.a u.m u.c u.B u.l∧u.vs=vs.set (0+t*1) (.slice u.a u.m u.c)∧u.l=actPre g row t++(st.take k).filterMap (actOne g t)) n ⟨vs,none,0,0,[],[]⟩
  Z Z Z Z Z Z Z Z Z zo rfl rfl (fun _=>rfl) (fun _=>rfl) sM (OwnLe.flat (List.Perm.refl _)) ⟨Bld.nil_ _ _,hset0.symm,by rw[hpre0];rfl⟩ ?_ ?_
 ·exact shE0
 ·exact shE3):p:=h
theorem actions_spec(F:Frz)(g:Gram)(hg:Valid g){a:Option Addr}{m c:Nat}(hr:Arr tRule F a m c g.rules){b:Option Addr}{n d:Nat}{st:List Look}(hst:Arr tLook F b n d st)(hn:n≤1000)(hok:∀x∈st,OkLr g x.item∧x.set<2 ^ (g.terms+1))
  {rb:Option Addr} {rn rd:Nat} {row:List Int} (hrow:Arr tInt F rb rn rd row) (hrn:g.terms≤rn) :
  Abs.Spec CC 47 [.agg ⟨gramCells g a m c⟩,.slice b n d,.slice rb rn rd] F [] fun F' v o=>o=[]∧∃a' n' c',v=.slice a' n' c'∧Arr (tList tAct) F' a' n' c' ((List.range (g.terms+1)).map fun t=>actsF g st row t):=by
 have hgr:=hg.range.rules;have hgt:=hg.range.terms;have hrl:=hr.len;have hsl:=hst.len;have hrwl:=hrow.len;have hp:=pow_small hg.range.terms.2;have hg4:∀r∈g.rules,r.right.length≤100:=fun r h=>by have:=(hg.right r h).2.1;omega
 unfold gramCells;refine Abs.Spec.fn (n:=102) Tryz.func47 rfl rfl fun own=>?_;refine AW.seq (AW.reg ?_);refine WT.boxT Z Z Z Z Z Z (fun i3 hi3=>?_);refine zC8 ?_;refine WT.makeT (l:=g.terms+1) hT Z Z Z Z Z Z Z Z Z Z Z Z zom (fun io hio=>?_);rw[cap_eq,if_neg (show ¬g.terms+1=0 by omega)];refine zC8 ?_;refine AW.range (S:=P1S) (fun _=>[]) (fun s=>[(io,.cells false s.vs)]::s.bs::[(i3,.cells false [.int .i64 g.terms,.int .i64 g.nons,.int .i64 g.start,.slice a m c])]::own)
  (fun t s G=>s.vs.length=g.terms+1∧(∀k,k<t→∃xa xn xc,s.vs[k]?=some (.slice xa xn xc)∧∀H,Frz.le G H→(∀i b,(i,b)∈s.bs→H i=some b)→Arr tAct H xa xn xc (actsF g st row k))∧∀k,t≤k→k<g.terms+1→s.vs[k]?=some (.slice none 0 0)) (g.terms+1) ⟨List.replicate (g.terms+1) (.slice none 0 0),[]⟩
  Z Z Z Z Z Z Z Z Z zo rfl rfl (fun _=>rfl) (fun _=>rfl) sM (OwnLe.flat (List.Perm.refl _)) ⟨by simp,fun k hk=>absurd hk (Nat.not_lt_zero _),fun k _ hk=>by rw[List.getElem?_replicate,if_pos hk]⟩ ?_ ?_
 ·intro t s F1 hF1 ht hP;obtain⟨hvl,hold,hrest⟩:=hP;obtain⟨vs,bs⟩:=s;dsimp only at hvl hold hrest;have hst1:=hst.mono hF1;have hrow1:=hrow.mono hF1;have htn:=hrest t (Nat.le_refl _) ht;have hset0:vs.set (0+t*1) (.slice none 0 0)=vs:=by
   apply List.ext_getElem?;intro i;by_cases e:i=t
   ·subst e;rw[Nat.zero_add,Nat.mul_one,List.getElem?_set_self zo,htn]
   ·rw[Nat.zero_add,Nat.mul_one,List.getElem?_set_ne (fun e2=>e e2.symm)]
  refine zC8 ?_;refine WT.split 26 Z (fun htt=>?_) (fun htt=>?_)
  ·have htt:t<g.terms:=by simpa using htt
   obtain⟨j,hj⟩:∃j,row[t]?=some j:=⟨_,gE zo⟩;refine zC8 ?_;refine WT.idxL hT hrow1 Z Z Z Z Z Z Z Z Z zo (fun j2 hj2 b7 off7 ro7 cs7 lx7 hb7 hp7 hrel7=>?_);obtain rfl:lx7=_:=hrel7;rw[hj] at hj2;obtain rfl:=Option.some.inj hj2;refine zC8 ?_;refine AW.cond Z (fun h6=>?_) (fun h6=>?_)
   ·have h6:0≤j:=by simpa using h6
    have hpre0:actPre g row t=[(1,j.toNat)]:=by unfold actPre;rw[if_pos htt,hj];dsimp only;rw[if_pos h6]
    obtain⟨jn,rfl⟩:=Int.eq_ofNat_of_zero_le h6;refine AW.le (own2:=[]::[(io,.cells false vs)]::bs::[(i3,.cells false [.int .i64 g.terms,.int .i64 g.nons,.int .i64 g.start,.slice a m c])]::own) (OwnLe.flat (List.Perm.refl _)) ?_;refine AW.draw (ps:=[(5,11)]) Z Z ?_;refine zC8 ?_;refine WT.idxA (j:=t) (s:=1) hT Z Z Z Z Z Z Z Z Z ht ?_;refine WT.loadAt hT 1 Z Z Z Z Z Z me Z Z (v:=.slice none 0 0) (by rw[Nat.zero_add,Nat.mul_one];exact htn) ?_;refine zC8 ?_;refine WT.idxL hT hrow1 Z Z Z Z Z Z Z Z Z zo (fun j3 hj3 b8 off8 ro8 cs8 lx8 hb8 hp8 hrel8=>?_);obtain rfl:lx8=_:=hrel8;rw[hj] at hj3
    obtain rfl:=Option.some.inj hj3;refine zC8 ?_;refine WT.buildT hT Z Z Z Z Z Z Z Z Z Z Z Z Z Z (fun i33 hi33=>?_);refine WT.appendT (R:=tAct) (ys:=[(1,jn)]) hT 1 (Bld.nil_ tAct F1) Z (fun _=>rfl) Z Z Z Z Z Z Z Z Z Z Z (fun h0 s0=>news_own hT s0 0 Z Z Z Z) (Cells.single (R:=tAct) (x:=(1,jn)) rfl) Z (by decide) zom (fun a3 c3 B3 hB3=>?_);refine WT.idxA (j:=t) (s:=1) hT Z Z Z Z Z Z Z Z Z ht ?_;refine WT.storeAt hT 2 0 Z Z Z Z Z Z Z Z Z Z zo Z Z ?_;refine zC8 ?_;refine⟨zrC,?_⟩;refine zC8 ?_
    refine AW.range (S:=AcS) (fun _=>[]) (fun u=>u.B::[(io,.cells false u.vs)]::bs::[(i3,.cells false [.int .i64 g.terms,.int .i64 g.nons,.int .i64 g.start,.slice a m c])]::own)
     (fun k u G=>Bld tAct G u.a u.m u.c u.B u.l∧u.vs=vs.set (0+t*1) (.slice u.a u.m u.c)∧u.l=actPre g row t++(st.take k).filterMap (actOne g t)) n ⟨vs.set (0+t*1) (.slice a3 (0+1) c3),a3,0+1,c3,B3,[]++[(1,jn)]⟩
     Z Z Z Z Z Z Z Z Z zo rfl rfl (fun _=>rfl) (fun _=>rfl) sM (zow) ⟨hB3,rfl,by rw[hpre0];rfl⟩ ?_ ?_
    ·exact shE0
    ·exact shE3
   ·have h6:¬0≤j:=by simpa using h6
    have hpre0:actPre g row t=[]:=by unfold actPre;rw[if_pos htt,hj];dsimp only;rw[if_neg h6]
    exact shE10
  ·have htt:¬t<g.terms:=by simpa using htt
   have hpre0:actPre g row t=[]:=by unfold actPre;rw[if_neg htt]
   refine zC8 ?_;refine AW.cond Z (fun h=>(by cases h)) (fun _=>?_);exact shE10
 ·intro s F1 hF1 hP;obtain⟨hvl,hold,_⟩:=hP;obtain⟨vs,bs⟩:=s;dsimp only at hvl hold;refine AW.le (own2:=((io,.cells false vs)::bs)::[(i3,.cells false [.int .i64 g.terms,.int .i64 g.nons,.int .i64 g.start,.slice a m c])]::own) (OwnLe.flat (List.Perm.refl _)) ?_;refine AW.freezeAll 0 Z Z (fun F2 hF2 hB2=>?_);refine zC8 ?_;refine AW.ret ⟨_,[],⟨_,_,rfl,rfl,rfl⟩,zsb,rfl,_,_,_,rfl,?_⟩;refine⟨by simp,.inr rfl,fun h=>zo,fun h=>(by cases h),fun p hp=>(by cases hp;rfl),fun k x hk=>?_⟩;have hk1:k<g.terms+1:=by have:=(gS hk).1;simpa using this
  rw[List.getElem?_map,List.getElem?_range hk1] at hk;obtain rfl:=Option.some.inj hk;obtain⟨xa,xn,xc,e1,e2⟩:=hold k hk1;have hv:=gS e1;refine⟨io,0,false,vs,[.slice xa xn xc],rfl,hB2 io _ me,?_,_,_,_,rfl,e2 F2 hF2 fun i b hm=>hB2 i b (List.mem_cons_of_mem _ hm)⟩;refine partL_of ?_ rfl;show _=(vs.drop (0+k*1)).take 1;rw[Nat.zero_add,Nat.mul_one,List.drop_eq_getElem_cons hv.1,List.take_succ_cons,List.take_zero,hv.2]
end Go.Proofs.D
set_option linter.unusedVariables false
set_option maxRecDepth 20000
set_option maxHeartbeats 0
open Go Go.Abs Go.Proofs Go.Proofs.D
namespace Go.Abs
end Go.Abs
namespace Go.Proofs.D
theorem nameK_spec(F:Frz){b:Option Addr}{n d:Nat}{l:List Look}(hl:Arr tLook F b n d l)(hn:n≤1000){i6:Nat}{ro:Bool}{fk:Nat}{fnk:Func}(hgk:CC.func fk=some fnk)(hbk:fnk.body.isSome=true)(hi6:F i6=some (.cells ro [.func (.func fk) ⟨[]⟩ ⟨[]⟩]))
  (key:Look→List UInt8) (hlen:∀x∈l,(key x).length≤20) (hkey:∀x∈l,∀G,Frz.le F G→Abs.Spec CC fk [.agg ⟨[.int .i64 x.item.rule,.int .i64 x.item.dot,.int .u32 x.set]⟩] G [] fun _ v o=>o=[]∧v=.string (strB (key x))) :
  Abs.Spec CC 64 [.slice b n d,.pointer (some ⟨i6,0,none⟩)] F [] fun _ v o=>o=[]∧v=.string (strB (nameF key l)):=by
 have hll:=hl.len;have htot:∀j,(nameF key (l.take j)).length≤21*j:=by
  intro j
  induction j with
  | zero=>simp[nameF]
  | succ j ih=>
   rw[List.take_add_one];cases hx:l[j]? with
   | none=>simp;omega
   | some x=>
    rw[Option.toList_some,nameF_snoc,List.length_append,List.length_append,List.length_singleton];have:=hlen x (gM hx);omega
 refine Abs.Spec.fn (n:=21) Tryz.func64 rfl rfl fun own=>?_;refine zC4 ?_;refine AW.range (S:=List UInt8) (fun s=>[(4,.string (strB s))]) (fun _=>own) (fun j s G=>s=nameF key (l.take j)) n [] Z Z Z Z Z Z Z Z Z zo Z Z (fun _=>rfl) (fun _=>rfl) sM oR Z ?_ ?_
 ·intro j s F1 hF1 hj hP;have hl1:=hl.mono hF1;have hi1:=hF1 _ _ hi6;have ht:=htot j;refine zB4 ?_;refine WT.idxL hT hl1 Z Z Z Z Z Z Z Z Z zo (fun x hxj b1 off ro1 cs lx hb1 hp1 hrel=>?_);obtain rfl:lx=_:=hrel;have hxm:=gM hxj;have hxl:=hlen x hxm;refine zB4 ?_;refine WT.allocT hT Z Z Z Z Z Z (fun i9 hi9=>?_);refine zB4 ?_;refine WT.callC (first:=[]) (args:=[.agg ⟨[.int .i64 x.item.rule,.int .i64 x.item.dot,.int .u32 x.set]⟩]) (capt:=[]) hgk hbk Z Z Z Z Z Z Z (hkey x hxm F1 hF1) (fun v hv=>?_)
  exact shE8
 ·intro s F1 hF1 hP;rw[List.take_of_length_le zo] at hP;refine zB4 ?_;exact AW.ret ⟨_,[],⟨_,_,rfl,rfl,rfl⟩,zsb,rfl,by rw[hP];rfl⟩
structure NmOK where
 i:Nat
 sts:List (List Look)
 rows:List (List Int)
 sa:Option Addr
 sn:Nat
 sc:Nat
 SB:List (Nat×Blk)
 ta:Option Addr
 tn:Nat
 tc:Nat
 TB:List (Nat×Blk)
 es:Ents (List UInt8)
structure NmRK where
 sts:List (List Look)
 row:List Int
 sa:Option Addr
 sn:Nat
 sc:Nat
 SB:List (Nat×Blk)
 ra:Option Addr
 rn:Nat
 rc:Nat
 RB:List (Nat×Blk)
 es:Ents (List UInt8)
namespace NK
abbrev zzIK0:=NmOK
abbrev zzIK1:=NmRK
abbrev zzIK2:=Tryz.func40
abbrev zzIK3:=Tryz.func64
abbrev zzIK4:=@nameK_spec
abbrev zzIK5:=tLook
end NK
open NK in
theorem numberK_spec(F:Frz)(g:Gram)(hg:Valid g){ga:Option Addr}{gm gc:Nat}{b:Option Addr}{n d:Nat}{st0:List Look}(h0:Arr tLook F b n d st0)
  {fk fx:Nat} {fnk fnx:Func} {firstx captx:List Value} (hgk:CC.func fk=some fnk) (hbk:fnk.body.isSome=true) (hgx:CC.func fx=some fnx) (hbx:fnx.body.isSome=true)
  (key:Look→List UInt8) (nx:List Look→Sym→Option (List Look)) (P:List Look→Prop) (okx:Look→Prop)
  (hP0:P st0) (hPl:∀s,P s→s.length≤1000∧∀x∈s,okx x) (hinj:∀s s',P s→P s'→nameF key s=nameF key s'→s=s') (hnP:∀s y s',P s→nx s y=some s'→P s')
  (hlen:∀x,okx x→(key x).length≤20) (hkey:∀x,okx x→∀G,Frz.le F G→Abs.Spec CC fk [.agg ⟨[.int .i64 x.item.rule,.int .i64 x.item.dot,.int .u32 x.set]⟩] G [] fun _ v o=>o=[]∧v=.string (strB (key x)))
  (hnext:∀G,Frz.le F G→∀(a:Option Addr) (m c:Nat) (s:List Look) (y:Sym),P s→Arr tLook G a m c s→SymOk g.terms g.nons y→
   Abs.Spec CC fx (firstx++[.slice a m c,.agg ⟨[.bool y.term,.int .i64 y.n]⟩]++captx) G [] fun G' v o=>o=[]∧∃a' n' c' z s',v=.tuple ⟨[.slice a' n' c',.bool z]⟩∧Arr tLook G' a' n' c' s'∧nx s y=if z=true then some s' else none) :
  Abs.Spec CC 40 [.agg ⟨gramCells g ga gm gc⟩,.slice b n d,.func (.func fk) ⟨[]⟩ ⟨[]⟩,.func (.func fx) ⟨firstx⟩ ⟨captx⟩] F [] fun F' v o=>o=[]∧
   ((numF 400 (fun s=>(symsL g).map (nx s)) 401 0 [st0] []=none∧v=.tuple ⟨[.slice none 0 0,.slice none 0 0,.bool false]⟩)∨
    ∃S rows a1 n1 c1 a2 n2 c2,numF 400 (fun s=>(symsL g).map (nx s)) 401 0 [st0] []=some (S,rows)∧v=.tuple ⟨[.slice a1 n1 c1,.slice a2 n2 c2,.bool true]⟩∧Arr (tList tLook) F' a1 n1 c1 S∧Arr (tList tInt) F' a2 n2 c2 rows):=shIKnumber_spec
theorem intClone_spec(F:Frz){a:Option Addr}{m c:Nat}{xs:List Int}(hx:Arr tInt F a m c xs)(hm:m≤1000000) :
  Abs.Spec CC 48 [.slice a m c] F [] fun F' v o=>∃B',o=[B']∧∃a' c',v=.slice a' m c'∧Vec tInt F' a' m c' B' xs:=by
 refine Abs.Spec.fn (n:=8) Tryz.func48 rfl rfl fun own=>?_;refine zB4 ?_;refine WT.sliceNil hT Z Z Z Z Z Z Z Z ?_;refine zB4 ?_;refine AW.cond Z (fun h=>?_) (fun h=>?_)
 ·exact shE9
 ·refine zB4 ?_;refine WT.buildT hT Z Z Z Z Z Z Z Z Z Z Z Z Z Z (fun i5 hi5=>?_);refine zB4 ?_;obtain⟨ds,hds,hcs⟩:=news_arr hT hx (t:=22) rfl rfl 3;refine WT.appendE hT Z Z Z Z Z Z Z Z Z Z Z Z (fun h0 s0=>hds _ h0 s0) hcs hx.len (by decide) zom (fun a' c' B' hB' _=>?_);refine zB4 ?_;refine AW.le (OwnLe.cons _ (OwnLe.skip _ oR)) ?_;exact AW.ret ⟨_,[_],⟨_,_,rfl,rfl,rfl⟩,zsb,_,rfl,_,_,rfl,hB'⟩
def PK(g:Gram)(st:List Look):Prop:=st.length≤1000∧∀x∈st,OkLr g x.item∧x.set<2 ^ (g.terms+1)
theorem closeK_PK{g:Gram}(hg:Valid g)(l:List Look):PK g (closeK g l):=by
 refine⟨?_,fun x hx=>⟨?_,closeK_small x hx⟩⟩
 ·have:=(closL_PI hg (itemsK l)).1;rw[←closeK_items] at this;unfold itemsK at this
  rwa [List.length_map] at this
 ·have:x.item∈itemsK (closeK g l):=List.mem_map.2 ⟨x,hx,rfl⟩;rw[closeK_items] at this;exact closL_ok _ this
theorem nextK_PK{g:Gram}(hg:Valid g){s:List Look}{y:Sym}{s':List Look}(h:nextK g s y=some s'):PK g s':=by
 unfold nextK at h;split at h
 ·cases h
 ·obtain rfl:=Option.some.inj h;exact closeK_PK hg _
theorem autoI_PI{g:Gram}(hg:Valid g){I:List (List Lr)}{rows:List (List Int)}(h:autoI g=some (I,rows)):∀st∈I,PI g st:=fun st hst=>by
 obtain⟨k,hk⟩:=List.getElem?_of_mem hst
 exact(autoI_ok h).2.all (P:=PI g) (closL_PI hg _) (fun st s _ hs=>by
  obtain⟨y,_,hy⟩:=List.mem_map.1 hs;split at hy
  ·cases hy
  ·obtain rfl:=Option.some.inj hy;exact closL_PI hg _) k st hk
theorem statesF_PK{g:Gram}(hg:Valid g){method:Nat}{S:List (List Look)}{rows:List (List Int)}(h:statesF g method=some (S,rows)):∀st∈S,PK g st:=by
 intro st hst;obtain⟨k,hk⟩:=List.getElem?_of_mem hst;unfold statesF at h;split at h
 ·exact(autoK_ok h).2.all (P:=PK g) (closeK_PK hg _) (fun st s _ hs=>by
   obtain⟨y,_,hy⟩:=List.mem_map.1 hs;exact nextK_PK hg (s:=st) (y:=y) hy) k st hk
 ·cases hA:autoI g with
  | none=>rw[hA] at h;cases h
  | some a=>
   obtain⟨I,rows0⟩:=a;rw[hA] at h;have e:=Option.some.inj h;simp only[Prod.mk.injEq] at e;obtain⟨rfl,rfl⟩:=e;rw[lookS_at] at hk;cases hI:I[k]? with
   | none=>rw[hI] at hk;cases hk
   | some st0=>
    rw[hI] at hk;obtain rfl:=Option.some.inj hk;obtain⟨h1,h2⟩:=autoI_PI hg hA st0 (gM hI);refine⟨by simpa using h1,fun x hx=>?_⟩;obtain⟨z,hz,rfl⟩:=List.mem_map.1 hx;exact⟨h2 z hz,maskOf_lt _ _⟩
structure AlS where
 a:Option Addr
 m:Nat
 c:Nat
 B:List (Nat×Blk)
 a2:Option Addr
 m2:Nat
 c2:Nat
 B2:List (Nat×Blk)
theorem autoK_few{g:Gram}{method:Nat}{S:List (List Look)}{rows:List (List Int)}(h:statesF g method=some (S,rows)):S.length≤400:=by
 unfold statesF at h;split at h
 ·exact(autoK_ok h).2.few
 ·cases hA:autoI g with
  | none=>rw[hA] at h;cases h
  | some a=>
   obtain⟨I,rows0⟩:=a;rw[hA] at h;have e:=Option.some.inj h;simp only[Prod.mk.injEq] at e;obtain⟨rfl,rfl⟩:=e;have:=(autoI_ok hA).2.few;have e2:=congrArg List.length (lookS_items (g:=g) (I:=I) (la:=if method=1 then fun _=>FolA g else LalA g I rows0));rw[List.length_map] at e2;rw[e2];exact this
theorem shE1{p:Prop} (h:p:=by
 intro j s F8 hF8 hj hP;obtain⟨hb,hb2⟩:=hP;have hS8:=hS.mono hF8;have hRw8:=hRw.mono hF8;have hr8:=hrG.mono hF8;have hi8:=hF8 _ _ hiG;have hal:(allF g S rows).length=S.length:=by unfold allF;simp
 have hbl:=hb.len;have hbl2:=hb2.len;rw[List.length_take] at hbl;rw[List.length_take,List.length_map] at hbl2;refine zC4 ?_;refine WT.idxL hT hS8 Z Z Z Z Z Z Z Z Z zo (fun st hsj b1 off1 ro1 cs1 lx1 hb1 hp1 hrel1=>?_);obtain⟨sa,sn,sc,rfl,hsta⟩:=hrel1;have hsl:=hsta.len;obtain⟨hP1,hP2⟩:=hSP st (gM hsj);refine zC4 ?_;refine AW.draw (ps:=[(14,7),(14,8),(14,9),(16,7),(16,8),(16,9),(17,7),(17,8),(17,9)]) Z Z ?_;refine zC4 ?_;refine WT.idxL hT hRw8 Z Z Z Z Z Z Z Z Z zo (fun row hrj b3 off3 ro3 cs3 lx3 hb3 hp3 hrel3=>?_);obtain⟨ra,rn,rc,rfl,hrow⟩:=hrel3;have hrowl:=hrow.len
 have hrow2:row.length=g.terms+g.nons:=hAC.row j (itemsK st) row (by rw[List.getElem?_map,hsj];rfl) hrj;refine zC4 ?_;have hac:=actions_spec F8 g hg hr8 hsta zo hP2 hrow zo;unfold gramCells at hac;refine WT.callF0 Tryz.func47 Z Z Z Z Z Z hac (fun F9 v hF9 hv=>?_);obtain⟨xa,xn,xc,rfl,hx⟩:=hv;have hall:(allF g S rows).take (j+1)=(allF g S rows).take j++[(List.range (g.terms+1)).map fun t=>actsF g st row t]:=by
  have e:(allF g S rows)[j]?=some ((List.range (g.terms+1)).map fun t=>actsF g st row t):=by
   unfold allF;rw[map_at (List.getElem?_range (show j<S.length by omega)),getD_some hsj,getD_some hrj]
  rw[List.take_add_one,e];rfl
 have hrw:(rows.map (·.drop g.terms)).take (j+1)=(rows.map (·.drop g.terms)).take j++[row.drop g.terms]:=by
  rw[List.take_add_one,map_at hrj];rfl
 refine WT.buildT hT Z Z Z Z Z Z Z Z Z Z Z Z Z Z (fun i33 hi33=>?_);refine WT.appendT (R:=tList (tList tAct)) (ys:=[(List.range (g.terms+1)).map fun t=>actsF g st row t]) hT 1 (hb.mono hF9) Z (fun _=>rfl) Z Z Z Z Z Z Z Z Z Z Z (fun h0 s0=>news_own hT s0 0 Z Z Z Z) (Cells.single (R:=tList (tList tAct)) (x:=(List.range (g.terms+1)).map fun t=>actsF g st row t) ⟨_,_,_,rfl,hx⟩) Z (by decide) zom (fun a3 c3 B3 hB3=>?_);refine zC4 ?_;obtain⟨b4,off4,ro4,cs4,lx4,hba,hb4,hp4,hrel4⟩:=hRw8.el j row hrj;obtain⟨ra',rn',rc',rfl,hrow'⟩:=hrel4;have hrow':=hrow'.mono hF9;have hb49:=hF9 _ _ hb4;subst hba
 refine WT.idxA (j:=j) (s:=1) hT Z Z Z Z Z Z Z Z Z zo ?_;have hrowl':=hrow'.len;have hi9:=hF9 _ _ hi8;refine zC4 ?_;obtain⟨qa,qc,hrs2,hqa⟩:=hrow'.slice (C:=CC) (lo:=g.terms) (hi:=rn') zo (Nat.le_refl _) hT (t:=22) Z Z Z (some (.int .i64 ((g.terms:Nat):Int))) none (by simp[boundA]) rfl;refine WT.slice Z Z Z Z Z Z Z Z hrs2 ?_;rw[List.take_of_length_le zo] at hqa;refine WT.callN Tryz.func48 Z Z Z Z Z Z (intClone_spec F9 hqa zo) (fun F10 v B10 hF10 hv=>?_);obtain⟨ca,cc,rfl,hv⟩:=hv;refine WT.freezeAll 0 Z Z (fun F11 hF11 hB11=>?_);have hcl:=hv.arr hF11 hB11;have hrl2:rows.length≤400:=by omega
 refine WT.buildT hT Z Z Z Z Z Z Z Z Z Z Z Z Z Z (fun i34 hi34=>?_);refine WT.appendT (R:=tList tInt) (ys:=[row.drop g.terms]) hT 4 (((hb2.mono hF9).mono hF10).mono hF11) Z (fun _=>rfl) Z Z Z Z Z Z Z Z Z Z Z (fun h0 s0=>news_own hT s0 0 Z Z Z Z) (Cells.single (R:=tList tInt) (x:=row.drop g.terms) ⟨_,_,_,rfl,hcl⟩) Z (by decide) zom (fun a5 c5 B5 hB5=>?_);refine zC4 ?_;refine⟨zrC,?_⟩;refine⟨⟨a3,s.m+1,c3,B3,a5,s.m2+1,c5,B5⟩,sM,zow,?_,?_⟩
 ·dsimp only;rw[hall];exact(hB3.mono hF10).mono hF11
 ·dsimp only;rw[hrw];exact hB5):p:=h
theorem shE4{p:Prop} (h:p:=by
 have hSR:=statesF_ok hg hst;have hSP:=statesF_PK hg hst;have hSf:=autoK_few hst;have hAC:=hSR.1;have hRl:=hRw.len;have hSl:=hS.len;have hrs:rows.length=S.length:=by have:=hAC.len;rwa [List.length_map] at this
 refine zC4 ?_;refine AW.range (S:=AlS) (fun s=>[(14,.slice s.a s.m s.c),(15,.slice s.a2 s.m2 s.c2)]) (fun s=>s.B::s.B2::[(i12,.cells false [.slice b1 m1 d1,.slice b2 m2 d2])]::[]::own) (fun j s G=>Bld (tList (tList tAct)) G s.a s.m s.c s.B ((allF g S rows).take j)∧Bld (tList tInt) G s.a2 s.m2 s.c2 s.B2 ((rows.map (·.drop g.terms)).take j)) n1 ⟨none,0,0,[],none,0,0,[]⟩
  Z Z Z Z Z Z Z Z Z zo rfl rfl (fun _=>rfl) (fun _=>rfl) sM (OwnLe.flat (List.Perm.refl _)) ⟨Bld.nil_ _ _,Bld.nil_ _ _⟩ ?_ ?_
 ·exact shE1
 ·intro s F8 hF8 hP;obtain⟨hb,hb2⟩:=hP;have hal:(allF g S rows).length=S.length:=by unfold allF;simp
  rw[List.take_of_length_le zo] at hb;rw[List.take_of_length_le (by rw[List.length_map];omega)] at hb2;refine AW.freezeAll 0 Z Z (fun F9 hF9 hB9=>?_);have h1:=hb.frozen hF9 hB9;refine AW.freezeAll 1 Z Z (fun F10 hF10 hB10=>?_);have h2:=(hb2.mono hF9).frozen hF10 hB10;refine zC4 ?_;exact AW.ret ⟨_,[],⟨_,_,rfl,⟨_,_,rfl,⟨_,_,rfl,rfl,rfl⟩,rfl⟩,rfl⟩,zsb,rfl,.inr ⟨S,rows,_,_,_,_,_,_,hst,rfl,h1.mono hF10,h2⟩⟩):p:=h
theorem all_spec(F:Frz)(g:Gram)(hg:Valid g)(ht5:g.terms≤5)(method:Nat)(hm:method=1∨method=2∨method=3){a:Option Addr}{m c:Nat}(hr:Arr tRule F a m c g.rules) :
  Abs.Spec CC 20 [.agg ⟨gramCells g a m c⟩,.int .i64 method] F [] fun F' v o=>o=[]∧((statesF g method=none∧v=.tuple ⟨[.slice none 0 0,.slice none 0 0,.int .i64 2]⟩)∨
   ∃S rows a1 n1 c1 a2 n2 c2,statesF g method=some (S,rows)∧v=.tuple ⟨[.slice a1 n1 c1,.slice a2 n2 c2,.int .i64 0]⟩∧Arr (tList (tList tAct)) F' a1 n1 c1 (allF g S rows)∧Arr (tList tInt) F' a2 n2 c2 (rows.map (·.drop g.terms))):=by
 have hgr:=hg.range.rules;have hgt:=hg.range.terms;have hgn:=hg.range.nons;have hrl:=hr.len;have hp:=pow_small hg.range.terms.2;have hp6:2 ^ (g.terms+1)≤64:=Nat.le_trans (Nat.pow_le_pow_right (by decide) (show g.terms+1≤6 by omega)) (by decide);have okK:∀{x:Look},(OkLr g x.item∧x.set<2 ^ (g.terms+1))→(x.item.rule<100∧x.item.dot<100)∧x.set<100:=fun h=>⟨okI hg h.1,by omega⟩;refine Abs.Spec.fn (n:=98) Tryz.func20 rfl rfl fun own=>?_;refine AW.seq (AW.reg ?_);refine WT.boxT Z Z Z Z Z Z (fun i2 hi2=>?_);refine WT.freezeAll 0 Z Z (fun F0 hF0 hB0=>?_);have hi2:=hB0 i2 _ me;have hr:=hr.mono hF0
 unfold gramCells at hi2 ⊢;refine zC4 ?_;have hck:=check_spec F0 g hg.range hr;unfold gramCells at hck;refine WT.callV Tryz.func32 Z Z Z Z Z Z hck (fun v hv=>?_);rw[hg.no_err] at hv;subst hv;refine zC4 ?_;refine AW.cond Z (fun h=>(by cases h)) (fun _=>?_);rcases hm with rfl | rfl | rfl
 ·refine zC4 ?_;refine AW.cond Z (fun h=>(by cases h)) (fun _=>?_);refine zC4 ?_;have hmk:=newMaker_spec F0 g hg hr;unfold gramCells at hmk;refine WT.callF0 Tryz.func39 Z Z Z Z Z Z hmk (fun F1 v hF1 hv=>?_);obtain⟨im,E,Fi,is,eb,ee,rfl,hM⟩:=hv;have hr1:=hr.mono hF1;have hi21:=hF1 _ _ hi2;refine zC4 ?_;refine AW.cond Z (fun h=>(by cases h)) (fun _=>?_);refine zC4 ?_;have hof:=itemsOf2_spec F1 g hg hr1;unfold gramCells at hof;refine WT.callF0 Tryz.func44 Z Z Z Z Z Z hof (fun F2 v hF2 hv=>?_);have hM2:=hM.mono hF2;rcases hv with ⟨hA,rfl⟩ | ⟨I,rows,b1,m1,d1,b2,m2,d2,hA,rfl,hI,hRw⟩
  ·have hst:statesF g 1=none:=by unfold statesF;rw[if_neg (by decide),hA];rfl
   refine zC4 ?_;refine WT.allocT hT Z Z Z Z Z Z (fun i12 hi12=>?_);refine zC4 ?_;refine AW.cond Z (fun _=>?_) (fun h=>(by cases h));refine zC4 ?_;exact AW.ret ⟨_,[],⟨_,_,rfl,⟨_,_,rfl,⟨_,_,rfl,rfl,rfl⟩,rfl⟩,rfl⟩,zsb,rfl,.inl ⟨hst,rfl⟩⟩
  ·refine zC4 ?_;refine WT.allocT hT Z Z Z Z Z Z (fun i12 hi12=>?_);refine zC4 ?_;refine AW.cond Z (fun h=>(by cases h)) (fun _=>?_);refine zC4 ?_;have hIf:=(autoI_ok hA).2.few;have hIl:=hI.len;refine WT.callF0 Tryz.func45 Z Z Z Z Z Z (slr_spec F2 g hg hM2 (a2:=b2) (n2:=m2) (c2:=d2) hI zo (autoI_PI hg hA)) (fun F3 v hF3 hv=>?_);obtain⟨a1,n1,c1,rfl,hS⟩:=hv;refine zC4 ?_;refine AW.cond Z (fun h=>(by cases h)) (fun _=>?_);have hst:statesF g 1=some (lookS g I (fun _=>FolA g),rows):=by unfold statesF;rw[if_neg (by decide),hA];rfl
   generalize lookS g I (fun _=>FolA g)=S at hS hst;have hRw:=hRw.mono hF3;have hrG:=(hr1.mono hF2).mono hF3;have hiG:=hF3 _ _ (hF2 _ _ hi21);exact shE4
 ·refine zC4 ?_;refine AW.cond Z (fun h=>(by cases h)) (fun _=>?_);refine zC4 ?_;have hmk:=newMaker_spec F0 g hg hr;unfold gramCells at hmk;refine WT.callF0 Tryz.func39 Z Z Z Z Z Z hmk (fun F1 v hF1 hv=>?_);obtain⟨im,E,Fi,is,eb,ee,rfl,hM⟩:=hv;have hr1:=hr.mono hF1;have hi21:=hF1 _ _ hi2;refine zC4 ?_;refine AW.cond Z (fun h=>(by cases h)) (fun _=>?_);refine zC4 ?_;have hof:=itemsOf2_spec F1 g hg hr1;unfold gramCells at hof;refine WT.callF0 Tryz.func44 Z Z Z Z Z Z hof (fun F2 v hF2 hv=>?_);have hM2:=hM.mono hF2;rcases hv with ⟨hA,rfl⟩ | ⟨I,rows,b1,m1,d1,b2,m2,d2,hA,rfl,hI,hRw⟩
  ·have hst:statesF g 2=none:=by unfold statesF;rw[if_neg (by decide),hA];rfl
   refine zC4 ?_;refine WT.allocT hT Z Z Z Z Z Z (fun i12 hi12=>?_);refine zC4 ?_;refine AW.cond Z (fun _=>?_) (fun h=>(by cases h));refine zC4 ?_;exact AW.ret ⟨_,[],⟨_,_,rfl,⟨_,_,rfl,⟨_,_,rfl,rfl,rfl⟩,rfl⟩,rfl⟩,zsb,rfl,.inl ⟨hst,rfl⟩⟩
  ·refine zC4 ?_;refine WT.allocT hT Z Z Z Z Z Z (fun i12 hi12=>?_);refine zC4 ?_;refine AW.cond Z (fun h=>(by cases h)) (fun _=>?_);refine zC4 ?_;have hIf:=(autoI_ok hA).2.few;have hIl:=hI.len;refine WT.callF0 Tryz.func45 Z Z Z Z Z Z (slr_spec F2 g hg hM2 (a2:=b2) (n2:=m2) (c2:=d2) hI zo (autoI_PI hg hA)) (fun F3 v hF3 hv=>?_);obtain⟨a1,n1,c1,rfl,hS⟩:=hv;refine zC4 ?_;refine AW.cond Z (fun _=>?_) (fun h=>(by cases h));refine zC4 ?_;refine WT.callF0 Tryz.func46 Z Z Z Z Z Z (lalr_spec F3 g hg (hM2.mono hF3) hA (hI.mono hF3) (hRw.mono hF3)) (fun F4 v hF4 hv=>?_);clear hS
   obtain⟨a1,n1,c1,rfl,hS⟩:=hv;have hst:statesF g 2=some (lookS g I (LalA g I rows),rows):=by unfold statesF;rw[if_neg (by decide),hA];rfl
   generalize lookS g I (LalA g I rows)=S at hS hst;have hRw:=(hRw.mono hF3).mono hF4;have hrG:=((hr1.mono hF2).mono hF3).mono hF4;have hiG:=hF4 _ _ (hF3 _ _ (hF2 _ _ hi21));exact shE4
 ·refine zC4 ?_;refine AW.cond Z (fun h=>(by cases h)) (fun _=>?_);refine zC4 ?_;have hmk:=newMaker_spec F0 g hg hr;unfold gramCells at hmk;refine WT.callF0 Tryz.func39 Z Z Z Z Z Z hmk (fun F1 v hF1 hv=>?_);obtain⟨im,E,Fi,is,eb,ee,rfl,hM⟩:=hv;have hr1:=hr.mono hF1;have hi21:=hF1 _ _ hi2;refine zC4 ?_;refine AW.cond Z (fun _=>?_) (fun h=>(by cases h));refine zC4 ?_;refine AW.draw (ps:=[(0,2)]) Z Z ?_;refine zC4 ?_;refine WT.callF0 Tryz.func41 Z Z Z Z Z Z (startK_spec F1 g hg hM) (fun F2 v hF2 hv=>?_);obtain⟨fa,fn,fc,rfl,hfk⟩:=hv;have hM2:=hM.mono hF2;refine zC4 ?_
  have hnm:=numberK_spec F2 g hg (ga:=a) (gm:=m) (gc:=c) hfk (fk:=42) (fx:=43) (firstx:=[.pointer (some ⟨im,0,none⟩)]) (captx:=[]) Tryz.func42 rfl Tryz.func43 rfl
   keyLk (nextK g) (PK g) (fun x=>(x.item.rule<100∧x.item.dot<100)∧x.set<100) (closeK_PK hg _) (fun s hs=>⟨hs.1,fun x hx=>okK (hs.2 x hx)⟩)
   (fun s s' hs hs' e=>nameK_inj (fun x hx=>okK (hs.2 x hx)) (fun x hx=>okK (hs'.2 x hx)) e)
   (fun s y s' _ e=>nextK_PK hg e)
   (fun x _=>by have:=keyLk_len x;omega) (fun x hx G _=>keyLk_spec G x hx.1 hx.2)
   (fun G hG a' m' c' s y hs hA hy=>after_spec G g hg (hM2.mono hG) hA (hA.len▸hs.1) hs.2 y)
  unfold gramCells at hnm;refine WT.callF0 Tryz.func40 Z Z Z Z Z Z hnm (fun F3 v hF3 hv=>?_);rcases hv with ⟨hno,rfl⟩ | ⟨S,rows,a1,n1,c1,b2,m2,d2,hyes,rfl,hS,hRw⟩
  ·have hst:statesF g 3=none:=hno;refine zC4 ?_;refine⟨zrC,?_⟩;refine zC4 ?_;refine AW.cond Z (fun _=>?_) (fun h=>(by cases h));refine zC4 ?_;exact AW.ret ⟨_,[],⟨_,_,rfl,⟨_,_,rfl,⟨_,_,rfl,rfl,rfl⟩,rfl⟩,rfl⟩,zsb,rfl,.inl ⟨hst,rfl⟩⟩
  ·have hst:statesF g 3=some (S,rows):=hyes;refine zC4 ?_;refine⟨zrC,?_⟩;refine zC4 ?_;refine AW.cond Z (fun h=>(by cases h)) (fun _=>?_);have hrG:=(hr1.mono hF2).mono hF3;have hiG:=hF3 _ _ (hF2 _ _ hi21);have hSR:=statesF_ok hg hst;have hSP:=statesF_PK hg hst;have hSf:=autoK_few hst;have hAC:=hSR.1;have hRl:=hRw.len;have hSl:=hS.len;have hrs:rows.length=S.length:=by have:=hAC.len;rwa [List.length_map] at this
   refine zC4 ?_;refine AW.range (S:=AlS) (fun s=>[(14,.slice s.a s.m s.c),(15,.slice s.a2 s.m2 s.c2)]) (fun s=>s.B::s.B2::[]::own) (fun j s G=>Bld (tList (tList tAct)) G s.a s.m s.c s.B ((allF g S rows).take j)∧Bld (tList tInt) G s.a2 s.m2 s.c2 s.B2 ((rows.map (·.drop g.terms)).take j)) n1 ⟨none,0,0,[],none,0,0,[]⟩
    Z Z Z Z Z Z Z Z Z zo rfl rfl (fun _=>rfl) (fun _=>rfl) sM (OwnLe.flat (List.Perm.refl _)) ⟨Bld.nil_ _ _,Bld.nil_ _ _⟩ ?_ ?_
   ·exact shE1
   ·intro s F8 hF8 hP;obtain⟨hb,hb2⟩:=hP;have hal:(allF g S rows).length=S.length:=by unfold allF;simp
    rw[List.take_of_length_le zo] at hb;rw[List.take_of_length_le (by rw[List.length_map];omega)] at hb2;refine AW.freezeAll 0 Z Z (fun F9 hF9 hB9=>?_);have h1:=hb.frozen hF9 hB9;refine AW.freezeAll 1 Z Z (fun F10 hF10 hB10=>?_);have h2:=(hb2.mono hF9).frozen hF10 hB10;refine zC4 ?_;exact AW.ret ⟨_,[],⟨_,_,rfl,⟨_,_,rfl,⟨_,_,rfl,rfl,rfl⟩,rfl⟩,rfl⟩,zsb,rfl,.inr ⟨S,rows,_,_,_,_,_,_,hst,rfl,h1.mono hF10,h2⟩⟩
end Go.Proofs.D