/-
  Walks: what functions of the program do, over the abstract machine.
-/
import Derived.Test.YtebndojjghnhoaaGreatDoorWk3
set_option linter.unusedVariables false
set_option maxRecDepth 20000
set_option maxHeartbeats 0
open Go Go.Abs Go.Proofs Go.Proofs.D
namespace Go.Proofs.D
structure FwI(g:Gram)(Fo:List (List Bool)):Prop where
 tab:TabOk g.nons (g.terms+1) Fo
 snd:∀n t,(Fo.getD n []).getD t false=true→Fol g n t
 start:(Fo.getD g.start []).getD g.terms false=true
def SymCl(g:Gram)(Fo:List (List Bool))(r:Rule)(i:Nat):Prop:=∀n,r.right[i]?=some ⟨false,n⟩→(∀t,BegL g (r.right.drop (i+1)) t→(Fo.getD n []).getD t false=true)∧(NulL g (r.right.drop (i+1))→∀t,(Fo.getD r.left []).getD t false=true→(Fo.getD n []).getD t false=true)
theorem getD_setN{α:Type}{l:List α}{n k:Nat}{x d:α}(hn:n<l.length):(l.set n x).getD k d=if k=n then x else l.getD k d:=by
 rw[List.getD_eq_getElem?_getD,List.getElem?_set];by_cases h:n=k
 ·subst h;rw[if_pos rfl,if_pos hn,if_pos rfl];rfl
 ·rw[if_neg h,if_neg (fun e=>h e.symm),List.getD_eq_getElem?_getD]
theorem FwI.row{g:Gram}{Fo:List (List Bool)}(h:FwI g Fo){n:Nat}(hn:n<g.nons):(Fo.getD n []).length=g.terms+1:=by
 have:=gE (show n<Fo.length by rw[h.tab.size];exact hn);rw[List.getD_eq_getElem?_getD,this];exact h.tab.row _ (List.getElem_mem _)
theorem FwI.or{g:Gram}{Fo:List (List Bool)}(h:FwI g Fo){n:Nat}(hn:n<g.nons){zs:List Bool}(hz:zs.length=g.terms+1)(hs:∀t,zs.getD t false=true→Fol g n t):FwI g (Fo.set n (orRow (Fo.getD n []) zs)):=by
 have hl:=h.row hn;have hn2:n<Fo.length:=by rw[h.tab.size];exact hn
 refine⟨h.tab.setRow _ (by rw[orRow_len zo];exact hl),fun k t ht=>?_,?_⟩
 ·rw[getD_setN hn2] at ht;split at ht
  ·rename_i e;subst e;rcases orRow_get ht with h1 | h1
   ·exact h.snd _ _ h1
   ·exact hs t h1
  ·exact h.snd _ _ ht
 ·rw[getD_setN hn2];split
  ·rename_i e;rw[←e];exact orRow_left (by rw[h.row (by rw[e];exact hn)];exact hz.symm) (.inl h.start)
  ·exact h.start
theorem FwI.grow{g:Gram}{Fo:List (List Bool)}(h:FwI g Fo){n:Nat}(hn:n<g.nons){zs:List Bool}(hz:zs.length=g.terms+1):onesT Fo≤onesT (Fo.set n (orRow (Fo.getD n []) zs))∧(orRow (Fo.getD n []) zs≠Fo.getD n []→onesT Fo<onesT (Fo.set n (orRow (Fo.getD n []) zs))):=by
 have hl:=h.row hn;have hn2:n<Fo.length:=by rw[h.tab.size];exact hn
 have h0:Fo[n]?=some (Fo.getD n []):=by rw[List.getD_eq_getElem?_getD,gE hn2];rfl
 have h1:=onesT_set (row':=orRow (Fo.getD n []) zs) h0;have h2:=ones_or (xs:=Fo.getD n []) (ys:=zs) zo;exact⟨by have:=h2.1;omega,fun hne=>by have:=h2.2 hne;omega⟩
theorem set_getD{Fo:List (List Bool)}{n:Nat}(hn:n<Fo.length):Fo.set n (Fo.getD n [])=Fo:=by
 apply List.ext_getElem?;intro i;by_cases hi:i=n
 ·subst hi;rw[List.getElem?_set_self hn,List.getD_eq_getElem?_getD,gE hn];rfl
 ·rw[List.getElem?_set_ne zo]
theorem or_same{xs zs:List Bool}(hl:xs.length=zs.length)(h:orRow xs zs=xs){t:Nat}(ht:zs.getD t false=true):xs.getD t false=true:=by
 rw[←h];exact orRow_left hl (.inr ht)
structure FolF(g:Gram)(Fo:List (List Bool)):Prop where
 tab:TabOk g.nons (g.terms+1) Fo
 at_:∀n t,(Fo.getD n []).getD t false=true↔Fol g n t
theorem FolF.of{g:Gram}{Fo:List (List Bool)}(h:FwI g Fo)(hc:∀r∈g.rules,Rch g r.left→∀j,SymCl g Fo r j):FolF g Fo:=by
 have hat:∀{r:Rule} {pre post:List Sym} {m:Nat},r.right=pre++⟨false,m⟩::post→r.right[pre.length]?=some ⟨false,m⟩∧r.right.drop (pre.length+1)=post:=fun {r pre post m} e=>by
  rw[e];refine⟨by rw[List.getElem?_append_right (Nat.le_refl _),Nat.sub_self];rfl,?_⟩;rw[show pre++⟨false,m⟩::post=(pre++[⟨false,m⟩])++post by simp,List.drop_left' (by simp)]
 refine⟨h.tab,fun n t=>⟨h.snd n t,fun hf=>?_⟩⟩
 induction hf with
 | start=>exact h.start
 | beg h1 h2 h3 h4=>
  obtain⟨q1,q2⟩:=hat h3;exact(hc _ h1 h2 _ _ q1).1 _ (by rw[q2];exact h4)
 | pass h1 h2 h3 h4 _ ih=>
  obtain⟨q1,q2⟩:=hat h3;exact(hc _ h1 h2 _ _ q1).2 (by rw[q2];exact h4) _ ih
structure FwS where
 Fo:List (List Bool)
 bs:List (Nat×Blk)
 again:Bool
theorem FwI.step{g:Gram}{t0 u v:FwS}{r:Rule}{i n:Nat}(hr:r∈g.rules)(hR:Rch g r.left)(hlr:r.left<g.nons)(hx:r.right[i]?=some ⟨false,n⟩)(hn:n<g.nons)(hv:FwI g v.Fo)
  (hT:v.again=true→onesT t0.Fo<onesT v.Fo) (hut:u.again=false→u.Fo=t0.Fo) (hC:v.again=false→u.again=false∧v.Fo=u.Fo∧∀j<i,SymCl g u.Fo r j)
  {row:List Bool} {emp:Bool} (hrl:row.length=g.terms) (hb:∀t,row.getD t false=true↔BegL g (r.right.drop (i+1)) t) (he:emp=true↔NulL g (r.right.drop (i+1)))
  {Fo1 Fo2:List (List Bool)} (h1:Fo1=v.Fo.set n (orRow (v.Fo.getD n []) (padF (g.terms+1) row)))
  (h2:Fo2=if emp=true then Fo1.set n (orRow (Fo1.getD n []) (Fo1.getD r.left [])) else Fo1) {ag:Bool}
  (ha1:v.again=true→ag=true) (ha2:orRow (v.Fo.getD n []) (padF (g.terms+1) row)≠v.Fo.getD n []→ag=true) (ha3:emp=true→orRow (Fo1.getD n []) (Fo1.getD r.left [])≠Fo1.getD n []→ag=true)
  (ha4:ag=true→v.again=true∨orRow (v.Fo.getD n []) (padF (g.terms+1) row)≠v.Fo.getD n []∨(emp=true∧orRow (Fo1.getD n []) (Fo1.getD r.left [])≠Fo1.getD n [])) :
  FwI g Fo2∧(ag=true→onesT t0.Fo<onesT Fo2)∧(ag=false→u.again=false∧Fo2=u.Fo∧∀j<i+1,SymCl g u.Fo r j):=by
 have hsp:r.right=r.right.take i++⟨false,n⟩::r.right.drop (i+1):=by
  have h3:=(gS hx);obtain⟨h4,h5⟩:=h3;rw[←h5,List.getElem_cons_drop h4,List.take_append_drop]
 have hpl:(padF (g.terms+1) row).length=g.terms+1:=padF_len zo;have hI1:FwI g Fo1:=by
  rw[h1];refine hv.or hn hpl fun t ht=>?_;rw[padF_get,hb] at ht;exact .beg hr hR hsp ht
 have hg1:=hv.grow hn hpl;rw[←h1] at hg1;have hz2:(Fo1.getD r.left []).length=g.terms+1:=hI1.row hlr;have hI2:FwI g Fo2:=by
  rw[h2];split
  ·rename_i hem;exact hI1.or hn hz2 fun t ht=>.pass hr hR hsp (he.1 hem) (hI1.snd _ _ ht)
  ·exact hI1
 have hg2:onesT Fo1≤onesT Fo2∧(emp=true→orRow (Fo1.getD n []) (Fo1.getD r.left [])≠Fo1.getD n []→onesT Fo1<onesT Fo2):=by
  rw[h2];split
  ·have:=hI1.grow hn hz2;exact⟨this.1,fun _=>this.2⟩
  ·rename_i hem;exact⟨Nat.le_refl _,fun h=>absurd h hem⟩
 have hn2:n<v.Fo.length:=by rw[hv.tab.size];exact hn
 refine⟨hI2,fun hag=>?_,fun hag=>?_⟩
 ·have hle:onesT t0.Fo≤onesT v.Fo:=by
   cases hva:v.again with
   | true=>exact Nat.le_of_lt (hT hva)
   | false=>
    obtain⟨q1,q2,_⟩:=hC hva;rw[q2,hut q1];exact Nat.le_refl _
  have e1:=hg1.1;have e2:=hg2.1;rcases ha4 hag with h3 | h3 | ⟨h3,h4⟩
  ·have:=hT h3;omega
  ·have:=hg1.2 h3;omega
  ·have:=hg2.2 h3 h4;omega
 ·have hva:v.again=false:=by
   cases h:v.again with
   | false=>rfl
   | true=>rw[ha1 h] at hag;cases hag
  obtain⟨q1,q2,q3⟩:=hC hva;have e1:orRow (v.Fo.getD n []) (padF (g.terms+1) row)=v.Fo.getD n []:=Classical.byContradiction fun h=>by rw[ha2 h] at hag;cases hag
  have eF1:Fo1=v.Fo:=by rw[h1,e1,set_getD hn2]
  have e2:emp=true→orRow (v.Fo.getD n []) (v.Fo.getD r.left [])=v.Fo.getD n []:=fun hem=>Classical.byContradiction fun h=>by rw[ha3 hem (by rw[eF1];exact h)] at hag;cases hag
  have eF2:Fo2=v.Fo:=by
   rw[h2];split
   ·rename_i hem;rw[eF1,e2 hem,set_getD hn2]
   ·exact eF1
  refine⟨q1,by rw[eF2,q2],fun j hj=>?_⟩;rcases Nat.lt_or_ge j i with h6 | h6
  ·exact q3 j h6
  ·obtain rfl:j=i:=by omega
   intro n' hn';rw[hx] at hn';simp only[Option.some.injEq,Sym.mk.injEq,true_and] at hn';subst hn';rw[←q2];refine⟨fun t ht=>or_same (by rw[hv.row hn,hpl]) e1 (by rw[padF_get];exact(hb t).2 ht),fun hnul t ht=>or_same (by rw[hv.row hn,hv.row hlr]) (e2 (he.2 hnul)) ht⟩
theorem FwI.skip{g:Gram}{u v:FwS}{r:Rule}{i:Nat}{y:Sym}(hx:r.right[i]?=some y)(hy:y.term=true)(hC:v.again=false→u.again=false∧v.Fo=u.Fo∧∀j<i,SymCl g u.Fo r j):v.again=false→u.again=false∧v.Fo=u.Fo∧∀j<i+1,SymCl g u.Fo r j:=fun hag=>by
 obtain⟨q1,q2,q3⟩:=hC hag;refine⟨q1,q2,fun j hj=>?_⟩;rcases Nat.lt_or_ge j i with h6 | h6
 ·exact q3 j h6
 ·obtain rfl:j=i:=by omega
  intro n' hn';rw[hx] at hn';obtain rfl:=Option.some.inj hn';cases hy
structure SlS where
 a:Option Addr
 m:Nat
 c:Nat
 B:List (Nat×Blk)
section
variable {g:Gram}{I:List (List Lr)}{rows:List (List Int)}{L:List (List Look)}{W:List Nat}
structure JI(g:Gram)(I:List (List Lr))(rows:List (List Int))(i k:Nat)(L:List (List Look))(W:List Nat):Prop where
 la:LaI g I rows L
 st:Started g L
 wok:∀s∈W,s<I.length∧¬ZeroA L s
 oth:∀s,s≠i→s∈W∨ZeroA L s∨∀y,CloA g rows L s y
 cur:i∈W∨∀k'<k,∀y,(symsL g)[k']?=some y→CloA g rows L i y
 ne:¬ZeroA L i
structure KI(g:Gram)(I:List (List Lr))(rows:List (List Int))(L:List (List Look))(W:List Nat):Prop where
 la:LaI g I rows L
 st:Started g L
 wok:∀s∈W,s<I.length∧¬ZeroA L s
 all:∀s,s∈W∨ZeroA L s∨∀y,CloA g rows L s y
theorem JI.skip{i k:Nat}{y:Sym}(h:JI g I rows i k L W)(hy:(symsL g)[k]?=some y)(hgo:goR g rows i y=none):JI g I rows i (k+1) L W:=
 ⟨h.la,h.st,h.wok,h.oth,h.cur.imp id fun hc k' hk' y' hy'=>by
   rcases Nat.lt_or_ge k' k with h1 | h1
   ·exact hc k' h1 y' hy'
   ·obtain rfl:k'=k:=by omega
    rw[hy] at hy';obtain rfl:=Option.some.inj hy';intro s' st hg2;exact absurd hg2 (by rw[hgo];simp),h.ne⟩
theorem no_bits{m:Nat}(h:∀t,¬m.testBit t=true):m=0:=by
 apply Nat.eq_of_testBit_eq;intro t;rw[Nat.zero_testBit];cases hm:m.testBit t with
 | false=>rfl
 | true=>exact absurd hm (h t)
theorem mergeL_zero:∀{row l:List Look},(∀x t,¬bitsL (mergeL row l) x t)→mergeL row l=row
 | [],l,_=>by cases l<;>rfl
 | r::rs,[],_=>rfl
 | r::rs,y::ys,h=>by
  have h1:r.set ||| y.set=0:=no_bits fun t ht=>h r.item t ⟨_,List.mem_cons_self ..,ht⟩
  have h2:r.set≤r.set ||| y.set:=Nat.left_le_or
  have h3:r.set=0:=by omega
  have ih:=mergeL_zero (row:=rs) (l:=ys) fun x t ⟨m,h4,h5⟩=>h x t ⟨m,List.mem_cons_of_mem _ h4,h5⟩;show (⟨r.item,r.set ||| y.set⟩::mergeL rs ys:List Look)=r::rs
  rw[ih,h1,←h3]
theorem set_same{L:List (List Look)}{k:Nat}{row:List Look}(h:L[k]?=some row):L.set k row=L:=by
 apply List.ext_getElem?;intro i;by_cases e:i=k
 ·subst e;rw[List.getElem?_set_self (gS h).1,h]
 ·rw[List.getElem?_set_ne (fun e2=>e e2.symm)]
theorem JI.step(hg:Valid g)(hau:autoI g=some (I,rows)){i k s':Nat}{y:Sym}{st row:List Look}(h:JI g I rows i k L W)(hy:(symsL g)[k]?=some y)(hgo:goR g rows i y=some s')(hs:L[i]?=some st)(hk:L[s']?=some row){W':List Nat}
  (hW:W'=if mergeL row (closeK g (kernK g st y))≠row then W++[s'] else W):itemsK row=itemsK (closeK g (kernK g st y))∧JI g I rows i (k+1) (L.set s' (mergeL row (closeK g (kernK g st y)))) W':=by
 obtain⟨hi,hla⟩:=h.la.goto hg hau hgo hs hk h.ne;refine⟨hi,?_⟩;have hok:∀x∈itemsK (kernK g st y),OkLr g x:=fun x hx=>by rw[kernK_items] at hx;exact(kern_ok x hx).1
 have hbits:∀z t,LAc g (kernK g st y) z t→bitsL (closeK g (kernK g st y)) z t:=fun z t=>(closeK_bits hg hok).2;generalize closeK g (kernK g st y)=l at hi hla hW hbits ⊢;have hmono:∀{s x t},laK L s x t→laK (L.set s' (mergeL row l)) s x t:=fun {s x t} h1=>(laK_set hk hi).2 (.inl h1);have hnz:∀{s},¬ZeroA L s→¬ZeroA (L.set s' (mergeL row l)) s:=fun {s} h1 h2=>h1 fun x t h3=>h2 x t (hmono h3);have hst:Started g (L.set s' (mergeL row l)):=fun z t hz=>hmono (h.st z t hz);have hclo:∀{s y'},s≠s'→CloA g rows L s y'→CloA g rows (L.set s' (mergeL row l)) s y':=fun {s y'} hne hc s2 st2 h1 h2 z t hz=>by
  rw[List.getElem?_set_ne (fun e=>hne e.symm)] at h2;exact hmono (hc s2 st2 h1 h2 z t hz)
 have hzero:∀{s},s≠s'→ZeroA L s→ZeroA (L.set s' (mergeL row l)) s:=fun {s} hne hz x t h1=>hz x t (((laK_set hk hi).1 h1).resolve_right fun h2=>hne h2.1);have hnew:CloA g rows (L.set s' (mergeL row l)) i y∨i=s':=by
  by_cases e:i=s'
  ·exact .inr e
  ·left;intro s2 st2 h1 h2 z t hz;rw[List.getElem?_set_ne (fun e2=>e e2.symm),hs] at h2;obtain rfl:=Option.some.inj h2;rw[hgo] at h1;obtain rfl:=Option.some.inj h1;exact(laK_set hk hi).2 (.inr ⟨rfl,hbits z t hz⟩)
 by_cases hch:mergeL row l=row
 ·rw[if_neg (fun h1=>h1 hch)] at hW;subst hW;have hL:L.set s' (mergeL row l)=L:=by rw[hch,set_same hk]
  rw[hL];refine⟨h.la,h.st,h.wok,h.oth,h.cur.imp id fun hc k' hk' y' hy'=>?_,h.ne⟩;rcases Nat.lt_or_ge k' k with h1 | h1
  ·exact hc k' h1 y' hy'
  ·obtain rfl:k'=k:=by omega
   rw[hy] at hy';obtain rfl:=Option.some.inj hy';intro s2 st2 h1 h2 z t hz;rw[hs] at h2;obtain rfl:=Option.some.inj h2;rw[hgo] at h1;obtain rfl:=Option.some.inj h1;have:=(laK_set hk hi (s:=s') (x:=z) (t:=t)).2 (.inr ⟨rfl,hbits z t hz⟩);rw[hL] at this;exact this
 ·rw[if_pos hch] at hW;subst hW;have hs'I:s'<I.length:=by
   rw[←h.la.items,List.length_map];exact(gS hk).1
  have hs'z:¬ZeroA (L.set s' (mergeL row l)) s':=fun hz=>hch (mergeL_zero fun x t hb=>hz x t (laK_iff.2 ⟨_,List.getElem?_set_self (gS hk).1,hb⟩));refine⟨hla,hst,fun s hsm=>?_,fun s hne=>?_,?_,hnz h.ne⟩
  ·rcases List.mem_append.1 hsm with h1 | h1
   ·exact⟨(h.wok s h1).1,hnz (h.wok s h1).2⟩
   ·rw[List.mem_singleton.1 h1];exact⟨hs'I,hs'z⟩
  ·by_cases e:s=s'
   ·exact .inl (by rw[e];exact List.mem_append_right _ (List.mem_singleton_self _))
   ·exact(h.oth s hne).imp (List.mem_append_left _) fun h1=>h1.imp (hzero e) fun h2 y=>hclo e (h2 y)
  ·by_cases e:i=s'
   ·exact .inl (by rw[e];exact List.mem_append_right _ (List.mem_singleton_self _))
   ·refine h.cur.imp (List.mem_append_left _) fun hc k' hk' y' hy'=>?_;rcases Nat.lt_or_ge k' k with h1 | h1
    ·exact hclo e (hc k' h1 y' hy')
    ·obtain rfl:k'=k:=by omega
     rw[hy] at hy';obtain rfl:=Option.some.inj hy';exact hnew.resolve_right e
theorem KI.done(hg:Valid g)(hau:autoI g=some (I,rows))(h:KI g I rows L []):L=lookS g I (LalA g I rows):=
 h.la.done hg hau h.st fun s=>(h.all s).resolve_left fun h1=>by cases h1
end
structure P1S where
 vs:List Value
 bs:List (Nat×Blk)
structure P2S where
 vs:List Value
 a:Option Addr
 m:Nat
 c:Nat
 B:List (Nat×Blk)
structure LwS where
 L:List (List Look)
 bs:List (Nat×Blk)
 W:List Nat
 a:Option Addr
 m:Nat
 c:Nat
 B:List (Nat×Blk)
def tAct:Ty (Nat×Nat) where
 size:=2
 rel:=fun _ l x=>l=[.int .i64 x.1,.int .i64 x.2]
 len:=fun _ _ _ h=>by rw[h];rfl
 one:=fun _ _ _ h=>by rw[h];rfl
 mono:=fun _ _ _ _ _ h=>h
structure AcS where
 vs:List Value
 a:Option Addr
 m:Nat
 c:Nat
 B:List (Nat×Blk)
 l:List (Nat×Nat)
end Go.Proofs.D
set_option linter.unusedVariables false
set_option maxRecDepth 20000
set_option maxHeartbeats 0
open Go Go.Abs Go.Proofs Go.Proofs.D
namespace Go.Abs
end Go.Abs
namespace Go.Proofs.D
structure NmOK where
 i:Nat
 sts:List (List Look)
 rows:List (List Int)
 sa:Option Addr
 sn:Nat
 sc:Nat
 SB:List (Nat×Blk)
 ta:Option Addr
 tn:Nat
 tc:Nat
 TB:List (Nat×Blk)
 es:Ents (List UInt8)
structure NmRK where
 sts:List (List Look)
 row:List Int
 sa:Option Addr
 sn:Nat
 sc:Nat
 SB:List (Nat×Blk)
 ra:Option Addr
 rn:Nat
 rc:Nat
 RB:List (Nat×Blk)
 es:Ents (List UInt8)
structure AlS where
 a:Option Addr
 m:Nat
 c:Nat
 B:List (Nat×Blk)
 a2:Option Addr
 m2:Nat
 c2:Nat
 B2:List (Nat×Blk)
def tConf:Ty (Nat×Nat×List (Nat×Nat)) where
 size:=3
 rel:=fun F l x=>∃a n c,l=[.int .i64 x.1,.int .i64 x.2.1,.slice a n c]∧Arr tAct F a n c x.2.2
 len:=fun _ _ _ h=>by obtain⟨a,n,c,rfl,_⟩:=h;rfl
 one:=fun _ _ _ h=>by obtain⟨a,n,c,rfl,_⟩:=h;rfl
 mono:=fun _ _ _ _ hF h=>by obtain⟨a,n,c,e,h⟩:=h;exact⟨a,n,c,e,h.mono hF⟩
def TabV(F:Frz)(method:Nat)(T:Tab)(v:Value):Prop:=∃a1 n1 c1 a2 n2 c2 a3 n3 c3,v=.agg ⟨[.int .i64 method,.slice a1 n1 c1,.slice a2 n2 c2,.slice a3 n3 c3]⟩∧
 Arr (tList tAct) F a1 n1 c1 T.act∧Arr (tList tInt) F a2 n2 c2 T.go∧Arr tConf F a3 n3 c3 T.conf
theorem TabV.mono{F G:Frz}{method:Nat}{T:Tab}{v:Value}(h:TabV F method T v)(hF:Frz.le F G):TabV G method T v:=by
 obtain⟨a1,n1,c1,a2,n2,c2,a3,n3,c3,e,h1,h2,h3⟩:=h;exact⟨a1,n1,c1,a2,n2,c2,a3,n3,c3,e,h1.mono hF,h2.mono hF,h3.mono hF⟩
structure TabSm(T:Tab):Prop where
 act:T.act.length≤1000000
 rows:∀l∈T.act,l.length≤1000000
 go:T.go.length≤1000000
 grows:∀l∈T.go,l.length≤1000000
 conf:T.conf.length≤1000000
 acts:∀x∈T.conf,x.2.2.length≤1000000
def Min(g:Gram)(w:List Nat)(s:Sym)(T:Tree)(i j:Nat):Prop:=TreeOf g w s T i j∧∀T',TreeOf g w s T' i j→T.pre.length≤T'.pre.length
inductive MTs(g:Gram)(w:List Nat):List Sym→List Tree→Nat→Nat→Prop
 | nil {i:Nat}:MTs g w [] [] i i
 | cons {s:Sym} {l:List Sym} {t:Tree} {ts:List Tree} {i m j:Nat}:Min g w s t i m→MTs g w l ts m j→MTs g w (s::l) (t::ts) i j
section
variable {g:Gram}{w:List Nat}
theorem MTs.of:∀{ts:List Tree} {l:List Sym} {i j:Nat},MTs g w l ts i j→TreesOf g w l ts i j
 | _,_,_,_,.nil=>.nil
 | _,_,_,_,.cons h1 h2=>.cons h1.1 (MTs.of h2)
end
mutual
theorem TreeOf.ends{g:Gram}{w:List Nat}:∀{t:Tree} {s s':Sym} {i j j':Nat},TreeOf g w s t i j→TreeOf g w s' t i j'→j=j'
 | .mk _ _ _,_,_,_,_,_,.leaf _,h=>by
  generalize hr:(-1:Int)=r at h;cases h with
  | leaf _=>rfl
  | node _ _=>omega
 | .mk _ _ ks,_,_,_,_,_,.node (k:=k) h h2,h'=>by
  generalize hr:(k:Int)=r at h';cases h' with
  | leaf _=>omega
  | node _ h3=>exact TreesOf.ends h2 h3
theorem TreesOf.ends{g:Gram}{w:List Nat}:∀{ts:List Tree} {l l':List Sym} {i j j':Nat},TreesOf g w l ts i j→TreesOf g w l' ts i j'→j=j'
 | [],_,_,_,_,_,.nil,h=>by cases h;rfl
 | t::ts,_,_,_,_,_,.cons h1 h2,h=>by
  cases h with
  | cons h3 h4=>
   obtain rfl:=TreeOf.ends h1 h3;exact TreesOf.ends h2 h4
end
mutual
theorem TreeOf.toDer{g:Gram}{w:List Nat}:∀{t:Tree} {s:Sym} {i j:Nat},TreeOf g w s t i j→Der g w s i j
 | .mk _ _ _,_,_,_,.leaf h=>.term h
 | .mk _ _ ks,_,_,_,.node h h2=>.non (gM h) (TreesOf.toDer h2)
theorem TreesOf.toDer{g:Gram}{w:List Nat}:∀{ts:List Tree} {l:List Sym} {i j:Nat},TreesOf g w l ts i j→Ders g w l i j
 | [],_,_,_,.nil=>.nil
 | t::ts,_,_,_,.cons h1 h2=>.cons (TreeOf.toDer h1) (TreesOf.toDer h2)
end
section
variable {g:Gram}{w:List Nat}
end
structure ChP where
 ic:Nat
 ra:Option Addr
 rm:Nat
 rc:Nat
structure CSt where
 k:Nat
 old:List (List Item)
 last:List Item
 sa:Option Addr
 sc:Nat
 BS:List (Nat×Blk)
 vs:List Value
 la:Option Addr
 lc:Nat
 BL:List (Nat×Blk)
 us:List Value
 im:Nat
 es:Ents Item
 xa:Option Addr
 xn:Nat
 xc:Nat
 BX:List (Nat×Blk)
structure QInv(g:Gram)(Q:Nat→Item→Prop):Prop where
 ok:∀k x,Q k x→ItemOk g.rules k x
 predict:∀k x n i r,Q k x→nextOf g.rules x=some ⟨false,n⟩→g.rules[i]?=some r→r.left=n→Q k ⟨i,0,k⟩
 complete:∀k x y r,Q k x→g.rules[x.rule]?=some r→x.dot=r.right.length→Q x.frm y→nextOf g.rules y=some ⟨false,r.left⟩→Q k (stepItem y)
structure COk(g:Gram)(Q:Nat→Item→Prop)(q:ChP)(F:Frz)(s:CSt):Prop where
 rules:Arr tRule F q.ra q.rm q.rc g.rules
 sets:Bld tRaw F s.sa (s.k+1) s.sc s.BS (s.vs++[.map (some s.im)])
 list:Bld tRaw F s.la (s.k+1) s.lc s.BL (s.us++[.slice s.xa s.xn s.xc])
 usl:s.us.length=s.k
 oldl:s.old.length=s.k
 olds:∀(j:Nat) (l:List Item),s.old[j]?=some l→∃a n c,s.us[j]?=some (.slice a n c)∧Arr tItem F a n c l
 map:∀y,Abs.look s.es y=if y∈s.last then some (.bool true) else none
 last:Bld tItem F s.xa s.xn s.xc s.BX s.last
 nodup:s.last.Nodup
 qold:∀(j:Nat) (l:List Item),s.old[j]?=some l→∀x∈l,Q j x
 qlast:∀x∈s.last,Q s.k x
 small:s.k≤20
 olen:∀(j:Nat) (l:List Item),s.old[j]?=some l→l.length≤3360
 ndold:∀(j:Nat) (l:List Item),s.old[j]?=some l→l.Nodup
theorem COk.mono{g:Gram}{Q:Nat→Item→Prop}{q:ChP}{F G:Frz}{s:CSt}(h:COk g Q q F s)(hF:Frz.le F G):COk g Q q G s:=
 ⟨h.rules.mono hF,h.sets.mono hF,h.list.mono hF,h.usl,h.oldl,fun j l hj=>by obtain⟨a,n,c,h1,h2⟩:=h.olds j l hj;exact⟨a,n,c,h1,h2.mono hF⟩,h.map,h.last.mono hF,h.nodup,h.qold,h.qlast,h.small,h.olen,h.ndold⟩
structure Grows(s s':CSt)(P:Item→Prop):Prop where
 k:s'.k=s.k
 old:s'.old=s.old
 last:∃new,s'.last=s.last++new∧∀y∈new,P y
theorem Grows.refl(s:CSt)(P:Item→Prop):Grows s s P:=⟨rfl,rfl,[],by simp,fun _ h=>by cases h⟩
theorem Grows.trans{s t u:CSt}{P:Item→Prop}(h1:Grows s t P)(h2:Grows t u P):Grows s u P:=by
 obtain⟨n1,e1,p1⟩:=h1.last;obtain⟨n2,e2,p2⟩:=h2.last;refine⟨h2.k.trans h1.k,h2.old.trans h1.old,n1++n2,by rw[e2,e1,List.append_assoc],fun y hy=>?_⟩;rcases List.mem_append.1 hy with hy | hy
 ·exact p1 y hy
 ·exact p2 y hy
theorem Grows.mono{s t:CSt}{P P':Item→Prop}(h:Grows s t P)(hp:∀y,P y→P' y):Grows s t P':=by
 obtain⟨n,e,p⟩:=h.last;exact⟨h.k,h.old,n,e,fun y hy=>hp y (p y hy)⟩
theorem COk.uk{g:Gram}{Q:Nat→Item→Prop}{q:ChP}{F:Frz}{s:CSt}(h:COk g Q q F s):(s.us++[.slice s.xa s.xn s.xc])[s.k]?=some (.slice s.xa s.xn s.xc):=by
 have:=h.usl;rw[List.getElem?_append_right zo];simp[show s.k-s.us.length=0 by omega]
def LS(s:CSt):Nat→List Item:=fun j=>if j=s.k then s.last else s.old.getD j []
structure CI where
 s:CSt
 n:Int
structure CJ where
 s:CSt
 i:Nat
structure NB where
 xs:List Bool
 B:List (Nat×Blk)
def QI(g:Gram):Nat→Item→Prop:=fun k x=>ItemOk g.rules k x
structure FSt where
 fi:Nat
 ga:Option Addr
 gm:Nat
 gc:Nat
 q:ChP
 s:CSt
 wa:Option Addr
 wn:Nat
 wc:Nat
 BW:List (Nat×Blk)
 w:List Nat
 E:List Bool
structure FdOk(g:Gram)(F:Frz)(f:FSt):Prop where
 rules:Arr tRule F f.ga f.gm f.gc g.rules
 ends:EndsIn g f.E
 chart:COk (trimmed f.E g) (QI (trimmed f.E g)) f.q F f.s
 k:f.s.k=f.w.length
 sets:Sets (trimmed f.E g) f.w (LS f.s)
 word:Bld tNat F f.wa f.wn f.wc f.BW f.w
 ok:∀t∈f.w,t<g.terms
theorem FdOk.mono{g:Gram}{F G:Frz}{f:FSt}(h:FdOk g F f)(hF:Frz.le F G):FdOk g G f:=⟨h.rules.mono hF,h.ends,h.chart.mono hF,h.k,h.sets,h.word.mono hF,h.ok⟩
end Go.Proofs.D