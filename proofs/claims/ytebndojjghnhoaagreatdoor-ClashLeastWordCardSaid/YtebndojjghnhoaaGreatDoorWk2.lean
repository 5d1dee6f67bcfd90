/-
  Walks: what functions of the program do, over the abstract machine.
-/
import Derived.Test.YtebndojjghnhoaaGreatDoorWk1
import Derived.Sort.Walk13a
set_option linter.unusedVariables false
set_option maxRecDepth 20000
set_option maxHeartbeats 0
open Go Go.Abs Go.Proofs Go.Proofs.D
namespace Go.Proofs.D
structure BtS where
 xs:List Bool
 a:Option Addr
 m:Nat
 c:Nat
 B:List (Nat×Blk)
structure DS where
 i:Nat
 j:Nat
 ys:List Rule
 B:List (Nat×Blk)
end Go.Proofs.D
set_option linter.unusedVariables false
set_option maxRecDepth 20000
set_option maxHeartbeats 0
open Go Go.Abs Go.Proofs Go.Proofs.D
namespace Go.Abs
section
variable {C:Ctx}{T:RT}{n:Nat}{k:Kno}{F:Frz}{own:Own}{ops rest:List Oper}{o:Oper}{Q:Kno→Frz→Own→List Rec→Prop}
theorem WT.appendVA{α:Type}{R:Ty α}(hT:rowsOk C T=true)(p:Nat){B:List (Nat×Blk)}{upd:List (Nat×Blk)→Own}{a b2:Option Addr}{m c d c2 by_:Nat}{xs ys:List α}{t e t2 e2:Nat}{r r2:Row}{z:Value}{xo so:Operand}
  (hb:Vec R F a m c B xs) (hc:xs=[]→c=0) (hy:Arr R F b2 d c2 ys) (hp:own[p]?=some B) (hupd:∀B',setO own p B'=some (upd B')) (hop:o.op=.call ⟨.builtin .append,⟨[so,xo]⟩,⟨[t,t2]⟩⟩) (hw:wantK ops k o=some true) {dst:Nat} (hdst:o.dst=some dst) (hn:Nat.blt dst n=true)
  (hs:evK C k so=some (.slice a m c)) (hx:evK C k xo=some (.slice b2 d c2)) (hr:rowOf T t=some r) (hd:r.d=.slice e) (hsz:sizeT T e=some R.size) (hz:zeroT T e=some z) (hby:bytesT T e=some by_)
  (hr2:rowOf T t2=some r2) (hd2:r2.d=.slice e2) (hpos:0<R.size∧0<by_) (hroom:(m+d)*by_≤140737488355328)
  (h:∀a' c' B',Vec R F a' (m+d) c' B' (xs++ys)→(xs++ys=[]→c'=0)→WT C n ops rest ((dst,.slice a' (m+d) c')::k) F (upd B') (fun k2 F2 own2 rs=>Q k2 F2 own2 (⟨F,own,F,upd B',[]⟩::rs))) :
  WT C n ops (o::rest) k F own Q:=by
 by_cases hd0:d=0
 ·subst hd0;obtain rfl:ys=[]:=List.eq_nil_of_length_eq_zero hy.len.symm;have e:upd B=own:=by
   rw[←setO_ok _ _ _ _ (hupd B)];obtain⟨hlt,rfl⟩:=gS hp;exact List.set_getElem_self hlt
  have:=h a c B (by simpa using hb) (by simpa using hc);rw[e] at this;exact WT.append0 hT hop hw hdst hn hs hx hr hd hsz hz hby hr2 hd2 (fun h0 s0=>firstZ hy.spot) hpos (by simpa using hroom) this
 ·obtain⟨ds,hds,hcs⟩:=news_arr hT hy hr2 hd2 e;refine WT.appendV hT p hb hc hp hupd hop hw hdst hn hs hx hr hd hsz hz hby (fun h0 s0=>hds _ h0 s0) hcs hy.len ⟨by omega,hpos⟩ hroom fun a' c' B' hB'=>h a' c' B' hB'.vec fun e=>?_;have h1:=hy.len;rw[(List.append_eq_nil_iff.1 e).2] at h1;exact absurd h1 hd0
end
end Go.Abs
namespace Go.Proofs.D
def CellsW(F:Frz)(cs:List Value)(W:List (List Nat)):Prop:=cs.length=W.length∧∀(n:Nat) (u:List Nat),W[n]?=some u→∃a m c,cs[n]?=some (.slice a m c)∧Arr tNat F a m c u
theorem CellsW.mono{F G:Frz}{cs:List Value}{W:List (List Nat)}(h:CellsW F cs W)(hF:Frz.le F G):CellsW G cs W:=
 ⟨h.1,fun n u hu=>let ⟨a,m,c,h1,h2⟩:=h.2 n u hu;⟨a,m,c,h1,h2.mono hF⟩⟩
theorem CellsW.set{F:Frz}{cs:List Value}{W:List (List Nat)}(h:CellsW F cs W){i:Nat}{a:Option Addr}{m c:Nat}{u:List Nat}(hu:Arr tNat F a m c u):CellsW F (cs.set i (.slice a m c)) (W.set i u):=by
 refine⟨by rw[List.length_set,List.length_set,h.1],fun n v hv=>?_⟩;by_cases e:n=i
 ·subst e;have hlt:n<W.length:=by have:=(gS hv).1;rw[List.length_set] at this;exact this
  rw[List.getElem?_set_self hlt] at hv;obtain rfl:=Option.some.inj hv;exact⟨a,m,c,List.getElem?_set_self (by rw[h.1];exact hlt),hu⟩
 ·rw[List.getElem?_set_ne (Ne.symm e)] at hv;rw[List.getElem?_set_ne (Ne.symm e)];exact h.2 n v hv
theorem CellsW.arr{F:Frz}{io:Nat}{cs:List Value}{W:List (List Nat)}(h:CellsW F cs W)(hi:F io=some (.cells false cs)){n:Nat}(hn:W.length=n)(hp:0<n):Arr (tList tNat) F (some ⟨io,0,none⟩) n 1 W:=by
 refine⟨hn.symm,.inr rfl,fun h=>(by cases h),fun h=>(by cases h),fun p hp=>(by cases hp;rfl),fun k x hk=>?_⟩;obtain⟨xa,xn,xc,e1,e2⟩:=h.2 k x hk;have hv:=gS e1;refine⟨io,0,false,cs,[.slice xa xn xc],rfl,hi,?_,_,_,_,rfl,e2⟩;refine partL_of ?_ rfl;show _=(cs.drop (0+k*1)).take 1;rw[Nat.zero_add,Nat.mul_one,List.drop_eq_getElem_cons hv.1,List.take_succ_cons,List.take_zero,hv.2]
theorem setBool(s:List Bool)(i:Nat)(b:Bool):(s.map cBool.cell).set (0+i*1) (.bool b)=(s.set i b).map cBool.cell:=by
 rw[List.map_set,Nat.zero_add,Nat.mul_one];rfl
def wgtW(B:Nat)(W:List (List Nat))(K:List Bool)(n:Nat):Nat:=if K.getD n false=true then valN B (W.getD n []) else B ^ 2000+1
def wgtsW(B nons:Nat)(W:List (List Nat))(K:List Bool):Nat:=((List.range nons).map (wgtW B W K)).sum
theorem sum_lt_at{f h:Nat→Nat}:∀{n i:Nat},i<n→(∀j,j≠i→f j=h j)→f i<h i→((List.range n).map f).sum<((List.range n).map h).sum
 | 0,_,hi,_,_=>by omega
 | n+1,i,hi,he,hl=>by
  rw[List.range_succ,List.map_append,List.map_append,List.sum_append,List.sum_append];simp only[List.map_cons,List.map_nil,List.sum_cons,List.sum_nil,Nat.add_zero];by_cases e:i=n
  ·subst e;have:(List.range i).map f=(List.range i).map h:=List.map_congr_left fun j hj=>he j (by have:=List.mem_range.1 hj;omega);rw[this];omega
  ·have h1:=sum_lt_at (n:=n) (i:=i) zo he hl;have h2:=he n (fun e2=>e e2.symm);omega
theorem getD_set_self{α:Type}{l:List α}{i:Nat}{a d:α}(h:i<l.length):(l.set i a).getD i d=a:=by rw[List.getD_eq_getElem?_getD,List.getElem?_set_self h];rfl
theorem getD_set_ne{α:Type}{l:List α}{i j:Nat}{a d:α}(h:j≠i):(l.set i a).getD j d=l.getD j d:=by rw[List.getD_eq_getElem?_getD,List.getElem?_set_ne (Ne.symm h),←List.getD_eq_getElem?_getD]
theorem wgtsW_set{g:Gram}{O:List Int}{W:List (List Nat)}{K:List Bool}(h:WSnd g O W K){i:Nat}(hi:i<g.nons){u:List Nat}(hlt:valN g.terms u<wgtW g.terms W K i):wgtsW g.terms g.nons (W.set i u) (K.set i true)<wgtsW g.terms g.nons W K:=by
 unfold wgtsW;refine sum_lt_at hi (fun j hj=>?_) ?_
 ·unfold wgtW;rw[getD_set_ne hj,getD_set_ne hj]
 ·have:wgtW g.terms (W.set i u) (K.set i true) i=valN g.terms u:=by
   unfold wgtW;rw[getD_set_self (by rw[h.klen];exact hi),getD_set_self (by rw[h.wlen];exact hi),if_pos rfl]
  rw[this];exact hlt
theorem WSnd.put{g:Gram}{O:List Int}{W:List (List Nat)}{K:List Bool}(h:WSnd g O W K){i:Nat}{u:List Nat}(hu:Lw g ⟨false,i⟩ u)(hl:(u.length:Int)=O.getD i (-1))(hm:O.getD i (-1)≤2000):WSnd g O (W.set i u) (K.set i true):=by
 refine⟨by rw[List.length_set];exact h.wlen,by rw[List.length_set];exact h.klen,fun n hn=>?_⟩;by_cases e:n=i
 ·subst e;have hlt:n<K.length:=by
   rcases Nat.lt_or_ge n K.length with h1 | h1
   ·exact h1
   ·rw[List.getD_eq_getElem?_getD,List.getElem?_eq_none (by rw[List.length_set];exact h1)] at hn;simp at hn
  rw[getD_set_self (by rw[h.wlen,←h.klen];exact hlt)];exact⟨hu,hl,hm⟩
 ·rw[getD_set_ne e] at hn;rw[getD_set_ne e];exact h.word n hn
structure WwS where
 cs:List Value
 W:List (List Nat)
 K:List Bool
 again:Bool
structure WiS where
 a:Option Addr
 m:Nat
 c:Nat
 B:List (Nat×Blk)
 ws:List Nat
 ok:Bool
def WOk(O:List Int)(W:List (List Nat))(K:List Bool)(left:Nat)(l:List Sym):Prop:=(0≤O.getD left (-1)∧O.getD left (-1)≤2000)∧(∀s∈l,knownW K s)∧((catW W l).length:Int)≤O.getD left (-1)
theorem catW_snoc(W:List (List Nat))(s:Sym):∀l:List Sym,catW W (l++[s])=catW W l++(if s.term=true then [s.n] else W.getD s.n [])
 | []=>by simp[catW]
 | x::l=>by simp[catW,catW_snoc W s l]
theorem catW_take(W:List (List Nat)):∀(l:List Sym) (k:Nat),(catW W (l.take k)).length≤(catW W l).length
 | [],k=>by simp[catW]
 | x::l,0=>by simp[catW]
 | x::l,k+1=>by
  have:=catW_take W l k;simp only[List.take_succ_cons,catW,List.length_append];omega
theorem WOk.take{O:List Int}{W:List (List Nat)}{K:List Bool}{left:Nat}{l:List Sym}(h:WOk O W K left l)(k:Nat):WOk O W K left (l.take k):=
 ⟨h.1,fun s hs=>h.2.1 s (List.mem_of_mem_take hs),by have:=catW_take W l k;have:=h.2.2;omega⟩
theorem words_spec(F:Frz)(g:Gram)(hg:Valid g){a:Option Addr}{m c:Nat}(hr:Arr tRule F a m c g.rules){b:Option Addr}{n d:Nat}{O:List Int}(hO:Arr tInt F b n d O)(hOk:LenOk g.nons O)(hC:∀r∈g.rules,LenClosed O r) :
  Abs.Spec CC 77 [.agg ⟨gramCells g a m c⟩,.slice b n d] F [] fun F' v o=>o=[]∧∃a' c' W K,v=.slice a' g.nons c'∧Arr (tList tNat) F' a' g.nons c' W∧WSnd g O W K∧∀r∈g.rules,WClosed g.terms O W K r:=by
 unfold gramCells;have hrl:=hr.len;have hgn:=hg.range.nons;have hgr:=hg.range.rules;have hgt:=hg.range.terms;have hOl:=hO.len;have hOn:=hOk.len;refine Abs.Spec.fn (n:=128) Tryz.func77 rfl rfl fun own=>?_;refine AW.seq (AW.reg ?_);refine WT.boxT Z Z Z Z Z Z (fun i2 hi2=>?_);refine zB4 ?_;refine WT.makeT (l:=g.nons) hT Z Z Z Z Z Z Z Z Z Z Z Z zom (fun io hio=>?_);rw[cap_eq];refine zB4 ?_;refine WT.makeT (l:=g.nons) hT Z Z Z Z Z Z Z Z Z Z Z Z zom (fun ik hik=>?_);rw[cap_eq];refine zB4 ?_;have hcapn:(if g.nons=0 then 0 else 1)=1:=if_neg zo;rw[hcapn]
 have hG0:WSnd g O (List.replicate g.nons []) (List.replicate g.nons false):=⟨by simp,by simp,fun n hn=>by
  exfalso;rw[List.getD_eq_getElem?_getD,List.getElem?_replicate] at hn;split at hn<;>simp at hn⟩
 refine AW.block ?_;refine AW.loopR (S:=WwS) (fun s=>[(7,.bool s.again)]) (fun s=>[(ik,.cells false (s.K.map cBool.cell))]::[(io,.cells false s.cs)]::[(i2,.cells false [.int .i64 g.terms,.int .i64 g.nons,.int .i64 g.start,.slice a m c])]::own)
  (fun s G=>WSnd g O s.W s.K∧CellsW G s.cs s.W∧(s.again=false→∀r∈g.rules,WClosed g.terms O s.W s.K r)) (fun s=>2*wgtsW g.terms g.nons s.W s.K+(if s.again=true then 1 else 0)) ⟨List.replicate g.nons (.slice none 0 0),List.replicate g.nons [],List.replicate g.nons false,true⟩
  sM (by dsimp only;rw[List.map_replicate];exact OwnLe.refl _) ⟨hG0,⟨by simp,fun n u hu=>?_⟩,fun h=>(by cases h)⟩ ?_
 ·rw[List.getElem?_replicate] at hu;split at hu
  ·obtain rfl:=Option.some.inj hu;exact⟨none,0,0,by rw[List.getElem?_replicate,if_pos (by assumption)],Arr.nil_ _ _⟩
  ·cases hu
 intro s F1 hF1 hP;obtain⟨cs,W,K,again⟩:=s;obtain⟨hW,hcs,hag⟩:=hP;dsimp only at hW hcs hag ⊢;have hr1:=hr.mono hF1;have hO1:=hO.mono hF1;refine zB4 ?_;cases again with
 | false=>
  refine AW.cond Z (fun h=>(by cases h)) (fun _=>?_);refine AW.exit ?_;refine AW.freezeAll 1 Z Z (fun F2 hF2 hB2=>?_);refine zB4 ?_;exact AW.ret ⟨_,[],⟨_,_,rfl,rfl,rfl⟩,zsb,rfl,_,_,W,K,rfl,(hcs.mono hF2).arr (hB2 io _ me) hW.wlen zo,hW,hag rfl⟩
 | true=>
  refine AW.cond Z (fun _=>?_) (fun h=>(by cases h));refine zB4 ?_;refine AW.block ?_;refine zB4 ?_;refine AW.range (S:=WwS) (fun s=>[(7,.bool s.again)]) (fun s=>[(ik,.cells false (s.K.map cBool.cell))]::[(io,.cells false s.cs)]::[(i2,.cells false [.int .i64 g.terms,.int .i64 g.nons,.int .i64 g.start,.slice a m c])]::own)
   (fun j s G=>WSnd g O s.W s.K∧CellsW G s.cs s.W∧(s.again=true→wgtsW g.terms g.nons s.W s.K<wgtsW g.terms g.nons W K)∧(s.again=false→s.W=W∧s.K=K∧∀i r,i<j→g.rules[i]?=some r→WClosed g.terms O W K r)) m ⟨cs,W,K,false⟩
   Z Z Z Z Z Z Z Z Z zo rfl rfl (fun _=>rfl) (fun _=>rfl) sM oR ⟨hW,hcs,fun h=>(by cases h),fun _=>⟨rfl,rfl,fun i r h=>by omega⟩⟩ ?_ ?_
  ·intro j u F2 hF2 hj hP;obtain⟨cs2,W2,K2,ch⟩:=u;obtain⟨hW2,hcs2,hlt2,heq2⟩:=hP;dsimp only at hW2 hcs2 hlt2 heq2 ⊢;have hr2:=hr1.mono hF2;have hO2:=hO1.mono hF2;refine zB4 ?_;refine WT.idxL hT hr2 Z Z Z Z Z Z Z Z Z zo (fun r hrj b1 off1 ro1 cs1 lx1 hb1 hp1 hrel1=>?_);obtain⟨ra,rn,rc,rfl,hright⟩:=hrel1;have hrm:=gM hrj;obtain⟨hrlt,hrr4,hrsy⟩:=hg.right r hrm;have hrnl:=hright.len;obtain⟨z,hz⟩:∃z,O[r.left]?=some z:=⟨_,gE zo⟩;have hzd:O.getD r.left (-1)=z:=by rw[List.getD_eq_getElem?_getD,hz];rfl
   refine zB4 ?_;refine WT.allocT hT Z Z Z Z Z Z (fun i9 hi9=>?_);refine zB4 ?_;refine AW.jnT (S:=Nat×Bool) (fun x=>[(10,.slice (some ⟨x.1,0,none⟩) 0 0),(11,.bool x.2)]) (fun x=>[(x.1,.cells false [])]::[(i9,.cells false [.int .i64 r.left,.slice ra rn rc])]::[(ik,.cells false (K2.map cBool.cell))]::[(io,.cells false cs2)]::[(i2,.cells false [.int .i64 g.terms,.int .i64 g.nons,.int .i64 g.start,.slice a m c])]::own) (fun x _=>x.2=true↔0≤z∧z≤2000) ?_ (fun x F3 hF3 hx=>?_)
   ·refine AW.draw (ps:=[(3,0),(5,0),(6,0),(10,0),(12,0),(13,0)]) Z Z ?_;refine WT.buildT hT Z Z Z Z Z Z Z Z Z Z Z Z Z Z (fun i28 hi28=>?_);refine zB4 ?_;refine WT.idxL hT hO2 Z Z Z Z Z Z Z Z Z zo (fun z' hz2 b3 off3 ro3 cs3 lx3 hb3 hp3 hrel3=>?_);obtain rfl:z'=z:=by rw[hz] at hz2;exact(Option.some.inj hz2).symm
    obtain rfl:lx3=_:=hrel3;refine zB4 ?_;refine WT.split 35 Z (fun h0=>?_) (fun h0=>?_)
    ·have h0:0≤z':=by simpa using h0
     refine zB4 ?_;refine WT.idxL hT hO2 Z Z Z Z Z Z Z Z Z zo (fun z2 hz2 b4 off4 ro4 cs4 lx4 hb4 hp4 hrel4=>?_);obtain rfl:z2=z':=by rw[hz] at hz2;exact(Option.some.inj hz2).symm
     obtain rfl:lx4=_:=hrel4;refine zB4 ?_;refine⟨(by repeat (first | exact trivial | refine recs_pair rfl rfl (by first | exact keep0 | exact kp 0 1 me me | exact keep1 (keeps_frz hb3) | exact keep1 (keeps_frz hb4)) ?_)),?_⟩
     refine⟨(i28,decide (z2≤2000)),sM,zow,?_⟩;dsimp only;rw[decide_eq_true_iff];exact⟨fun h=>⟨h0,h⟩,fun h=>h.2⟩
    ·have h0:¬0≤z':=by simpa using h0
     refine zB4 ?_;refine⟨(by repeat (first | exact trivial | refine recs_pair rfl rfl (by first | exact keep0 | exact kp 0 1 me me | exact keep1 (keeps_frz hb3)) ?_)),?_⟩
     exact⟨(i28,false),sM,zow,fun h=>(by cases h),fun h=>absurd h.1 h0⟩
   ·obtain⟨i28,ok0⟩:=x;dsimp only at hx ⊢;have hright3:=hright.mono hF3;have hO3:=hO2.mono hF3;have hcs3:=hcs2.mono hF3;refine zB4 ?_
    refine AW.jnT (S:=WiS×Nat) (fun u=>[(46,.int .i64 (u.2:Nat)),(10,.slice u.1.a u.1.m u.1.c),(11,.bool u.1.ok)]) (fun u=>u.1.B::[(i9,.cells false [.int .i64 r.left,.slice ra rn rc])]::[(ik,.cells false (K2.map cBool.cell))]::[(io,.cells false cs2)]::[(i2,.cells false [.int .i64 g.terms,.int .i64 g.nons,.int .i64 g.start,.slice a m c])]::own) (fun u G=>Vec tNat G u.1.a u.1.m u.1.c u.1.B u.1.ws∧(u.1.ok=true↔WOk O W2 K2 r.left r.right)∧(u.1.ok=true→u.1.ws=catW W2 r.right)∧u.1.ws.length≤10000) ?_ (fun u F4 hF4 hP=>?_)
    ·refine AW.range (S:=WiS) (fun u=>[(10,.slice u.a u.m u.c),(11,.bool u.ok)]) (fun u=>u.B::[(i9,.cells false [.int .i64 r.left,.slice ra rn rc])]::[(ik,.cells false (K2.map cBool.cell))]::[(io,.cells false cs2)]::[(i2,.cells false [.int .i64 g.terms,.int .i64 g.nons,.int .i64 g.start,.slice a m c])]::own) (fun k u G=>Vec tNat G u.a u.m u.c u.B u.ws∧(u.ws=[]→u.c=0)∧(u.ok=true↔WOk O W2 K2 r.left (r.right.take k))∧(u.ok=true→u.ws=catW W2 (r.right.take k))∧u.ws.length≤10000) rn ⟨some ⟨i28,0,none⟩,0,0,[(i28,.cells false [])],[],ok0⟩
      Z Z Z Z Z Z Z Z Z zo rfl rfl (fun _=>rfl) (fun _=>rfl) sM oR ⟨⟨rfl,.inl rfl,fun _=>rfl,fun h=>(by cases h),fun p hp=>(by cases hp;rfl),.inl rfl⟩,fun _=>rfl,?_,fun _=>rfl,by show 0≤10000;omega⟩ ?_ ?_
     ·dsimp only;rw[hx,List.take_zero];unfold WOk;rw[hzd];constructor
      ·rintro⟨h1,h2⟩;exact⟨⟨h1,h2⟩,fun s h=>(by cases h),by show (0:Int)≤z;omega⟩
      ·exact fun h=>h.1
     ·intro k u F4 hF4 hk hP;obtain⟨ua,um,uc,uB,uw,uok⟩:=u;obtain⟨hv,hc0,hok,hwc,hlen⟩:=hP;dsimp only at hv hc0 hok hwc hlen ⊢;have hright4:=hright3.mono hF4;have hO4:=hO3.mono hF4;have hcs4:=hcs3.mono hF4;have hvl:=hv.len;refine zB4 ?_;refine WT.idxL hT hright4 Z Z Z Z Z Z Z Z Z zo (fun y hyk b5 off5 ro5 cs5 lx5 hb5 hp5 hrel5=>?_);obtain rfl:lx5=_:=hrel5;have hym:=gM hyk;have hys:=hrsy y hym;have htk:r.right.take (k+1)=r.right.take k++[y]:=by rw[List.take_add_one,hyk];rfl
      refine zB4 ?_;refine WT.allocT hT Z Z Z Z Z Z (fun i13 hi13=>?_);refine zB4 ?_;have stop:¬WOk O W2 K2 r.left (r.right.take (k+1))→¬WOk O W2 K2 r.left r.right:=fun h1 h2=>h1 (h2.take (k+1));cases uok with
      | false=>
       have hno:¬WOk O W2 K2 r.left r.right:=fun h=>by
        have:=hok.2 (h.take k);cases this
       refine zB4 ?_;refine AW.cond Z (fun _=>?_) (fun h=>(by cases h));refine AW.exit ?_;exact⟨(⟨ua,um,uc,uB,uw,false⟩,k),sM,zow,hv,⟨fun h=>(by cases h),fun h=>absurd h hno⟩,fun h=>(by cases h),hlen⟩
      | true=>
       have hW4:=hok.1 rfl;have hwe:=hwc rfl;obtain⟨⟨hz0,hz1⟩,hkn,hcl⟩:=hW4;rw[hzd] at hz0 hz1 hcl;have hum:um≤2000:=by rw[hvl,hwe];omega
       obtain⟨yt,q⟩:=y;cases yt with
       | true=>
        refine zB7 ?_;refine AW.cond Z (fun h=>(by cases h)) (fun _=>?_);refine zB7 ?_;refine AW.cond Z (fun _=>?_) (fun h=>(by cases h));refine zB7 ?_;refine WT.buildT hT Z Z Z Z Z Z Z Z Z Z Z Z Z Z (fun i69 hi69=>?_);refine WT.appendV (R:=tNat) (ys:=[q]) hT 2 hv hc0 Z (fun _=>rfl) Z Z Z Z Z Z Z Z Z Z Z (fun h0 s0=>news_own hT s0 0 Z Z Z Z) (Cells.single (R:=tNat) (x:=q) rfl) Z (by decide) zom (fun a8 c8 B8 hB8=>?_);refine zB7 ?_;refine WT.idxL hT hO4 Z Z Z Z Z Z Z Z Z zo (fun z2 hz2 b6 off6 ro6 cs6 lx6 hb6 hp6 hrel6=>?_);obtain rfl:z2=z:=by rw[hz] at hz2;exact(Option.some.inj hz2).symm
        obtain rfl:lx6=_:=hrel6;refine zB7 ?_;have hcw:catW W2 (r.right.take (k+1))=uw++[q]:=by rw[htk,catW_snoc,hwe];rfl
        refine⟨⟨a8,um+1,c8,B8,uw++[q],decide (((um+1:Nat):Int)≤z2)⟩,sM,zow,hB8.vec,fun h=>(by simp at h),?_,fun _=>hcw.symm,?_⟩
        ·dsimp only;rw[decide_eq_true_iff];unfold WOk;rw[hzd,hcw,htk,List.length_append,←hvl];refine⟨fun h=>⟨⟨hz0,hz1⟩,fun s hs=>?_,h⟩,fun h=>h.2.2⟩;rcases List.mem_append.1 hs with hs | hs
         ·exact hkn s hs
         ·rw[List.mem_singleton.1 hs];exact .inl rfl
        ·dsimp only;rw[List.length_append,←hvl];show um+1≤10000;omega
       | false=>
        have hqn:q<g.nons:=hys;obtain⟨b,hb⟩:∃b,K2[q]?=some b:=⟨_,gE (by rw[hW2.klen];exact hqn)⟩;have hcell:(K2.map cBool.cell)[0+q*1]?=some (.bool b):=by rw[Nat.zero_add,Nat.mul_one,List.getElem?_map,hb];rfl
        obtain⟨v,hvq⟩:∃v,W2[q]?=some v:=⟨_,gE (by rw[hW2.wlen];exact hqn)⟩;obtain⟨xa,xm,xc,hx1,hx2⟩:=hcs4.2 q v hvq;have hx2l:=hx2.len;refine zB7 ?_;refine WT.idxA (j:=q) (s:=1) hT Z Z Z Z Z Z Z Z Z hqn ?_;refine WT.loadAt hT 3 Z Z Z Z Z Z me Z Z hcell ?_;cases b with
        | false=>
         have hno:¬WOk O W2 K2 r.left r.right:=fun h=>by
          rcases h.2.1 _ hym with h1 | h1
          ·cases h1
          ·rw[List.getD_eq_getElem?_getD] at h1;simp only[hb] at h1;cases h1
         refine zB7 ?_;refine AW.cond Z (fun _=>?_) (fun h=>(by cases h));refine AW.exit ?_;exact⟨(⟨ua,um,uc,uB,uw,false⟩,k),sM,zow,hv,⟨fun h=>(by cases h),fun h=>absurd h hno⟩,fun h=>(by cases h),hlen⟩
        | true=>
         have hkq:K2.getD q false=true:=by rw[List.getD_eq_getElem?_getD,hb];rfl
         have hvd:W2.getD q []=v:=by rw[List.getD_eq_getElem?_getD,hvq];rfl
         have hvl2:=hW2.word q hkq;rw[hvd] at hvl2;have hxm:xm≤2000:=by rw[hx2l];omega
         refine zB7 ?_;refine AW.cond Z (fun h=>(by cases h)) (fun _=>?_);refine zB7 ?_;refine AW.cond Z (fun h=>(by cases h)) (fun _=>?_);refine zB7 ?_;refine WT.idxA (j:=q) (s:=1) hT Z Z Z Z Z Z Z Z Z hqn ?_;refine WT.loadAt hT 4 Z Z Z Z Z Z me Z Z (by rw[Nat.zero_add,Nat.mul_one];exact hx1) ?_;refine WT.appendVA (R:=tNat) hT 1 hv hc0 hx2 Z (fun _=>rfl) Z Z Z Z Z Z Z Z Z Z Z Z Z (by decide) zom (fun a8 c8 B8 hB8 hc8=>?_);refine zB7 ?_;refine WT.idxL hT hO4 Z Z Z Z Z Z Z Z Z zo (fun z2 hz2 b6 off6 ro6 cs6 lx6 hb6 hp6 hrel6=>?_);obtain rfl:z2=z:=by rw[hz] at hz2;exact(Option.some.inj hz2).symm
         obtain rfl:lx6=_:=hrel6;refine zB7 ?_;have hcw:catW W2 (r.right.take (k+1))=uw++v:=by rw[htk,catW_snoc,hwe,if_neg (by simp),hvd]
         refine⟨⟨a8,um+xm,c8,B8,uw++v,decide (((um+xm:Nat):Int)≤z2)⟩,sM,zow,hB8,hc8,?_,fun _=>hcw.symm,?_⟩
         ·dsimp only;rw[decide_eq_true_iff];unfold WOk;rw[hzd,hcw,htk,List.length_append,←hvl,←hx2l];refine⟨fun h=>⟨⟨hz0,hz1⟩,fun s hs=>?_,h⟩,fun h=>h.2.2⟩;rcases List.mem_append.1 hs with hs | hs
          ·exact hkn s hs
          ·rw[List.mem_singleton.1 hs];exact .inr hkq
         ·dsimp only;rw[List.length_append,←hvl,←hx2l];omega
     ·intro u F4 hF4 hP;obtain⟨hv,hc0,hok,hwc,hlen⟩:=hP;rw[List.take_of_length_le zo] at hok hwc;exact⟨(u,rn),sM,zow,hv,hok,hwc,hlen⟩
    ·obtain⟨⟨ua,um,uc,uB,uw,uok⟩,uk⟩:=u;obtain⟨hv,hok,hwc,hlen⟩:=hP;dsimp only at hv hok hwc hlen ⊢;refine AW.freezeAll 0 Z Z (fun F5 hF5 hB5=>?_);have hwa:=hv.arr hF5 hB5;have hvl:=hv.len;have hcs5:=(hcs3.mono hF4).mono hF5;obtain⟨b,hb⟩:∃b,K2[r.left]?=some b:=⟨_,gE (by rw[hW2.klen];exact hrlt)⟩;have hcell:(K2.map cBool.cell)[0+r.left*1]?=some (.bool b):=by rw[Nat.zero_add,Nat.mul_one,List.getElem?_map,hb];rfl
     obtain⟨v,hvq⟩:∃v,W2[r.left]?=some v:=⟨_,gE (by rw[hW2.wlen];exact hrlt)⟩;have hkd:K2.getD r.left false=b:=by rw[List.getD_eq_getElem?_getD,hb];rfl
     have hvd:W2.getD r.left []=v:=by rw[List.getD_eq_getElem?_getD,hvq];rfl
     obtain⟨xa,xm,xc,hx1,hx2⟩:=hcs5.2 r.left v hvq;have hx2l:=hx2.len;refine AW.jn (S:=Bool) (fun x=>[(116,.bool x)]) (fun x=>[(i9,.cells false [.int .i64 r.left,.slice ra rn rc])]::[(ik,.cells false (K2.map cBool.cell))]::[(io,.cells false cs2)]::[(i2,.cells false [.int .i64 g.terms,.int .i64 g.nons,.int .i64 g.start,.slice a m c])]::own) (fun x _=>(x=true→uok=true∧(b=true→valN g.terms uw<valN g.terms v))∧(x=false→WClosed g.terms O W2 K2 r)) ?_ (fun x F6 hF6 hx=>?_)
     ·cases uok with
      | false=>
       refine AW.draw (ps:=[(21,17),(23,17)]) Z Z ?_;refine zB7 ?_;refine⟨zrC,?_⟩;refine⟨false,sM,zow,fun h=>(by cases h),fun _ h1 h2 h3 h4=>?_⟩;exact absurd (hok.2 ⟨⟨h1,h2⟩,h3,h4⟩) (by simp)
      | true=>
       have hWr:=hok.1 rfl;have hwe:=hwc rfl;obtain⟨⟨hz0,hz1⟩,hkn,hcl⟩:=hWr;have hlw:Lw g ⟨false,r.left⟩ uw:=by
        rw[hwe];exact .non hrm (catW_word hW2 hkn)
       obtain⟨q1,q2,q3⟩:=len_least hC hlw;have q3:O.getD r.left (-1)≤uw.length:=q3;rw[←hwe] at hcl;refine AW.draw (ps:=[(21,17),(23,17)]) Z Z ?_;refine zB7 ?_;refine WT.idxA (j:=r.left) (s:=1) hT Z Z Z Z Z Z Z Z Z hrlt ?_;refine WT.loadAt hT 2 Z Z Z Z Z Z me Z Z hcell ?_;cases b with
       | false=>
        refine zB7 ?_;refine⟨zrC,?_⟩;exact⟨true,sM,zow,fun _=>⟨rfl,fun h=>(by cases h)⟩,fun h=>(by cases h)⟩
       | true=>
        have hvw:=hW2.word r.left hkd;rw[hvd] at hvw;have hleq:uw.length=v.length:=by omega
        refine zB7 ?_;refine WT.idxA (j:=r.left) (s:=1) hT Z Z Z Z Z Z Z Z Z hrlt ?_;refine WT.loadAt hT 3 Z Z Z Z Z Z me Z Z (by rw[Nat.zero_add,Nat.mul_one];exact hx1) ?_;refine zB7 ?_;refine WT.callV Tryz.func79 Z Z Z Z Z Z (compare_spec _ _ _) (fun v hv=>?_);subst hv;refine zB7 ?_;refine WT.idxA (j:=r.left) (s:=1) hT Z Z Z Z Z Z Z Z Z hrlt ?_;refine WT.loadAt hT 3 Z Z Z Z Z Z me Z Z (by rw[Nat.zero_add,Nat.mul_one];exact hx1) ?_;refine WT.callV Tryz.func41 Z Z Z Z Z Z (numCompare_spec _ hwa hx2 zo zo) (fun v hv=>?_);subst hv
        refine WT.buildT hT Z Z Z Z Z Z Z Z Z Z Z Z Z Z (fun i9' hi9'=>?_);refine WT.callLend 0 Tryz.func110 Z Z Z Z Z Z Z (fun G hG hBG=>or_spec G (l:=[cmpInt um xm,cmpNats uw v]) (Bld.frozen (F:=F5) (B:=[(i9',.cells false [.int .i64 (cmpInt um xm),.int .i64 (cmpNats uw v)])]) ⟨rfl,.inr ⟨i9',_,rfl,rfl,rfl,Cells.cons (l:=[_]) Z (Cells.single (x:=cmpNats uw v) rfl),by decide⟩⟩ hG hBG) (by decide)) (fun v hv=>?_);subst hv;refine zB7 ?_;refine⟨zrC,?_⟩;have hdig:=hlw.digits hg (show SymOk g.terms g.nons ⟨false,r.left⟩ from hrlt)
        have hdig2:=hvw.1.digits hg (show SymOk g.terms g.nons ⟨false,r.left⟩ from hrlt);have hcmp:=valN_cmp hleq hdig hdig2;have hor:orInt [cmpInt um xm,cmpNats uw v]=cmpNats uw v:=by
         obtain rfl:um=xm:=by rw[hvl,hx2l,hleq]
         have h0:cmpInt (um:Int) um=0:=cmpInt_zero.2 rfl;have h1:∀y:Int,orInt [0,y]=y:=fun y=>by
          by_cases hy:y=0
          ·subst hy;decide
          ·unfold orInt orInt;simp[hy]
         rw[h0,h1]
        refine⟨decide (orInt [cmpInt um xm,cmpNats uw v]<0),sM,zow,fun h=>⟨rfl,fun _=>?_⟩,fun h _ _ _ _=>⟨hkd,?_⟩⟩
        ·rw[hor] at h;exact hcmp.1 (of_decide_eq_true h)
        ·rw[hor] at h;rw[hvd,←hwe];have:=of_decide_eq_false h;rw[hcmp] at this;omega
     ·obtain⟨hx1',hx2'⟩:=hx;cases x with
      | true=>
       obtain⟨rfl,hless⟩:=hx1' rfl;have hWr:=hok.1 rfl;have hwe:=hwc rfl;obtain⟨⟨hz0,hz1⟩,hkn,hcl⟩:=hWr;have hlw:Lw g ⟨false,r.left⟩ uw:=by
        rw[hwe];exact .non hrm (catW_word hW2 hkn)
       obtain⟨q1,q2,q3⟩:=len_least hC hlw;have q3:O.getD r.left (-1)≤uw.length:=q3;rw[←hwe] at hcl;have hdig:=hlw.digits hg (show SymOk g.terms g.nons ⟨false,r.left⟩ from hrlt);refine AW.cond Z (fun _=>?_) (fun h=>(by cases h));refine AW.draw (ps:=[(5,8)]) Z Z ?_;refine zB7 ?_;refine WT.idxA (j:=r.left) (s:=1) hT Z Z Z Z Z Z Z Z Z hrlt ?_;refine WT.storeAt hT 2 0 Z Z Z Z Z Z Z Z Z Z (by rw[hcs5.1,hW2.wlen];omega) Z Z ?_;refine WT.idxA (j:=r.left) (s:=1) hT Z Z Z Z Z Z Z Z Z hrlt ?_;refine WT.storeAt hT 1 0 Z Z Z Z Z Z Z Z Z Z (by rw[List.length_map,hW2.klen];omega) Z Z ?_;refine zB7 ?_
       refine⟨zrC,?_⟩;have hw2:wgtsW g.terms g.nons W2 K2≤wgtsW g.terms g.nons W K:=by
        cases ch with
        | true=>exact Nat.le_of_lt (hlt2 rfl)
        | false=>obtain⟨rfl,rfl,_⟩:=heq2 rfl;exact Nat.le_refl _
       have hwl:valN g.terms uw<wgtW g.terms W2 K2 r.left:=by
        unfold wgtW;rw[hkd,hvd];cases b with
        | true=>exact hless rfl
        | false=>
         rw[if_neg (by simp)];have h1:=valN_lt hdig;have hgen:∀e,uw.length≤e→g.terms ^ uw.length≤g.terms ^ e:=fun e he=>Nat.pow_le_pow_right zo he;have h2:=hgen 2000 zo;exact Nat.lt_succ_of_le (Nat.le_trans (Nat.le_of_lt h1) h2)
       refine⟨⟨cs2.set (0+r.left*1) (.slice ua um uc),W2.set r.left uw,K2.set r.left true,true⟩,sM,?_,hW2.put hlw zo hz1,?_,fun _=>Nat.lt_of_lt_of_le (wgtsW_set hW2 hrlt hwl) hw2,fun h=>(by cases h)⟩
       ·dsimp only;rw[←setBool];exact zow
       ·dsimp only;rw[Nat.zero_add,Nat.mul_one];exact(hcs5.mono hF6).set (hwa.mono hF6)
      | false=>
       have hcl:=hx2' rfl;refine AW.cond Z (fun h=>(by cases h)) (fun _=>?_);refine zB7 ?_;refine⟨⟨cs2,W2,K2,ch⟩,sM,zow,hW2,hcs5.mono hF6,hlt2,fun h=>?_⟩;obtain⟨h1,h2,h3⟩:=heq2 h;refine⟨h1,h2,fun i r' hi hr'=>?_⟩;rcases Nat.lt_or_ge i j with h4 | h4
       ·exact h3 i r' h4 hr'
       ·obtain rfl:i=j:=by omega
        rw[hrj] at hr';obtain rfl:=Option.some.inj hr';have h1:W2=W:=h1;have h2:K2=K:=h2;rw[h1,h2] at hcl;exact hcl
  ·intro u F2 hF2 hP;obtain⟨cs2,W2,K2,ch⟩:=u;obtain⟨hW2,hcs2,hlt2,heq2⟩:=hP;dsimp only at hW2 hcs2 hlt2 heq2 ⊢;refine⟨⟨cs2,W2,K2,ch⟩,?_,sM,zow,hW2,hcs2,fun h r hr=>?_⟩
   ·dsimp only;cases ch with
    | true=>have:=hlt2 rfl;simp only[if_true];omega
    | false=>obtain⟨rfl,rfl,_⟩:=heq2 rfl;simp
   ·obtain⟨h1,h2,h3⟩:=heq2 h;dsimp only;rw[h1,h2];obtain⟨i,hi⟩:=List.getElem?_of_mem hr;exact h3 i r (by have:=(gS hi).1;omega) hi
def orRow(xs ys:List Bool):List Bool:=List.zipWith (fun a b=>a||b) xs ys
structure US where
 cur:List Bool
 ch:Bool
def ofRow(E:List Bool)(Fi:List (List Bool)):List Bool→List Sym→List Bool×Bool
 | out,[]=>(out,true)
 | out,s::l=>if s.term=true then (out.set s.n true,false) else
  if E.getD s.n false=true then ofRow E Fi (orRow out (Fi.getD s.n [])) l else (orRow out (Fi.getD s.n []),false)
def FirstClosed(g:Gram)(E:List Bool)(Fi:List (List Bool)):Prop:=∀r∈g.rules,orRow (Fi.getD r.left []) (ofRow E Fi (List.replicate g.terms false) r.right).1=Fi.getD r.left []∧
 ((ofRow E Fi (List.replicate g.terms false) r.right).2=true→E.getD r.left false=true)
structure SetsF(F:Frz)(is:Nat)(g:Gram)(ra:Option Addr)(rm rc:Nat)(E:List Bool)(Fi:List (List Bool)):Prop where
 blk:∃ie io ce co ro,F is=some (.cells ro [.int .i64 g.terms,.int .i64 g.nons,.int .i64 g.start,.slice ra rm rc,.slice (some ⟨ie,0,none⟩) g.nons ce,.slice (some ⟨io,0,none⟩) g.nons co])∧
  Arr tBool F (some ⟨ie,0,none⟩) g.nons ce E∧Arr (tList tBool) F (some ⟨io,0,none⟩) g.nons co Fi
 row:∀r∈Fi,r.length=g.terms
 rules:Arr tRule F ra rm rc g.rules
 closed:FirstClosed g E Fi
structure FS where
 a:Option Addr
 m:Nat
 c:Nat
 B:List (Nat×Blk)
 vs:List Value
 bs:List (Nat×Blk)
structure FM where
 E:List Bool
 Fi:List (List Bool)
 bs:List (Nat×Blk)
 again:Bool
def ones:List Bool→Nat
 | []=>0
 | b::l=>(if b=true then 1 else 0)+ones l
def onesT(M:List (List Bool)):Nat:=(M.map ones).sum
theorem ones_or:∀{xs ys:List Bool},xs.length=ys.length→ones xs≤ones (orRow xs ys)∧(orRow xs ys≠xs→ones xs<ones (orRow xs ys))
 | [],[],_=>by simp[orRow]
 | [],_::_,h=>by simp at h
 | _::_,[],h=>by simp at h
 | x::xs,y::ys,h=>by
  obtain⟨h1,h2⟩:=@ones_or xs ys (by simpa using h);unfold orRow at h1 h2;simp only[orRow,List.zipWith_cons_cons,ones];cases x with
  | true=>
   refine⟨by simp;omega,fun hne=>?_⟩;have:List.zipWith (fun a b=>a||b) xs ys≠xs:=by intro e;apply hne;simp[e]
   have:=h2 this;simp;omega
  | false=>
   cases y with
   | true=>exact⟨by simp;omega,fun _=>by simp;omega⟩
   | false=>
    refine⟨by simp;omega,fun hne=>?_⟩;have:List.zipWith (fun a b=>a||b) xs ys≠xs:=by intro e;apply hne;simp[e]
    have:=h2 this;simp;omega
theorem onesT_set{M:List (List Bool)}{i:Nat}{row row':List Bool}(h:M[i]?=some row):onesT (M.set i row')+ones row=onesT M+ones row':=by
 unfold onesT;rw[List.map_set];exact sum_set (by rw[List.getElem?_map,h];rfl)
theorem orRow_len{xs ys:List Bool}(h:xs.length=ys.length):(orRow xs ys).length=xs.length:=by unfold orRow;simp;omega
def DirectIn(E:List Bool)(M:List (List Bool))(r:Rule):Prop:=∀pre n post,r.right=pre++⟨false,n⟩::post→(∀y∈pre,y.term=false∧E.getD y.n false=true)→tget M r.left n=some true
structure TM where
 M:List (List Bool)
 bs:List (Nat×Blk)
structure LfS where
 ys:List (List Nat)
 a:Option Addr
 m:Nat
 c:Nat
 B:List (Nat×Blk)
inductive Tree where
 | mk (rule:Int) (term:Nat) (kids:List Tree)
def tTreeN:Nat→Ty Tree
 | 0=>⟨3,fun _ _ _=>False,fun _ _ _ h=>h.elim,fun _ _ _ h=>h.elim,fun _ _ _ _ _ h=>h⟩
 | d+1=>
  {size:=3
   rel:=fun F l x=>∃r t ks a n c,x=.mk r t ks∧l=[.int .i64 r,.int .i64 (t:Nat),.slice a n c]∧Arr (tTreeN d) F a n c ks∧ks.length≤1000000
   len:=fun _ _ _ h=>by obtain⟨r,t,ks,a,n,c,_,rfl,_⟩:=h;rfl
   one:=fun _ _ _ h=>by obtain⟨r,t,ks,a,n,c,_,rfl,_⟩:=h;rfl
   mono:=fun _ _ _ _ hF h=>by obtain⟨r,t,ks,a,n,c,e,e2,h,hb⟩:=h;exact⟨r,t,ks,a,n,c,e,e2,h.mono hF,hb⟩ }
theorem tTreeN_size:∀d,(tTreeN d).size=3
 | 0=>rfl
 | _+1=>rfl
def tTree:Ty Tree where
 size:=3
 rel:=fun F l x=>∃d,(tTreeN d).rel F l x
 len:=fun _ _ _ h=>by obtain⟨d,h⟩:=h;rw[(tTreeN d).len _ _ _ h,tTreeN_size]
 one:=fun _ _ _ h=>by obtain⟨d,h⟩:=h;exact(tTreeN d).one _ _ _ h
 mono:=fun _ _ _ _ hF h=>by obtain⟨d,h⟩:=h;exact⟨d,(tTreeN d).mono _ _ _ _ hF h⟩
structure TkS where
 j:Nat
 a:Option Addr
 c:Nat
 B:List (Nat×Blk)
structure NoLoop(g:Gram)(M:List (List Bool))(E:List Bool)(Fi:List (List Bool)):Prop where
 tab:TabOk g.nons g.nons M
 first:FirstClosed g E Fi
 direct:∀r∈g.rules,DirectIn E M r
 trans:∀x y z,y<g.nons→tget M x y=some true→tget M y z=some true→tget M x z=some true
 irr:∀i,i<g.nons→tget M i i≠some true
mutual
inductive TreeOf(g:Gram)(w:List Nat):Sym→Tree→Nat→Nat→Prop
 | leaf {t i:Nat} (h:w[i]?=some t):TreeOf g w ⟨true,t⟩ (.mk (-1) t []) i (i+1)
 | node {k:Nat} {r:Rule} {kids:List Tree} {i j:Nat} (h:g.rules[k]?=some r) (h2:TreesOf g w r.right kids i j):TreeOf g w ⟨false,r.left⟩ (.mk k 0 kids) i j
inductive TreesOf(g:Gram)(w:List Nat):List Sym→List Tree→Nat→Nat→Prop
 | nil {i:Nat}:TreesOf g w [] [] i i
 | cons {s:Sym} {l:List Sym} {t:Tree} {ts:List Tree} {i m j:Nat} (h:TreeOf g w s t i m) (h2:TreesOf g w l ts m j):TreesOf g w (s::l) (t::ts) i j
end
mutual
theorem TreeOf.le{g:Gram}{w:List Nat}:∀{t:Tree} {s:Sym} {i j:Nat},TreeOf g w s t i j→i≤j∧(i≤w.length→j≤w.length)
 | .mk _ _ _,_,_,_,.leaf h=>⟨by omega,fun _=>by have:=(gS h).1;omega⟩
 | .mk _ _ ks,_,_,_,.node h h2=>TreesOf.le h2
theorem TreesOf.le{g:Gram}{w:List Nat}:∀{ts:List Tree} {l:List Sym} {i j:Nat},TreesOf g w l ts i j→i≤j∧(i≤w.length→j≤w.length)
 | [],_,_,_,.nil=>⟨Nat.le_refl _,id⟩
 | t::ts,_,_,_,.cons h h2=>by
  have h3:=TreeOf.le h;have h4:=TreesOf.le h2;exact⟨by omega,fun h5=>h4.2 (h3.2 h5)⟩
end
theorem TreesOf.len{g:Gram}{w:List Nat}:∀{ts:List Tree} {l:List Sym} {i j:Nat},TreesOf g w l ts i j→ts.length=l.length
 | [],_,_,_,.nil=>rfl
 | t::ts,_,_,_,.cons h h2=>by simp[TreesOf.len h2]
theorem ofRow_all{E:List Bool}{Fi:List (List Bool)}:∀(l:List Sym) (out:List Bool),(∀y∈l,y.term=false∧E.getD y.n false=true)→(ofRow E Fi out l).2=true
 | [],_,_=>rfl
 | s::l,out,h=>by
  have h1:=h s me;unfold ofRow;rw[if_neg (by simp[h1.1]),if_pos h1.2];exact ofRow_all l _ fun y hy=>h y (List.mem_cons_of_mem _ hy)
mutual
theorem TreeOf.empty{g:Gram}{w:List Nat}{E:List Bool}{Fi:List (List Bool)}(hc:FirstClosed g E Fi):∀{t:Tree} {s:Sym} {i j:Nat},TreeOf g w s t i j→i=j→s.term=false∧E.getD s.n false=true
 | .mk _ _ _,_,_,_,.leaf h,e=>by omega
 | .mk _ _ ks,_,_,_,.node h h2,e=>⟨rfl,(hc _ (gM h)).2 (ofRow_all _ _ (TreesOf.empty hc h2 e))⟩
theorem TreesOf.empty{g:Gram}{w:List Nat}{E:List Bool}{Fi:List (List Bool)}(hc:FirstClosed g E Fi):∀{ts:List Tree} {l:List Sym} {i j:Nat},TreesOf g w l ts i j→i=j→∀y∈l,y.term=false∧E.getD y.n false=true
 | [],_,_,_,.nil,_=>fun y hy=>by simp at hy
 | t::ts,_,_,_,.cons h h2,e=>fun y hy=>by
  have h3:=h.le.1;have h4:=h2.le.1;rcases List.mem_cons.1 hy with rfl | hy
  ·exact TreeOf.empty hc h zo
  ·exact TreesOf.empty hc h2 zo y hy
end
theorem count_lt{p q:Nat→Bool}(h:∀x,p x=true→q x=true){y:Nat}(hq:q y=true)(hp:p y=false):∀l:List Nat,y∈l→l.countP p<l.countP q
 | [],hy=>by simp at hy
 | x::l,hy=>by
  have hle:l.countP p≤l.countP q:=List.countP_mono_left fun z _=>h z;simp only[List.countP_cons];rcases List.mem_cons.1 hy with rfl | hy
  ·rw[hp,hq];simp;omega
  ·have ih:=count_lt h hq hp l hy;cases h1:p x with
   | true=>rw[h x h1];simp;omega
   | false=>simp;cases q x<;>simp<;>omega
def rank(n:Nat)(M:List (List Bool))(i:Nat):Nat:=(List.range n).countP fun j=>decide (tget M i j=some true)
theorem rank_le(n:Nat)(M:List (List Bool))(i:Nat):rank n M i≤n:=by
 have:=List.countP_le_length (p:=fun j=>decide (tget M i j=some true)) (l:=List.range n);rw[List.length_range] at this;exact this
theorem NoLoop.rank_lt{g:Gram}{M:List (List Bool)}{E:List Bool}{Fi:List (List Bool)}(h:NoLoop g M E Fi){x y:Nat}(hy:y<g.nons)(hxy:tget M x y=some true):rank g.nons M y<rank g.nons M x:=
 count_lt (fun z hz=>by
  have hz:=of_decide_eq_true hz;exact decide_eq_true (h.trans x y z hy hxy hz)) (decide_eq_true hxy) (decide_eq_false (h.irr y hy)) _ (List.mem_range.2 hy)
def meas(g:Gram)(M:List (List Bool))(len n i:Nat):Nat:=(len-i)*(g.nons+1)+rank g.nons M n
theorem NoLoop.next{g:Gram}{w:List Nat}{M:List (List Bool)}{E:List Bool}{Fi:List (List Bool)}(h:NoLoop g M E Fi){r:Rule}(hr:r∈g.rules){pre post:List Sym}{n:Nat}(he:r.right=pre++⟨false,n⟩::post)(hn:n<g.nons)
  {ts:List Tree} {i m:Nat} (hm:TreesOf g w pre ts i m) (hi:i≤w.length):meas g M w.length n m<meas g M w.length r.left i:=by
 have h1:=hm.le;have h2:=h1.2 hi;unfold meas;by_cases e:i=m
 ·subst e;have:=h.rank_lt hn (h.direct r hr pre n post he (hm.empty h.first rfl))
  omega
 ·have h3:=rank_le g.nons M n;have h4:(w.length-m+1)*(g.nons+1)≤(w.length-i)*(g.nons+1):=Nat.mul_le_mul_right _ zo;rw[Nat.add_mul] at h4;omega
mutual
def Tree.pre:Tree→List Int
 | .mk r _ ks=>r::preL ks
def preL:List Tree→List Int
 | []=>[]
 | t::ts=>t.pre++preL ts
end
structure Fo where
 n:Nat
 leaf:Nat→Option Nat
 packs:Nat→List NPack
mutual
inductive NT(f:Fo):Nat→Tree→Prop
 | leaf {v t:Nat}:v<f.n→f.leaf v=some t→NT f v (.mk (-1) t [])
 | node {v:Nat} {p:NPack} {ts:List Tree}:v<f.n→f.leaf v=none→p∈f.packs v→NTs f p.kids ts→NT f v (.mk p.rule 0 ts)
inductive NTs(f:Fo):List Nat→List Tree→Prop
 | nil:NTs f [] []
 | cons {k:Nat} {t:Tree} {ks:List Nat} {ts:List Tree}:NT f k t→NTs f ks ts→NTs f (k::ks) (t::ts)
end
structure Fo.Good(f:Fo):Prop where
 kids:∀v,v<f.n→∀p∈f.packs v,p.kids.length≤4∧∀k∈p.kids,k<f.n
 dec:∀v T T',NT f v T→NT f v T'→T.pre=T'.pre→T=T'
 uniq:∀v,v<f.n→f.leaf v=none→∀(a b:Nat) (p q:NPack),(f.packs v)[a]?=some p→(f.packs v)[b]?=some q→p.rule=q.rule→∀ts,NTs f p.kids ts→NTs f q.kids ts→a=b
theorem NTs.len{f:Fo}:∀{ks:List Nat} {ts:List Tree},NTs f ks ts→ts.length=ks.length
 | [],[],_=>rfl
 | _::_,_::_,.cons _ h=>by simp[NTs.len h]
structure Cand where
 node:Nat
 pack:Nat
 r0:Nat
 r1:Nat
 r2:Nat
 r3:Nat
deriving DecidableEq
def pick(L:Nat→List Tree):List Nat→List Nat→Option (List Tree)
 | [],_=>some []
 | k::ks,r::rs=>match (L k)[r]? with
  | some t=>match pick L ks rs with
   | some ts=>some (t::ts)
   | none=>none
  | none=>none
 | _::_,[]=>none
structure Lr where
 rule:Nat
 dot:Nat
deriving DecidableEq,Inhabited
def ltLr(x y:Lr):Bool:=decide (x.rule<y.rule∨(x.rule=y.rule∧x.dot<y.dot))
theorem ltLr_iff{x y:Lr}:ltLr x y=true↔(x.rule<y.rule∨(x.rule=y.rule∧x.dot<y.dot)):=by unfold ltLr;exact decide_eq_true_iff
def Strict(l:List Lr):Prop:=l.Pairwise (fun x y=>ltLr x y=true)
structure LCt where
 i:Nat
 q:Nat
 ys:List Lr
 B:List (Nat×Blk)
def afterL(g:Gram)(x:Lr):Option Sym:=
 if x.rule=g.rules.length then (if x.dot=0 then some ⟨false,g.start⟩ else none) else match g.rules[x.rule]? with
  | some r=>r.right[x.dot]?
  | none=>none
inductive Clos(g:Gram)(l:List Lr):Lr→Prop
 | base {x:Lr}:x∈l→Clos g l x
 | more {x:Lr} {n k:Nat} {r:Rule}:Clos g l x→afterL g x=some ⟨false,n⟩→g.rules[k]?=some r→r.left=n→Clos g l ⟨k,0⟩
structure ClInv(g:Gram)(l xs:List Lr):Prop where
 ad:∃ad:List Nat,xs=l++ad.map (fun k=>⟨k,0⟩)∧ad.Nodup∧∀k∈ad,k<g.rules.length
 clos:∀x∈xs,Clos g l x
def Fed(g:Gram)(xs:List Lr)(x:Lr):Prop:=∀n k r,afterL g x=some ⟨false,n⟩→g.rules[k]?=some r→r.left=n→(⟨k,0⟩:Lr)∈xs
theorem Fed.more{g:Gram}{xs:List Lr}{x y:Lr}(h:Fed g xs x):Fed g (xs++[y]) x:=fun n k r h1 h2 h3=>List.mem_append_left _ (h n k r h1 h2 h3)
structure KSt where
 i:Nat
 xs:List Lr
 a:Option Addr
 c:Nat
 B:List (Nat×Blk)
inductive Nul(g:Gram):Nat→Prop
 | mk {r:Rule}:r∈g.rules→(∀s∈r.right,s.term=false)→(∀s∈r.right,Nul g s.n)→Nul g r.left
def NulL(g:Gram)(l:List Sym):Prop:=∀s∈l,s.term=false∧Nul g s.n
inductive Beg(g:Gram):Nat→Nat→Prop
 | term {r:Rule} {pre post:List Sym} {t:Nat}:r∈g.rules→r.right=pre++⟨true,t⟩::post→NulL g pre→Beg g r.left t
 | non {r:Rule} {pre post:List Sym} {m t:Nat}:r∈g.rules→r.right=pre++⟨false,m⟩::post→NulL g pre→Beg g m t→Beg g r.left t
def BegL(g:Gram)(l:List Sym)(t:Nat):Prop:=∃pre s post,l=pre++s::post∧NulL g pre∧(s=⟨true,t⟩∨(s.term=false∧Beg g s.n t))
theorem Nul.of{g:Gram}{r:Rule}(h:r∈g.rules)(h2:NulL g r.right):Nul g r.left:=.mk h (fun s hs=>(h2 s hs).1) (fun s hs=>(h2 s hs).2)
theorem Beg.of{g:Gram}{r:Rule}{t:Nat}(h:r∈g.rules)(h2:BegL g r.right t):Beg g r.left t:=by
 obtain⟨pre,s,post,e,hn,h3⟩:=h2;rcases h3 with rfl | ⟨h3,h4⟩
 ·exact .term h e hn
 ·obtain⟨b,n⟩:=s;obtain rfl:b=false:=h3;exact .non h e hn h4
theorem NulL.nil{g:Gram}:NulL g []:=fun _ h=>by cases h
theorem NulL.cons{g:Gram}{s:Sym}{l:List Sym}(h1:s.term=false)(h2:Nul g s.n)(h:NulL g l):NulL g (s::l):=fun x hx=>by
 rcases List.mem_cons.1 hx with rfl | hx
 ·exact⟨h1,h2⟩
 ·exact h x hx
theorem BegL.head{g:Gram}{s:Sym}{l:List Sym}{t:Nat}(h:s=⟨true,t⟩∨(s.term=false∧Beg g s.n t)):BegL g (s::l) t:=⟨[],s,l,rfl,NulL.nil,h⟩
theorem BegL.cons{g:Gram}{s:Sym}{l:List Sym}{t:Nat}(h1:s.term=false)(h2:Nul g s.n)(h:BegL g l t):BegL g (s::l) t:=by
 obtain⟨pre,x,post,e,hn,h3⟩:=h;exact⟨s::pre,x,post,by rw[e];rfl,NulL.cons h1 h2 hn,h3⟩
mutual
theorem TreeOf.begin{g:Gram}{w:List Nat}:∀{t:Tree} {s:Sym} {i j:Nat},TreeOf g w s t i j→(i=j→s.term=false∧Nul g s.n)∧(i<j→∃c,w[i]?=some c∧(s=⟨true,c⟩∨(s.term=false∧Beg g s.n c)))
 | .mk _ _ _,_,i,_,.leaf h=>⟨fun e=>by omega,fun _=>⟨_,h,.inl rfl⟩⟩
 | .mk _ _ ks,_,i,j,.node h h2=>by
  have hm:=gM h;obtain⟨h3,h4⟩:=TreesOf.begin h2;refine⟨fun e=>⟨rfl,.of hm (h3 e)⟩,fun e=>?_⟩;obtain⟨c,hc,hb⟩:=h4 e;exact⟨c,hc,.inr ⟨rfl,.of hm hb⟩⟩
theorem TreesOf.begin{g:Gram}{w:List Nat}:∀{ts:List Tree} {l:List Sym} {i j:Nat},TreesOf g w l ts i j→(i=j→NulL g l)∧(i<j→∃c,w[i]?=some c∧BegL g l c)
 | [],_,i,_,.nil=>⟨fun _=>NulL.nil,fun e=>by omega⟩
 | t::ts,_,i,j,.cons (m:=m) h1 h2=>by
  have hle1:=(TreeOf.le h1).1;have hle2:=(TreesOf.le h2).1;obtain⟨a1,a2⟩:=TreeOf.begin h1;obtain⟨b1,b2⟩:=TreesOf.begin h2;refine⟨fun e=>?_,fun e=>?_⟩
  ·obtain⟨h3,h4⟩:=a1 zo;exact NulL.cons h3 h4 (b1 zo)
  ·by_cases hm:i<m
   ·obtain⟨c,hc,h5⟩:=a2 hm;exact⟨c,hc,BegL.head h5⟩
   ·obtain rfl:i=m:=by omega
    obtain⟨h3,h4⟩:=a1 rfl;obtain⟨c,hc,h5⟩:=b2 e;exact⟨c,hc,BegL.cons h3 h4 h5⟩
end
def rightL(g:Gram)(k:Nat):List Sym:=if k=g.rules.length then [⟨false,g.start⟩] else ((g.rules[k]?).map (·.right)).getD []
theorem rightL_rule{g:Gram}{k:Nat}{r:Rule}(h:g.rules[k]?=some r):rightL g k=r.right:=by
 unfold rightL;rw[if_neg (by have:=(gS h).1;omega),h];rfl
theorem afterL_right{g:Gram}{x:Lr}:afterL g x=(rightL g x.rule)[x.dot]?:=by
 unfold afterL rightL;split
 ·cases hd:x.dot with
  | zero=>rfl
  | succ d=>rfl
 ·cases h:g.rules[x.rule]? with
  | none=>rfl
  | some r=>rfl
def restL(g:Gram)(x:Lr):List Sym:=(rightL g x.rule).drop (x.dot+1)
structure LRok(g:Gram)(it:Nat→Lr→Prop)(la:Nat→Lr→Nat→Prop)(go:Nat→Sym→Option Nat):Prop where
 start:it 0 ⟨g.rules.length,0⟩
 startL:la 0 ⟨g.rules.length,0⟩ g.terms
 clos:∀{s:Nat} {x:Lr} {k:Nat} {r:Rule},it s x→afterL g x=some ⟨false,r.left⟩→g.rules[k]?=some r→it s ⟨k,0⟩
 closL:∀{s:Nat} {x:Lr} {k:Nat} {r:Rule} {t u:Nat},it s x→la s x u→afterL g x=some ⟨false,r.left⟩→g.rules[k]?=some r→(BegL g (restL g x) t∨(NulL g (restL g x)∧la s x t))→la s ⟨k,0⟩ t
 step:∀{s:Nat} {x:Lr} {y:Sym},it s x→afterL g x=some y→∃s',go s y=some s'∧it s' ⟨x.rule,x.dot+1⟩∧∀t,la s x t→la s' ⟨x.rule,x.dot+1⟩ t
 back:∀{s s':Nat} {y:Sym} {k d:Nat},go s y=some s'→it s' ⟨k,d+1⟩→it s ⟨k,d⟩∧afterL g ⟨k,d⟩=some y
 fill:∀{s:Nat} {k:Nat} {r:Rule},it s ⟨k,0⟩→g.rules[k]?=some r→∃s',go s ⟨false,r.left⟩=some s'
 first:∀{s:Nat},it s ⟨g.rules.length,0⟩→s=0
 zero:∀{s:Nat} {y:Sym},go s y≠some 0
 dots:∀{x:Lr},it 0 x→x.dot=0
inductive Act where
 | no
 | shift (s:Nat)
 | red (k:Nat)
 | acc
deriving DecidableEq
inductive ActOf(g:Gram)(it:Nat→Lr→Prop)(la:Nat→Lr→Nat→Prop)(go:Nat→Sym→Option Nat)(s t:Nat):Act→Prop
 | shift {s':Nat}:t<g.terms→go s ⟨true,t⟩=some s'→ActOf g it la go s t (.shift s')
 | red {k:Nat} {r:Rule}:g.rules[k]?=some r→it s ⟨k,r.right.length⟩→la s ⟨k,r.right.length⟩ t→ActOf g it la go s t (.red k)
 | acc:it s ⟨g.rules.length,1⟩→la s ⟨g.rules.length,1⟩ t→ActOf g it la go s t .acc
structure Only(g:Gram)(it:Nat→Lr→Prop)(la:Nat→Lr→Nat→Prop)(go:Nat→Sym→Option Nat)(act:Nat→Nat→Act):Prop where
 all:∀{s t:Nat} {a:Act},ActOf g it la go s t a→act s t=a
 one:∀{s t:Nat},act s t≠.no→ActOf g it la go s t (act s t)
abbrev Conf:=List Nat×List Tree
def topS(σ:List Nat):Nat:=σ.getLast?.getD 0
def redS(g:Gram)(go:Nat→Sym→Option Nat)(act:Nat→Nat→Act)(t:Nat)(c:Conf):Conf:=match act (topS c.1) t with
 | .red k=>match g.rules[k]? with
  | some r=>(c.1.take (c.1.length-r.right.length)++[(go (topS (c.1.take (c.1.length-r.right.length))) ⟨false,r.left⟩).getD 0],
    c.2.take (c.2.length-r.right.length)++[.mk k 0 (c.2.drop (c.2.length-r.right.length))])
  | none=>c
 | _=>c
def lookW(g:Gram)(w:List Nat)(i:Nat):Nat:=(w[i]?).getD g.terms
inductive LStk(g:Gram)(go:Nat→Sym→Option Nat)(w:List Nat):List Nat→List Tree→Nat→Prop
 | nil:LStk g go w [0] [] 0
 | snoc {σ:List Nat} {τ:List Tree} {i j s s':Nat} {y:Sym} {T:Tree}:LStk g go w (σ++[s]) τ i→go s y=some s'→TreeOf g w y T i j→LStk g go w (σ++[s]++[s']) (τ++[T]) j
theorem topS_snoc(σ:List Nat)(s:Nat):topS (σ++[s])=s:=by unfold topS;rw[List.getLast?_append];rfl
theorem LStk.len{g:Gram}{go:Nat→Sym→Option Nat}{w:List Nat}{σ:List Nat}{τ:List Tree}{i:Nat}(h:LStk g go w σ τ i):σ.length=τ.length+1∧i≤w.length:=by
 induction h with
 | nil=>exact⟨rfl,Nat.zero_le _⟩
 | snoc h1 h2 h3 ih=>exact⟨by simp only[List.length_append,List.length_singleton] at ih ⊢;omega,(TreeOf.le h3).2 ih.2⟩
section
variable {g:Gram}{it:Nat→Lr→Prop}{la:Nat→Lr→Nat→Prop}{go:Nat→Sym→Option Nat}{act:Nat→Nat→Act}{w:List Nat}
inductive Run(g:Gram)(go:Nat→Sym→Option Nat)(act:Nat→Nat→Act)(w:List Nat)(a:Conf×Nat):Nat→Conf×Nat→Prop
 | refl:Run g go act w a 0 a
 | red {n:Nat} {c:Conf} {i k:Nat}:Run g go act w a n (c,i)→act (topS c.1) (lookW g w i)=.red k→Run g go act w a (n+1) (redS g go act (lookW g w i) c,i)
 | shift {n:Nat} {c:Conf} {i t s':Nat}:Run g go act w a n (c,i)→w[i]?=some t→act (topS c.1) t=.shift s'→Run g go act w a n ((c.1++[s'],c.2++[.mk (-1) t []]),i+1)
theorem Run.trans{a b c:Conf×Nat}{n m:Nat}(h1:Run g go act w a n b)(h2:Run g go act w b m c):Run g go act w a (n+m) c:=by
 induction h2 with
 | refl=>exact h1
 | red h3 h4 ih=>exact .red ih h4
 | shift h3 h4 h5 ih=>exact .shift ih h4 h5
def Allowed(g:Gram)(la:Nat→Lr→Nat→Prop)(s:Nat)(x:Lr)(t:Nat):Prop:=BegL g (restL g x) t∨(NulL g (restL g x)∧la s x t)
theorem lookW_at{i t:Nat}(h:w[i]?=some t):lookW g w i=t:=by unfold lookW;rw[h];rfl
mutual
theorem TreeOf.run(ok:LRok g it la go)(on:Only g it la go act)(hw:∀t∈w,t<g.terms):∀{T:Tree} {X:Sym} {i j:Nat},TreeOf g w X T i j→∀{σ:List Nat} {τ:List Tree} {x:Lr},it (topS σ) x→(∃u,la (topS σ) x u)→afterL g x=some X→Allowed g la (topS σ) x (lookW g w j)→
  ∃s' n,go (topS σ) X=some s'∧n≤T.pre.length∧Run g go act w ((σ,τ),i) n ((σ++[s'],τ++[T]),j)
 | .mk _ t _,_,i,_,.leaf h,σ,τ,x,hx,_,ha,_=>by
  obtain⟨s',h1,h2,h3⟩:=ok.step hx ha;have hact:=on.all (.shift (hw t (gM h)) h1);exact⟨s',0,h1,Nat.zero_le _,.shift (c:=(σ,τ)) .refl h hact⟩
 | .mk _ _ ks,_,i,j,.node (k:=k) (r:=r) h h2,σ,τ,x,hx,⟨u,hu⟩,ha,hal=>by
  obtain⟨s',h3,_,_⟩:=ok.step hx ha;have hk0:=ok.clos hx ha h;have hk1:=ok.closL (t:=lookW g w j) hx hu ha h hal;obtain⟨σ',n,e1,e2,e3,e4,e5⟩:=TreesOf.run ok on hw h2 (σ:=σ) (τ:=τ) (k:=k) (d:=0) (r:=r) h hk0 hk1 (Nat.zero_le _) rfl;have hact:=on.all (.red h e2 e3);refine⟨s',n+1,h3,?_,?_⟩
  ·show n+1≤((k:Int)::preL ks).length;rw[List.length_cons];omega
  ·have hred:=Run.red e5 hact;have hsl:σ'.length=r.right.length:=by rw[e1,TreesOf.len h2]
   have e:redS g go act (lookW g w j) (σ++σ',τ++ks)=(σ++[s'],τ++[.mk k 0 ks]):=by
    unfold redS;dsimp only;rw[hact];dsimp only;rw[h];dsimp only;have e7:(σ++σ').length-r.right.length=σ.length:=by rw[List.length_append,hsl];omega
    have e8:(τ++ks).length-r.right.length=τ.length:=by rw[List.length_append,TreesOf.len h2];omega
    rw[e7,e8,List.take_left,List.take_left,List.drop_left,h3];rfl
   rw[e] at hred;exact hred
theorem TreesOf.run(ok:LRok g it la go)(on:Only g it la go act)(hw:∀t∈w,t<g.terms):∀{ts:List Tree} {l:List Sym} {i j:Nat},TreesOf g w l ts i j→∀{σ:List Nat} {τ:List Tree} {k d:Nat} {r:Rule},g.rules[k]?=some r→it (topS σ) ⟨k,d⟩→la (topS σ) ⟨k,d⟩ (lookW g w j)→d≤r.right.length→r.right.drop d=l→
  ∃σ' n,σ'.length=ts.length∧it (topS (σ++σ')) ⟨k,r.right.length⟩∧la (topS (σ++σ')) ⟨k,r.right.length⟩ (lookW g w j)∧n≤(preL ts).length∧Run g go act w ((σ,τ),i) n ((σ++σ',τ++ts),j)
 | [],_,i,_,.nil,σ,τ,k,d,r,hk,hit,hla,hdl,hd=>by
  obtain rfl:d=r.right.length:=by have:=List.drop_eq_nil_iff.1 hd;omega
  refine⟨[],0,rfl,?_,?_,Nat.zero_le _,?_⟩
  ·rw[List.append_nil];exact hit
  ·rw[List.append_nil];exact hla
  ·rw[List.append_nil,List.append_nil];exact .refl
 | T::ts,s::l,i,j,.cons (m:=m) h1 h2,σ,τ,k,d,r,hk,hit,hla,hdl,hd=>by
  have hd1:r.right[d]?=some s:=by rw[←List.head?_drop,hd];rfl
  have hd2:r.right.drop (d+1)=l:=by rw[←List.tail_drop,hd];rfl
  have hdlt:=(gS hd1).1;have haf:afterL g ⟨k,d⟩=some s:=by rw[afterL_right];show (rightL g k)[d]?=_;rw[rightL_rule hk];exact hd1
  have hrest:restL g ⟨k,d⟩=l:=by unfold restL;show (rightL g k).drop (d+1)=_;rw[rightL_rule hk];exact hd2
  obtain⟨b1,b2⟩:=TreesOf.begin h2;have hle:=(TreesOf.le h2).1;have hal:Allowed g la (topS σ) ⟨k,d⟩ (lookW g w m):=by
   unfold Allowed;rw[hrest];by_cases hm:m<j
   ·obtain⟨c,hc,h5⟩:=b2 hm;rw[lookW_at hc];exact .inl h5
   ·obtain rfl:m=j:=by omega
    exact .inr ⟨b1 rfl,hla⟩
  obtain⟨s',n1,e1,e2,e3⟩:=TreeOf.run ok on hw h1 hit ⟨_,hla⟩ haf hal;obtain⟨s2,f1,f2,f3⟩:=ok.step hit haf;rw[e1] at f1;obtain rfl:=Option.some.inj f1;obtain⟨σ',n2,g1,g2,g3,g4,g5⟩:=TreesOf.run ok on hw h2 (σ:=σ++[s']) (τ:=τ++[T]) (k:=k) (d:=d+1) (r:=r) hk (by rw[topS_snoc];exact f2) (by rw[topS_snoc];exact f3 _ hla) hdlt hd2;have e:∀x:List Nat,σ++[s']++x=σ++(s'::x):=fun x=>by simp
  have e':∀x:List Tree,τ++[T]++x=τ++(T::x):=fun x=>by simp
  rw[e] at g2 g3 g5;rw[e'] at g5;refine⟨s'::σ',n1+n2,by rw[List.length_cons,g1];rfl,g2,g3,?_,e3.trans g5⟩;show _≤(T.pre++preL ts).length;rw[List.length_append];omega
end
end
end Go.Proofs.D