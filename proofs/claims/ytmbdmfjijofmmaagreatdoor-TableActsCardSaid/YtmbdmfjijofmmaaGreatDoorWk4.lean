/-
  Walks: what functions of the program do, over the abstract machine.
-/
import Derived.Test.YtmbdmfjijofmmaaGreatDoorWk3
set_option linter.unusedVariables false
set_option maxRecDepth 20000
set_option maxHeartbeats 0
open Go Go.Abs Go.Proofs Go.Proofs.D
set_option linter.unusedVariables false
set_option maxRecDepth 20000
set_option maxHeartbeats 0
open Go Go.Abs Go.Proofs Go.Proofs.D
namespace Go.Proofs.D
structure CpS where
 j:Nat
 a:Option Addr
 c:Nat
 B:List (Nat×Blk)
theorem CountVal.some{T:Nat→Nat}{c:Int}(h:CountVal T c)(hc:c≠0):∃d,1≤T d:=by
 rcases h with ⟨n,⟨D,hD⟩,h2⟩ | ⟨h,_⟩
 ·refine⟨D,?_⟩;rw[hD D (Nat.le_refl _)];rcases Nat.eq_zero_or_pos n with e | e
  ·subst e;exact absurd h2 (by simpa using hc)
  ·exact e
 ·exact h 1
end Go.Proofs.D
set_option linter.unusedVariables false
set_option maxRecDepth 20000
set_option maxHeartbeats 0
open Go Go.Abs Go.Proofs Go.Proofs.D
namespace Go.Abs
section
variable {C:Ctx}{T:RT}{n:Nat}{k:Kno}{F:Frz}{own:Own}{ops rest:List Oper}{o:Oper}{Q:Kno→Frz→Own→List Rec→Prop}{args':List Value}
theorem WT.callCF0{f:FuncId}{fn:Func}{fo:Operand}{as_:Array Operand}{ts:Array TypeId}{args args' first capt:List Value}{P:Frz→Value→Prop}(hf:C.func f=some fn)(hb:fn.body.isSome=true)(hop:o.op=.call ⟨.value fo,as_,ts⟩)
  (hw:wantK ops k o=some true) {dst:Nat} (hdst:o.dst=some dst) (hn:Nat.blt dst n=true) (hfo:evK C k fo=some (.func (.func f) ⟨first⟩ ⟨capt⟩)) (hv:vals (evK C k) as_.toList=some args) (hargs:first++args++capt=args') (spec:Spec C f args' F [] fun F' v o=>o=[]∧P F' v)
  (h:∀F' v,Frz.le F F'→P F' v→WT C n ops rest ((dst,v)::k) F' own (fun k2 F2 own2 rs=>Q k2 F2 own2 (⟨F,own,F',own,[]⟩::rs))) :
  WT C n ops (o::rest) k F own Q:=by
 subst hargs;refine WT.step (l:=[]) (by rw[hop];rfl) fun e h' hk hs=>?_;obtain⟨v,h1,F1,oout,⟨m,hd⟩,hF,hs1,rfl,hp⟩:=spec own h' hs;refine⟨v,h1,F1,own,⟨m,fun N hN=>?_⟩,hF,hs1,by rw[hdst,putK_some hn];exact h F1 v hF hp⟩;unfold stepA;rw[wantK_ok hk hw];have:opA C (evK C k) h' o.op=some (.call f (first++args++capt)):=by
  rw[hop];simp only[opA,hfo,hv,callA_func hf hb]
 simp only[opA_mono hk.eval this,hd N hN]
end
end Go.Abs
namespace Go.Proofs.D
def tBool:Ty Bool where
 size:=1
 rel:=fun _ l x=>l=[.bool x]
 len:=fun _ _ _ h=>by subst h;rfl
 one:=fun _ _ _ h=>by subst h;rfl
 mono:=fun _ _ _ _ _ h=>h
def Chain(to:Nat):List Sym→Nat→List Key→Prop
 | [],i,ks=>ks=[]∧i=to
 | s::l,i,ks=>∃q ks',ks=q::ks'∧q.sym=s∧q.frm=i∧Chain to l q.to ks'
structure PackOk(g:Gram)(S:List Key)(k:Key)(p:NPack)(kp:KPack):Prop where
 num:p=numPack S kp
 rule:∃r,g.rules[kp.rule]?=some r∧r.left=k.sym.n∧Chain k.to r.right k.frm kp.kids
 ins:∀q∈kp.kids,q∈S
structure NodeOk(g:Gram)(w:List Nat)(S:List Key)(k:Key)(x:Node):Prop where
 key:x.key=k
 term:k.sym.term=true→k.to=k.frm+1∧k.to≤w.length∧w[k.frm]?=some k.sym.n∧x.packs=[]
 non:k.sym.term=false→x.packs≠[]
 pack:∀p∈x.packs,∃kp,PackOk g S k p kp
 sorted:x.packs.Pairwise fun x y=>cmpNPack x y<0
end Go.Proofs.D
set_option linter.unusedVariables false
set_option maxRecDepth 20000
set_option maxHeartbeats 0
open Go Go.Abs Go.Proofs Go.Proofs.D
namespace Go.Abs
section
variable {C:Ctx}{T:RT}{n:Nat}{k:Kno}{F:Frz}{own:Own}{ops rest:List Oper}{o:Oper}{Q:Kno→Frz→Own→List Rec→Prop}{α:Type}{R:Ty α}
theorem WT.vldE(hT:rowsOk C T=true)(p:Nat){t:TypeId}{ao:Operand}{a:Option Addr}{m c j b:Nat}{B:List (Nat×Blk)}{xs:List α}{x:α}{r:Row}(hv:Vec R F a m c B xs)(ha:a=some ⟨b,0,none⟩)(hj:xs[j]?=some x)(hop:o.op=.load t ao)(hw:wantK ops k o=some true){dst:Nat}(hdst:o.dst=some dst)(hn:Nat.blt dst n=true)
  (hao:evK C k ao=some (.pointer (some ⟨b,j*R.size,none⟩))) (hp:own[p]?=some B) (hr:rowOf T t=some r) (hd:r.d.agg=false) (hs:R.size=1)
  (h:∀v,R.rel F [v] x→WT C n ops rest ((dst,v)::k) F own (fun k2 F2 own2 rs=>Q k2 F2 own2 (⟨F,own,F,own,[b]⟩::rs))):WT C n ops (o::rest) k F own Q:=by
 obtain⟨i,cs,h1,rfl,h3,h4⟩:=hv.at_ hj;rw[ha] at h1;injection h1 with h1;injection h1 with h1;subst h1;obtain⟨l,h5,h6⟩:=h3.at j x hj;have hl:=R.len _ _ _ h6;rw[show R.size=1 from hs] at hao h5 hl
 match l,hl,h5,h6 with
 | [v],_,h5,h6=>exact WT.loadOwn p hop hw hao hp me (readA_at hT hr hd (partL_one h5 rfl)) (by rw[hdst,putK_some hn];exact h v h6)
end
end Go.Abs
namespace Go.Proofs.D
theorem addAll_snoc{α:Type}[DecidableEq α]:∀(os:List (Option α)) (sts:List α) (o:Option α),addAll sts (os++[o])=((addOne (addAll sts os).1 o).1,(addAll sts os).2++[(addOne (addAll sts os).1 o).2])
 | [],sts,o=>rfl
 | x::os,sts,o=>by
  have ih:=addAll_snoc os (addOne sts x).1 o;show ((addAll (addOne sts x).1 (os++[o])).1,(addOne sts x).2::(addAll (addOne sts x).1 (os++[o])).2)=_;rw[ih];rfl
theorem addAll_more{α:Type}[DecidableEq α](sts:List α)(a:List (Option α)):∀(b:List (Option α)),(addAll sts a).1.length≤(addAll sts (a++b)).1.length:=by
 intro b
 induction a generalizing sts with
 | nil=>
  obtain⟨⟨ex,h⟩,_⟩:=addAll_ok b sts;show sts.length≤(addAll sts b).1.length;rw[h,List.length_append];omega
 | cons o a ih=>exact ih (addOne sts o).1
def idxD{α:Type}[DecidableEq α](s:α)(S:List α):Nat:=S.idxOf s
theorem idxD_old{α:Type}[DecidableEq α]{s:α}{S T:List α}(h:s∈S):idxD s (S++T)=idxD s S:=by
 unfold idxD;rw[List.idxOf_append,if_pos h]
theorem idxD_new{α:Type}[DecidableEq α]{s:α}{S:List α}(h:s∉S):idxD s (S++[s])=S.length:=by
 unfold idxD;rw[List.idxOf_append,if_neg h];simp
def MapOk{σ:Type}[DecidableEq σ](key:σ→List UInt8)(P:List σ→Prop)(es:Ents (List UInt8))(S:List (List σ)):Prop:=∀s,P s→Abs.look es (nameF key s)=if s∈S then some (.int .i64 (idxD s S:Nat)) else none
theorem MapOk.add{σ:Type}[DecidableEq σ]{key:σ→List UInt8}{P:List σ→Prop}{es:Ents (List UInt8)}{S:List (List σ)}(h:MapOk key P es S)(hinj:∀s s',P s→P s'→nameF key s=nameF key s'→s=s'){s:List σ}(hs:P s)(hn:s∉S) :
  MapOk key P (mset es (nameF key s) (.int .i64 (S.length:Nat))) (S++[s]):=by
 intro s' hs';rw[look_mset];by_cases e:s'=s
 ·subst e;rw[if_pos rfl,if_pos (List.mem_append_right _ (List.mem_singleton_self _))];rw[idxD_new hn]
 ·rw[if_neg (fun e2=>e (hinj s' s hs' hs e2)),h s' hs'];by_cases hm:s'∈S
  ·rw[if_pos hm,if_pos (List.mem_append_left _ hm)];rw[idxD_old hm]
  ·rw[if_neg hm,if_neg];intro h2;rcases List.mem_append.1 h2 with h2 | h2
   ·exact hm h2
   ·exact e (List.mem_singleton.1 h2)
theorem MapOk.one{σ:Type}[DecidableEq σ]{key:σ→List UInt8}{P:List σ→Prop}(hinj:∀s s',P s→P s'→nameF key s=nameF key s'→s=s'){s:List σ}(hs:P s):MapOk key P (mset [] (nameF key s) (.int .i64 0)) [s]:=
 MapOk.add (S:=[]) (es:=[]) (fun s' _=>by simp[Abs.look]) hinj hs (by simp)
theorem numF_at{α:Type}[DecidableEq α]{most f i:Nat}{step:α→List (Option α)}{sts:List α}(rows:List (List Int))(_:Unit){st:α}(h:sts[i]?=some st) :
  numF most step (f+1) i sts rows=if (addAll sts (step st)).1.length≤most then numF most step f (i+1) (addAll sts (step st)).1 (rows++[(addAll sts (step st)).2]) else none:=by
 conv=>lhs;unfold numF
 rw[h]
theorem shE9{p:Prop} (h:p:=by
 subst hv;refine WT.addStr Z Z Z Z Z Z (by rw[strB_size];show _+1≤_;omega) ?_;refine WT.addStr Z Z Z Z Z Z (by rw[show (strB (key x)++{ data:=#[59] }:ByteArray)=strB (key x++[59]) from strB_app _ [59],strB_size,strB_size,hP,List.length_append];show _+(_+1)≤_;omega) ?_;refine WT.know (v':=.string (strB (s++(key x++[59])))) 18 Z (by show Value.string (strB s++(strB (key x)++strB [59]))=_;rw[strB_app,strB_app]) ?_;refine zB4 ?_;refine⟨s++(key x++[59]),sM,zow,?_⟩;show _=nameF key (l.take (j+1));rw[List.take_add_one,hxj,Option.toList_some,nameF_snoc,hP]):p:=h
theorem nameI_spec(F:Frz){b:Option Addr}{n d:Nat}{l:List Lr}(hl:Arr tLr F b n d l)(hn:n≤1000){i6:Nat}{ro:Bool}{fk:Nat}{fnk:Func}(hgk:CC.func fk=some fnk)(hbk:fnk.body.isSome=true)(hi6:F i6=some (.cells ro [.func (.func fk) ⟨[]⟩ ⟨[]⟩]))
  (key:Lr→List UInt8) (hlen:∀x∈l,(key x).length≤20) (hkey:∀x∈l,∀G,Frz.le F G→Abs.Spec CC fk [.agg ⟨[.int .i64 x.rule,.int .i64 x.dot]⟩] G [] fun _ v o=>o=[]∧v=.string (strB (key x))) :
  Abs.Spec CC 192 [.slice b n d,.pointer (some ⟨i6,0,none⟩)] F [] fun _ v o=>o=[]∧v=.string (strB (nameF key l)):=by
 have hll:=hl.len;have htot:∀j,(nameF key (l.take j)).length≤21*j:=by
  intro j
  induction j with
  | zero=>simp[nameF]
  | succ j ih=>
   rw[List.take_add_one];cases hx:l[j]? with
   | none=>simp;omega
   | some x=>
    rw[Option.toList_some,nameF_snoc,List.length_append,List.length_append,List.length_singleton];have:=hlen x (gM hx);omega
 refine Abs.Spec.fn (n:=21) Tryz.func192 rfl rfl fun own=>?_;refine zC4 ?_;refine AW.range (S:=List UInt8) (fun s=>[(4,.string (strB s))]) (fun _=>own) (fun j s G=>s=nameF key (l.take j)) n [] Z Z Z Z Z Z Z Z Z zo Z Z (fun _=>rfl) (fun _=>rfl) sM oR Z ?_ ?_
 ·intro j s F1 hF1 hj hP;have hl1:=hl.mono hF1;have hi1:=hF1 _ _ hi6;have ht:=htot j;refine zB4 ?_;refine WT.idxL hT hl1 Z Z Z Z Z Z Z Z Z zo (fun x hxj b1 off ro1 cs lx hb1 hp1 hrel=>?_);obtain rfl:lx=_:=hrel;have hxm:=gM hxj;have hxl:=hlen x hxm;refine zB4 ?_;refine WT.allocT hT Z Z Z Z Z Z (fun i9 hi9=>?_);refine zB4 ?_;refine WT.callC (first:=[]) (args:=[.agg ⟨[.int .i64 x.rule,.int .i64 x.dot]⟩]) (capt:=[]) hgk hbk Z Z Z Z Z Z Z (hkey x hxm F1 hF1) (fun v hv=>?_)
  exact shE9
 ·intro s F1 hF1 hP;rw[List.take_of_length_le zo] at hP;refine zB4 ?_;exact AW.ret ⟨_,[],⟨_,_,rfl,rfl,rfl⟩,zsb,rfl,by rw[hP];rfl⟩
structure NmOI where
 i:Nat
 sts:List (List Lr)
 rows:List (List Int)
 sa:Option Addr
 sn:Nat
 sc:Nat
 SB:List (Nat×Blk)
 ta:Option Addr
 tn:Nat
 tc:Nat
 TB:List (Nat×Blk)
 es:Ents (List UInt8)
structure NmRI where
 sts:List (List Lr)
 row:List Int
 sa:Option Addr
 sn:Nat
 sc:Nat
 SB:List (Nat×Blk)
 ra:Option Addr
 rn:Nat
 rc:Nat
 RB:List (Nat×Blk)
 es:Ents (List UInt8)
theorem shIKnumber_spec{p:Prop} (h:p:=by
 have hgt:=hg.range.terms;have hgn:=hg.range.nons;have hl0:=h0.len;unfold gramCells;refine Abs.Spec.fn (n:=93) zzIK2 rfl rfl fun own=>?_;refine AW.seq (AW.reg ?_);refine WT.boxT Z Z Z Z Z Z (fun i4 hi4=>?_);refine WT.boxT Z Z Z Z Z Z (fun i6 hi6=>?_);refine zB4 ?_;refine WT.freezeAll 0 Z Z (fun F0 hF0 hB0=>?_);have hi6:=hB0 i6 _ me;have h01:=h0.mono hF0;refine WT.buildT hT Z Z Z Z Z Z Z Z Z Z Z Z Z Z (fun i26 hi26=>?_);refine zB4 ?_;refine WT.makeMap Z Z Z Z (fun im him=>?_);refine zB4 ?_
 refine WT.callC (first:=[]) (args:=[.slice b n d]) (capt:=[.pointer (some ⟨i6,0,none⟩)]) zzIK3 Z Z Z Z Z Z Z Z (zzIK4 F0 h01 (hl0▸(hPl _ hP0).1) hgk hbk hi6 key (fun x hx=>hlen x ((hPl _ hP0).2 x hx)) (fun x hx G hG=>hkey x ((hPl _ hP0).2 x hx) G (hF0.trans hG))) (fun v hv=>?_)
 subst hv;refine WT.mapIns keyStr hT 0 0 (m:=[]) (key:=nameF key st0) Z Z Z Z Z Z Z Z Z Z Z Z ?_;refine zB4 ?_;refine AW.block ?_;refine AW.loopR (S:=zzIK0) (fun s=>[(15,.int .i64 (s.i:Nat)),(12,.slice s.sa s.sn s.sc),(14,.slice s.ta s.tn s.tc)]) (fun s=>s.TB::[(im,.map (entsV keyStr s.es))]::s.SB::[]::[(i4,.cells false [.int .i64 g.terms,.int .i64 g.nons,.int .i64 g.start,.slice ga gm gc])]::own)
  (fun s G=>numF 400 (fun s=>(symsL g).map (nx s)) 401 0 [st0] []=numF 400 (fun s=>(symsL g).map (nx s)) (401-s.i) s.i s.sts s.rows∧NumI 400 (fun s=>(symsL g).map (nx s)) st0 s.i s.sts s.rows∧Bld (tList zzIK5) G s.sa s.sn s.sc s.SB s.sts∧Bld (tList tInt) G s.ta s.tn s.tc s.TB s.rows∧MapOk key P s.es s.sts∧∀x∈s.sts,P x) (fun s=>401-s.i)
  ⟨0,[st0],[],some ⟨i26,0,none⟩,1,1,[(i26,.cells false [.slice b n d])],none,0,0,[],mset [] (nameF key st0) (.int .i64 0)⟩
  sM (OwnLe.flat (List.Perm.refl _)) ⟨rfl,NumI.begin _ _ (by decide),⟨rfl,.inr ⟨i26,_,rfl,rfl,rfl,Cells.single (R:=tList zzIK5) (x:=st0) ⟨_,_,_,rfl,h01⟩,by decide⟩⟩,Bld.nil_ _ _,MapOk.one hinj hP0,fun x hx=>by rw[List.mem_singleton.1 hx];exact hP0⟩ ?_
 intro s F1 hF1 hI;obtain⟨hnum,hN,hsb,htb,hmp,hall⟩:=hI;have hfew:=hN.few;have hle:=hN.le;have hrl:=hN.len;have hsn:=hsb.len;have htn:=htb.len;have hi61:=hF1 _ _ hi6;refine zB7 ?_;refine AW.cond Z (fun h=>?_) (fun h=>?_)
 ·have hlt:s.i<s.sts.length:=by simp at h;omega
  obtain⟨st,hst⟩:∃st,s.sts[s.i]?=some st:=⟨_,gE hlt⟩;have hPst:=hall st (gM hst);refine zB7 ?_;refine AW.block ?_;refine zB7 ?_;have hsy:=symbols_spec F1 g hg (a:=ga) (m:=gm) (c:=gc);unfold gramCells at hsy;refine WT.callF0 Tryz.func146 Z Z Z Z Z Z hsy (fun F2 v hF2 hv=>?_);obtain⟨ya,yn,yc,rfl,hy⟩:=hv;have hyl:=hy.len;rw[symsL_len] at hyl;refine zB7 ?_
  refine AW.range (S:=zzIK1) (fun u=>[(12,.slice u.sa u.sn u.sc),(16,.slice u.ra u.rn u.rc)]) (fun u=>u.RB::s.TB::[(im,.map (entsV keyStr u.es))]::u.SB::[]::[(i4,.cells false [.int .i64 g.terms,.int .i64 g.nons,.int .i64 g.start,.slice ga gm gc])]::own)
   (fun k u G=>addAll s.sts (((symsL g).map (nx st)).take k)=(u.sts,u.row)∧u.sts.length≤400∧Bld (tList zzIK5) G u.sa u.sn u.sc u.SB u.sts∧Bld tInt G u.ra u.rn u.rc u.RB u.row∧MapOk key P u.es u.sts∧∀x∈u.sts,P x) yn ⟨s.sts,[],s.sa,s.sn,s.sc,s.SB,none,0,0,[],s.es⟩
   Z Z Z Z Z Z Z Z Z zo rfl rfl (fun _=>rfl) (fun _=>rfl) sM (OwnLe.flat (List.Perm.refl _)) ⟨rfl,hfew,hsb.mono hF2,Bld.nil_ _ _,hmp,hall⟩ ?_ ?_
  ·intro k u F3 hF3 hk hI;obtain⟨hadd,hu4,hub,hrb,hum,huall⟩:=hI;have hy3:=hy.mono hF3;have hi63:=hF3 _ _ (hF2 _ _ hi61);have hrow:=hrb.len;have hun:=hub.len;obtain⟨⟨ex,hex⟩,hnd,_,hro⟩:=addAll_ok (((symsL g).map (nx st)).take k) s.sts;rw[hadd] at hex hnd hro;have hex:u.sts=s.sts++ex:=hex;have hrl:=hro.len;rw[List.length_take,List.length_map,symsL_len] at hrl;have hrl:u.row.length=k:=by
    have h9:u.row.length=min k (g.terms+g.nons):=hrl;rw[h9,Nat.min_eq_left zo]
   have hsti:u.sts[s.i]?=some st:=by rw[hex,List.getElem?_append_left hlt];exact hst
   refine zB8 ?_;refine WT.idxL hT hy3 Z Z Z Z Z Z Z Z Z (by rw[symsL_len];omega) (fun y hyk b1 off1 ro1 cs1 lx1 hb1 hp1 hrel1=>?_);obtain rfl:lx1=_:=hrel1;obtain⟨hyo,hyi⟩:=symsL_ok hyk;have hosk:((symsL g).map (nx st))[k]?=some (nx st y):=by rw[List.getElem?_map,hyk];rfl
   have htk:((symsL g).map (nx st)).take (k+1)=((symsL g).map (nx st)).take k++[nx st y]:=by rw[List.take_add_one,hosk];rfl
   refine zB8 ?_;refine WT.allocT hT Z Z Z Z Z Z (fun i18 hi18=>?_);refine zB8 ?_;refine WT.vidx hT hub.vec Z Z Z Z Z Z Z Z Z (by rw[hun,hex,List.length_append];omega) (fun b5 hb5=>?_);refine WT.vldE hT 4 hub.vec hb5 hsti Z Z Z Z Z Z Z Z Z (fun v hv=>?_);obtain⟨qa,qn,qc,hv,hq⟩:=hv;obtain rfl:v=.slice qa qn qc:=by simpa using hv
   refine zB8 ?_;refine WT.callCF0 (first:=firstx) (args:=[.slice qa qn qc,.agg ⟨[.bool y.term,.int .i64 y.n]⟩]) (capt:=captx) hgx hbx Z Z Z Z Z Z Z (hnext F3 (hF0.trans (hF1.trans (hF2.trans hF3))) _ _ _ st y hPst hq hyo) (fun F4 v hF4 hv=>?_)
   obtain⟨za,zn,zc,zb,s',rfl,hz,hnx⟩:=hv;have hrb4:=hrb.mono hF4;have hub4:=hub.mono hF4;have hsnoc:=addAll_snoc (((symsL g).map (nx st)).take k) s.sts (nx st y);rw[←htk,hadd] at hsnoc;refine zB8 ?_;refine AW.cond Z (fun hzb=>?_) (fun hzb=>?_)
   ·have hzb:zb=false:=by simpa using hzb
    rw[hzb,if_neg (by simp)] at hnx;rw[hnx] at hsnoc;refine zB8 ?_;refine WT.buildT hT Z Z Z Z Z Z Z Z Z Z Z Z Z Z (fun i58 hi58=>?_);refine WT.appendT (R:=tInt) (ys:=[-1]) hT 2 hrb4 Z (fun _=>rfl) Z Z Z Z Z Z Z Z Z Z Z (fun h0 s0=>news_own hT s0 0 Z Z Z Z) (Cells.single (R:=tInt) (x:=-1) rfl) Z (by decide) zom (fun a3 c3 B3 hB3=>?_);refine zB8 ?_;refine AW.exit ?_;exact⟨⟨u.sts,u.row++[-1],u.sa,u.sn,u.sc,u.SB,a3,u.rn+1,c3,B3,u.es⟩,sM,zow,hsnoc,hu4,hub4,hB3,hum,huall⟩
   ·have hzb:zb=true:=by simpa using hzb
    rw[hzb,if_pos rfl] at hnx;rw[hnx] at hsnoc;have hPs:=hnP st y s' hPst hnx;refine zB8 ?_;refine WT.callC (first:=[]) (args:=[.slice za zn zc]) (capt:=[.pointer (some ⟨i6,0,none⟩)]) zzIK3 Z Z Z Z Z Z Z Z (zzIK4 F4 hz (hz.len▸(hPl _ hPs).1) hgk hbk (hF4 _ _ hi63) key (fun x hx=>hlen x ((hPl _ hPs).2 x hx)) (fun x hx G hG=>hkey x ((hPl _ hPs).2 x hx) G (hF0.trans (hF1.trans (hF2.trans (hF3.trans (hF4.trans hG))))))) (fun v hv=>?_)
    subst hv;refine zB8 ?_;have hlk:=hum s' hPs;refine WT.lookup2 keyStr hT 3 (m:=u.es) (key:=nameF key s') Z Z Z Z Z Z Z me Z Z Z (fun v hv=>?_) (fun hv=>?_)
    ·rw[hv] at hlk;have hmem:s'∈u.sts:=by
      by_cases hm:s'∈u.sts
      ·exact hm
      ·rw[if_neg hm] at hlk;cases hlk
     rw[if_pos hmem] at hlk;obtain rfl:=Option.some.inj hlk;have hone:addOne u.sts (some s')=(u.sts,((idxD s' u.sts:Nat):Int)):=by unfold addOne;simp only[if_pos hmem];rfl
     rw[hone] at hsnoc;refine zB8 ?_;refine AW.cond Z (fun h=>(by cases h)) (fun _=>?_);refine zB8 ?_;refine WT.buildT hT Z Z Z Z Z Z Z Z Z Z Z Z Z Z (fun i58 hi58=>?_);refine WT.appendT (R:=tInt) (ys:=[((idxD s' u.sts:Nat):Int)]) hT 2 hrb4 Z (fun _=>rfl) Z Z Z Z Z Z Z Z Z Z Z (fun h0 s0=>news_own hT s0 0 Z Z Z Z) (Cells.single (R:=tInt) (x:=((idxD s' u.sts:Nat):Int)) rfl) Z (by decide) zom (fun a3 c3 B3 hB3=>?_);refine zB8 ?_;exact⟨⟨u.sts,u.row++[((idxD s' u.sts:Nat):Int)],u.sa,u.sn,u.sc,u.SB,a3,u.rn+1,c3,B3,u.es⟩,sM,zow,hsnoc,hu4,hub4,hB3,hum,huall⟩
    ·rw[hv] at hlk;have hmem:s'∉u.sts:=fun hm=>by rw[if_pos hm] at hlk;cases hlk
     have hone:addOne u.sts (some s')=(u.sts++[s'],((u.sts.length:Nat):Int)):=by unfold addOne;simp only[if_neg hmem]
     rw[hone] at hsnoc;refine zB8 ?_;refine AW.cond Z (fun _=>?_) (fun h=>(by cases h));refine zB8 ?_;refine AW.cond Z (fun h4=>?_) (fun h4=>?_)
     ·have h4:u.sts.length=400:=by simp at h4;omega
      refine zB8 ?_;refine AW.ret ⟨_,[],⟨_,_,rfl,⟨_,_,rfl,⟨_,_,rfl,rfl,rfl⟩,rfl⟩,rfl⟩,zsb,rfl,.inl ⟨?_,rfl⟩⟩;rw[hnum,show 401-s.i=(400-s.i)+1 by omega,numF_at _ () hst,if_neg];have h5:=addAll_more s.sts (((symsL g).map (nx st)).take (k+1)) (((symsL g).map (nx st)).drop (k+1));rw[List.take_append_drop,hsnoc] at h5;simp only[List.length_append,List.length_singleton] at h5;omega
     ·have h4:u.sts.length≠400:=by simp at h4;omega
      refine zB8 ?_;refine WT.mapSet keyStr hT 3 0 (m:=u.es) (key:=nameF key s') Z Z Z Z Z Z Z Z Z Z Z Z ?_;refine zB8 ?_;refine WT.buildT hT Z Z Z Z Z Z Z Z Z Z Z Z Z Z (fun i80 hi80=>?_);refine WT.appendT (R:=tList zzIK5) (ys:=[s']) hT 5 hub4 Z (fun _=>rfl) Z Z Z Z Z Z Z Z Z Z Z (fun h0 s0=>news_own hT s0 0 Z Z Z Z) (Cells.single (R:=tList zzIK5) (x:=s') ⟨_,_,_,rfl,hz⟩) Z (by decide) zom (fun a4 c4 B4 hB4=>?_);refine zB8 ?_;refine WT.buildT hT Z Z Z Z Z Z Z Z Z Z Z Z Z Z (fun i58 hi58=>?_)
      refine WT.appendT (R:=tInt) (ys:=[((u.sn:Nat):Int)]) hT 3 hrb4 Z (fun _=>rfl) Z Z Z Z Z Z Z Z Z Z Z (fun h0 s0=>news_own hT s0 0 Z Z Z Z) (Cells.single (R:=tInt) (x:=((u.sn:Nat):Int)) rfl) Z (by decide) zom (fun a3 c3 B3 hB3=>?_);refine zB8 ?_;have hum2:=hum.add hinj hPs hmem;rw[←hun] at hum2 hsnoc;refine⟨⟨u.sts++[s'],u.row++[((u.sn:Nat):Int)],a4,u.sn+1,c4,B4,a3,u.rn+1,c3,B3,mset u.es (nameF key s') (.int .i64 (u.sn:Nat))⟩,sM,zow,hsnoc,?_,hB4,hB3,hum2,fun x hx=>?_⟩
      ·show (u.sts++[s']).length≤400;rw[List.length_append,List.length_singleton];omega
      ·rcases List.mem_append.1 hx with hx | hx
       ·exact huall x hx
       ·rw[List.mem_singleton.1 hx];exact hPs
  ·intro u F3 hF3 hI;obtain⟨hadd,hu4,hub,hrb,hum,huall⟩:=hI;rw[List.take_of_length_le (by rw[List.length_map,symsL_len];omega)] at hadd;refine AW.freezeAll 0 Z Z (fun F4 hF4 hB4=>?_);have hrow:=hrb.frozen hF4 hB4;have hF14:=(hF2.trans hF3).trans hF4;have htb4:=htb.mono hF14;refine zB8 ?_;refine WT.buildT hT Z Z Z Z Z Z Z Z Z Z Z Z Z Z (fun i89 hi89=>?_);refine WT.appendT (R:=tList tInt) (ys:=[u.row]) hT 2 htb4 Z (fun _=>rfl) Z Z Z Z Z Z Z Z Z Z Z (fun h0 s0=>news_own hT s0 0 Z Z Z Z) (Cells.single (R:=tList tInt) (x:=u.row) ⟨_,_,_,rfl,hrow⟩) Z (by decide) zom (fun a3 c3 B3 hB3=>?_)
   refine zB8 ?_;have hstep:(addAll s.sts ((symsL g).map (nx st))).1=u.sts∧(addAll s.sts ((symsL g).map (nx st))).2=u.row:=by rw[hadd];exact⟨rfl,rfl⟩
   have hN2:=hN.next hst (by rw[hstep.1];exact hu4)
   have hun:=hub.len;refine⟨⟨s.i+1,u.sts,s.rows++[u.row],u.sa,u.sn,u.sc,u.SB,a3,s.tn+1,c3,B3,u.es⟩,by dsimp only;omega,sM,zow,?_,?_,hub.mono hF4,hB3,hum,huall⟩
   ·rw[hnum,show 401-s.i=(400-s.i)+1 by omega,numF_at _ () hst,if_pos (by rw[hstep.1];exact hu4),hstep.1,hstep.2];show numF 400 _ (400-s.i) (s.i+1) _ _=numF 400 _ (401-(s.i+1)) (s.i+1) _ _;rw[show 401-(s.i+1)=400-s.i by omega]
   ·rw[hstep.1,hstep.2] at hN2;exact hN2
 ·have hge:s.sts.length≤s.i:=by simp at h;omega
  refine AW.exit ?_;refine AW.freezeAll 0 Z Z (fun F2 hF2 hB2=>?_);refine AW.freezeAll 2 Z Z (fun F3 hF3 hB3=>?_);have ht:=htb.frozen hF2 hB2;have hs3:=(hsb.mono hF2).frozen hF3 hB3;refine zB7 ?_;refine AW.ret ⟨_,[],⟨_,_,rfl,⟨_,_,rfl,⟨_,_,rfl,rfl,rfl⟩,rfl⟩,rfl⟩,zsb,rfl,.inr ⟨s.sts,s.rows,_,_,_,_,_,_,?_,rfl,hs3,ht.mono hF3⟩⟩;rw[hnum,show 401-s.i=(400-s.i)+1 by omega];unfold numF;rw[List.getElem?_eq_none hge]):p:=h
namespace NI
abbrev zzIK0:=NmOI
abbrev zzIK1:=NmRI
abbrev zzIK2:=Tryz.func151
abbrev zzIK3:=Tryz.func192
abbrev zzIK4:=@nameI_spec
abbrev zzIK5:=tLr
end NI
open NI in
theorem numberI_spec(F:Frz)(g:Gram)(hg:Valid g){ga:Option Addr}{gm gc:Nat}{b:Option Addr}{n d:Nat}{st0:List Lr}(h0:Arr tLr F b n d st0)
  {fk fx:Nat} {fnk fnx:Func} {firstx captx:List Value} (hgk:CC.func fk=some fnk) (hbk:fnk.body.isSome=true) (hgx:CC.func fx=some fnx) (hbx:fnx.body.isSome=true)
  (key:Lr→List UInt8) (nx:List Lr→Sym→Option (List Lr)) (P:List Lr→Prop) (okx:Lr→Prop)
  (hP0:P st0) (hPl:∀s,P s→s.length≤1000∧∀x∈s,okx x) (hinj:∀s s',P s→P s'→nameF key s=nameF key s'→s=s') (hnP:∀s y s',P s→nx s y=some s'→P s')
  (hlen:∀x,okx x→(key x).length≤20) (hkey:∀x,okx x→∀G,Frz.le F G→Abs.Spec CC fk [.agg ⟨[.int .i64 x.rule,.int .i64 x.dot]⟩] G [] fun _ v o=>o=[]∧v=.string (strB (key x)))
  (hnext:∀G,Frz.le F G→∀(a:Option Addr) (m c:Nat) (s:List Lr) (y:Sym),P s→Arr tLr G a m c s→SymOk g.terms g.nons y→
   Abs.Spec CC fx (firstx++[.slice a m c,.agg ⟨[.bool y.term,.int .i64 y.n]⟩]++captx) G [] fun G' v o=>o=[]∧∃a' n' c' z s',v=.tuple ⟨[.slice a' n' c',.bool z]⟩∧Arr tLr G' a' n' c' s'∧nx s y=if z=true then some s' else none) :
  Abs.Spec CC 151 [.agg ⟨gramCells g ga gm gc⟩,.slice b n d,.func (.func fk) ⟨[]⟩ ⟨[]⟩,.func (.func fx) ⟨firstx⟩ ⟨captx⟩] F [] fun F' v o=>o=[]∧
   ((numF 400 (fun s=>(symsL g).map (nx s)) 401 0 [st0] []=none∧v=.tuple ⟨[.slice none 0 0,.slice none 0 0,.bool false]⟩)∨
    ∃S rows a1 n1 c1 a2 n2 c2,numF 400 (fun s=>(symsL g).map (nx s)) 401 0 [st0] []=some (S,rows)∧v=.tuple ⟨[.slice a1 n1 c1,.slice a2 n2 c2,.bool true]⟩∧Arr (tList tLr) F' a1 n1 c1 S∧Arr (tList tInt) F' a2 n2 c2 rows):=shIKnumber_spec
def PI(g:Gram)(s:List Lr):Prop:=s.length≤1000∧∀x∈s,OkLr g x
theorem okI{g:Gram}(hg:Valid g){x:Lr}(h:OkLr g x):x.rule<100∧x.dot<100:=by
 have hr:=hg.range.rules;obtain⟨h1,h2⟩:=h;refine⟨by omega,?_⟩;have:(rightL g x.rule).length≤4:=by
  unfold rightL;split
  ·simp
  ·cases hq:g.rules[x.rule]? with
   | none=>simp
   | some r=>exact(hg.right r (gM hq)).2.1
 omega
theorem allLr_len{g:Gram}(hg:Valid g):(allLr g).length≤1000:=by
 have hr:=hg.range.rules;unfold allLr;rw[List.length_flatten,List.map_map];have:∀n≤g.rules.length+1,((List.range n).map (List.length ∘ fun k=>(List.range ((rightL g k).length+1)).map fun d=>(⟨k,d⟩:Lr))).sum≤n*5:=by
  intro n hn
  induction n with
  | zero=>simp
  | succ n ih=>
   rw[List.range_succ,List.map_append,List.sum_append];have ih:=ih zo;simp only[List.map_cons,List.map_nil,List.sum_cons,List.sum_nil,Function.comp,List.length_map,List.length_range];have h2:(rightL g n).length≤4:=by
    unfold rightL;split
    ·simp
    ·cases hq:g.rules[n]? with
     | none=>simp
     | some r=>exact(hg.right r (gM hq)).2.1
   omega
 have h:=this _ (Nat.le_refl _);omega
theorem closL_PI{g:Gram}(hg:Valid g)(l:List Lr):PI g (closL g l):=by
 refine⟨?_,closL_ok⟩;have h1:=allLr_len hg;have h2:=List.length_filter_le (fun z=>@decide (Clos g l z) (Classical.propDecidable _)) (allLr g);unfold closL;omega
theorem itemsOf2_spec(F:Frz)(g:Gram)(hg:Valid g){a:Option Addr}{m c:Nat}(hr:Arr tRule F a m c g.rules) :
  Abs.Spec CC 100 [.agg ⟨gramCells g a m c⟩] F [] fun F' v o=>o=[]∧((autoI g=none∧v=.tuple ⟨[.agg ⟨[.slice none 0 0,.slice none 0 0]⟩,.int .i64 2]⟩)∨
   ∃I rows a1 n1 c1 a2 n2 c2,autoI g=some (I,rows)∧v=.tuple ⟨[.agg ⟨[.slice a1 n1 c1,.slice a2 n2 c2]⟩,.int .i64 0]⟩∧Arr (tList tLr) F' a1 n1 c1 I∧Arr (tList tInt) F' a2 n2 c2 rows):=by
 have hrl:=hr.len;have hgr:=hg.range.rules;have hg4:∀r∈g.rules,r.right.length≤100:=fun r h=>by have:=(hg.right r h).2.1;omega
 refine Abs.Spec.fn (n:=34) Tryz.func100 rfl rfl fun own=>?_;refine AW.seq (AW.reg ?_);refine WT.boxT Z Z Z Z Z Z (fun i1 hi1=>?_);refine WT.freezeAll 0 Z Z (fun F0 hF0 hB0=>?_);have hi1:=hB0 i1 _ me;have hr:=hr.mono hF0;unfold gramCells at hi1 ⊢;refine WT.allocT hT Z Z Z Z Z Z (fun i2 hi2=>?_);refine zB4 ?_;have hck:=check_spec F0 g hg.range hr;unfold gramCells at hck;refine WT.callV Tryz.func85 Z Z Z Z Z Z hck (fun v hv=>?_);rw[hg.no_err] at hv;subst hv;refine zB4 ?_;refine AW.cond Z (fun h=>(by cases h)) (fun _=>?_);refine zB4 ?_;refine AW.draw (ps:=[(0,6),(0,7),(1,6)]) Z Z ?_;refine zB4 ?_
 refine WT.buildT hT Z Z Z Z Z Z Z Z Z Z Z Z Z Z (fun i21 hi21=>?_);refine WT.freezeAll 0 Z Z (fun F1 hF1 hB1=>?_);have hk1:Arr tLr F1 (some ⟨i21,0,none⟩) 1 2 [⟨g.rules.length,0⟩]:=by
  have hb:Bld tLr F0 (some ⟨i21,0,none⟩) 1 2 [(i21,.cells false [.int .i64 m,.int .i64 0])] [⟨g.rules.length,0⟩]:=⟨rfl,.inr ⟨i21,_,rfl,rfl,rfl,Cells.single (R:=tLr) (x:=⟨g.rules.length,0⟩) (by rw[←hrl];rfl),by decide⟩⟩;exact hb.frozen hF1 hB1
 have hr1:=hr.mono hF1;have hi11:=hF1 _ _ hi1;have hcs:=closure_spec F1 g hg4 hr1 zo hk1 zo (fun z hz=>(start_ok z hz).1);unfold gramCells at hcs;refine WT.callF0 Tryz.func152 Z Z Z Z Z Z hcs (fun F2 v hF2 hv=>?_);obtain⟨a8,m8,c8,zs,rfl,hz,hzm,hstr,hmem⟩:=hv;obtain rfl:zs=firstI g:=closL_eq start_ok hstr hmem;have hr2:=hr1.mono hF2;have hi12:=hF2 _ _ hi11;refine zB4 ?_;have hnm:=numberI_spec F2 g hg (ga:=a) (gm:=m) (gc:=c) hz (fk:=148) (fx:=153) (firstx:=[]) (captx:=[.pointer (some ⟨i1,0,none⟩)]) Tryz.func148 rfl Tryz.func153 rfl
  keyIt (nextI g) (PI g) (fun x=>x.rule<100∧x.dot<100) (closL_PI hg _) (fun s hs=>⟨hs.1,fun x hx=>okI hg (hs.2 x hx)⟩)
  (fun s s' hs hs' e=>nameI_inj (fun x hx=>okI hg (hs.2 x hx)) (fun x hx=>okI hg (hs'.2 x hx)) e)
  (fun s y s' _ e=>by
   unfold nextI at e;split at e
   ·cases e
   ·obtain rfl:=Option.some.inj e;exact closL_PI hg _)
  (fun x _=>by have:=keyIt_len x;omega) (fun x hx G _=>keyIt_spec G x hx)
  (fun G hG a' m' c' s y hs hA hy=>nextI_spec G g hg (hG _ _ hi12) (hr2.mono hG) hA (hA.len▸hs.1) hs.2 y hy)
 unfold gramCells at hnm;refine WT.callF0 Tryz.func151 Z Z Z Z Z Z hnm (fun F3 v hF3 hv=>?_);rcases hv with ⟨hno,rfl⟩ | ⟨S,rows,a1,n1,c1,a2,n2,c2,hyes,rfl,hS,hR⟩
 ·refine zB4 ?_;refine⟨zrC,?_⟩;refine zB4 ?_;refine AW.cond Z (fun _=>?_) (fun h=>(by cases h));refine zB4 ?_;exact AW.ret ⟨_,[],⟨_,_,⟨_,rfl,fun G h0 s0=>loadA_cells (s0.has (p:=1) rfl me) (readT_ok hT rfl)⟩,⟨_,_,rfl,rfl,rfl⟩,rfl⟩,zsb,rfl,.inl ⟨hno,rfl⟩⟩
 ·refine zB4 ?_;refine⟨zrC,?_⟩;refine zB4 ?_;refine AW.cond Z (fun h=>(by cases h)) (fun _=>?_);refine zB4 ?_;exact AW.ret ⟨_,[],⟨_,_,⟨_,rfl,fun G h0 s0=>loadA_cells (s0.has (p:=1) rfl me) (readT_ok hT rfl)⟩,⟨_,_,rfl,rfl,rfl⟩,rfl⟩,zsb,rfl,.inr ⟨S,rows,_,_,_,_,_,_,hyes,rfl,hS,hR⟩⟩
def lkV(x:Look):List Value:=[.int .i64 x.item.rule,.int .i64 x.item.dot,.int .u32 x.set]
def tLook:Ty Look where
 size:=3
 rel:=fun _ l x=>l=lkV x
 len:=fun _ _ _ h=>by rw[h];rfl
 one:=fun _ _ _ h=>by rw[h];rfl
 mono:=fun _ _ _ _ _ h=>h
theorem keyLk_spec(F:Frz)(x:Look)(hx:x.item.rule<100∧x.item.dot<100)(hs:x.set<100):Abs.Spec CC 98 [.agg ⟨[.int .i64 x.item.rule,.int .i64 x.item.dot,.int .u32 x.set]⟩] F [] fun _ v o=>o=[]∧v=.string (strB (keyLk x)):=by
 have h1:=keyIt_len x.item;have h2:=itoaB_len x.set;refine Abs.Spec.fn (n:=12) Tryz.func98 rfl rfl fun own=>?_;refine AW.seq (AW.reg ?_);refine WT.boxT Z Z Z Z Z Z (fun i1 hi1=>?_);refine zC4 ?_;refine AW.draw (ps:=[(3,7),(5,2)]) Z Z ?_;refine zC4 ?_;refine WT.callV Tryz.func148 Z Z Z Z Z Z (keyIt_spec F x.item hx) (fun v hv=>?_);subst hv;refine WT.addStr Z Z Z Z Z Z (by rw[strB_size];show _+1≤_;omega) ?_;refine zC4 ?_;refine WT.conv hT (x:=(x.set:Int)) Z Z Z Z Z Z Z Z (wrap64 ⟨by omega,by omega⟩) ?_
 refine WT.callV Tryz.func149 Z Z Z Z Z Z (itoa_spec _ x.set hs) (fun v hv=>?_);subst hv;refine WT.addStr Z Z Z Z Z Z (by rw[show (strB (keyIt x.item)++{ data:=#[32] }:ByteArray)=strB (keyIt x.item)++strB [32] from rfl,strB_app,strB_size,strB_size,List.length_append];show _+1+_≤_;omega) ?_;refine zC4 ?_;refine⟨zrC,?_⟩;refine AW.ret ⟨_,[],⟨_,_,rfl,rfl,rfl⟩,zsb,rfl,?_⟩;show Value.string (strB (keyIt x.item)++strB [32]++strB (itoaB x.set))=_;rw[strB_app,strB_app,List.append_assoc];rfl
theorem keyLk_len(x:Look):(keyLk x).length≤8:=by
 have h1:=keyIt_len x.item;have h2:=itoaB_len x.set;unfold keyLk;simp only[List.length_append,List.length_cons];omega
theorem makeJ_spec(F:Frz)(g:Gram)(hg:Valid g)(J:List Bool→List (List Bool)→Prop)(hJ0:J (List.replicate g.nons false) (List.replicate g.nons (List.replicate g.terms false)))
  (hJs:∀E Fi r,r∈g.rules→J E Fi→∀E',(E'=E∨(E'=E.set r.left true∧(ofRow E Fi (List.replicate g.terms false) r.right).2=true))→J E' (Fi.set r.left (orRow (Fi.getD r.left []) (ofRow E Fi (List.replicate g.terms false) r.right).1)))
  {a:Option Addr} {m c:Nat} (hr:Arr tRule F a m c g.rules) :
  Abs.Spec CC 131 [.agg ⟨gramCells g a m c⟩] F [] fun F' v o=>o=[]∧∃is E Fi,v=.pointer (some ⟨is,0,none⟩)∧SetsF F' is g a m c E Fi∧J E Fi∧E.length=g.nons∧Fi.length=g.nons:=by
 unfold gramCells;have hrlen:=hr.len;have hgr:=hg.range.rules;have hgn:=hg.range.nons;have hgt:=hg.range.terms;refine Abs.Spec.fn (n:=81) Tryz.func131 rfl rfl fun own=>?_;refine AW.seq (AW.reg ?_);refine WT.boxT Z Z Z Z Z Z (fun i1 hi1=>?_);refine WT.freezeAll 0 Z Z (fun F0 hF0 hB0=>?_);have hi1:=hB0 i1 _ me;have hr:=hr.mono hF0;refine zB4 ?_;refine AW.draw (ps:=[(0,3)]) Z Z ?_;refine zB4 ?_;refine WT.makeT (l:=g.nons) hT Z Z Z Z Z Z Z Z Z Z Z Z zom (fun ie hie=>?_);rw[cap_eq];refine zB4 ?_;refine WT.boxT Z Z Z Z Z Z (fun is his=>?_);refine zB4 ?_;refine⟨zrC,?_⟩;refine zB4 ?_
 refine AW.range (S:=FS) (fun _=>[]) (fun s=>[(is,.cells false [.int .i64 g.terms,.int .i64 g.nons,.int .i64 g.start,.slice a m c,.slice (some ⟨ie,0,none⟩) g.nons (if g.nons=0 then 0 else 1),.slice s.a s.m s.c])]::s.B::[(ie,.cells false (List.replicate g.nons (.bool false)))]::s.bs::[]::own)
  (fun j s G=>Bld tRaw G s.a s.m s.c s.B s.vs∧Abs.Rows cBool s.vs s.bs (List.replicate j (List.replicate g.terms false))) g.nons ⟨none,0,0,[],[],[]⟩ Z Z Z Z Z Z Z Z Z zo rfl rfl (fun _=>rfl) (fun _=>rfl) sM (OwnLe.flat (List.Perm.refl _)) ⟨Bld.nil_ _ _,Abs.Rows.nil⟩ ?_ ?_
 ·intro j s F1 hF1 hj hP;obtain⟨hb,hR⟩:=hP;have hi1:=hF1 _ _ hi1;have hblen:=hb.len;have hvl:=hR.len.1;rw[List.length_replicate] at hvl;refine AW.draw (ps:=[(4,7),(4,8)]) Z Z ?_;refine zB4 ?_;refine WT.makeT (l:=g.terms) hT Z Z Z Z Z Z Z Z Z Z Z Z zom (fun ir hir=>?_);rw[cap_eq];refine WT.buildT hT Z Z Z Z Z Z Z Z Z Z Z Z Z Z (fun i9 hi9=>?_)
  refine WT.appendT (R:=tRaw) (ys:=[.slice (some ⟨ir,0,none⟩) g.terms (if g.terms=0 then 0 else 1)]) hT 3 hb Z (fun _=>rfl) Z Z Z Z Z Z Z Z Z Z Z (fun h0 s0=>news_own hT s0 0 Z Z Z Z) (Cells.single (R:=tRaw) ⟨rfl,rfl⟩) Z (by decide) zom (fun a3 c3 B3 hB3=>?_);refine zB4 ?_;refine⟨zrC,?_⟩;refine⟨⟨a3,s.m+1,c3,B3,s.vs++[.slice (some ⟨ir,0,none⟩) g.terms (if g.terms=0 then 0 else 1)],s.bs++[(ir,.cells false (List.replicate g.terms (.bool false)))]⟩,sM,?_,hB3,?_⟩
  ·refine OwnLe.skip _ (OwnLe.flat ?_);simp only[List.flatten_cons,List.singleton_append];have:=perm_to_end (ir,Blk.cells false (List.replicate g.terms (.bool false))) ((is,Blk.cells false [.int .i64 g.terms,.int .i64 g.nons,.int .i64 g.start,.slice a m c,.slice (some ⟨ie,0,none⟩) g.nons (if g.nons=0 then 0 else 1),.slice a3 (s.m+1) c3])::(B3++[(ie,.cells false (List.replicate g.nons (.bool false)))])) s.bs ([]++own.flatten);simpa using this
  ·rw[show List.replicate (j+1) (List.replicate g.terms false)=List.replicate j (List.replicate g.terms false)++[List.replicate g.terms false] from List.replicate_succ'];have:=hR.snoc (K:=cBool) (id:=ir) (row:=List.replicate g.terms false) (c:=if g.terms=0 then 0 else 1) (by simp);rw[List.length_replicate,List.map_replicate] at this;exact this
 ·intro s F1 hF1 hP;obtain⟨hb,hR⟩:=hP;have hi1:=hF1 _ _ hi1;have hvl:=hR.len.1;rw[List.length_replicate] at hvl;have hr1:=hr.mono hF1;have hblen:=hb.len;obtain⟨io,cs,hia,hic,hiB,hcells,_⟩:=hb.at_.resolve_left (fun h=>by rw[h.1] at hvl;simp at hvl;omega);have hcs:=cells_raw hcells;subst hcs;have hic:s.c=1:=hic;refine zB4 ?_
  refine AW.le (own2:=((is,.cells false [.int .i64 g.terms,.int .i64 g.nons,.int .i64 g.start,.slice a m c,.slice (some ⟨ie,0,none⟩) g.nons (if g.nons=0 then 0 else 1),.slice (some ⟨io,0,none⟩) g.nons 1])::(io,.cells false s.vs)::(ie,.cells false ((List.replicate g.nons false).map cBool.cell))::s.bs)::own) (OwnLe.flat ?_) ?_
  ·rw[hia,hic,hiB,show s.m=g.nons by omega,List.map_replicate];exact List.Perm.refl _
  refine AW.block ?_;refine AW.loopR (S:=FM) (fun t=>[(4,.bool t.again)]) (fun t=>((is,.cells false [.int .i64 g.terms,.int .i64 g.nons,.int .i64 g.start,.slice a m c,.slice (some ⟨ie,0,none⟩) g.nons (if g.nons=0 then 0 else 1),.slice (some ⟨io,0,none⟩) g.nons 1])::(io,.cells false s.vs)::(ie,.cells false (t.E.map cBool.cell))::t.bs)::own)
   (fun t G=>Abs.Rows cBool s.vs t.bs t.Fi∧TabOk g.nons g.terms t.Fi∧t.E.length=g.nons∧(t.again=false→FirstClosed g t.E t.Fi)∧J t.E t.Fi) (fun t=>if t.again=true then 1+(g.nons+g.nons*g.terms-(ones t.E+onesT t.Fi)) else 0) ⟨List.replicate g.nons false,List.replicate g.nons (List.replicate g.terms false),s.bs,true⟩
   sM oR ⟨hR,⟨by simp,fun r hr=>by rw[List.eq_of_mem_replicate hr];simp⟩,by simp,fun h=>(by cases h),hJ0⟩ ?_
  intro t F2 hF2 hP;obtain⟨hR,hM,hE,hC,hJ⟩:=hP;have hi1:=hF2 _ _ hi1;have hr2:=hr1.mono hF2;refine zB4 ?_;refine AW.cond Z (fun h=>?_) (fun h=>?_)
  ·refine zB4 ?_;refine AW.block ?_;refine zB4 ?_;refine AW.range (S:=FM) (fun t=>[(4,.bool t.again)]) (fun t=>((is,.cells false [.int .i64 g.terms,.int .i64 g.nons,.int .i64 g.start,.slice a m c,.slice (some ⟨ie,0,none⟩) g.nons (if g.nons=0 then 0 else 1),.slice (some ⟨io,0,none⟩) g.nons 1])::(io,.cells false s.vs)::(ie,.cells false (t.E.map cBool.cell))::t.bs)::own)
    (fun k u G=>Abs.Rows cBool s.vs u.bs u.Fi∧TabOk g.nons g.terms u.Fi∧u.E.length=g.nons∧ones t.E+onesT t.Fi≤ones u.E+onesT u.Fi∧(u.again=true→ones t.E+onesT t.Fi<ones u.E+onesT u.Fi)∧(u.again=false→∀r∈g.rules.take k,RuleClosed g.terms u.E u.Fi r)∧J u.E u.Fi) m ⟨t.E,t.Fi,t.bs,false⟩
    Z Z Z Z Z Z Z Z Z zo rfl rfl (fun _=>rfl) (fun _=>rfl) sM oR ⟨hR,hM,hE,Nat.le_refl _,fun h=>(by cases h),by simp,hJ⟩ ?_ ?_
   ·intro k u F3 hF3 hk hP;obtain⟨hR,hM,hE,hT1,hT2,hC,hJu⟩:=hP;have hi1:=hF3 _ _ hi1;have hr3:=hr2.mono hF3;refine zB4 ?_;refine WT.idxL hT hr3 Z Z Z Z Z Z Z Z Z zo (fun r hrk b1 off ro cs lx hb hp1 hrel=>?_);obtain⟨b2,n2,d2,rfl,hr4⟩:=hrel;obtain⟨hrl,hrr,hrs⟩:=hg.right r (gM hrk);have hr4l:=hr4.len;refine zB4 ?_;refine WT.allocT hT Z Z Z Z Z Z (fun i6 hi6=>?_);refine zB4 ?_
    have lk3:∀G,Frz.le F3 G→(∀i b,(i,b)∈((is,Blk.cells false [.int .i64 g.terms,.int .i64 g.nons,.int .i64 g.start,.slice a m c,.slice (some ⟨ie,0,none⟩) g.nons (if g.nons=0 then 0 else 1),.slice (some ⟨io,0,none⟩) g.nons 1])::(io,.cells false s.vs)::(ie,.cells false (u.E.map cBool.cell))::u.bs)→G i=some b)→
      Arr tBool G (some ⟨ie,0,none⟩) g.nons (if g.nons=0 then 0 else 1) u.E∧Arr (tList tBool) G (some ⟨io,0,none⟩) g.nons 1 u.Fi:=by
     intro G hG hBG;constructor
     ·have:=arr_of_cells (K:=cBool) (R:=tBool) (F:=G) (id:=ie) (row:=u.E) (c:=if u.E.length=0 then 0 else 1) (ro:=false) rfl (fun _ _=>rfl) rfl (hBG ie _ (by simp));rw[hE] at this;exact this
     ·have:=Abs.Rows.arr (K:=cBool) (R:=tBool) rfl (fun _ _=>rfl) (F:=G) (o:=io) (c:=if u.Fi.length=0 then 0 else 1) (ro:=false) hR (fun i b hm=>hBG i b (by simp[hm])) rfl (hBG io _ (by simp));rw[hM.size,if_neg zo] at this;exact this
    refine WT.callLendN 1 Tryz.func133 Z Z Z Z Z Z Z (fun G hG hBG=>sof_spec G (terms:=g.terms) (nons:=g.nons) (hBG is _ me) (lk3 G hG hBG).1 (lk3 G hG hBG).2 hM.row zo (hr4.mono hG) zo hrs) (fun v B hv=>?_);obtain⟨ir,rfl,hofl,rfl⟩:=hv;have hRC:RuleClosed g.terms u.E u.Fi r↔orRow (u.Fi.getD r.left []) (ofRow u.E u.Fi (List.replicate g.terms false) r.right).1=u.Fi.getD r.left []∧((ofRow u.E u.Fi (List.replicate g.terms false) r.right).2=true→u.E.getD r.left false=true):=Iff.rfl;have hJr:=hJs u.E u.Fi r (gM hrk) hJu
    generalize ofRow u.E u.Fi (List.replicate g.terms false) r.right=fr at hofl hRC hJr ⊢;obtain⟨row,emp⟩:=fr;dsimp only at hofl hRC hJr;have hFl:r.left<u.Fi.length:=by rw[hM.size];exact hrl
    have hrow0:=gE hFl;generalize hrow0':u.Fi[r.left]=old at hrow0;have holdl:=hM.row old (gM hrow0);obtain⟨id,cc,hvs,hbs,hcc⟩:=hR.at r.left old hrow0;rw[holdl] at hvs;have hvs':s.vs[0+r.left*1]?=some (.slice (some ⟨id,0,none⟩) g.terms cc):=by rw[Nat.zero_add,Nat.mul_one];exact hvs
    have hgetF:u.Fi.getD r.left []=old:=by rw[List.getD_eq_getElem?_getD,hrow0];rfl
    have hEl:r.left<u.E.length:=by rw[hE];exact hrl
    obtain⟨e0,he0⟩:∃e0,u.E[r.left]?=some e0:=⟨_,gE hEl⟩;have hgetE:u.E.getD r.left false=e0:=by rw[List.getD_eq_getElem?_getD,he0];rfl
    have hE0c:(u.E.map cBool.cell)[0+r.left*1]?=some (.bool e0):=by rw[Nat.zero_add,Nat.mul_one,List.getElem?_map,he0];rfl
    have hol:(orRow old row).length=g.terms:=by rw[orRow_len zo];exact holdl
    have hR':=hR.set r.left old (orRow old row) id hrow0 zo hbs;have hM':TabOk g.nons g.terms (u.Fi.set r.left (orRow old row)):=hM.setRow _ hol;have hcnt:=onesT_set (row':=orRow old row) hrow0;have hone:=ones_or (xs:=old) (ys:=row) zo;have hset_same:orRow old row=old→u.Fi.set r.left (orRow old row)=u.Fi:=by
     intro e;rw[e];apply List.ext_getElem?;intro i;by_cases hi:i=r.left
     ·subst hi;rw[List.getElem?_set_self hFl,hrow0]
     ·rw[List.getElem?_set_ne zo]
    rw[hgetF,hgetE] at hRC;rw[hgetF] at hJr;refine zB4 ?_;refine WT.idxA (j:=r.left) (s:=1) hT Z Z Z Z Z Z Z Z Z hrl ?_;refine WT.loadAt hT 2 Z Z Z Z Z Z (List.mem_cons_of_mem _ me) Z Z hvs' ?_;refine zB4 ?_;have hpk:=perm_pick hbs;have hps:=perm_set (id,Blk.cells false ((orRow old row).map cBool.cell)) hbs
    refine WT.le (own2:=[(ir,.cells false (row.map cBool.cell))]::[(id,.cells false (old.map cBool.cell))]::((is,.cells false [.int .i64 g.terms,.int .i64 g.nons,.int .i64 g.start,.slice a m c,.slice (some ⟨ie,0,none⟩) g.nons (if g.nons=0 then 0 else 1),.slice (some ⟨io,0,none⟩) g.nons 1])::(io,.cells false s.vs)::(ie,.cells false (u.E.map cBool.cell))::u.bs.eraseIdx r.left)::[(i6,.cells false [.int .i64 r.left,.slice b2 n2 d2])]::own) (OwnLe.flat ?_) ?_
    ·simp only[List.flatten_cons];refine List.Perm.append_left _ ?_;exact perm_borrow _ _ [_,_,_] _ _ _ hpk
    refine WT.callLend1 (upd:=fun D'=>[(ir,.cells false (row.map cBool.cell))]::D'::((is,.cells false [.int .i64 g.terms,.int .i64 g.nons,.int .i64 g.start,.slice a m c,.slice (some ⟨ie,0,none⟩) g.nons (if g.nons=0 then 0 else 1),.slice (some ⟨io,0,none⟩) g.nons 1])::(io,.cells false s.vs)::(ie,.cells false (u.E.map cBool.cell))::u.bs.eraseIdx r.left)::[(i6,.cells false [.int .i64 r.left,.slice b2 n2 d2])]::own) 0 1 Tryz.func134 Z Z Z Z Z Z (List.Perm.refl _) (fun _=>List.Perm.refl _) (fun G hG hBG=>union_spec G (it:=id) (xs:=old) (ys:=row) (m:=g.terms) zo (by
     have:=arr_of_cells (K:=cBool) (R:=tBool) (F:=G) (id:=ir) (row:=row) (c:=if row.length=0 then 0 else 1) (ro:=false) rfl (fun _ _=>rfl) rfl (hBG ir _ me);rw[hofl] at this;exact this) zo zo) (fun v D hv=>?_)
    obtain⟨rfl,rfl⟩:=hv;refine WT.le (own2:=[(ir,.cells false (row.map cBool.cell))]::[(i6,.cells false [.int .i64 r.left,.slice b2 n2 d2])]::((is,.cells false [.int .i64 g.terms,.int .i64 g.nons,.int .i64 g.start,.slice a m c,.slice (some ⟨ie,0,none⟩) g.nons (if g.nons=0 then 0 else 1),.slice (some ⟨io,0,none⟩) g.nons 1])::(io,.cells false s.vs)::(ie,.cells false (u.E.map cBool.cell))::u.bs.set r.left (id,.cells false ((orRow old row).map cBool.cell)))::own) (OwnLe.flat ?_) ?_
    ·simp only[List.flatten_cons];refine List.Perm.append_left _ ?_;exact(perm_borrow _ _ [_,_,_] _ _ _ hps).symm
    refine zB4 ?_;have done:∀(E':List Bool) (ag:Bool),(E'=u.E∨(E'=u.E.set r.left true∧e0=false∧ag=true∧emp=true))→(orRow old row≠old→ag=true)→(u.again=true→ag=true)→(ag=true→u.again=true∨orRow old row≠old∨ones E'=ones u.E+1)→(ag=false→emp=true→e0=true)→
      (Abs.Rows cBool s.vs (u.bs.set r.left (id,.cells false ((orRow old row).map cBool.cell))) (u.Fi.set r.left (orRow old row))∧TabOk g.nons g.terms (u.Fi.set r.left (orRow old row))∧E'.length=g.nons∧ones t.E+onesT t.Fi≤ones E'+onesT (u.Fi.set r.left (orRow old row))∧(ag=true→ones t.E+onesT t.Fi<ones E'+onesT (u.Fi.set r.left (orRow old row)))∧(ag=false→∀r'∈g.rules.take (k+1),RuleClosed g.terms E' (u.Fi.set r.left (orRow old row)) r')∧J E' (u.Fi.set r.left (orRow old row))):=by
     intro E' ag hE' h1 h2 h3 h4;have hE1:ones u.E≤ones E'∧E'.length=g.nons:=by
      rcases hE' with rfl | ⟨rfl,h5,_,_⟩
      ·exact⟨Nat.le_refl _,hE⟩
      ·subst h5;rw[ones_set he0];exact⟨by omega,by simp[hE]⟩
     refine⟨hR',hM',hE1.2,by omega,fun hag=>?_,fun hag=>?_,hJr E' (hE'.imp (fun h=>h) fun h=>⟨h.1,h.2.2.2⟩)⟩
     ·rcases h3 hag with h5 | h5 | h5
      ·have:=hT2 h5;omega
      ·have:=hone.2 h5;omega
      ·omega
     ·have hch:orRow old row=old:=by
       rcases Classical.em (orRow old row=old) with h5 | h5
       ·exact h5
       ·rw[h1 h5] at hag;cases hag
      have hua:u.again=false:=by
       cases hu:u.again with
       | false=>rfl
       | true=>rw[h2 hu] at hag;cases hag
      have hEE:E'=u.E:=by
       rcases hE' with h5 | ⟨_,_,h5,_⟩
       ·exact h5
       ·rw[h5] at hag;cases hag
      subst hEE;rw[hset_same hch];exact take_all hrk (hC hua) (hRC.2 ⟨hch,h4 hag⟩)
    have ownE:∀ag,OwnLe ((fun t:FM=>((is,Blk.cells false [.int .i64 g.terms,.int .i64 g.nons,.int .i64 g.start,.slice a m c,.slice (some ⟨ie,0,none⟩) g.nons (if g.nons=0 then 0 else 1),.slice (some ⟨io,0,none⟩) g.nons 1])::(io,.cells false s.vs)::(ie,.cells false (t.E.map cBool.cell))::t.bs)::own) ⟨u.E.set r.left true,u.Fi.set r.left (orRow old row),u.bs.set r.left (id,.cells false ((orRow old row).map cBool.cell)),ag⟩)
      (((is,Blk.cells false [.int .i64 g.terms,.int .i64 g.nons,.int .i64 g.start,.slice a m c,.slice (some ⟨ie,0,none⟩) g.nons (if g.nons=0 then 0 else 1),.slice (some ⟨io,0,none⟩) g.nons 1])::(io,.cells false s.vs)::(ie,.cells false ((u.E.map cBool.cell).set (0+r.left*1) (.bool true)))::u.bs.set r.left (id,.cells false ((orRow old row).map cBool.cell)))::own):=by
     intro ag;refine OwnLe.flat ?_;dsimp only;rw[List.map_set,Nat.zero_add,Nat.mul_one];exact List.Perm.refl _
    refine WT.split 57 Z (fun h3=>?_) (fun h3=>?_)
    ·have hch:orRow old row≠old:=of_decide_eq_true h3;refine zB4 ?_;refine WT.split 61 Z (fun h4=>?_) (fun h4=>?_)
     ·refine zB4 ?_;refine WT.idxA (j:=r.left) (s:=1) hT Z Z Z Z Z Z Z Z Z hrl ?_;refine WT.loadAt hT 2 Z Z Z Z Z Z (List.mem_cons_of_mem _ (List.mem_cons_of_mem _ me)) Z Z hE0c ?_;refine zB4 ?_;refine AW.cond Z (fun h5=>?_) (fun h5=>?_)
      ·have h5:e0=false:=by simpa using h5
       refine zB4 ?_;refine WT.idxA (j:=r.left) (s:=1) hT Z Z Z Z Z Z Z Z Z hrl ?_;refine WT.storeAt hT 2 2 Z Z Z Z Z Z Z Z Z Z (by simp;omega) Z Z ?_;refine zB4 ?_;exact⟨_,sM,OwnLe.skip _ (OwnLe.skip _ (ownE true)),done _ true (.inr ⟨rfl,h5,rfl,h4⟩) (fun _=>rfl) (fun _=>rfl) (fun _=>.inr (.inr (by subst h5;exact ones_set he0))) (fun h=>(by cases h))⟩
      ·have h5:e0=true:=by simpa using h5
       refine zB4 ?_;exact⟨⟨u.E,u.Fi.set r.left (orRow old row),u.bs.set r.left (id,.cells false ((orRow old row).map cBool.cell)),true⟩,sM,zow,done _ true (.inl rfl) (fun _=>rfl) (fun _=>rfl) (fun _=>.inr (.inl hch)) (fun _ _=>h5)⟩
     ·refine zB4 ?_;refine AW.cond Z (fun h5=>(by cases h5)) (fun _=>?_);refine zB4 ?_;exact⟨⟨u.E,u.Fi.set r.left (orRow old row),u.bs.set r.left (id,.cells false ((orRow old row).map cBool.cell)),true⟩,sM,zow,done _ true (.inl rfl) (fun _=>rfl) (fun _=>rfl) (fun _=>.inr (.inl hch)) (fun _ he=>(by rw[show emp=false from h4] at he;cases he))⟩
    ·have hch:orRow old row=old:=by simpa using h3
     refine zB4 ?_;refine WT.split 61 Z (fun h4=>?_) (fun h4=>?_)
     ·refine zB4 ?_;refine WT.idxA (j:=r.left) (s:=1) hT Z Z Z Z Z Z Z Z Z hrl ?_;refine WT.loadAt hT 2 Z Z Z Z Z Z (List.mem_cons_of_mem _ (List.mem_cons_of_mem _ me)) Z Z hE0c ?_;refine zB4 ?_;refine AW.cond Z (fun h5=>?_) (fun h5=>?_)
      ·have h5:e0=false:=by simpa using h5
       refine zB4 ?_;refine WT.idxA (j:=r.left) (s:=1) hT Z Z Z Z Z Z Z Z Z hrl ?_;refine WT.storeAt hT 2 2 Z Z Z Z Z Z Z Z Z Z (by simp;omega) Z Z ?_;refine zB4 ?_;exact⟨_,sM,OwnLe.skip _ (OwnLe.skip _ (ownE true)),done _ true (.inr ⟨rfl,h5,rfl,h4⟩) (fun _=>rfl) (fun _=>rfl) (fun _=>.inr (.inr (by subst h5;exact ones_set he0))) (fun h=>(by cases h))⟩
      ·have h5:e0=true:=by simpa using h5
       refine zB4 ?_;exact⟨⟨u.E,u.Fi.set r.left (orRow old row),u.bs.set r.left (id,.cells false ((orRow old row).map cBool.cell)),u.again⟩,sM,zow,done _ u.again (.inl rfl) (fun hne=>absurd hch hne) (fun h=>h) (fun h=>.inl h) (fun _ _=>h5)⟩
     ·refine zB4 ?_;refine AW.cond Z (fun h5=>(by cases h5)) (fun _=>?_);refine zB4 ?_;exact⟨⟨u.E,u.Fi.set r.left (orRow old row),u.bs.set r.left (id,.cells false ((orRow old row).map cBool.cell)),u.again⟩,sM,zow,done _ u.again (.inl rfl) (fun hne=>absurd hch hne) (fun h=>h) (fun h=>.inl h) (fun _ he=>(by rw[show emp=false from h4] at he;cases he))⟩
   ·intro u F3 hF3 hP;obtain⟨hR,hM,hE,hT1,hT2,hC,hJu⟩:=hP;rw[List.take_of_length_le zo] at hC;refine⟨u,?_,sM,zow,hR,hM,hE,hC,hJu⟩;have h1:=onesT_le hM;have h2:=ones_le u.E;rw[h,if_pos rfl];split
    ·rename_i h4;have:=hT2 h4;omega
    ·omega
  ·refine AW.exit ?_;refine AW.freezeAll 0 Z Z (fun F3 hF3 hB3=>?_);refine zB4 ?_;have hEa:=arr_of_cells (K:=cBool) (R:=tBool) (F:=F3) (id:=ie) (row:=t.E) (c:=if t.E.length=0 then 0 else 1) (ro:=false) rfl (fun _ _=>rfl) rfl (hB3 ie _ (by simp));rw[hE] at hEa;have hFa:=Abs.Rows.arr (K:=cBool) (R:=tBool) rfl (fun _ _=>rfl) (F:=F3) (o:=io) (c:=if t.Fi.length=0 then 0 else 1) (ro:=false) hR (fun i b hm=>hB3 i b (by simp[hm])) rfl (hB3 io _ (by simp));rw[hM.size,if_neg zo] at hFa
   exact AW.ret ⟨_,[],⟨_,_,rfl,rfl,rfl⟩,zsb,rfl,is,t.E,t.Fi,rfl,⟨⟨ie,io,_,_,false,hB3 is _ (by simp),hEa,hFa⟩,hM.row,hr2.mono hF3,hC h⟩,hJ,hE,hM.size⟩
def FSnd(g:Gram)(E:List Bool)(Fi:List (List Bool)):Prop:=(∀n,E.getD n false=true→Nul g n)∧∀n t,(Fi.getD n []).getD t false=true→Beg g n t
theorem orRow_get:∀{xs ys:List Bool} {t:Nat},(orRow xs ys).getD t false=true→xs.getD t false=true∨ys.getD t false=true
 | [],_,_,h=>by simp[orRow] at h
 | _::_,[],_,h=>by simp[orRow] at h
 | x::xs,y::ys,0,h=>by simp only[orRow,List.zipWith_cons_cons,List.getD_cons_zero] at h;simpa using h
 | x::xs,y::ys,t+1,h=>by
  simp only[orRow,List.zipWith_cons_cons,List.getD_cons_succ] at h;exact orRow_get (xs:=xs) (ys:=ys) h
theorem orRow_left:∀{xs ys:List Bool} {t:Nat},xs.length=ys.length→(xs.getD t false=true∨ys.getD t false=true)→(orRow xs ys).getD t false=true
 | [],[],_,_,h=>by simp at h
 | [],_::_,_,hl,_=>by simp at hl
 | _::_,[],_,hl,_=>by simp at hl
 | x::xs,y::ys,0,_,h=>by simp only[orRow,List.zipWith_cons_cons,List.getD_cons_zero] at h ⊢;simpa using h
 | x::xs,y::ys,t+1,hl,h=>by
  simp only[orRow,List.zipWith_cons_cons,List.getD_cons_succ] at h ⊢;exact orRow_left (xs:=xs) (ys:=ys) (by simpa using hl) h
theorem set_get{l:List Bool}{n t:Nat}(h:(l.set n true).getD t false=true):t=n∨l.getD t false=true:=by
 by_cases e:t=n
 ·exact .inl e
 ·right;rw[List.getD_eq_getElem?_getD,List.getElem?_set_ne (fun e2=>e e2.symm)] at h;rw[List.getD_eq_getElem?_getD];exact h
theorem ofRow_sound{g:Gram}{E:List Bool}{Fi:List (List Bool)}(h:FSnd g E Fi):∀(l:List Sym) (out:List Bool),(∀t,(ofRow E Fi out l).1.getD t false=true→out.getD t false=true∨BegL g l t)∧((ofRow E Fi out l).2=true→NulL g l)
 | [],out=>⟨fun t ht=>.inl ht,fun _=>NulL.nil⟩
 | s::l,out=>by
  obtain⟨b,n⟩:=s;unfold ofRow;cases b with
  | true=>
   rw[if_pos rfl];refine⟨fun t ht=>?_,fun h=>(by cases h)⟩;rcases set_get ht with rfl | h2
   ·exact .inr (BegL.head (.inl rfl))
   ·exact .inl h2
  | false=>
   rw[if_neg (by simp)];have hrow:∀t,(orRow out (Fi.getD n [])).getD t false=true→out.getD t false=true∨BegL g (⟨false,n⟩::l) t:=fun t ht=>by
    rcases orRow_get ht with h2 | h2
    ·exact .inl h2
    ·exact .inr (BegL.head (.inr ⟨rfl,h.2 n t h2⟩))
   split
   ·rename_i hE;obtain⟨h1,h2⟩:=ofRow_sound h l (orRow out (Fi.getD n []));refine⟨fun t ht=>?_,fun ht=>NulL.cons rfl (h.1 n hE) (h2 ht)⟩;rcases h1 t ht with h3 | h3
    ·exact hrow t h3
    ·exact .inr (BegL.cons rfl (h.1 n hE) h3)
   ·exact⟨fun t ht=>hrow t ht,fun h=>(by cases h)⟩
theorem zeros_get{n t:Nat}:¬(List.replicate n false).getD t false=true:=by
 rw[List.getD_eq_getElem?_getD,List.getElem?_replicate];split<;>simp
theorem FSnd.zero{g:Gram}:FSnd g (List.replicate g.nons false) (List.replicate g.nons (List.replicate g.terms false)):=by
 refine⟨fun n h=>absurd h zeros_get,fun n t h=>?_⟩;rw[List.getD_eq_getElem?_getD,List.getD_eq_getElem?_getD,List.getElem?_replicate] at h;split at h
 ·rw[←List.getD_eq_getElem?_getD] at h;exact absurd h zeros_get
 ·simp at h
theorem FSnd.step{g:Gram}{E:List Bool}{Fi:List (List Bool)}{r:Rule}(hr:r∈g.rules)(h:FSnd g E Fi){E':List Bool}(hE':E'=E∨(E'=E.set r.left true∧(ofRow E Fi (List.replicate g.terms false) r.right).2=true)) :
  FSnd g E' (Fi.set r.left (orRow (Fi.getD r.left []) (ofRow E Fi (List.replicate g.terms false) r.right).1)):=by
 obtain⟨h1,h2⟩:=ofRow_sound h r.right (List.replicate g.terms false);refine⟨fun n hn=>?_,fun n t hn=>?_⟩
 ·rcases hE' with rfl | ⟨rfl,he⟩
  ·exact h.1 n hn
  ·rcases set_get hn with rfl | h3
   ·exact .of hr (h2 he)
   ·exact h.1 n h3
 ·by_cases e:n=r.left
  ·subst e;rw[List.getD_eq_getElem?_getD (l:=Fi.set _ _),List.getElem?_set] at hn;rw[if_pos rfl] at hn;split at hn
   ·rw[Option.getD_some] at hn;rcases orRow_get hn with h3 | h3
    ·exact h.2 _ _ h3
    ·rcases h1 t h3 with h4 | h4
     ·exact absurd h4 zeros_get
     ·exact .of hr h4
   ·simp at hn
  ·rw[List.getD_eq_getElem?_getD (l:=Fi.set _ _),List.getElem?_set_ne (fun e2=>e e2.symm),←List.getD_eq_getElem?_getD] at hn;exact h.2 n t hn
section
variable {g:Gram}{E:List Bool}{Fi:List (List Bool)}
theorem ofRow_len(hrow:∀n,n<g.nons→(Fi.getD n []).length=g.terms):∀(l:List Sym) (out:List Bool),(∀s∈l,SymOk g.terms g.nons s)→out.length=g.terms→(ofRow E Fi out l).1.length=g.terms
 | [],out,_,h=>h
 | s::l,out,hs,h=>by
  unfold ofRow;split
  ·rw[List.length_set];exact h
  ·rename_i ht;have hn:s.n<g.nons:=by have:=hs s me;unfold SymOk at this;rw[if_neg ht] at this;exact this
   have h2:(orRow out (Fi.getD s.n [])).length=g.terms:=by rw[orRow_len (by rw[h,hrow _ hn])];exact h
   split
   ·exact ofRow_len hrow l _ (fun x hx=>hs x (List.mem_cons_of_mem _ hx)) h2
   ·exact h2
theorem ofRow_keep(hrow:∀n,n<g.nons→(Fi.getD n []).length=g.terms){t:Nat}:∀(l:List Sym) (out:List Bool),(∀s∈l,SymOk g.terms g.nons s)→out.length=g.terms→out.getD t false=true→(ofRow E Fi out l).1.getD t false=true
 | [],out,_,_,h=>h
 | s::l,out,hs,hl,h=>by
  unfold ofRow;split
  ·rw[List.getD_eq_getElem?_getD,List.getElem?_set];split
   ·split
    ·rfl
    ·rename_i h1 h2;subst h1;rw[List.getD_eq_getElem?_getD,List.getElem?_eq_none zo] at h;simp at h
   ·rw[←List.getD_eq_getElem?_getD];exact h
  ·rename_i ht;have hn:s.n<g.nons:=by have:=hs s me;unfold SymOk at this;rw[if_neg ht] at this;exact this
   have h2:(orRow out (Fi.getD s.n [])).length=g.terms:=by rw[orRow_len (by rw[hl,hrow _ hn])];exact hl
   have h3:(orRow out (Fi.getD s.n [])).getD t false=true:=orRow_left (by rw[hl,hrow _ hn]) (.inl h);split
   ·exact ofRow_keep hrow l _ (fun x hx=>hs x (List.mem_cons_of_mem _ hx)) h2 h3
   ·exact h3
theorem ofRow_null:∀(l:List Sym) (out:List Bool),(∀s∈l,s.term=false∧E.getD s.n false=true)→(ofRow E Fi out l).2=true
 | [],_,_=>rfl
 | s::l,out,h=>by
  obtain⟨h1,h2⟩:=h s me;unfold ofRow;rw[if_neg (by rw[h1];simp),if_pos h2];exact ofRow_null l _ fun x hx=>h x (List.mem_cons_of_mem _ hx)
theorem ofRow_beg(hrow:∀n,n<g.nons→(Fi.getD n []).length=g.terms){t:Nat}{s:Sym}{post:List Sym}(hs:(s=⟨true,t⟩)∨(s.term=false∧(Fi.getD s.n []).getD t false=true)) :
  ∀(pre:List Sym) (out:List Bool),(∀x∈pre++s::post,SymOk g.terms g.nons x)→out.length=g.terms→(∀x∈pre,x.term=false∧E.getD x.n false=true)→(ofRow E Fi out (pre++s::post)).1.getD t false=true
 | [],out,hok,hl,_=>by
  have hso:=hok s (List.mem_append_right _ me);rcases hs with rfl | ⟨h1,h2⟩
  ·show (ofRow E Fi out (⟨true,t⟩::post)).1.getD t false=true;unfold ofRow;rw[if_pos rfl];have ht:t<g.terms:=hso;show (out.set t true).getD t false=true;rw[List.getD_eq_getElem?_getD,List.getElem?_set_self zo];rfl
  ·have hn:s.n<g.nons:=by unfold SymOk at hso;rw[if_neg (by rw[h1];simp)] at hso;exact hso
   show (ofRow E Fi out (s::post)).1.getD t false=true;unfold ofRow;rw[if_neg (by rw[h1];simp)];have h3:(orRow out (Fi.getD s.n [])).length=g.terms:=by rw[orRow_len (by rw[hl,hrow _ hn])];exact hl
   have h4:(orRow out (Fi.getD s.n [])).getD t false=true:=orRow_left (by rw[hl,hrow _ hn]) (.inr h2);split
   ·exact ofRow_keep hrow post _ (fun x hx=>hok x (List.mem_append_right _ (List.mem_cons_of_mem _ hx))) h3 h4
   ·exact h4
 | x::pre,out,hok,hl,hp=>by
  obtain⟨h1,h2⟩:=hp x me;have hxo:=hok x me;have hn:x.n<g.nons:=by unfold SymOk at hxo;rw[if_neg (by rw[h1];simp)] at hxo;exact hxo
  show (ofRow E Fi out (x::(pre++s::post))).1.getD t false=true;unfold ofRow;rw[if_neg (by rw[h1];simp),if_pos h2];exact ofRow_beg hrow hs pre _ (fun y hy=>hok y (List.mem_cons_of_mem _ hy)) (by rw[orRow_len (by rw[hl,hrow _ hn])];exact hl) fun y hy=>hp y (List.mem_cons_of_mem _ hy)
theorem closed_nul(hc:FirstClosed g E Fi){n:Nat}(h:Nul g n):E.getD n false=true:=by
 induction h with
 | mk hr h1 h2 ih=>exact(hc _ hr).2 (ofRow_null _ _ fun s hs=>⟨h1 s hs,ih s hs⟩)
theorem closed_key(hg:Valid g)(hc:FirstClosed g E Fi)(hrow:∀n,n<g.nons→(Fi.getD n []).length=g.terms){t:Nat}:∀{r:Rule} {pre post:List Sym} {s:Sym},r∈g.rules→r.right=pre++s::post→NulL g pre→((s=⟨true,t⟩)∨(s.term=false∧(Fi.getD s.n []).getD t false=true))→(Fi.getD r.left []).getD t false=true:=by
 intro r pre post s hr e hn hs;obtain⟨hrl,_,hok⟩:=hg.right r hr;rw[e] at hok;have h1:=ofRow_beg (E:=E) hrow (post:=post) hs pre (List.replicate g.terms false) hok (by simp) (fun x hx=>⟨(hn x hx).1,closed_nul hc (hn x hx).2⟩);have h2:=ofRow_len (E:=E) hrow (pre++s::post) (List.replicate g.terms false) hok (by simp);have h3:=(hc r hr).1;rw[e] at h3;rw[←h3];exact orRow_left (by rw[h2,hrow _ hrl]) (.inr h1)
theorem closed_beg(hg:Valid g)(hc:FirstClosed g E Fi)(hrow:∀n,n<g.nons→(Fi.getD n []).length=g.terms){n t:Nat}(h:Beg g n t):(Fi.getD n []).getD t false=true:=by
 induction h with
 | term hr e hn=>exact closed_key hg hc hrow hr e hn (.inl rfl)
 | non hr e hn _ ih=>exact closed_key hg hc hrow hr e hn (.inr ⟨rfl,ih⟩)
structure FSet(g:Gram)(E:List Bool)(Fi:List (List Bool)):Prop where
 elen:E.length=g.nons
 flen:Fi.length=g.nons
 row:∀r∈Fi,r.length=g.terms
 nul:∀n,E.getD n false=true↔Nul g n
 beg:∀n t,(Fi.getD n []).getD t false=true↔Beg g n t
theorem FSet.rows(h:FSet g E Fi):∀n,n<g.nons→(Fi.getD n []).length=g.terms:=fun n hn=>by
 have:=gE (show n<Fi.length by rw[h.flen];exact hn);rw[List.getD_eq_getElem?_getD,this];exact h.row _ (List.getElem_mem _)
theorem FSet.list(h:FSet g E Fi){l:List Sym}(hl:∀s∈l,SymOk g.terms g.nons s):(∀t,(ofRow E Fi (List.replicate g.terms false) l).1.getD t false=true↔BegL g l t)∧((ofRow E Fi (List.replicate g.terms false) l).2=true↔NulL g l):=by
 obtain⟨h1,h2⟩:=ofRow_sound (E:=E) (Fi:=Fi) ⟨fun n hn=>(h.nul n).1 hn,fun n t ht=>(h.beg n t).1 ht⟩ l (List.replicate g.terms false);refine⟨fun t=>⟨fun ht=>(h1 t ht).resolve_left zeros_get,fun ht=>?_⟩,h2,fun hn=>ofRow_null _ _ fun s hs=>⟨(hn s hs).1,(h.nul _).2 (hn s hs).2⟩⟩;obtain⟨pre,s,post,rfl,hn,h3⟩:=ht;exact ofRow_beg h.rows (h3.imp id fun h4=>⟨h4.1,(h.beg _ _).2 h4.2⟩) pre _ hl (by simp) fun x hx=>⟨(hn x hx).1,(h.nul _).2 (hn x hx).2⟩
end
theorem make2_spec(F:Frz)(g:Gram)(hg:Valid g){a:Option Addr}{m c:Nat}(hr:Arr tRule F a m c g.rules) :
  Abs.Spec CC 131 [.agg ⟨gramCells g a m c⟩] F [] fun F' v o=>o=[]∧∃is E Fi,v=.pointer (some ⟨is,0,none⟩)∧SetsF F' is g a m c E Fi∧FSet g E Fi:=
 (makeJ_spec F g hg (FSnd g) FSnd.zero (fun E Fi r hm h E' hE'=>h.step hm hE') hr).mono fun F' v o _ ⟨h1,is,E,Fi,h2,h3,h4,h5,h6⟩=>by
  refine⟨h1,is,E,Fi,h2,h3,h5,h6,h3.row,fun n=>⟨h4.1 n,closed_nul h3.closed⟩,fun n t=>⟨h4.2 n t,closed_beg hg h3.closed fun k hk=>?_⟩⟩;have:=gE (show k<Fi.length by rw[h6];exact hk);rw[List.getD_eq_getElem?_getD,this];exact h3.row _ (List.getElem_mem _)
end Go.Proofs.D
set_option linter.unusedVariables false
set_option maxRecDepth 20000
set_option maxHeartbeats 0
open Go Go.Abs Go.Proofs Go.Proofs.D
namespace Go.Abs
section
variable {C:Ctx}{T:RT}{t:TypeId}{κ:Type}[DecidableEq κ](K:KeyTy C t κ)
variable {n:Nat}{k:Kno}{F:Frz}{own:Own}{ops rest:List Oper}{o:Oper}{Q:Kno→Frz→Own→List Rec→Prop}
theorem WT.lookupF(hT:rowsOk C T=true){tm et:TypeId}{mo ko:Operand}{i:Nat}{m:Ents κ}{key:κ}{r:Row}{z:Value}{d:Nat}(hop:o.op=.lookup tm mo ko false)(hw:wantK ops k o=some true)(hdst:o.dst=some d)(hn:Nat.blt d n=true)
  (hm:evK C k mo=some (.map (some i))) (hk:evK C k ko=some (K.key key)) (hF:F i=some (.map (entsV K m))) (hr:rowOf T tm=some r) (hd:r.d=.map t et) (hz:zeroT T et=some z)
  (h1:WT C n ops rest ((d,(Abs.look m key).getD z)::k) F own (fun k2 F2 own2 rs=>Q k2 F2 own2 (⟨F,own,F,own,[i]⟩::rs))):WT C n ops (o::rest) k F own Q:=by
 have hl:looksK (evK C k) o.op=some [i]:=by rw[hop];simp only[looksK,hm]
 refine WT.still hw hl (fun h0 s0=>?_) (by rw[hdst,putK_some hn];exact h1);exact lookup_bend K hT hop hm hk hr hd hz (s0.frz i _ hF) rfl
end
end Go.Abs
namespace Go.Proofs.D
theorem lrRight2_spec(F:Frz)(g:Gram)(hg:Valid g){a:Option Addr}{m c:Nat}(hr:Arr tRule F a m c g.rules)(x:Nat)(hx:x≤g.rules.length) :
  Abs.Spec CC 144 [.agg ⟨gramCells g a m c⟩,.int .i64 x] F [] fun F' v o=>o=[]∧∃b n d,v=.slice b n d∧Arr tSym F' b n d (rightL g x):=by
 have hml:=hr.len;have hgr:=hg.range.rules;unfold gramCells;refine Abs.Spec.fn (n:=32) Tryz.func144 rfl rfl fun own=>?_;refine AW.seq (AW.reg ?_);refine WT.boxT Z Z Z Z Z Z (fun i2 hi2=>?_);refine zB4 ?_;refine AW.block ?_;refine zB4 ?_;refine AW.cond Z (fun h=>?_) (fun h=>?_)
 ·have h:x=g.rules.length:=by simp at h;omega
  refine zB4 ?_;refine WT.callV Tryz.func84 Z Z Z Z Z Z (gN_spec _ _) (fun v hv=>?_);subst hv;refine WT.buildT hT Z Z Z Z Z Z Z Z Z Z Z Z Z Z (fun i5 hi5=>?_);refine zB4 ?_;refine AW.freezeAll 0 Z Z (fun F2 hF2 hB2=>?_);have hb:Bld tSym F (some ⟨i5,0,none⟩) 1 2 [(i5,.cells false [.bool false,.int .i64 g.start])] [⟨false,g.start⟩]:=⟨rfl,.inr ⟨i5,_,rfl,rfl,rfl,Cells.single (R:=tSym) (x:=⟨false,g.start⟩) rfl,by decide⟩⟩;refine AW.ret ⟨_,[],⟨_,_,rfl,rfl,rfl⟩,zsb,rfl,_,_,_,rfl,?_⟩;rw[h,rightL_start];exact hb.frozen hF2 hB2
 ·have h:x<m:=by simp at h;omega
  refine zB4 ?_;refine AW.cond Z (fun h=>(by simp at h;omega)) (fun _=>?_);refine zB4 ?_;refine WT.idxL hT hr Z Z Z Z Z Z Z Z Z zo (fun r hrx b5 off5 ro5 cs5 lx5 hb5 hp5 hrel5=>?_);obtain⟨ra,rn,rc,rfl,hra⟩:=hrel5;have hral:=hra.len;have hr4:=(hg.right r (gM hrx)).2.1;refine zB4 ?_;refine WT.callN Tryz.func107 Z Z Z Z Z Z (symClone_spec _ hra zo) (fun F2 v B2 hF2 hv=>?_);obtain⟨ca,cc,rfl,hv⟩:=hv;refine zB4 ?_;refine AW.freezeAll 0 Z Z (fun F3 hF3 hB3=>?_);refine AW.ret ⟨_,[],⟨_,_,rfl,rfl,rfl⟩,zsb,rfl,_,_,_,rfl,?_⟩;rw[rightL_rule hrx];exact hv.arr hF3 hB3
theorem lr_eqB(p q:Lr):(((p.rule:Int)==(q.rule:Int))&&(((p.dot:Int)==(q.dot:Int))&&true))=decide (p=q):=by
 rw[Bool.eq_iff_iff];obtain⟨a,b⟩:=p;obtain⟨a',b'⟩:=q;simp only[Bool.and_eq_true,beq_iff_eq,decide_eq_true_eq,Lr.mk.injEq,and_true];omega
noncomputable def keyLr:KeyTy CC 181 Lr where
 key:=fun x=>.agg ⟨[.int .i64 x.rule,.int .i64 x.dot]⟩
 ok:=fun p=>keyT_ok hT 8 _ _ rfl
 eq:=fun p q=>by
  have h:eqA CC 8 181 (.agg ⟨[.int .i64 p.rule,.int .i64 p.dot]⟩) (.agg ⟨[.int .i64 q.rule,.int .i64 q.dot]⟩)=some (decide (p=q)):=by
   rw[←lr_eqB];exact eqT_ok hT 8 _ _ _ _ rfl
  by_cases e:p=q
  ·exact .inl ⟨e,by rw[h];simp[e]⟩
  ·exact .inr ⟨e,by rw[h];simp[e]⟩
def bOf(es:Ents Lr)(x:Lr):Value:=(Abs.look es x).getD (.int .u32 0)
def eOf(es:Ents Lr)(x:Lr):Value:=(Abs.look es x).getD (.bool false)
noncomputable def bM(g:Gram)(x:Lr):Nat:=maskOf (BegL g (restL g x)) g.terms
noncomputable def eM(g:Gram)(x:Lr):Bool:=@decide (NulL g (restL g x)) (Classical.propDecidable _)
structure MakerF(F:Frz)(im:Nat)(g:Gram)(ra:Option Addr)(rm rc:Nat)(E:List Bool)(Fi:List (List Bool))(is:Nat)(eb ee:Ents Lr):Prop where
 blk:∃ib ie ro,F im=some (.cells ro [.int .i64 g.terms,.int .i64 g.nons,.int .i64 g.start,.slice ra rm rc,.pointer (some ⟨is,0,none⟩),.map (some ib),.map (some ie)])∧F ib=some (.map (entsV keyLr eb))∧F ie=some (.map (entsV keyLr ee))
 sets:SetsF F is g ra rm rc E Fi
 fset:FSet g E Fi
 beg:∀x y,afterL g x=some y→bOf eb x=.int .u32 (bM g x:Nat)
 nul:∀x y,afterL g x=some y→eOf ee x=.bool (eM g x)
structure MkS where
 eb:Ents Lr
 ee:Ents Lr
def doneM(g:Gram)(r d:Nat)(x:Lr):Prop:=(x.rule<r∧x.dot<(rightL g x.rule).length)∨(x.rule=r∧x.dot<d)
def MkI(g:Gram)(D:Lr→Prop)(eb ee:Ents Lr):Prop:=∀x,(D x→bOf eb x=.int .u32 (bM g x:Nat)∧eOf ee x=.bool (eM g x))∧(¬D x→bOf eb x=.int .u32 0)
theorem MkI.congr{g:Gram}{D D':Lr→Prop}{eb ee:Ents Lr}(h:MkI g D eb ee)(hD:∀x,D x↔D' x):MkI g D' eb ee:=fun x=>⟨fun h1=>(h x).1 ((hD x).2 h1),fun h1=>(h x).2 fun h2=>h1 ((hD x).1 h2)⟩
theorem bOf_mset(es:Ents Lr)(k x:Lr)(v:Value):bOf (mset es k v) x=if x=k then v else bOf es x:=by
 unfold bOf;rw[look_mset];split<;>rfl
theorem eOf_mset(es:Ents Lr)(k x:Lr)(v:Value):eOf (mset es k v) x=if x=k then v else eOf es x:=by
 unfold eOf;rw[look_mset];split<;>rfl
theorem or_two_pow{x t:Nat}(h:x<2 ^ t):x ||| 1*2 ^ t=x+2 ^ t:=by
 have:=Nat.two_pow_add_eq_or_of_lt h 1;rw[Nat.mul_one] at this;rw[Nat.one_mul,Nat.or_comm,←this,Nat.add_comm]
theorem SetsF.mono{F G:Frz}{is:Nat}{g:Gram}{ra:Option Addr}{rm rc:Nat}{E:List Bool}{Fi:List (List Bool)}(h:SetsF F is g ra rm rc E Fi)(hF:Frz.le F G):SetsF G is g ra rm rc E Fi:=by
 obtain⟨ie,io,ce,co,ro,h1,h2,h3⟩:=h.blk;exact⟨⟨ie,io,ce,co,ro,hF _ _ h1,h2.mono hF,h3.mono hF⟩,h.row,h.rules.mono hF,h.closed⟩
theorem newMaker_spec(F:Frz)(g:Gram)(hg:Valid g){a:Option Addr}{m c:Nat}(hr:Arr tRule F a m c g.rules) :
  Abs.Spec CC 95 [.agg ⟨gramCells g a m c⟩] F [] fun F' v o=>o=[]∧∃im E Fi is eb ee,v=.pointer (some ⟨im,0,none⟩)∧MakerF F' im g a m c E Fi is eb ee:=by
 have hrl:=hr.len;have hgr:=hg.range.rules;have hgt:=hg.range.terms;have hgn:=hg.range.nons;unfold gramCells;refine Abs.Spec.fn (n:=78) Tryz.func95 rfl rfl fun own=>?_;refine AW.seq (AW.reg ?_);refine WT.boxT Z Z Z Z Z Z (fun i1 hi1=>?_);refine zB4 ?_;refine AW.draw (ps:=[(0,2),(0,3),(0,4),(1,3),(1,4)]) Z Z ?_;refine zB4 ?_;have hmk:=make2_spec F g hg hr;unfold gramCells at hmk;refine WT.callF0 Tryz.func131 Z Z Z Z Z Z hmk (fun F1 v hF1 hv=>?_);obtain⟨is,E,Fi,rfl,hS,hFS⟩:=hv;refine WT.makeMap Z Z Z Z (fun ib hib=>?_);refine WT.makeMap Z Z Z Z (fun ie hie=>?_);refine zB4 ?_
 refine WT.boxT Z Z Z Z Z Z (fun im him=>?_);refine zB4 ?_;refine⟨zrC,?_⟩;refine zB4 ?_;refine AW.range (S:=MkS) (fun _=>[]) (fun s=>[(im,.cells false [.int .i64 g.terms,.int .i64 g.nons,.int .i64 g.start,.slice a m c,.pointer (some ⟨is,0,none⟩),.map (some ib),.map (some ie)])]::[(ie,.map (entsV keyLr s.ee))]::[(ib,.map (entsV keyLr s.eb))]::[(i1,.cells false [.int .i64 g.terms,.int .i64 g.nons,.int .i64 g.start,.slice a m c])]::own)
  (fun j s G=>MkI g (doneM g j 0) s.eb s.ee) (m+1) ⟨[],[]⟩
  Z Z Z Z Z Z Z Z Z zo rfl rfl (fun _=>rfl) (fun _=>rfl) sM oR (fun x=>⟨fun h=>(by unfold doneM at h;omega),fun _=>rfl⟩) ?_ ?_
 ·intro j s F2 hF2 hj hI;have hr2:=(hr.mono hF1).mono hF2;refine zB4 ?_;have hrt:=lrRight2_spec F2 g hg hr2 j zo;unfold gramCells at hrt;refine WT.callF0 Tryz.func144 Z Z Z Z Z Z hrt (fun F3 v hF3 hv=>?_);obtain⟨ya,yn,yc,rfl,hy⟩:=hv;have hyl:=hy.len;have hyok:=rightL_ok hg j;have hy4:(rightL g j).length≤4:=by
   unfold rightL;split
   ·simp
   ·cases hq:g.rules[j]? with
    | none=>simp
    | some r=>exact(hg.right r (gM hq)).2.1
  refine zB4 ?_;refine AW.range (S:=MkS) (fun _=>[]) (fun s=>[(im,.cells false [.int .i64 g.terms,.int .i64 g.nons,.int .i64 g.start,.slice a m c,.pointer (some ⟨is,0,none⟩),.map (some ib),.map (some ie)])]::[(ie,.map (entsV keyLr s.ee))]::[(ib,.map (entsV keyLr s.eb))]::[(i1,.cells false [.int .i64 g.terms,.int .i64 g.nons,.int .i64 g.start,.slice a m c])]::own)
   (fun e s G=>MkI g (doneM g j e) s.eb s.ee) yn s
   Z Z Z Z Z Z Z Z Z zo rfl rfl (fun _=>rfl) (fun _=>rfl) sM oR hI ?_ ?_
  ·intro e s F4 hF4 he hI;have hy4':=hy.mono hF4;have hF14:=(hF2.trans hF3).trans hF4;refine zC4 ?_;obtain⟨ra,rc,hrs,hra⟩:=hy4'.slice (C:=CC) (lo:=e+1) (hi:=yn) zo (Nat.le_refl _) hT (t:=87) Z Z Z (some (.int .i64 ((e+1:Nat):Int))) none (by simp[boundA];omega) rfl;refine WT.slice Z Z Z Z Z Z Z Z hrs ?_;rw[List.take_of_length_le zo] at hra;have hS4:=hS.blk;obtain⟨ie0,io0,ce0,co0,ro0,hb0,hE0,hFi0⟩:=hS4;have hlst:=hFS.list (l:=(rightL g j).drop (e+1)) (fun y hy=>hyok y (List.mem_of_mem_drop hy))
   refine WT.callN Tryz.func133 Z Z Z Z Z Z (sof_spec F4 (hF14 _ _ hb0) (hE0.mono hF14) (hFi0.mono hF14) hS.row zo hra zo (fun y hy=>hyok y (List.mem_of_mem_drop hy))) (fun F5 v B5 hF5 hv=>?_);obtain⟨ir,rfl,hrl5,rfl⟩:=hv;refine WT.freezeAll 0 Z Z (fun F6 hF6 hB6=>?_);have hrow:Arr tBool F6 (some ⟨ir,0,none⟩) g.terms (if g.terms=0 then 0 else 1) (ofRow E Fi (List.replicate g.terms false) ((rightL g j).drop (e+1))).1:=by
    have:=arr_of_cells (K:=cBool) (R:=tBool) (F:=F6) (id:=ir) (row:=(ofRow E Fi (List.replicate g.terms false) ((rightL g j).drop (e+1))).1) (c:=if (ofRow E Fi (List.replicate g.terms false) ((rightL g j).drop (e+1))).1.length=0 then 0 else 1) (ro:=false) rfl (fun _ _=>rfl) rfl (hB6 ir _ me);rw[hrl5] at this;exact this
   have hrest:(rightL g j).drop (e+1)=restL g ⟨j,e⟩:=rfl;rw[hrest] at hlst hrow hrl5 ⊢;generalize ofRow E Fi (List.replicate g.terms false) (restL g ⟨j,e⟩)=fr at hlst hrow hrl5 ⊢;obtain⟨row,emp⟩:=fr;dsimp only at hlst hrow hrl5;have hx0:bOf s.eb ⟨j,e⟩=.int .u32 0:=(hI ⟨j,e⟩).2 (by unfold doneM;dsimp only;omega);refine zC4 ?_;refine WT.allocT hT Z Z Z Z Z Z (fun i9 hi9=>?_);refine zC4 ?_
   refine AW.range (S:=Ents Lr) (fun _=>[]) (fun eb=>[(i9,.cells false [.int .i64 j,.int .i64 e])]::[]::[(im,.cells false [.int .i64 g.terms,.int .i64 g.nons,.int .i64 g.start,.slice a m c,.pointer (some ⟨is,0,none⟩),.map (some ib),.map (some ie)])]::[(ie,.map (entsV keyLr s.ee))]::[(ib,.map (entsV keyLr eb))]::[(i1,.cells false [.int .i64 g.terms,.int .i64 g.nons,.int .i64 g.start,.slice a m c])]::own)
    (fun t eb G=>(∀x,x≠⟨j,e⟩→bOf eb x=bOf s.eb x)∧bOf eb ⟨j,e⟩=.int .u32 (maskOf (BegL g (restL g ⟨j,e⟩)) t:Nat)) g.terms s.eb
    Z Z Z Z Z Z Z Z Z zo rfl rfl (fun _=>rfl) (fun _=>rfl) sM oR ⟨fun _ _=>rfl,hx0⟩ ?_ ?_
   ·intro t eb F7 hF7 ht hI2;obtain⟨hoth,hcur⟩:=hI2;have hrow7:=hrow.mono hF7;refine zC4 ?_;refine WT.idxL hT hrow7 Z Z Z Z Z Z Z Z Z zo (fun ok hok b5 off5 ro5 cs5 lx5 hb5 hp5 hrel5=>?_);obtain rfl:lx5=_:=hrel5;have hbit:ok=true↔BegL g (restL g ⟨j,e⟩) t:=by
     rw[←hlst.1 t,List.getD_eq_getElem?_getD,hok];rfl
    refine zC4 ?_;refine AW.cond Z (fun h=>?_) (fun h=>?_)
    ·have hbg:=hbit.1 h;have hlt:=maskOf_lt (BegL g (restL g ⟨j,e⟩)) t;have hnew:maskOf (BegL g (restL g ⟨j,e⟩)) (t+1)=maskOf (BegL g (restL g ⟨j,e⟩)) t+2 ^ t:=by
      show _+(if _ then 2 ^ t else 0)=_;rw[if_pos (@decide_eq_true _ (Classical.propDecidable _) hbg)]
     refine AW.draw (ps:=[(5,9),(8,9)]) Z Z ?_;refine zC4 ?_;refine WT.lookup1B keyLr hT 4 (m:=eb) (key:=⟨j,e⟩) Z Z Z Z Z Z Z me Z Z Z ?_;refine WT.know (v':=.int .u32 (maskOf (BegL g (restL g ⟨j,e⟩)) t:Nat)) 62 Z (by exact hcur) ?_;refine zC4 ?_;have hp8:2 ^ t≤256:=Nat.le_trans (Nat.pow_le_pow_right (by decide) (show t≤8 by omega)) (by decide);refine WT.shl32 (x:=1) (y:=t) Z Z Z Z Z Z zo zo ?_;refine WT.or32 (x:=maskOf (BegL g (restL g ⟨j,e⟩)) t) (y:=1*2 ^ t) Z Z Z Z Z Z zo zo ?_;refine WT.know (v':=.int .u32 (maskOf (BegL g (restL g ⟨j,e⟩)) (t+1):Nat)) 65 Z (by rw[hnew,or_two_pow hlt]) ?_
     refine WT.mapEntry keyLr hT 4 0 (m:=eb) (key:=⟨j,e⟩) Z Z Z Z Z Z Z Z Z Z Z Z Z ?_;refine zC4 ?_;refine WT.entryStore keyLr 4 0 (m:=mIns eb ⟨j,e⟩ (.int .u32 0)) (key:=⟨j,e⟩) Z Z Z Z (by rw[idxK_mIns];rfl) Z Z Z (look_mIns _ _ _) Z Z ?_;rw[mset_mIns];refine zC4 ?_;refine⟨recs_bend rfl rfl (by decide) (fun h2 s2=>lookup_bend keyLr hT (m2:=mIns eb ⟨j,e⟩ (.int .u32 0)) Z Z Z Z Z Z (s2.has (p:=4) rfl me) (by rw[look_mIns];rfl)) (recs_pair rfl rfl keep0 trivial),?_⟩;refine⟨mset eb ⟨j,e⟩ (.int .u32 (maskOf (BegL g (restL g ⟨j,e⟩)) (t+1):Nat)),sM,zow,fun x hx=>?_,?_⟩
     ·rw[bOf_mset,if_neg hx];exact hoth x hx
     ·rw[bOf_mset,if_pos rfl]
    ·have hno:¬BegL g (restL g ⟨j,e⟩) t:=fun h2=>by rw[hbit.2 h2] at h;cases h
     refine zC4 ?_;refine⟨eb,sM,zow,hoth,?_⟩;rw[hcur];show _=Value.int .u32 ((_+(if _ then 2 ^ t else 0):Nat):Int);rw[if_neg (fun h2=>hno (@of_decide_eq_true _ (Classical.propDecidable _) h2)),Nat.add_zero]
   ·intro eb F7 hF7 hI2;obtain⟨hoth,hcur⟩:=hI2;refine zC4 ?_;refine WT.mapSet keyLr hT 3 0 (m:=s.ee) (key:=⟨j,e⟩) Z Z Z Z Z Z Z Z Z Z Z Z ?_;refine zC4 ?_;refine⟨⟨eb,mset s.ee ⟨j,e⟩ (.bool emp)⟩,sM,zow,fun x=>?_⟩;have hemp:emp=eM g ⟨j,e⟩:=by
     unfold eM;cases emp with
     | true=>exact(@decide_eq_true _ (Classical.propDecidable _) (hlst.2.1 rfl)).symm
     | false=>exact(@decide_eq_false _ (Classical.propDecidable _) (fun h=>by have:=hlst.2.2 h;cases this)).symm
    by_cases hx:x=⟨j,e⟩
    ·subst hx;refine⟨fun _=>⟨hcur,?_⟩,fun h=>absurd (.inr ⟨rfl,Nat.lt_succ_self _⟩) h⟩;rw[eOf_mset,if_pos rfl,hemp]
    ·obtain⟨h1,h2⟩:=hI x;have hD:doneM g j (e+1) x↔doneM g j e x:=by
      obtain⟨xr,xd⟩:=x;unfold doneM;simp only[Lr.mk.injEq,not_and] at hx;constructor
      ·rintro(h | ⟨h3,h4⟩)
       ·exact .inl h
       ·exact .inr ⟨h3,by have:=hx h3;have h4:xd<e+1:=h4;show xd<e;omega⟩
      ·rintro(h | ⟨h3,h4⟩)
       ·exact .inl h
       ·exact .inr ⟨h3,by dsimp only at h4 ⊢;omega⟩
     refine⟨fun h=>?_,fun h=>?_⟩
     ·obtain⟨h3,h4⟩:=h1 (hD.1 h);refine⟨by rw[hoth x hx];exact h3,?_⟩;rw[eOf_mset,if_neg hx];exact h4
     ·rw[hoth x hx];exact h2 fun h3=>h (hD.2 h3)
  ·intro s F4 hF4 hI;refine⟨s,sM,zow,hI.congr fun x=>?_⟩;unfold doneM;constructor
   ·rintro(⟨h1,h2⟩ | ⟨h1,h2⟩)
    ·exact .inl ⟨by omega,h2⟩
    ·exact .inl ⟨by omega,by rw[h1];omega⟩
   ·rintro(⟨h1,h2⟩ | ⟨h1,h2⟩)
    ·by_cases h3:x.rule<j
     ·exact .inl ⟨h3,h2⟩
     ·obtain h3:x.rule=j:=by omega
      exact .inr ⟨h3,by rw[h3] at h2;omega⟩
    ·omega
 ·intro s F2 hF2 hI;refine zC4 ?_;refine AW.freezeAll 0 Z Z (fun F3 hF3 hB3=>?_);refine AW.freezeAll 1 Z Z (fun F4 hF4 hB4=>?_);refine AW.freezeAll 2 Z Z (fun F5 hF5 hB5=>?_);have hdone:∀x y,afterL g x=some y→doneM g (m+1) 0 x:=fun x y h=>by
   rw[afterL_right] at h;have h2:=(gS h).1;refine .inl ⟨?_,h2⟩;rcases Nat.lt_or_ge g.rules.length x.rule with h3 | h3
   ·unfold rightL at h2;rw[if_neg zo,List.getElem?_eq_none (l:=g.rules) (i:=x.rule) zo] at h2;simp at h2
   ·omega
  have hF25:=((hF2.trans hF3).trans hF4).trans hF5;refine AW.ret ⟨_,[],⟨_,_,rfl,rfl,rfl⟩,zsb,rfl,im,E,Fi,is,s.eb,s.ee,rfl,⟨ib,ie,false,hF5 _ _ (hF4 _ _ (hB3 im _ me)),hB5 ib _ me,hF5 _ _ (hB4 ie _ me)⟩,hS.mono hF25,hFS,fun x y h=>((hI x).1 (hdone x y h)).1,fun x y h=>((hI x).1 (hdone x y h)).2⟩
noncomputable def giveM(g:Gram)(x:Lr)(m:Nat):Nat:=if eM g x=true then bM g x ||| m else bM g x
theorem bM_lt(g:Gram)(x:Lr):bM g x<2 ^ (g.terms+1):=Nat.lt_of_lt_of_le (maskOf_lt _ _) (Nat.pow_le_pow_right (by decide) (Nat.le_succ _))
theorem giveM_lt{g:Gram}{x:Lr}{m:Nat}(h:m<2 ^ (g.terms+1)):giveM g x m<2 ^ (g.terms+1):=by
 unfold giveM;split
 ·exact Nat.or_lt_two_pow (bM_lt g x) h
 ·exact bM_lt g x
theorem giveM_bit{g:Gram}(hg:Valid g){x:Lr}{m t:Nat}:(giveM g x m).testBit t=true↔BegL g (restL g x) t∨(NulL g (restL g x)∧m.testBit t=true):=by
 have hb:(bM g x).testBit t=true↔BegL g (restL g x) t:=by
  unfold bM;rw[maskOf_bit];exact⟨fun h=>h.2,fun h=>⟨rest_lt hg h,h⟩⟩
 have he:eM g x=true↔NulL g (restL g x):=⟨fun h=>@of_decide_eq_true _ (Classical.propDecidable _) h,fun h=>@decide_eq_true _ (Classical.propDecidable _) h⟩;unfold giveM;split
 ·rename_i h;rw[Nat.testBit_or,Bool.or_eq_true,hb];exact⟨fun h2=>h2.imp id fun h3=>⟨he.1 h,h3⟩,fun h2=>h2.imp id fun h3=>h3.2⟩
 ·rename_i h;rw[hb];exact⟨.inl,fun h2=>h2.resolve_right fun h3=>h (he.2 h3.1)⟩
theorem pow_small{g:Gram}(ht:g.terms≤8):2 ^ (g.terms+1)≤512:=Nat.le_trans (Nat.pow_le_pow_right (by decide) (show g.terms+1≤9 by omega)) (by decide)
theorem give_spec(F:Frz)(g:Gram)(hg:Valid g){im is:Nat}{a:Option Addr}{m c:Nat}{E:List Bool}{Fi:List (List Bool)}{eb ee:Ents Lr}(hM:MakerF F im g a m c E Fi is eb ee)(x:Lr){y:Sym}(hx:afterL g x=some y)(s:Nat)(hs:s<2 ^ (g.terms+1)) :
  Abs.Spec CC 190 [.pointer (some ⟨im,0,none⟩),.agg ⟨[.int .i64 x.rule,.int .i64 x.dot,.int .u32 s]⟩] F [] fun _ v o=>o=[]∧v=.int .u32 (giveM g x s:Nat):=by
 obtain⟨ib,ie,ro,h1,h2,h3⟩:=hM.blk;have hb:=hM.beg x y hx;have he:=hM.nul x y hx;have hp:=pow_small hg.range.terms.2;have hbl:=bM_lt g x;refine Abs.Spec.fn (n:=25) Tryz.func190 rfl rfl fun own=>?_;refine AW.seq (AW.reg ?_);refine WT.boxT Z Z Z Z Z Z (fun i3 hi3=>?_);refine zC4 ?_;refine WT.lookupF keyLr hT (m:=eb) (key:=x) Z Z Z Z Z Z h2 Z Z Z ?_;refine WT.know (v':=.int .u32 (bM g x:Nat)) 12 Z (by exact hb) ?_;refine zC4 ?_;refine WT.lookupF keyLr hT (m:=ee) (key:=x) Z Z Z Z Z Z h3 Z Z Z ?_;refine WT.know (v':=.bool (eM g x)) 19 Z (by exact he) ?_;refine zC4 ?_
 refine AW.cond Z (fun h=>?_) (fun h=>?_)
 ·refine zC4 ?_;refine WT.or32 (x:=bM g x) (y:=s) Z Z Z Z Z Z zo zo ?_;refine zC4 ?_;refine AW.ret ⟨_,[],⟨_,_,rfl,rfl,rfl⟩,zsb,rfl,?_⟩;unfold giveM;rw[if_pos h];rfl
 ·refine zC4 ?_;refine AW.ret ⟨_,[],⟨_,_,rfl,rfl,rfl⟩,zsb,rfl,?_⟩;unfold giveM;rw[if_neg (by rw[h];simp)];rfl
def SetR(g:Gram)(es:Ents Lr)(S:Lr→Nat):Prop:=∀z,bOf es z=.int .u32 (S z:Nat)∧S z<2 ^ (g.terms+1)
def updS(S:Lr→Nat)(x:Lr)(v:Nat):Lr→Nat:=fun z=>if z=x then v else S z
theorem SetR.put{g:Gram}{es:Ents Lr}{S:Lr→Nat}(h:SetR g es S)(x:Lr){v:Nat}(hv:v<2 ^ (g.terms+1)):SetR g (mset es x (.int .u32 (v:Nat))) (updS S x v):=fun z=>by
 rw[bOf_mset];unfold updS;split
 ·exact⟨rfl,hv⟩
 ·exact h z
structure ClS where
 a:Option Addr
 m:Nat
 c:Nat
 B:List (Nat×Blk)
 es:Ents Lr
def BaseS(l:List Look)(S:Lr→Nat):Prop:=∀z t,(S z).testBit t=true↔∃m,(⟨z,m⟩:Look)∈l∧m.testBit t=true
theorem itemsK_snoc(l:List Look)(x:Look):itemsK (l++[x])=itemsK l++[x.item]:=by unfold itemsK;simp
theorem BaseS.snoc{l:List Look}{S:Lr→Nat}(h:BaseS l S)(x:Look):BaseS (l++[x]) (updS S x.item (S x.item ||| x.set)):=fun z t=>by
 obtain⟨xi,xs⟩:=x;unfold updS;constructor
 ·intro h1;split at h1
  ·rename_i e;subst e;rw[Nat.testBit_or,Bool.or_eq_true] at h1;rcases h1 with h1 | h1
   ·obtain⟨m,h2,h3⟩:=(h z t).1 h1;exact⟨m,List.mem_append_left _ h2,h3⟩
   ·exact⟨xs,List.mem_append_right _ (List.mem_singleton_self _),h1⟩
  ·obtain⟨m,h2,h3⟩:=(h z t).1 h1;exact⟨m,List.mem_append_left _ h2,h3⟩
 ·rintro⟨m,h2,h3⟩;rcases List.mem_append.1 h2 with h2 | h2
  ·have h4:=(h z t).2 ⟨m,h2,h3⟩;split
   ·rename_i e;dsimp only at e ⊢;rw[e] at h4;rw[Nat.testBit_or,h4];rfl
   ·exact h4
  ·have e:=List.mem_singleton.1 h2;simp only[Look.mk.injEq] at e;obtain⟨rfl,rfl⟩:=e;rw[if_pos rfl,Nat.testBit_or,h3,Bool.or_true]
theorem MakerF.mono{F G:Frz}{im is:Nat}{g:Gram}{a:Option Addr}{m c:Nat}{E:List Bool}{Fi:List (List Bool)}{eb ee:Ents Lr}(h:MakerF F im g a m c E Fi is eb ee)(hF:Frz.le F G):MakerF G im g a m c E Fi is eb ee:=by
 obtain⟨ib,ie,ro,h1,h2,h3⟩:=h.blk;exact⟨⟨ib,ie,ro,hF _ _ h1,hF _ _ h2,hF _ _ h3⟩,h.sets.mono hF,h.fset,h.beg,h.nul⟩
theorem okLr_lr{g:Gram}{x:Lr}(h:OkLr g x):LrOk g x:=by
 refine⟨h.1,?_⟩;have h2:=h.2;unfold rightL at h2;split at h2
 ·rename_i e;rw[if_pos e];exact h2
 ·rename_i e;rw[if_neg e];cases hq:g.rules[x.rule]? with
  | none=>rw[hq] at h2;exact h2
  | some r=>rw[hq] at h2;exact h2
structure CfS where
 es:Ents Lr
 S:Lr→Nat
 again:Bool
def SndS(g:Gram)(l:List Look)(S:Lr→Nat):Prop:=∀z t,(S z).testBit t=true→LAc g l z t
def FedS(g:Gram)(S:Lr→Nat)(x:Lr):Prop:=∀(k:Nat) (r:Rule),afterL g x=some ⟨false,r.left⟩→g.rules[k]?=some r→∀t,(giveM g x (S x)).testBit t=true→(S ⟨k,0⟩).testBit t=true
def wS(g:Gram)(S:Lr→Nat):Nat:=((List.range g.rules.length).map fun k=>512-S ⟨k,0⟩).sum
theorem sum_lt_at2{f h:Nat→Nat}:∀{n i:Nat},i<n→(∀j,j≠i→f j=h j)→f i<h i→((List.range n).map f).sum<((List.range n).map h).sum
 | 0,_,hi,_,_=>by omega
 | n+1,i,hi,he,hl=>by
  rw[List.range_succ,List.map_append,List.map_append,List.sum_append,List.sum_append];simp only[List.map_cons,List.map_nil,List.sum_cons,List.sum_nil,Nat.add_zero];by_cases e:i=n
  ·subst e;have:(List.range i).map f=(List.range i).map h:=List.map_congr_left fun j hj=>he j (by have:=List.mem_range.1 hj;omega);rw[this];omega
  ·have h1:=sum_lt_at2 (n:=n) (i:=i) zo he hl;have h2:=he n (fun e2=>e e2.symm);omega
theorem updS_self(S:Lr→Nat)(x:Lr)(v:Nat):updS S x v x=v:=by unfold updS;rw[if_pos rfl]
theorem updS_ne{S:Lr→Nat}{x z:Lr}{v:Nat}(h:z≠x):updS S x v z=S z:=by unfold updS;rw[if_neg h]
theorem wS_put{g:Gram}{S:Lr→Nat}{k v:Nat}(hk:k<g.rules.length)(hS:∀z,S z<512)(hv:v<512)(hlt:S ⟨k,0⟩<v):wS g (updS S ⟨k,0⟩ v)<wS g S:=by
 unfold wS;refine sum_lt_at2 hk (fun j hj=>?_) ?_
 ·rw[updS_ne (fun e=>hj (by injection e))]
 ·rw[updS_self];have:=hS ⟨k,0⟩;omega
theorem or_gt{x y:Nat}(h:andNot y x≠0)(hx:x<4294967296)(hy:y<4294967296):x<x ||| y:=by
 refine Nat.lt_of_le_of_ne Nat.left_le_or fun e=>h ?_;rw[andNot_zero hy hx];intro j hj;rw[e,Nat.testBit_or,hj,Bool.or_true]
theorem SndS.put{g:Gram}{l:List Look}{S:Lr→Nat}(h:SndS g l S){x:Lr}{v:Nat}(hv:∀t,v.testBit t=true→LAc g l x t):SndS g l (updS S x (S x ||| v)):=fun z t ht=>by
 unfold updS at ht;split at ht
 ·rename_i e;subst e;rw[Nat.testBit_or,Bool.or_eq_true] at ht;exact ht.elim (h _ t) (hv t)
 ·exact h z t ht
theorem updS_mono{S:Lr→Nat}{x:Lr}{v:Nat}{z:Lr}{t:Nat}(h:(S z).testBit t=true):(updS S x (S x ||| v) z).testBit t=true:=by
 unfold updS;split
 ·rename_i e;rw[←e,Nat.testBit_or,h];rfl
 ·exact h
theorem closeK_spec(F:Frz)(g:Gram)(hg:Valid g){im is:Nat}{a:Option Addr}{m c:Nat}{E:List Bool}{Fi:List (List Bool)}{eb ee:Ents Lr}(hM:MakerF F im g a m c E Fi is eb ee)
  {b:Option Addr} {n d:Nat} {l:List Look} (hl:Arr tLook F b n d l) (hn:n≤1000) (hok:∀x∈l,OkLr g x.item∧x.set<2 ^ (g.terms+1)) :
  Abs.Spec CC 147 [.pointer (some ⟨im,0,none⟩),.slice b n d] F [] fun F' v o=>o=[]∧∃a' n' c',v=.slice a' n' c'∧Arr tLook F' a' n' c' (closeK g l):=by
 obtain⟨ib,ie,ro,h1,h2,h3⟩:=hM.blk;have hp:=pow_small hg.range.terms.2;have hll:=hl.len;have hr:=hM.sets.rules;have hrl:=hr.len;have hgr:=hg.range.rules;refine Abs.Spec.fn (n:=134) Tryz.func147 rfl rfl fun own=>?_;refine zC4 ?_;refine WT.makeMap Z Z Z Z (fun iq hiq=>?_);refine zC4 ?_;refine AW.range (S:=ClS) (fun s=>[(5,.slice s.a s.m s.c)]) (fun s=>s.B::[(iq,.map (entsV keyLr s.es))]::own) (fun j s G=>Bld tLr G s.a s.m s.c s.B (itemsK (l.take j))∧∃S,SetR g s.es S∧BaseS (l.take j) S) n ⟨none,0,0,[],[]⟩
  Z Z Z Z Z Z Z Z Z zo rfl rfl (fun _=>rfl) (fun _=>rfl) sM (OwnLe.flat (List.Perm.refl _)) ⟨Bld.nil_ _ _,fun _=>0,fun z=>⟨rfl,Nat.two_pow_pos _⟩,fun z t=>by simp⟩ ?_ ?_
 ·intro j s F1 hF1 hj hI;obtain⟨hb,S,hS,hB⟩:=hI;have hl1:=hl.mono hF1;have hbl:=hb.len;unfold itemsK at hbl;rw[List.length_map,List.length_take] at hbl;refine zC4 ?_;refine WT.idxL hT hl1 Z Z Z Z Z Z Z Z Z zo (fun x hxj b1 off1 ro1 cs1 lx1 hb1 hp1 hrel1=>?_);obtain rfl:lx1=_:=hrel1;obtain⟨hxo,hxs⟩:=hok x (gM hxj);have htk:l.take (j+1)=l.take j++[x]:=by rw[List.take_add_one,hxj];rfl
  refine zC4 ?_;refine WT.allocT hT Z Z Z Z Z Z (fun i8 hi8=>?_);refine zC4 ?_;refine WT.buildT hT Z Z Z Z Z Z Z Z Z Z Z Z Z Z (fun i33 hi33=>?_);refine WT.appendT (R:=tLr) (ys:=[x.item]) hT 2 hb Z (fun _=>rfl) Z Z Z Z Z Z Z Z Z Z Z (fun h0 s0=>news_own hT s0 0 Z Z Z Z) (Cells.single (R:=tLr) (x:=x.item) rfl) Z (by decide) zom (fun a3 c3 B3 hB3=>?_);refine zC4 ?_;refine AW.draw (ps:=[(3,7),(6,7)]) Z Z ?_;refine zC4 ?_;refine WT.lookup1B keyLr hT 3 (m:=s.es) (key:=x.item) Z Z Z Z Z Z Z me Z Z Z ?_;refine WT.know (v':=.int .u32 (S x.item:Nat)) 38 Z (by exact(hS x.item).1) ?_
  have hSx:=(hS x.item).2;refine zC4 ?_;refine WT.or32 (x:=S x.item) (y:=x.set) Z Z Z Z Z Z zo zo ?_;refine WT.mapEntry keyLr hT 3 0 (m:=s.es) (key:=x.item) Z Z Z Z Z Z Z Z Z Z Z Z Z ?_;refine zC4 ?_;refine WT.entryStore keyLr 3 0 (m:=mIns s.es x.item (.int .u32 0)) (key:=x.item) Z Z Z Z (by rw[idxK_mIns];rfl) Z Z Z (look_mIns _ _ _) Z Z ?_;rw[mset_mIns];refine zC4 ?_;refine⟨recs_bend rfl rfl (by decide) (fun h2 s2=>lookup_bend keyLr hT (m2:=mIns s.es x.item (.int .u32 0)) Z Z Z Z Z Z (s2.has (p:=3) rfl me) (by rw[look_mIns];rfl)) (recs_pair rfl rfl keep0 trivial),?_⟩
  refine⟨⟨a3,s.m+1,c3,B3,mset s.es x.item (.int .u32 (S x.item ||| x.set:Nat))⟩,sM,zow,?_,updS S x.item (S x.item ||| x.set),hS.put _ (Nat.or_lt_two_pow hSx hxs),?_⟩
  ·rw[htk,itemsK_snoc];exact hB3
  ·rw[htk];exact hB.snoc x
 ·intro s F1 hF1 hI;obtain⟨hb,S,hS,hB⟩:=hI;rw[List.take_of_length_le zo] at hb hB;refine AW.freezeAll 0 Z Z (fun F2 hF2 hB2=>?_);have hcore:=hb.frozen hF2 hB2;have hbl:=hb.len;unfold itemsK at hbl;rw[List.length_map] at hbl;have hr2:=(hr.mono hF1).mono hF2;have hM2:=(hM.mono hF1).mono hF2;have h12:=hF2 _ _ (hF1 _ _ h1);have hlr:∀x∈itemsK l,OkLr g x:=fun x hx=>by
   obtain⟨y,hy,rfl⟩:=List.mem_map.1 hx;exact(hok y hy).1
  refine zC4 ?_;have hcl:=lrClose_spec F2 g hg hr2 hcore zo (fun x hx=>okLr_lr (hlr x hx));unfold gramCells at hcl;refine WT.callF0 Tryz.func189 Z Z Z Z Z Z hcl (fun F3 v hF3 hv=>?_);obtain⟨a8,m8,c8,zs,rfl,hz,hzm,hstr,hmem⟩:=hv;obtain rfl:zs=closL g (itemsK l):=closL_eq hlr hstr hmem;have hzl:=hz.len;have hr3:=hr2.mono hF3;have hM3:=hM2.mono hF3;have h13:=hF3 _ _ h12;refine zC4 ?_;refine AW.block ?_
  refine AW.loopR (S:=CfS) (fun s=>[(11,.bool s.again)]) (fun s=>[]::[(iq,.map (entsV keyLr s.es))]::own) (fun s G=>SetR g s.es s.S∧SndS g l s.S∧(∀z t,(∃m,(⟨z,m⟩:Look)∈l∧m.testBit t=true)→(s.S z).testBit t=true)∧(s.again=false→∀x∈closL g (itemsK l),FedS g s.S x)) (fun s=>if s.again=true then 1+wS g s.S else 0)
   ⟨s.es,S,true⟩ sM oR ⟨hS,fun z t ht=>?_,fun z t ht=>(hB z t).2 ht,fun h=>(by cases h)⟩ ?_
  ·obtain⟨m,h4,h5⟩:=(hB z t).1 ht;refine .base h4 h5 ?_;have:=(hok _ h4).2;rcases Nat.lt_or_ge g.terms t with h6 | h6
   ·rw[Nat.testBit_lt_two_pow (Nat.lt_of_lt_of_le this (Nat.pow_le_pow_right (by decide) h6))] at h5;cases h5
   ·exact h6
  intro s F4 hF4 hI;obtain⟨hS,hsnd,hbase,hfed⟩:=hI;have hz4:=hz.mono hF4;have hr4:=hr3.mono hF4;have hM4:=hM3.mono hF4;have h14:=hF4 _ _ h13;refine zC4 ?_;refine AW.cond Z (fun h=>?_) (fun h=>?_)
  ·refine zC4 ?_;refine AW.block ?_;refine zC4 ?_;refine AW.range (S:=CfS) (fun s=>[(11,.bool s.again)]) (fun s=>[]::[(iq,.map (entsV keyLr s.es))]::own) (fun j u G=>SetR g u.es u.S∧SndS g l u.S∧(∀z t,(s.S z).testBit t=true→(u.S z).testBit t=true)∧wS g u.S≤wS g s.S∧(u.again=true→wS g u.S<wS g s.S)∧(u.again=false→u.S=s.S∧∀x∈(closL g (itemsK l)).take j,FedS g s.S x)) m8 ⟨s.es,s.S,false⟩
    Z Z Z Z Z Z Z Z Z zo rfl rfl (fun _=>rfl) (fun _=>rfl) sM oR ⟨hS,hsnd,fun _ _ h=>h,Nat.le_refl _,fun h=>(by cases h),fun _=>⟨rfl,by simp⟩⟩ ?_ ?_
   ·intro j u F5 hF5 hj hI;obtain⟨huS,husnd,humono,hule,hult,hufed⟩:=hI;have hz5:=hz4.mono hF5;have hr5:=hr4.mono hF5;have hM5:=hM4.mono hF5;have h15:=hF5 _ _ h14;refine zC4 ?_;refine WT.idxL hT hz5 Z Z Z Z Z Z Z Z Z zo (fun x hxj b1 off1 ro1 cs1 lx1 hb1 hp1 hrel1=>?_);obtain rfl:lx1=_:=hrel1;have hxm:=gM hxj;have hxo:=closL_ok x hxm;have htk:(closL g (itemsK l)).take (j+1)=(closL g (itemsK l)).take j++[x]:=by rw[List.take_add_one,hxj];rfl
    refine zC4 ?_;refine WT.allocT hT Z Z Z Z Z Z (fun i13 hi13=>?_);refine zC4 ?_;refine AW.draw (ps:=[(3,9),(4,9)]) Z Z ?_;refine zC4 ?_;have haf:=lrAfter_spec F5 g (fun r h=>by have:=(hg.right r h).2.1;omega) hr5 zo x (by have:=hxo.1;omega);unfold gramCells at haf;refine WT.callV Tryz.func150 Z Z Z Z Z Z haf (fun v hv=>?_);obtain⟨y,bo,rfl,hay,han⟩:=hv;obtain⟨yt,yn⟩:=y;refine zC4 ?_;refine WT.allocT hT Z Z Z Z Z Z (fun i14 hi14=>?_);refine zC4 ?_;refine⟨zrC,?_⟩;refine zC4 ?_
    have hskip:(∀n,afterL g x≠some ⟨false,n⟩)→u.again=false→u.S=s.S∧∀z∈(closL g (itemsK l)).take (j+1),FedS g s.S z:=fun hno hag=>by
     obtain⟨q1,q2⟩:=hufed hag;refine⟨q1,fun z hz=>?_⟩;rw[htk] at hz;rcases List.mem_append.1 hz with hz | hz
     ·exact q2 z hz
     ·rw[List.mem_singleton.1 hz];exact fun k r h1 _ _ _=>absurd h1 (hno _)
    refine WT.split 72 Z (fun hok=>?_) (fun hok=>?_)
    ·have hok:bo=false:=by simpa using hok
     refine zC4 ?_;refine AW.cond Z (fun _=>?_) (fun h=>(by simp at h));refine AW.exit ?_;refine⟨u,sM,zow,huS,husnd,humono,hule,hult,hskip fun n h=>?_⟩;rw[han hok] at h;cases h
    ·have hok:bo=true:=by simpa using hok
     subst hok;refine zC4 ?_;refine AW.cond Z (fun h3=>?_) (fun h3=>?_)
     ·have h3:yt=true:=by simpa using h3
      refine AW.exit ?_;refine⟨u,sM,zow,huS,husnd,humono,hule,hult,hskip fun n h=>?_⟩;rw[hay rfl,h3] at h;cases h
     have h3:yt=false:=by simpa using h3
     subst h3;have hay:=hay rfl;refine zC4 ?_;refine WT.lookup1 keyLr hT 3 (m:=u.es) (key:=x) Z Z Z Z Z Z Z me Z Z Z ?_;refine WT.know (v':=.int .u32 (u.S x:Nat)) 80 Z (by exact(huS x).1) ?_;have huSx:=(huS x).2;refine zC4 ?_;refine WT.callV Tryz.func190 Z Z Z Z Z Z (give_spec F5 g hg hM5 x hay (u.S x) huSx) (fun v hv=>?_);subst hv;have hadl:=giveM_lt (g:=g) (x:=x) huSx;refine zC4 ?_
     refine AW.range (S:=CfS) (fun s=>[(11,.bool s.again)]) (fun s=>[(i14,Blk.cells false [.bool false,.int .i64 yn])]::[(i13,Blk.cells false [.int .i64 x.rule,.int .i64 x.dot])]::[]::[(iq,.map (entsV keyLr s.es))]::own) (fun j v G=>SetR g v.es v.S∧SndS g l v.S∧(∀z t,(s.S z).testBit t=true→(v.S z).testBit t=true)∧wS g v.S≤wS g s.S∧(v.again=true→wS g v.S<wS g s.S)∧(v.again=false→u.again=false∧v.S=u.S∧∀(k:Nat) (r:Rule),k<j→afterL g x=some ⟨false,r.left⟩→g.rules[k]?=some r→∀t,(giveM g x (u.S x)).testBit t=true→(v.S ⟨k,0⟩).testBit t=true)) m u
      Z Z Z Z Z Z Z Z Z zo rfl rfl (fun _=>rfl) (fun _=>rfl) sM oR ⟨huS,husnd,humono,hule,hult,fun h=>⟨h,rfl,fun k r h=>absurd h (Nat.not_lt_zero _)⟩⟩ ?_ ?_
     ·intro k v F6 hF6 hk hI;obtain⟨hvS,hvsnd,hvmono,hvle,hvlt,hvfed⟩:=hI;have hr6:=hr5.mono hF6;refine zC4 ?_;refine WT.idxL hT hr6 Z Z Z Z Z Z Z Z Z zo (fun r hrk b5 off5 ro5 cs5 lx5 hb5 hp5 hrel5=>?_);obtain⟨ra,rn,rc,rfl,hra⟩:=hrel5;refine zC4 ?_;refine WT.allocT hT Z Z Z Z Z Z (fun i18 hi18=>?_);refine zC4 ?_;refine WT.allocT hT Z Z Z Z Z Z (fun i19 hi19=>?_);refine zC4 ?_;have hvk:=hvS ⟨k,0⟩;have hv5:∀z,v.S z<512:=fun z=>Nat.lt_of_lt_of_le (hvS z).2 hp;refine WT.split 101 Z (fun hl=>?_) (fun hl=>?_)
      ·have hl:r.left=yn:=by simp at hl;omega
       refine zC4 ?_;refine WT.lookup1 keyLr hT 5 (m:=v.es) (key:=⟨k,0⟩) Z Z Z Z Z Z Z me Z Z Z ?_;refine WT.know (v':=.int .u32 (v.S ⟨k,0⟩:Nat)) 105 Z (by exact hvk.1) ?_;refine WT.andNot32 (x:=giveM g x (u.S x)) (y:=v.S ⟨k,0⟩) Z Z Z Z Z Z zo (by have:=hv5 ⟨k,0⟩;omega) ?_;refine zC4 ?_;refine AW.cond Z (fun hc=>?_) (fun hc=>?_)
       ·have hc:andNot (giveM g x (u.S x)) (v.S ⟨k,0⟩)≠0:=by simpa using hc
        refine zC4 ?_;refine AW.draw (ps:=[(2,5),(4,5)]) Z Z ?_;refine zC4 ?_;refine WT.lookup1B keyLr hT 5 (m:=v.es) (key:=⟨k,0⟩) Z Z Z Z Z Z Z me Z Z Z ?_;refine WT.know (v':=.int .u32 (v.S ⟨k,0⟩:Nat)) 111 Z (by exact hvk.1) ?_;refine zC4 ?_;refine WT.or32 (x:=v.S ⟨k,0⟩) (y:=giveM g x (u.S x)) Z Z Z Z Z Z (by have:=hv5 ⟨k,0⟩;omega) zo ?_;refine WT.mapEntry keyLr hT 5 0 (m:=v.es) (key:=⟨k,0⟩) Z Z Z Z Z Z Z Z Z Z Z Z Z ?_;refine zC4 ?_;refine WT.entryStore keyLr 5 0 (m:=mIns v.es ⟨k,0⟩ (.int .u32 0)) (key:=⟨k,0⟩) Z Z Z Z (by rw[idxK_mIns];rfl) Z Z Z (look_mIns _ _ _) Z Z ?_;rw[mset_mIns]
        refine zC4 ?_;refine⟨recs_bend rfl rfl (by decide) (fun h2 s2=>lookup_bend keyLr hT (m2:=mIns v.es ⟨k,0⟩ (.int .u32 0)) Z Z Z Z Z Z (s2.has (p:=5) rfl me) (by rw[look_mIns];rfl)) (recs_pair rfl rfl keep0 trivial),?_⟩;refine zC4 ?_;have hput:=hvS.put ⟨k,0⟩ (Nat.or_lt_two_pow hvk.2 hadl);have hw:=wS_put (g:=g) (S:=v.S) (k:=k) (v:=v.S ⟨k,0⟩ ||| giveM g x (u.S x)) zo hv5 (Nat.lt_of_lt_of_le (Nat.or_lt_two_pow hvk.2 hadl) hp) (or_gt hc (by have:=hv5 ⟨k,0⟩;omega) zo)
        refine⟨⟨mset v.es ⟨k,0⟩ (.int .u32 (v.S ⟨k,0⟩ ||| giveM g x (u.S x):Nat)),updS v.S ⟨k,0⟩ (v.S ⟨k,0⟩ ||| giveM g x (u.S x)),true⟩,sM,zow,hput,hvsnd.put fun t ht=>?_,fun z t ht=>updS_mono (hvmono z t ht),by dsimp only;omega,fun _=>by dsimp only;omega,fun h=>by cases h⟩
        rcases (giveM_bit hg).1 ht with h7 | ⟨h7,h8⟩
        ·exact .beg ((mem_closL hlr).1 hxm) (hl▸hay) hrk h7
        ·exact .pass ((mem_closL hlr).1 hxm) (hl▸hay) hrk h7 (husnd _ _ h8)
       ·have hc:andNot (giveM g x (u.S x)) (v.S ⟨k,0⟩)=0:=by simpa using hc
        refine zC4 ?_;refine⟨v,sM,zow,hvS,hvsnd,hvmono,hvle,hvlt,fun hag=>?_⟩;obtain⟨q1,q2,q3⟩:=hvfed hag;refine⟨q1,q2,fun k2 r2 hk2 e1 e2 t ht=>?_⟩;rcases Nat.lt_or_ge k2 k with h6 | h6
        ·exact q3 k2 r2 h6 e1 e2 t ht
        ·obtain rfl:k2=k:=by omega
         exact(andNot_zero zo (by have:=hv5 ⟨k2,0⟩;omega)).1 hc t ht
      ·have hl:r.left≠yn:=by simp at hl;omega
       refine zC4 ?_;refine AW.cond Z (fun hc=>(by simp at hc)) (fun _=>?_);refine zC4 ?_;refine⟨v,sM,zow,hvS,hvsnd,hvmono,hvle,hvlt,fun hag=>?_⟩;obtain⟨q1,q2,q3⟩:=hvfed hag;refine⟨q1,q2,fun k2 r2 hk2 e1 e2 t ht=>?_⟩;rcases Nat.lt_or_ge k2 k with h6 | h6
       ·exact q3 k2 r2 h6 e1 e2 t ht
       ·obtain rfl:k2=k:=by omega
        rw[hrk] at e2;rw[hay] at e1;simp only[Option.some.injEq,Sym.mk.injEq] at e1 e2;exact absurd (by rw[e2];exact e1.2.symm) hl
     ·intro v F6 hF6 hI;obtain⟨hvS,hvsnd,hvmono,hvle,hvlt,hvfed⟩:=hI;refine⟨v,sM,zow,hvS,hvsnd,hvmono,hvle,hvlt,fun hag=>?_⟩;obtain⟨q1,q2,q3⟩:=hvfed hag;obtain⟨q4,q5⟩:=hufed q1;refine⟨by rw[q2,q4],fun z hz=>?_⟩;rw[htk] at hz;rcases List.mem_append.1 hz with hz | hz
      ·exact q5 z hz
      ·rw[List.mem_singleton.1 hz];intro k r e1 e2 t ht;rw[←q4] at ht ⊢;rw[←q2];exact q3 k r (by have:=(gS e2).1;omega) e1 e2 t ht
   ·intro u F5 hF5 hI;obtain⟨huS,husnd,humono,hule,hult,hufed⟩:=hI;rw[List.take_of_length_le zo] at hufed;refine⟨u,?_,sM,zow,huS,husnd,fun z t ht=>humono z t (hbase z t ht),fun hag=>?_⟩
    ·rw[if_pos h];split
     ·rename_i hag;have:=hult hag;omega
     ·omega
    ·obtain⟨q1,q2⟩:=hufed hag;rw[q1];exact q2
  ·refine AW.exit ?_;have hfed:=hfed h;have hfin:∀z,s.S z=maskOf (LAc g l z) (g.terms+1):=fun z=>by
    refine mask_uniq (hS z).2 fun t=>⟨fun ht=>⟨Nat.lt_succ_of_le ((hsnd z t ht).le hg),hsnd z t ht⟩,fun ht=>?_⟩;have ht2:=ht.2;clear ht
    induction ht2 with
    | base h4 h5 _=>exact hbase _ _ ⟨_,h4,h5⟩
    | beg h4 h5 h6 h7=>exact hfed _ ((mem_closL hlr).2 h4) _ _ h5 h6 _ ((giveM_bit hg).2 (.inl h7))
    | pass h4 h5 h6 h7 _ ih=>exact hfed _ ((mem_closL hlr).2 h4) _ _ h5 h6 _ ((giveM_bit hg).2 (.inr ⟨h7,ih⟩))
   refine zC4 ?_;refine AW.range (S:=ClS) (fun u=>[(20,.slice u.a u.m u.c)]) (fun u=>u.B::[]::[(iq,.map (entsV keyLr s.es))]::own) (fun j u G=>Bld tLook G u.a u.m u.c u.B (((closL g (itemsK l)).take j).map fun z=>⟨z,maskOf (LAc g l z) (g.terms+1)⟩)) m8 ⟨none,0,0,[],[]⟩
    Z Z Z Z Z Z Z Z Z zo rfl rfl (fun _=>rfl) (fun _=>rfl) sM (OwnLe.flat (List.Perm.refl _)) (Bld.nil_ _ _) ?_ ?_
   ·intro j u F5 hF5 hj hb;have hz5:=hz4.mono hF5;have hbl:=hb.len;rw[List.length_map,List.length_take] at hbl;refine zC4 ?_;refine WT.idxL hT hz5 Z Z Z Z Z Z Z Z Z zo (fun x hxj b1 off1 ro1 cs1 lx1 hb1 hp1 hrel1=>?_);obtain rfl:lx1=_:=hrel1;have htk:(closL g (itemsK l)).take (j+1)=(closL g (itemsK l)).take j++[x]:=by rw[List.take_add_one,hxj];rfl
    refine zC4 ?_;refine WT.allocT hT Z Z Z Z Z Z (fun i22 hi22=>?_);refine zC4 ?_;refine WT.lookup1 keyLr hT 3 (m:=s.es) (key:=x) Z Z Z Z Z Z Z me Z Z Z ?_;refine WT.know (v':=.int .u32 (maskOf (LAc g l x) (g.terms+1):Nat)) 128 Z (by rw[←hfin x];exact(hS x).1) ?_;refine zC4 ?_;refine WT.buildT hT Z Z Z Z Z Z Z Z Z Z Z Z Z Z (fun i33 hi33=>?_)
    refine WT.appendT (R:=tLook) (ys:=[⟨x,maskOf (LAc g l x) (g.terms+1)⟩]) hT 2 hb Z (fun _=>rfl) Z Z Z Z Z Z Z Z Z Z Z (fun h0 s0=>news_own hT s0 0 Z Z Z Z) (Cells.single (R:=tLook) (x:=⟨x,maskOf (LAc g l x) (g.terms+1)⟩) rfl) Z (by decide) zom (fun a3 c3 B3 hB3=>?_);refine zC4 ?_;refine⟨⟨a3,u.m+1,c3,B3,[]⟩,sM,zow,?_⟩;dsimp only;rw[htk,List.map_append];exact hB3
   ·intro u F5 hF5 hb;rw[List.take_of_length_le zo] at hb;refine AW.freezeAll 0 Z Z (fun F6 hF6 hB6=>?_);refine zC4 ?_;exact AW.ret ⟨_,[],⟨_,_,rfl,rfl,rfl⟩,zsb,rfl,_,_,_,rfl,hb.frozen hF6 hB6⟩
noncomputable def nextK(g:Gram)(st:List Look)(y:Sym):Option (List Look):=if kernK g st y=[] then none else some (closeK g (kernK g st y))
theorem kernK_take{g:Gram}{st:List Look}{y:Sym}{j:Nat}{x:Look}(h:st[j]?=some x):kernK g (st.take (j+1)) y=kernK g (st.take j) y++(if afterL g x.item=some y then [⟨⟨x.item.rule,x.item.dot+1⟩,x.set⟩] else []):=by
 unfold kernK;rw[List.take_add_one,h,List.filterMap_append];congr 1;simp only[Option.toList_some,List.filterMap_cons,List.filterMap_nil];by_cases e:afterL g x.item=some y
 ·rw[if_pos e,if_pos e]
 ·rw[if_neg e,if_neg e]
theorem kernK_ok{g:Gram}{st:List Look}{y:Sym}{B:Nat}(h:∀x∈st,x.set<B):∀x∈kernK g st y,OkLr g x.item∧x.set<B:=fun x hx=>by
 refine⟨?_,?_⟩
 ·have:=kern_ok (g:=g) (st:=itemsK st) (y:=y) x.item (by rw[←kernK_items];exact List.mem_map.2 ⟨x,hx,rfl⟩);exact this.1
 ·obtain⟨z,m⟩:=x;obtain⟨x2,h2,_,_⟩:=mem_kernK.1 hx;exact(h _ h2:m<B)
theorem okLr_dot{g:Gram}(hg:Valid g){x:Lr}(h:OkLr g x):x.dot≤100:=by have:=(okI hg h).2;omega
structure AfS where
 a:Option Addr
 m:Nat
 c:Nat
 B:List (Nat×Blk)
 l:List Look
theorem shE2{p:Prop} (h:p:=by
 refine WT.allocT hT Z Z Z Z Z Z (fun i9 hi9=>?_);refine zC4 ?_;refine AW.draw (ps:=[(3,10),(5,10)]) Z Z ?_;refine zC4 ?_;have haf:=lrAfter_spec F1 g hg4 hr1 zo x.item (by have:=hxo.1;omega);unfold gramCells at haf;refine WT.callV Tryz.func150 Z Z Z Z Z Z haf (fun v hv=>?_);obtain⟨z,bo,rfl,hay,han⟩:=hv;obtain⟨zt,zn⟩:=z;refine zC4 ?_;refine WT.allocT hT Z Z Z Z Z Z (fun i10 hi10=>?_);refine zC4 ?_;refine⟨zrC,?_⟩;refine zC4 ?_;have hbl:=hb.len;refine WT.split 30 Z (fun hbo=>?_) (fun hbo=>?_)
 ·have hay:=hay hbo;refine zC4 ?_;refine AW.cond Z (fun h=>?_) (fun h=>?_)
  ·have e:(⟨zt,zn⟩:Sym)=⟨yt,yn⟩:=by
    simp only[Bool.and_true,Bool.and_eq_true,beq_iff_eq] at h;obtain⟨h1,h2⟩:=h;subst h1;congr 1;omega
   rw[e] at hay;have hxd:=okLr_dot hg hxo;refine zC4 ?_;refine WT.buildT hT Z Z Z Z Z Z Z Z Z Z Z Z Z Z (fun i37 hi37=>?_);refine WT.appendT (R:=tLook) (ys:=[(⟨⟨x.item.rule,x.item.dot+1⟩,x.set⟩:Look)]) hT 3 hb Z (fun _=>rfl) Z Z Z Z Z Z Z Z Z Z Z (fun h0 s0=>news_own hT s0 0 Z Z Z Z) (Cells.single (R:=tLook) (x:=⟨⟨x.item.rule,x.item.dot+1⟩,x.set⟩) rfl) Z (by decide) zom (fun a3 c3 B3 hB3=>?_);refine zC4 ?_;refine⟨⟨a3,s.m+1,c3,B3,s.l++[⟨⟨x.item.rule,x.item.dot+1⟩,x.set⟩]⟩,sM,zow,hB3,?_,by dsimp only;omega⟩;show s.l++_=_;rw[hkt,if_pos hay,hsk]
  ·have hno:¬afterL g x.item=some ⟨yt,yn⟩:=fun e=>by
    rw[hay] at e;have e:=Option.some.inj e;simp only[Sym.mk.injEq] at e;rw[e.1,e.2] at h;simp at h
   refine zC4 ?_;refine⟨s,sM,zow,hb,?_,by omega⟩;rw[hkt,if_neg hno,List.append_nil];exact hsk
 ·have han:=han hbo;have hno:¬afterL g x.item=some ⟨yt,yn⟩:=fun e=>by rw[han] at e;cases e
  refine zC4 ?_;refine AW.cond Z (fun h=>(by cases h)) (fun _=>?_);refine zC4 ?_;refine⟨s,sM,zow,hb,?_,by omega⟩;rw[hkt,if_neg hno,List.append_nil];exact hsk):p:=h
theorem after_spec(F:Frz)(g:Gram)(hg:Valid g){im is:Nat}{a:Option Addr}{m c:Nat}{E:List Bool}{Fi:List (List Bool)}{eb ee:Ents Lr}(hM:MakerF F im g a m c E Fi is eb ee)
  {b:Option Addr} {n d:Nat} {st:List Look} (hst:Arr tLook F b n d st) (hn:n≤1000) (hok:∀x∈st,OkLr g x.item∧x.set<2 ^ (g.terms+1)) (y:Sym) :
  Abs.Spec CC 99 [.pointer (some ⟨im,0,none⟩),.slice b n d,.agg ⟨[.bool y.term,.int .i64 y.n]⟩] F [] fun F' v o=>o=[]∧∃a' n' c' z s,v=.tuple ⟨[.slice a' n' c',.bool z]⟩∧Arr tLook F' a' n' c' s∧nextK g st y=if z=true then some s else none:=by
 have hgr:=hg.range.rules;have hr:=hM.sets.rules;have hrl:=hr.len;have hsl:=hst.len;have hg4:∀r∈g.rules,r.right.length≤100:=fun r h=>by have:=(hg.right r h).2.1;omega
 obtain⟨ib,ie,ro,h1,h2,h3⟩:=hM.blk;obtain⟨yt,yn⟩:=y;refine Abs.Spec.fn (n:=56) Tryz.func99 rfl rfl fun own=>?_;refine AW.seq (AW.reg ?_);refine WT.boxT Z Z Z Z Z Z (fun i4 hi4=>?_);refine zC4 ?_;refine AW.range (S:=AfS) (fun s=>[(8,.slice s.a s.m s.c)]) (fun s=>s.B::[(i4,.cells false [.bool yt,.int .i64 yn])]::own) (fun j s G=>Bld tLook G s.a s.m s.c s.B s.l∧s.l=kernK g (st.take j) ⟨yt,yn⟩∧s.m≤j) n ⟨none,0,0,[],[]⟩
  Z Z Z Z Z Z Z Z Z zo rfl rfl (fun _=>rfl) (fun _=>rfl) sM (OwnLe.flat (List.Perm.refl _)) ⟨Bld.nil_ _ _,rfl,Nat.le_refl _⟩ ?_ ?_
 ·intro j s F1 hF1 hj hP;obtain⟨hb,hsk,hsm⟩:=hP;have hst1:=hst.mono hF1;have hr1:=hr.mono hF1;have h11:=hF1 _ _ h1;refine zC4 ?_;refine WT.idxL hT hst1 Z Z Z Z Z Z Z Z Z zo (fun x hxj b1 off ro1 cs lx hb1 hp1 hrel=>?_);obtain rfl:lx=_:=hrel;have hxo:=(hok x (gM hxj)).1;have hkt:=kernK_take (g:=g) (y:=⟨yt,yn⟩) hxj;refine zC4 ?_;exact shE2
 ·intro s F1 hF1 hP;obtain⟨hb,hsk,hsm⟩:=hP;rw[List.take_of_length_le zo] at hsk;have hbl:=hb.len;have hM1:=hM.mono hF1;refine AW.freezeAll 0 Z Z (fun F2 hF2 hB2=>?_);have hx:=hb.frozen hF2 hB2;have hM2:=hM1.mono hF2;have hkok:=kernK_ok (g:=g) (y:=⟨yt,yn⟩) (fun x hx=>(hok x hx).2);rw[←hsk] at hkok;refine zC4 ?_;refine AW.cond Z (fun h=>?_) (fun h=>?_)
  ·have h:s.m=0:=by simp at h;omega
   refine zC4 ?_;refine AW.ret ⟨_,[],⟨_,_,rfl,⟨_,_,rfl,rfl,rfl⟩,rfl⟩,zsb,rfl,none,0,0,false,[],rfl,Arr.nil_ _ _,?_⟩;unfold nextK;rw[if_pos (by rw[←hsk];exact List.length_eq_zero_iff.1 zo)];rfl
  ·have h:0<s.m:=by simp at h;omega
   refine zC4 ?_;refine WT.callF0 Tryz.func147 Z Z Z Z Z Z (closeK_spec F2 g hg hM2 hx zo hkok) (fun F3 v hF3 hv=>?_);obtain⟨a8,m8,c8,rfl,hz⟩:=hv;refine zC4 ?_;refine AW.ret ⟨_,[],⟨_,_,rfl,⟨_,_,rfl,rfl,rfl⟩,rfl⟩,zsb,rfl,a8,m8,c8,true,_,rfl,hz,?_⟩;unfold nextK;rw[if_neg (by rw[←hsk];intro e;rw[e] at hbl;simp at hbl;omega),hsk];rfl
theorem startK_spec(F:Frz)(g:Gram)(hg:Valid g){im is:Nat}{a:Option Addr}{m c:Nat}{E:List Bool}{Fi:List (List Bool)}{eb ee:Ents Lr}(hM:MakerF F im g a m c E Fi is eb ee) :
  Abs.Spec CC 97 [.pointer (some ⟨im,0,none⟩)] F [] fun F' v o=>o=[]∧∃a' n' c',v=.slice a' n' c'∧Arr tLook F' a' n' c' (firstK g):=by
 have hgr:=hg.range.rules;have hgt:=hg.range.terms;have hr:=hM.sets.rules;have hrl:=hr.len;obtain⟨ib,ie,ro,h1,h2,h3⟩:=hM.blk;have hp2:2 ^ g.terms≤256:=Nat.le_trans (Nat.pow_le_pow_right (by decide) hgt.2) (by decide);refine Abs.Spec.fn (n:=20) Tryz.func97 rfl rfl fun own=>?_;refine zC4 ?_;refine WT.shl32 (x:=1) (y:=g.terms) Z Z Z Z Z Z zo zo ?_;refine zC4 ?_;refine WT.buildT hT Z Z Z Z Z Z Z Z Z Z Z Z Z Z (fun i37 hi37=>?_);refine WT.freezeAll 0 Z Z (fun F2 hF2 hB2=>?_)
 have hb:Bld tLook F (some ⟨i37,0,none⟩) 1 3 [(i37,.cells false (lkV ⟨⟨g.rules.length,0⟩,2 ^ g.terms⟩))] [⟨⟨g.rules.length,0⟩,2 ^ g.terms⟩]:=⟨rfl,.inr ⟨i37,_,rfl,rfl,rfl,Cells.single (R:=tLook) (x:=⟨⟨g.rules.length,0⟩,2 ^ g.terms⟩) rfl,by decide⟩⟩;have hx:=hb.frozen hF2 (by rw[Nat.one_mul,hrl] at hB2;exact hB2);refine WT.callF0 Tryz.func147 Z Z Z Z Z Z (closeK_spec F2 g hg (hM.mono hF2) hx zo (fun x hx=>?_)) (fun F3 v hF3 hv=>?_)
 ·rw[List.mem_singleton.1 hx];exact⟨start_ok _ (List.mem_singleton_self _),Nat.pow_lt_pow_right (by decide) (Nat.lt_succ_self _)⟩
 obtain⟨a8,m8,c8,rfl,hz⟩:=hv;refine zC4 ?_;exact AW.ret ⟨_,[],⟨_,_,rfl,rfl,rfl⟩,zsb,rfl,a8,m8,c8,rfl,hz⟩
def lkRow(l:List Look):List Value:=(l.map lkV).flatten
theorem lkRow_len(l:List Look):(lkRow l).length=l.length*3:=by
 unfold lkRow
 induction l with
 | nil=>rfl
 | cons x l ih=>simp only[List.map_cons,List.flatten_cons,List.length_append,List.length_cons,ih];show 3+_=_;omega
theorem lkRow_at:∀{l:List Look} {j:Nat} {x:Look},l[j]?=some x→(lkRow l)[0+j*3+2]?=some (.int .u32 (x.set:Nat))∧∀v:Nat,(lkRow l).set (0+j*3+2) (.int .u32 (v:Nat))=lkRow (l.set j ⟨x.item,v⟩)
 | [],_,_,h=>by simp at h
 | y::l,0,x,h=>by
  simp only[List.getElem?_cons_zero,Option.some.injEq] at h;subst h;exact⟨rfl,fun v=>rfl⟩
 | y::l,j+1,x,h=>by
  obtain⟨h1,h2⟩:=@lkRow_at l j x (by simpa using h);have e:lkRow (y::l)=.int .i64 y.item.rule::.int .i64 y.item.dot::.int .u32 (y.set:Nat)::lkRow l:=rfl;rw[show 0+(j+1)*3+2=(0+j*3+2)+1+1+1 by omega,e];refine⟨h1,fun v=>?_⟩;have:=h2 v;rw[List.set_cons_succ,List.set_cons_succ,List.set_cons_succ,this];rfl
theorem lkRow_cells{F:Frz}:∀l:List Look,Cells tLook F (lkRow l) l
 | []=>.nil
 | x::l=>.cons (R:=tLook) (rfl:tLook.rel F (lkV x) x) (lkRow_cells l)
structure LT(vs:List Value)(bs:List (Nat×Blk))(L:List (List Look)):Prop where
 vlen:vs.length=L.length
 blen:bs.length=L.length
 at_:∀k l,L[k]?=some l→∃id,vs[0+k*1]?=some (.slice (some ⟨id,0,none⟩) l.length 3)∧bs[k]?=some (id,.cells false (lkRow l))
theorem LT.set{vs:List Value}{bs:List (Nat×Blk)}{L:List (List Look)}(h:LT vs bs L){k id:Nat}{l l':List Look}(hk:L[k]?=some l)(hl:l'.length=l.length)(hb:bs[k]?=some (id,.cells false (lkRow l))):LT vs (bs.set k (id,.cells false (lkRow l'))) (L.set k l'):=by
 have hlt:=(gS hk).1;refine⟨by rw[List.length_set];exact h.vlen,by rw[List.length_set,List.length_set];exact h.blen,fun j x hj=>?_⟩;by_cases e:j=k
 ·subst e;rw[List.getElem?_set_self hlt] at hj;obtain rfl:=Option.some.inj hj;obtain⟨id2,h1,h2⟩:=h.at_ _ _ hk;rw[hb] at h2;simp only[Option.some.injEq,Prod.mk.injEq] at h2;rw[←h2.1] at h1;exact⟨id,by rw[h1,hl],List.getElem?_set_self (by rw[h.blen];exact hlt)⟩
 ·rw[List.getElem?_set_ne (fun e2=>e e2.symm)] at hj;obtain⟨id2,h1,h2⟩:=h.at_ _ _ hj;exact⟨id2,h1,by rw[List.getElem?_set_ne (fun e2=>e e2.symm)];exact h2⟩
structure MgS where
 cur:List Look
 ch:Bool
theorem merge_spec(F:Frz){i5 io n:Nat}{vs:List Value}{bs:List (Nat×Blk)}{L:List (List Look)}(hL:LT vs bs L)(hnL:n=L.length){i:Nat}{row:List Look}(hi:L[i]?=some row)
  {b:Option Addr} {bn bd:Nat} {l:List Look} (hl:Arr tLook F b bn bd l) (hbn:bn≤1000) (hll:l.length≤row.length) (h1:∀x∈row,x.set<512) (h2:∀x∈l,x.set<512) :
  Abs.Spec CC 154 [.int .i64 i,.slice b bn bd,.pointer (some ⟨i5,0,none⟩)] F [(i5,.cells false [.slice (some ⟨io,0,none⟩) n 1])::(io,.cells false vs)::bs] fun _ v o=>∃B',o=[B']∧(∃bs',B'=(i5,.cells false [.slice (some ⟨io,0,none⟩) n 1])::(io,.cells false vs)::bs'∧LT vs bs' (L.set i (mergeL row l)))∧v=.bool (decide (mergeL row l≠row)):=by
 have hlt:=(gS hi).1;have hlen:=hl.len;obtain⟨id,hvs,hbs⟩:=hL.at_ i row hi;have hbl:=(gS hbs).1;have hset0:bs.set i (id,.cells false (lkRow row))=bs:=by
  apply List.ext_getElem?;intro k;by_cases e:k=i
  ·subst e;rw[List.getElem?_set_self hbl,hbs]
  ·rw[List.getElem?_set_ne (fun e2=>e e2.symm)]
 refine Abs.Spec.fn (n:=43) Tryz.func154 rfl rfl fun own=>?_;refine zC4 ?_;refine AW.range (S:=MgS) (fun s=>[(6,.bool s.ch)]) (fun s=>((i5,.cells false [.slice (some ⟨io,0,none⟩) n 1])::(io,.cells false vs)::bs.set i (id,.cells false (lkRow s.cur)))::own) (fun j s G=>s.cur=mergeL row (l.take j)∧s.ch=decide (s.cur≠row)) bn ⟨row,false⟩
  Z Z Z Z Z Z Z Z Z zo rfl rfl (fun _=>rfl) (fun _=>rfl) sM (OwnLe.flat (by dsimp only;rw[hset0];exact List.Perm.refl _)) ⟨by rw[List.take_zero,mergeL_nil],by simp⟩ ?_ ?_
 ·intro j s F1 hF1 hj hP;obtain⟨hcur,hch⟩:=hP;have hl1:=hl.mono hF1;obtain⟨r,hr⟩:∃r,row[j]?=some r:=⟨_,gE zo⟩;refine zC4 ?_;refine WT.idxL hT hl1 Z Z Z Z Z Z Z Z Z zo (fun x hxj b1 off1 ro1 cs1 lx1 hb1 hp1 hrel1=>?_);obtain rfl:lx1=_:=hrel1;obtain⟨hst,hgt⟩:=mergeL_step hr hxj;rw[←hcur] at hst hgt;obtain⟨hc1,hc2⟩:=lkRow_at hgt;have hcl:(lkRow s.cur).length=s.cur.length*3:=lkRow_len _;have hcl2:s.cur.length=row.length:=by rw[hcur];exact mergeL_len _ _
  have hrs:=h1 r (gM hr);have hxs:=h2 x (gM hxj);have hbs2:(bs.set i (id,Blk.cells false (lkRow s.cur)))[i]?=some (id,.cells false (lkRow s.cur)):=List.getElem?_set_self hbl;refine zC4 ?_;refine WT.allocT hT Z Z Z Z Z Z (fun i8 hi8=>?_);refine zC4 ?_;refine WT.idxA (j:=i) (s:=1) hT Z Z Z Z Z Z Z Z Z zo ?_;refine WT.loadAt hT 1 Z Z Z Z Z Z (List.mem_cons_of_mem _ me) Z Z hvs ?_;refine zC4 ?_;refine WT.idxA (j:=j) (s:=3) hT Z Z Z Z Z Z Z Z Z zo ?_;refine zC4 ?_;refine WT.loadAt hT 1 Z Z Z Z Z Z (gM (i:=i+2) hbs2) Z Z hc1 ?_;refine WT.andNot32 (x:=x.set) (y:=r.set) Z Z Z Z Z Z zo zo ?_
  refine zC4 ?_;refine AW.cond Z (fun hc=>?_) (fun hc=>?_)
  ·have hc:andNot x.set r.set≠0:=by simpa using hc
   have hgt2:=or_gt hc zo zo;refine zC4 ?_;refine WT.idxA (j:=i) (s:=1) hT Z Z Z Z Z Z Z Z Z zo ?_;refine WT.loadAt hT 1 Z Z Z Z Z Z (List.mem_cons_of_mem _ me) Z Z hvs ?_;refine zC4 ?_;refine WT.idxA (j:=j) (s:=3) hT Z Z Z Z Z Z Z Z Z zo ?_;refine zC4 ?_;refine WT.loadAt hT 1 Z Z Z Z Z Z (gM (i:=i+2) hbs2) Z Z hc1 ?_;refine zC4 ?_;refine WT.or32 (x:=r.set) (y:=x.set) Z Z Z Z Z Z zo zo ?_;refine WT.idxA (j:=j) (s:=3) hT Z Z Z Z Z Z Z Z Z zo ?_;refine zC4 ?_;refine WT.storeAt hT 1 (i+2) Z Z Z Z Z Z hbs2 Z Z Z zo Z Z ?_;refine zC4 ?_
   refine⟨⟨mergeL row (l.take (j+1)),true⟩,sM,OwnLe.skip _ (OwnLe.flat ?_),rfl,?_⟩
   ·dsimp only;rw[hst,←hc2 (r.set ||| x.set)]
    show (((i5,Blk.cells false _)::(io,Blk.cells false _)::(bs.set i _).set i _)++_).Perm _;rw[List.set_set];exact List.Perm.refl _
   ·refine(decide_eq_true ?_).symm;dsimp only;rw[hst];intro e;have e2:(s.cur.set j ⟨r.item,r.set ||| x.set⟩)[j]?=row[j]?:=by rw[e]
    rw[List.getElem?_set_self zo,hr] at e2;have e3:=congrArg Look.set (Option.some.inj e2);dsimp only at e3;omega
  ·have hc:andNot x.set r.set=0:=by simpa using hc
   have hsame:mergeL row (l.take (j+1))=s.cur:=by
    have e:r.set ||| x.set=r.set:=by
     apply Nat.eq_of_testBit_eq;intro k;rw[Nat.testBit_or];cases hx:x.set.testBit k with
     | false=>rw[Bool.or_false]
     | true=>rw[(andNot_zero zo zo).1 hc k hx];rfl
    rw[hst,e];apply List.ext_getElem?;intro k;by_cases e2:k=j
    ·subst e2;rw[List.getElem?_set_self zo,hgt]
    ·rw[List.getElem?_set_ne (fun e3=>e2 e3.symm)]
   refine zC4 ?_;exact⟨s,sM,zow,hsame.symm,hch⟩
 ·intro s F1 hF1 hP;obtain⟨hcur,hch⟩:=hP;rw[List.take_of_length_le zo] at hcur;refine zC4 ?_;refine AW.ret ⟨_,[_],⟨_,_,rfl,rfl,rfl⟩,List.Sublist.refl _,_,rfl,⟨_,rfl,?_⟩,?_⟩
  ·rw[hcur];exact hL.set hi (mergeL_len _ _) hbs
  ·rw[hch,hcur];rfl
def padF(n:Nat)(ys:List Bool):List Bool:=ys++List.replicate (n-ys.length) false
theorem padF_len{n:Nat}{ys:List Bool}(h:ys.length≤n):(padF n ys).length=n:=by unfold padF;simp;omega
theorem padF_get{n:Nat}{ys:List Bool}{t:Nat}:(padF n ys).getD t false=ys.getD t false:=by
 unfold padF;rw[List.getD_eq_getElem?_getD,List.getD_eq_getElem?_getD,List.getElem?_append];split
 ·rfl
 ·rename_i h;rw[List.getElem?_eq_none (l:=ys) zo,List.getElem?_replicate];split<;>rfl
theorem orTo_pad{xs ys:List Bool}(h:ys.length≤xs.length):orTo ys.length xs (padF xs.length ys)=orRow xs (padF xs.length ys):=by
 rw[←orTo_all (padF_len h).symm];have:∀k,ys.length+k≤xs.length→orTo (ys.length+k) xs (padF xs.length ys)=orTo ys.length xs (padF xs.length ys):=by
  intro k
  induction k with
  | zero=>intro _;rfl
  | succ k ih=>
   intro hk;have hx:=gE (show ys.length+k<xs.length by omega);have hy:(padF xs.length ys)[ys.length+k]?=some false:=by
    unfold padF;rw[List.getElem?_append_right zo,List.getElem?_replicate,if_pos zo]
   rw[show ys.length+(k+1)=ys.length+k+1 by omega,orTo_succ (padF_len h).symm hx hy,ih zo,Bool.or_false];rw[←ih zo];apply List.ext_getElem?;intro i;by_cases hi:i=ys.length+k
   ·subst hi;rw[List.getElem?_set_self (by rw[orTo_len (padF_len h).symm];omega),orTo_at (padF_len h).symm hx]
   ·rw[List.getElem?_set_ne zo]
 have:=this (xs.length-ys.length) zo;rw[show ys.length+(xs.length-ys.length)=xs.length by omega] at this;exact this.symm
theorem union2_spec(F:Frz){it:Nat}{xs ys:List Bool}{b:Option Addr}{m n c d:Nat}(hm:m=xs.length)(hy:Arr tBool F b n d ys)(hlen:ys.length≤xs.length)(hn:n≤1000000) :
  Abs.Spec CC 134 [.slice (some ⟨it,0,none⟩) m c,.slice b n d] F [[(it,.cells false (xs.map cBool.cell))]] fun _ v o=>∃B',o=[B']∧B'=[(it,.cells false ((orRow xs (padF xs.length ys)).map cBool.cell))]∧v=.bool (decide (orRow xs (padF xs.length ys)≠xs)):=by
 have hylen:=hy.len;have hpl:=(padF_len hlen).symm;have hopad:=orTo_pad hlen;have hpat:∀(j:Nat) (y:Bool),ys[j]?=some y→(padF xs.length ys)[j]?=some y:=fun j y h=>by
  unfold padF;rw[List.getElem?_append_left (gS h).1];exact h
 generalize padF xs.length ys=zs at hpl hopad hpat;refine Abs.Spec.fn (n:=28) Tryz.func134 rfl rfl fun own=>?_;refine zC4 ?_;refine AW.range (S:=US) (fun s=>[(5,.bool s.ch)]) (fun s=>[(it,.cells false (s.cur.map cBool.cell))]::own) (fun j s G=>s.cur=orTo j xs zs∧s.ch=decide (s.cur≠xs)) n ⟨xs,false⟩ Z Z Z Z Z Z Z Z Z zo Z Z (fun _=>rfl) (fun _=>rfl) sM oR ⟨(orTo_zero xs zs).symm,by simp⟩ ?_ ?_
 ·intro j s F1 hF1 hj hP;obtain⟨hcur,hch⟩:=hP;have hy1:=hy.mono hF1;obtain⟨x,hx⟩:∃x,xs[j]?=some x:=⟨_,gE zo⟩;have hcl:s.cur.length=xs.length:=by rw[hcur];exact orTo_len hpl
  have hcx:(s.cur.map cBool.cell)[0+j*1]?=some (.bool x):=by rw[Nat.zero_add,Nat.mul_one,List.getElem?_map,hcur,orTo_at hpl hx];rfl
  refine zC4 ?_;refine WT.idxL hT hy1 Z Z Z Z Z Z Z Z Z zo (fun y hyj b1 off ro cs lx hb hp hrel=>?_);obtain rfl:lx=_:=hrel;have hnext:=orTo_succ hpl hx (hpat j y hyj);rw[←hcur] at hnext;have same:(x||y)=x→s.cur.set j (x||y)=s.cur:=by
   intro e;rw[e];apply List.ext_getElem?;intro i;by_cases hi:i=j
   ·subst hi;rw[List.getElem?_set_self zo,hcur,orTo_at hpl hx]
   ·rw[List.getElem?_set_ne zo]
  refine zC4 ?_;refine WT.split 16 Z (fun h=>?_) (fun h=>?_)
  ·refine zC4 ?_;refine WT.idxA (j:=j) (s:=1) hT Z Z Z Z Z Z Z Z Z zo ?_;refine WT.loadAt hT 0 Z Z Z Z Z Z me Z Z hcx ?_;refine zC4 ?_;refine AW.cond Z (fun h2=>?_) (fun h2=>?_)
   ·have h2:x=false:=by simpa using h2
    refine zC4 ?_;refine WT.idxA (j:=j) (s:=1) hT Z Z Z Z Z Z Z Z Z zo ?_;refine WT.storeAt hT 0 0 Z Z Z Z Z Z Z Z Z Z (by simp;omega) Z Z ?_;refine zC4 ?_;refine⟨⟨s.cur.set j true,true⟩,sM,OwnLe.flat ?_,?_,?_⟩
    ·dsimp only;rw[List.map_set,Nat.zero_add,Nat.mul_one];exact List.Perm.refl _
    ·rw[hnext,h,h2];rfl
    ·have:s.cur.set j true≠xs:=by
      intro e;have this:(s.cur.set j true)[j]?=xs[j]?:=by rw[e]
      rw[List.getElem?_set_self zo,hx,h2] at this;cases this
     simp[this]
   ·have h2:x=true:=by simpa using h2
    refine zC4 ?_;refine⟨s,sM,zow,?_,hch⟩;rw[hnext,same (by rw[h2];rfl)]
  ·refine zC4 ?_;refine AW.cond Z (fun h2=>(by cases h2)) (fun h2=>?_);refine zC4 ?_;refine⟨s,sM,zow,?_,hch⟩;rw[hnext,same (by rw[h];simp)]
 ·intro s F1 hF1 hP;obtain⟨hcur,hch⟩:=hP;rw[show n=ys.length by omega,hopad] at hcur;refine zC4 ?_;refine AW.ret ⟨_,[_],⟨_,_,rfl,rfl,rfl⟩,List.Sublist.refl _,_,rfl,by rw[←hcur],?_⟩;rw[←hcur,←hch];rfl
theorem unionSelf_spec(F:Frz){it:Nat}{xs:List Bool}{m c d:Nat}(hm:m=xs.length)(hn:m≤1000000) :
  Abs.Spec CC 134 [.slice (some ⟨it,0,none⟩) m c,.slice (some ⟨it,0,none⟩) m d] F [[(it,.cells false (xs.map cBool.cell))]] fun _ v o=>∃B',o=[B']∧B'=[(it,.cells false (xs.map cBool.cell))]∧v=.bool false:=by
 refine Abs.Spec.fn (n:=28) Tryz.func134 rfl rfl fun own=>?_;refine zC4 ?_;refine AW.range (S:=Unit) (fun s=>[(5,.bool false)]) (fun s=>[(it,.cells false (xs.map cBool.cell))]::own) (fun j s G=>True) m () Z Z Z Z Z Z Z Z Z zo Z Z (fun _=>rfl) (fun _=>rfl) sM oR trivial ?_ ?_
 ·intro j s F1 hF1 hj hP;obtain⟨x,hx⟩:∃x,xs[j]?=some x:=⟨_,gE zo⟩;have hcx:(xs.map cBool.cell)[0+j*1]?=some (.bool x):=by rw[Nat.zero_add,Nat.mul_one,List.getElem?_map,hx];rfl
  refine zC4 ?_;refine WT.idxA (j:=j) (s:=1) hT Z Z Z Z Z Z Z Z Z zo ?_;refine WT.loadAt hT 0 Z Z Z Z Z Z me Z Z hcx ?_;refine zC4 ?_;refine WT.split 16 Z (fun h=>?_) (fun h=>?_)
  ·refine zC4 ?_;refine WT.idxA (j:=j) (s:=1) hT Z Z Z Z Z Z Z Z Z zo ?_;refine WT.loadAt hT 0 Z Z Z Z Z Z me Z Z hcx ?_;refine zC4 ?_;refine AW.cond Z (fun h2=>?_) (fun h2=>?_)
   ·have h2:x=false:=by simpa using h2
    rw[h2] at h;cases h
   ·refine zC4 ?_;exact⟨(),sM,zow,trivial⟩
  ·refine zC4 ?_;refine AW.cond Z (fun h2=>(by cases h2)) (fun h2=>?_);refine zC4 ?_;exact⟨(),sM,zow,trivial⟩
 ·intro s F1 hF1 hP;refine zC4 ?_;exact AW.ret ⟨_,[_],⟨_,_,rfl,rfl,rfl⟩,List.Sublist.refl _,_,rfl,rfl,rfl⟩
theorem reachedUse_spec(F:Frz)(x:Nat)(s:Value)(hs:∃a m c,s=.slice a m c) :
  Abs.Spec CC 218 [.agg ⟨[.int .i64 x,s]⟩] F [] fun _ v o=>o=[]∧v=.bool true:=by
 obtain⟨a,m,c,rfl⟩:=hs;refine Abs.Spec.fn (n:=3) Tryz.func218 rfl rfl fun own=>?_;refine AW.seq (AW.reg ?_);refine WT.boxT Z Z Z Z Z Z (fun i3 hi3=>?_);refine zC4 ?_;exact AW.ret ⟨_,[],⟨_,_,rfl,rfl,rfl⟩,zsb,rfl,rfl⟩
structure RcS where
 O:List Bool
 again:Bool
def ClosR(O:List Bool)(r:Rule):Prop:=O.getD r.left false=true→∀s∈r.right,s.term=false→O.getD s.n false=true
structure ReachF(g:Gram)(O:List Bool):Prop where
 len:O.length=g.nons
 at_:∀n,O.getD n false=true↔Rch g n
theorem set_true{l:List Bool}{n:Nat}(h:n<l.length):(l.set n true).getD n false=true:=by rw[List.getD_eq_getElem?_getD,List.getElem?_set_self h];rfl
theorem set_keep{l:List Bool}{n t:Nat}(h:l.getD t false=true):(l.set n true).getD t false=true:=by
 rw[List.getD_eq_getElem?_getD] at h ⊢;rw[List.getElem?_set];split
 ·split
  ·rfl
  ·rename_i h1 h2;subst h1;rw[List.getElem?_eq_none zo] at h;exact h
 ·exact h
theorem reached_spec(F:Frz)(g:Gram)(hg:Valid g){a:Option Addr}{m c:Nat}(hr:Arr tRule F a m c g.rules) :
  Abs.Spec CC 217 [.agg ⟨gramCells g a m c⟩,.func (.func 218) ⟨[]⟩ ⟨[]⟩] F [] fun F' v o=>o=[]∧∃a' c' O,v=.slice a' g.nons c'∧Arr tBool F' a' g.nons c' O∧ReachF g O:=by
 unfold gramCells;have hrlen:=hr.len;have hgr:=hg.range.rules;have hgn:=hg.range.nons;have hgs:=hg.range.start;refine Abs.Spec.fn (n:=63) Tryz.func217 rfl rfl fun own=>?_;refine AW.seq (AW.reg ?_);refine WT.boxT Z Z Z Z Z Z (fun i2 hi2=>?_);refine zC4 ?_;refine WT.makeT (l:=g.nons) hT Z Z Z Z Z Z Z Z Z Z Z Z zom (fun ie hie=>?_);rw[cap_eq];refine zC4 ?_;have hgst:g.start<g.nons:=hgs;refine WT.idxA (j:=g.start) (s:=1) hT Z Z Z Z Z Z Z Z Z hgst ?_;refine WT.storeAt hT 0 0 Z Z Z Z Z Z Z Z Z Z (by simp;omega) Z Z ?_;refine zC4 ?_;refine AW.block ?_
 refine AW.loopR (S:=RcS) (fun t=>[(6,.bool t.again)]) (fun t=>[(ie,.cells false (t.O.map cBool.cell))]::[(i2,.cells false [.int .i64 g.terms,.int .i64 g.nons,.int .i64 g.start,.slice a m c])]::own)
  (fun t G=>t.O.length=g.nons∧(∀n,t.O.getD n false=true→Rch g n)∧t.O.getD g.start false=true∧(t.again=false→∀r∈g.rules,ClosR t.O r)) (fun t=>if t.again=true then 1+(g.nons-ones t.O) else 0) ⟨(List.replicate g.nons false).set g.start true,true⟩
  sM (OwnLe.flat ?_) ⟨by simp,fun n hn=>?_,set_true (by simp;exact hgst),fun h=>(by cases h)⟩ ?_
 ·dsimp only;rw[List.map_set,List.map_replicate,Nat.zero_add,Nat.mul_one];exact List.Perm.refl _
 ·rcases set_get hn with rfl | h3
  ·exact .start
  ·exact absurd h3 zeros_get
 intro t F2 hF2 hP;obtain⟨hl,hsnd,hst,hcl⟩:=hP;have hr2:=hr.mono hF2;refine zC4 ?_;refine AW.cond Z (fun h=>?_) (fun h=>?_)
 ·refine zC4 ?_;refine AW.block ?_;refine zC4 ?_;refine AW.range (S:=RcS) (fun t=>[(6,.bool t.again)]) (fun t=>[(ie,.cells false (t.O.map cBool.cell))]::[(i2,.cells false [.int .i64 g.terms,.int .i64 g.nons,.int .i64 g.start,.slice a m c])]::own)
   (fun k u G=>u.O.length=g.nons∧(∀n,u.O.getD n false=true→Rch g n)∧u.O.getD g.start false=true∧(u.again=true→ones t.O<ones u.O)∧(u.again=false→u.O=t.O∧∀r∈g.rules.take k,ClosR t.O r)) m ⟨t.O,false⟩
   Z Z Z Z Z Z Z Z Z zo rfl rfl (fun _=>rfl) (fun _=>rfl) sM oR ⟨hl,hsnd,hst,fun h=>(by cases h),fun _=>⟨rfl,by simp⟩⟩ ?_ ?_
  ·intro k u F3 hF3 hk hP;obtain⟨hl,hsnd,hst,hT2,hC⟩:=hP;have hr3:=hr2.mono hF3;refine zC4 ?_;refine WT.idxL hT hr3 Z Z Z Z Z Z Z Z Z zo (fun r hrk b1 off ro cs lx hb hp1 hrel=>?_);obtain⟨b2,n2,d2,rfl,hr4⟩:=hrel;obtain⟨hrl,hrr,hrs⟩:=hg.right r (gM hrk);have hr4l:=hr4.len;have htk:g.rules.take (k+1)=g.rules.take k++[r]:=by rw[List.take_add_one,hrk];rfl
   obtain⟨e0,he0⟩:∃e0,u.O[r.left]?=some e0:=⟨_,gE (by rw[hl];exact hrl)⟩;have hgE:u.O.getD r.left false=e0:=by rw[List.getD_eq_getElem?_getD,he0];rfl
   have hE0c:(u.O.map cBool.cell)[0+r.left*1]?=some (.bool e0):=by rw[Nat.zero_add,Nat.mul_one,List.getElem?_map,he0];rfl
   refine zC4 ?_;refine WT.allocT hT Z Z Z Z Z Z (fun i6 hi6=>?_);refine zC4 ?_;refine WT.idxA (j:=r.left) (s:=1) hT Z Z Z Z Z Z Z Z Z hrl ?_;refine WT.loadAt hT 1 Z Z Z Z Z Z me Z Z hE0c ?_;refine zC4 ?_;refine WT.split 32 Z (fun h3=>?_) (fun h3=>?_)
   ·have h3:e0=false:=by simpa using h3
    refine zC4 ?_;refine AW.cond Z (fun _=>?_) (fun h=>(by cases h));refine AW.exit ?_;refine⟨u,sM,zow,hl,hsnd,hst,hT2,fun hag=>?_⟩;obtain⟨q1,q2⟩:=hC hag;refine⟨q1,fun r' hr'=>?_⟩;rw[htk] at hr';rcases List.mem_append.1 hr' with h4 | h4
    ·exact q2 r' h4
    ·rw[List.mem_singleton.1 h4];intro h5;rw[←q1,hgE,h3] at h5;cases h5
   ·have h3:e0=true:=by simpa using h3
    refine zC4 ?_;refine WT.callC (first:=[]) (args:=[.agg ⟨[.int .i64 r.left,.slice b2 n2 d2]⟩]) (capt:=[]) Tryz.func218 Z Z Z Z Z Z Z Z (reachedUse_spec F3 r.left _ ⟨_,_,_,rfl⟩) (fun v hv=>?_)
    subst hv;refine zC4 ?_;refine AW.cond Z (fun h=>(by cases h)) (fun _=>?_);refine zC4 ?_;refine AW.range (S:=RcS) (fun t=>[(6,.bool t.again)]) (fun t=>[(i6,.cells false [.int .i64 r.left,.slice b2 n2 d2])]::[(ie,.cells false (t.O.map cBool.cell))]::[(i2,.cells false [.int .i64 g.terms,.int .i64 g.nons,.int .i64 g.start,.slice a m c])]::own)
     (fun i v G=>v.O.length=g.nons∧(∀n,v.O.getD n false=true→Rch g n)∧v.O.getD g.start false=true∧(v.again=true→ones t.O<ones v.O)∧(v.again=false→u.again=false∧v.O=u.O∧∀s∈r.right.take i,s.term=false→u.O.getD s.n false=true)) n2 u
     Z Z Z Z Z Z Z Z Z zo rfl rfl (fun _=>rfl) (fun _=>rfl) sM oR ⟨hl,hsnd,hst,hT2,fun h=>⟨h,rfl,by simp⟩⟩ ?_ ?_
    ·intro i v F4 hF4 hi hP;obtain⟨hvl,hvsnd,hvst,hvT,hvC⟩:=hP;have hr5:=hr4.mono hF4;refine zC4 ?_;refine WT.idxL hT hr5 Z Z Z Z Z Z Z Z Z zo (fun y hyi b5 off5 ro5 cs5 lx5 hb5 hp5 hrel5=>?_);obtain rfl:lx5=_:=hrel5;obtain⟨yt,yn⟩:=y;have hyo:=hrs _ (gM hyi);have hytk:r.right.take (i+1)=r.right.take i++[⟨yt,yn⟩]:=by rw[List.take_add_one,hyi];rfl
     refine zC4 ?_;refine WT.allocT hT Z Z Z Z Z Z (fun i8 hi8=>?_);refine zC4 ?_;refine WT.split 48 Z (fun h4=>?_) (fun h4=>?_)
     ·have h4:yt=false:=by simpa using h4
      subst h4;have hyn:yn<g.nons:=hyo;obtain⟨e1,he1⟩:∃e1,v.O[yn]?=some e1:=⟨_,gE (by rw[hvl];exact hyn)⟩;have hgE1:v.O.getD yn false=e1:=by rw[List.getD_eq_getElem?_getD,he1];rfl
      have hE1c:(v.O.map cBool.cell)[0+yn*1]?=some (.bool e1):=by rw[Nat.zero_add,Nat.mul_one,List.getElem?_map,he1];rfl
      refine zC4 ?_;refine WT.idxA (j:=yn) (s:=1) hT Z Z Z Z Z Z Z Z Z hyn ?_;refine WT.loadAt hT 2 Z Z Z Z Z Z me Z Z hE1c ?_;refine zC4 ?_;refine AW.cond Z (fun h5=>?_) (fun h5=>?_)
      ·have h5:e1=false:=by simpa using h5
       subst h5;refine zC4 ?_;refine WT.idxA (j:=yn) (s:=1) hT Z Z Z Z Z Z Z Z Z hyn ?_;refine WT.storeAt hT 2 0 Z Z Z Z Z Z Z Z Z Z (by simp;omega) Z Z ?_;refine zC4 ?_;have h1s:=ones_set he1;refine⟨⟨v.O.set yn true,true⟩,sM,?_,by simp[hvl],fun n hn=>?_,set_keep hvst,fun _=>?_,fun h=>(by cases h)⟩
       ·refine OwnLe.skip _ (OwnLe.flat ?_);dsimp only;rw[List.map_set,Nat.zero_add,Nat.mul_one];exact List.Perm.refl _
       ·rcases set_get hn with rfl | h6
        ·exact .more (gM hrk) (hsnd _ (by rw[hgE,h3])) (gM hyi)
        ·exact hvsnd n h6
       ·show ones t.O<ones (v.O.set yn true);rw[h1s];cases hva:v.again with
        | true=>have:=hvT hva;omega
        | false=>
         obtain⟨q1,q2,_⟩:=hvC hva;rw[q2,(hC q1).1];omega
      ·have h5:e1=true:=by simpa using h5
       refine zC4 ?_;refine⟨v,sM,zow,hvl,hvsnd,hvst,hvT,fun hag=>?_⟩;obtain⟨q1,q2,q3⟩:=hvC hag;refine⟨q1,q2,fun s hs hs2=>?_⟩;rw[hytk] at hs;rcases List.mem_append.1 hs with h6 | h6
       ·exact q3 s h6 hs2
       ·rw[List.mem_singleton.1 h6,←q2,hgE1,h5]
     ·have h4:yt=true:=by simpa using h4
      refine zC4 ?_;refine AW.cond Z (fun h=>(by cases h)) (fun _=>?_);refine zC4 ?_;refine⟨v,sM,zow,hvl,hvsnd,hvst,hvT,fun hag=>?_⟩;obtain⟨q1,q2,q3⟩:=hvC hag;refine⟨q1,q2,fun s hs hs2=>?_⟩;rw[hytk] at hs;rcases List.mem_append.1 hs with h6 | h6
      ·exact q3 s h6 hs2
      ·rw[List.mem_singleton.1 h6,h4] at hs2;cases hs2
    ·intro v F4 hF4 hP;obtain⟨hvl,hvsnd,hvst,hvT,hvC⟩:=hP;rw[List.take_of_length_le zo] at hvC;refine⟨v,sM,zow,hvl,hvsnd,hvst,hvT,fun hag=>?_⟩;obtain⟨q1,q2,q3⟩:=hvC hag;obtain⟨q4,q5⟩:=hC q1;refine⟨by rw[q2,q4],fun r' hr'=>?_⟩;rw[htk] at hr';rcases List.mem_append.1 hr' with h6 | h6
     ·exact q5 r' h6
     ·rw[List.mem_singleton.1 h6];intro _ s hs hs2;rw[←q4];exact q3 s hs hs2
  ·intro u F3 hF3 hP;obtain⟨hul,husnd,hust,hT2,hC⟩:=hP;rw[List.take_of_length_le zo] at hC;refine⟨u,?_,sM,zow,hul,husnd,hust,fun hag=>?_⟩
   ·have h1:=ones_le u.O;have h2:=ones_le t.O;rw[h,if_pos rfl];split
    ·rename_i h4;have:=hT2 h4;omega
    ·omega
   ·obtain⟨q1,q2⟩:=hC hag;rw[q1];exact q2
 ·refine AW.exit ?_;refine AW.freezeAll 0 Z Z (fun F3 hF3 hB3=>?_);refine zC4 ?_;have hEa:=arr_of_cells (K:=cBool) (R:=tBool) (F:=F3) (id:=ie) (row:=t.O) (c:=if t.O.length=0 then 0 else 1) (ro:=false) rfl (fun _ _=>rfl) rfl (hB3 ie _ (by simp));rw[hl] at hEa;refine AW.ret ⟨_,[],⟨_,_,rfl,rfl,rfl⟩,zsb,rfl,_,_,t.O,rfl,hEa,hl,fun n=>⟨hsnd n,fun hn=>?_⟩⟩
  induction hn with
  | start=>exact hst
  | more h4 _ h6 ih=>exact hcl h _ h4 ih _ h6 rfl
theorem reachedAll_spec(F:Frz)(g:Gram)(hg:Valid g){a:Option Addr}{m c:Nat}(hr:Arr tRule F a m c g.rules) :
  Abs.Spec CC 182 [.agg ⟨gramCells g a m c⟩] F [] fun F' v o=>o=[]∧∃a' c' O,v=.tuple ⟨[.slice a' g.nons c',.int .i64 0]⟩∧Arr tBool F' a' g.nons c' O∧ReachF g O:=by
 unfold gramCells;refine Abs.Spec.fn (n:=12) Tryz.func182 rfl rfl fun own=>?_;refine AW.seq (AW.reg ?_);refine WT.boxT Z Z Z Z Z Z (fun i1 hi1=>?_);refine zC4 ?_;have hck:=check_spec F g hg.range hr;unfold gramCells at hck;refine WT.callV Tryz.func85 Z Z Z Z Z Z hck (fun v hv=>?_);rw[hg.no_err] at hv;subst hv;refine zC4 ?_;refine AW.cond Z (fun h=>(by simp at h)) (fun _=>?_);refine zC4 ?_;have hre:=reached_spec F g hg hr;unfold gramCells at hre;refine WT.callF0 Tryz.func217 Z Z Z Z Z Z hre (fun F3 v hF3 hv=>?_);obtain⟨a8,c8,O,rfl,hO,hR⟩:=hv;refine zC4 ?_
 exact AW.ret ⟨_,[],⟨_,_,rfl,⟨_,_,rfl,rfl,rfl⟩,rfl⟩,zsb,rfl,a8,c8,O,rfl,hO,hR⟩
structure FwI(g:Gram)(Fo:List (List Bool)):Prop where
 tab:TabOk g.nons (g.terms+1) Fo
 snd:∀n t,(Fo.getD n []).getD t false=true→Fol g n t
 start:(Fo.getD g.start []).getD g.terms false=true
def SymCl(g:Gram)(Fo:List (List Bool))(r:Rule)(i:Nat):Prop:=∀n,r.right[i]?=some ⟨false,n⟩→(∀t,BegL g (r.right.drop (i+1)) t→(Fo.getD n []).getD t false=true)∧(NulL g (r.right.drop (i+1))→∀t,(Fo.getD r.left []).getD t false=true→(Fo.getD n []).getD t false=true)
theorem getD_setN{α:Type}{l:List α}{n k:Nat}{x d:α}(hn:n<l.length):(l.set n x).getD k d=if k=n then x else l.getD k d:=by
 rw[List.getD_eq_getElem?_getD,List.getElem?_set];by_cases h:n=k
 ·subst h;rw[if_pos rfl,if_pos hn,if_pos rfl];rfl
 ·rw[if_neg h,if_neg (fun e=>h e.symm),List.getD_eq_getElem?_getD]
theorem FwI.row{g:Gram}{Fo:List (List Bool)}(h:FwI g Fo){n:Nat}(hn:n<g.nons):(Fo.getD n []).length=g.terms+1:=by
 have:=gE (show n<Fo.length by rw[h.tab.size];exact hn);rw[List.getD_eq_getElem?_getD,this];exact h.tab.row _ (List.getElem_mem _)
theorem FwI.or{g:Gram}{Fo:List (List Bool)}(h:FwI g Fo){n:Nat}(hn:n<g.nons){zs:List Bool}(hz:zs.length=g.terms+1)(hs:∀t,zs.getD t false=true→Fol g n t):FwI g (Fo.set n (orRow (Fo.getD n []) zs)):=by
 have hl:=h.row hn;have hn2:n<Fo.length:=by rw[h.tab.size];exact hn
 refine⟨h.tab.setRow _ (by rw[orRow_len zo];exact hl),fun k t ht=>?_,?_⟩
 ·rw[getD_setN hn2] at ht;split at ht
  ·rename_i e;subst e;rcases orRow_get ht with h1 | h1
   ·exact h.snd _ _ h1
   ·exact hs t h1
  ·exact h.snd _ _ ht
 ·rw[getD_setN hn2];split
  ·rename_i e;rw[←e];exact orRow_left (by rw[h.row (by rw[e];exact hn)];exact hz.symm) (.inl h.start)
  ·exact h.start
theorem FwI.grow{g:Gram}{Fo:List (List Bool)}(h:FwI g Fo){n:Nat}(hn:n<g.nons){zs:List Bool}(hz:zs.length=g.terms+1):onesT Fo≤onesT (Fo.set n (orRow (Fo.getD n []) zs))∧(orRow (Fo.getD n []) zs≠Fo.getD n []→onesT Fo<onesT (Fo.set n (orRow (Fo.getD n []) zs))):=by
 have hl:=h.row hn;have hn2:n<Fo.length:=by rw[h.tab.size];exact hn
 have h0:Fo[n]?=some (Fo.getD n []):=by rw[List.getD_eq_getElem?_getD,gE hn2];rfl
 have h1:=onesT_set (row':=orRow (Fo.getD n []) zs) h0;have h2:=ones_or (xs:=Fo.getD n []) (ys:=zs) zo;exact⟨by have:=h2.1;omega,fun hne=>by have:=h2.2 hne;omega⟩
theorem set_getD{Fo:List (List Bool)}{n:Nat}(hn:n<Fo.length):Fo.set n (Fo.getD n [])=Fo:=by
 apply List.ext_getElem?;intro i;by_cases hi:i=n
 ·subst hi;rw[List.getElem?_set_self hn,List.getD_eq_getElem?_getD,gE hn];rfl
 ·rw[List.getElem?_set_ne zo]
theorem or_same{xs zs:List Bool}(hl:xs.length=zs.length)(h:orRow xs zs=xs){t:Nat}(ht:zs.getD t false=true):xs.getD t false=true:=by
 rw[←h];exact orRow_left hl (.inr ht)
theorem orRow_self:∀xs:List Bool,orRow xs xs=xs
 | []=>rfl
 | x::xs=>by
  have:=orRow_self xs;unfold orRow at this ⊢;rw[List.zipWith_cons_cons,this,Bool.or_self]
structure FolF(g:Gram)(Fo:List (List Bool)):Prop where
 tab:TabOk g.nons (g.terms+1) Fo
 at_:∀n t,(Fo.getD n []).getD t false=true↔Fol g n t
theorem FolF.of{g:Gram}{Fo:List (List Bool)}(h:FwI g Fo)(hc:∀r∈g.rules,Rch g r.left→∀j,SymCl g Fo r j):FolF g Fo:=by
 have hat:∀{r:Rule} {pre post:List Sym} {m:Nat},r.right=pre++⟨false,m⟩::post→r.right[pre.length]?=some ⟨false,m⟩∧r.right.drop (pre.length+1)=post:=fun {r pre post m} e=>by
  rw[e];refine⟨by rw[List.getElem?_append_right (Nat.le_refl _),Nat.sub_self];rfl,?_⟩;rw[show pre++⟨false,m⟩::post=(pre++[⟨false,m⟩])++post by simp,List.drop_left' (by simp)]
 refine⟨h.tab,fun n t=>⟨h.snd n t,fun hf=>?_⟩⟩
 induction hf with
 | start=>exact h.start
 | beg h1 h2 h3 h4=>
  obtain⟨q1,q2⟩:=hat h3;exact(hc _ h1 h2 _ _ q1).1 _ (by rw[q2];exact h4)
 | pass h1 h2 h3 h4 _ ih=>
  obtain⟨q1,q2⟩:=hat h3;exact(hc _ h1 h2 _ _ q1).2 (by rw[q2];exact h4) _ ih
structure FwS where
 Fo:List (List Bool)
 bs:List (Nat×Blk)
 again:Bool
theorem FwI.step{g:Gram}{t0 u v:FwS}{r:Rule}{i n:Nat}(hr:r∈g.rules)(hR:Rch g r.left)(hlr:r.left<g.nons)(hx:r.right[i]?=some ⟨false,n⟩)(hn:n<g.nons)(hv:FwI g v.Fo)
  (hT:v.again=true→onesT t0.Fo<onesT v.Fo) (hut:u.again=false→u.Fo=t0.Fo) (hC:v.again=false→u.again=false∧v.Fo=u.Fo∧∀j<i,SymCl g u.Fo r j)
  {row:List Bool} {emp:Bool} (hrl:row.length=g.terms) (hb:∀t,row.getD t false=true↔BegL g (r.right.drop (i+1)) t) (he:emp=true↔NulL g (r.right.drop (i+1)))
  {Fo1 Fo2:List (List Bool)} (h1:Fo1=v.Fo.set n (orRow (v.Fo.getD n []) (padF (g.terms+1) row)))
  (h2:Fo2=if emp=true then Fo1.set n (orRow (Fo1.getD n []) (Fo1.getD r.left [])) else Fo1) {ag:Bool}
  (ha1:v.again=true→ag=true) (ha2:orRow (v.Fo.getD n []) (padF (g.terms+1) row)≠v.Fo.getD n []→ag=true) (ha3:emp=true→orRow (Fo1.getD n []) (Fo1.getD r.left [])≠Fo1.getD n []→ag=true)
  (ha4:ag=true→v.again=true∨orRow (v.Fo.getD n []) (padF (g.terms+1) row)≠v.Fo.getD n []∨(emp=true∧orRow (Fo1.getD n []) (Fo1.getD r.left [])≠Fo1.getD n [])) :
  FwI g Fo2∧(ag=true→onesT t0.Fo<onesT Fo2)∧(ag=false→u.again=false∧Fo2=u.Fo∧∀j<i+1,SymCl g u.Fo r j):=by
 have hsp:r.right=r.right.take i++⟨false,n⟩::r.right.drop (i+1):=by
  have h3:=(gS hx);obtain⟨h4,h5⟩:=h3;rw[←h5,List.getElem_cons_drop h4,List.take_append_drop]
 have hpl:(padF (g.terms+1) row).length=g.terms+1:=padF_len zo;have hI1:FwI g Fo1:=by
  rw[h1];refine hv.or hn hpl fun t ht=>?_;rw[padF_get,hb] at ht;exact .beg hr hR hsp ht
 have hg1:=hv.grow hn hpl;rw[←h1] at hg1;have hz2:(Fo1.getD r.left []).length=g.terms+1:=hI1.row hlr;have hI2:FwI g Fo2:=by
  rw[h2];split
  ·rename_i hem;exact hI1.or hn hz2 fun t ht=>.pass hr hR hsp (he.1 hem) (hI1.snd _ _ ht)
  ·exact hI1
 have hg2:onesT Fo1≤onesT Fo2∧(emp=true→orRow (Fo1.getD n []) (Fo1.getD r.left [])≠Fo1.getD n []→onesT Fo1<onesT Fo2):=by
  rw[h2];split
  ·have:=hI1.grow hn hz2;exact⟨this.1,fun _=>this.2⟩
  ·rename_i hem;exact⟨Nat.le_refl _,fun h=>absurd h hem⟩
 have hn2:n<v.Fo.length:=by rw[hv.tab.size];exact hn
 refine⟨hI2,fun hag=>?_,fun hag=>?_⟩
 ·have hle:onesT t0.Fo≤onesT v.Fo:=by
   cases hva:v.again with
   | true=>exact Nat.le_of_lt (hT hva)
   | false=>
    obtain⟨q1,q2,_⟩:=hC hva;rw[q2,hut q1];exact Nat.le_refl _
  have e1:=hg1.1;have e2:=hg2.1;rcases ha4 hag with h3 | h3 | ⟨h3,h4⟩
  ·have:=hT h3;omega
  ·have:=hg1.2 h3;omega
  ·have:=hg2.2 h3 h4;omega
 ·have hva:v.again=false:=by
   cases h:v.again with
   | false=>rfl
   | true=>rw[ha1 h] at hag;cases hag
  obtain⟨q1,q2,q3⟩:=hC hva;have e1:orRow (v.Fo.getD n []) (padF (g.terms+1) row)=v.Fo.getD n []:=Classical.byContradiction fun h=>by rw[ha2 h] at hag;cases hag
  have eF1:Fo1=v.Fo:=by rw[h1,e1,set_getD hn2]
  have e2:emp=true→orRow (v.Fo.getD n []) (v.Fo.getD r.left [])=v.Fo.getD n []:=fun hem=>Classical.byContradiction fun h=>by rw[ha3 hem (by rw[eF1];exact h)] at hag;cases hag
  have eF2:Fo2=v.Fo:=by
   rw[h2];split
   ·rename_i hem;rw[eF1,e2 hem,set_getD hn2]
   ·exact eF1
  refine⟨q1,by rw[eF2,q2],fun j hj=>?_⟩;rcases Nat.lt_or_ge j i with h6 | h6
  ·exact q3 j h6
  ·obtain rfl:j=i:=by omega
   intro n' hn';rw[hx] at hn';simp only[Option.some.injEq,Sym.mk.injEq,true_and] at hn';subst hn';rw[←q2];refine⟨fun t ht=>or_same (by rw[hv.row hn,hpl]) e1 (by rw[padF_get];exact(hb t).2 ht),fun hnul t ht=>or_same (by rw[hv.row hn,hv.row hlr]) (e2 (he.2 hnul)) ht⟩
theorem FwI.skip{g:Gram}{u v:FwS}{r:Rule}{i:Nat}{y:Sym}(hx:r.right[i]?=some y)(hy:y.term=true)(hC:v.again=false→u.again=false∧v.Fo=u.Fo∧∀j<i,SymCl g u.Fo r j):v.again=false→u.again=false∧v.Fo=u.Fo∧∀j<i+1,SymCl g u.Fo r j:=fun hag=>by
 obtain⟨q1,q2,q3⟩:=hC hag;refine⟨q1,q2,fun j hj=>?_⟩;rcases Nat.lt_or_ge j i with h6 | h6
 ·exact q3 j h6
 ·obtain rfl:j=i:=by omega
  intro n' hn';rw[hx] at hn';obtain rfl:=Option.some.inj hn';cases hy
theorem uniAny_spec(G:Frz){i1 i2:Nat}{xs zs:List Bool}{m c1 c2:Nat}{B:List (Nat×Blk)}(hB:∀i b,(i,b)∈B→G i=some b)(hm:m=xs.length)(hz:zs.length=m)(hmm:m≤1000000)
  (h:(i1=i2∧zs=xs)∨(i2,Blk.cells false (zs.map cBool.cell))∈B) (hc2:c2=if zs.length=0 then 0 else 1) :
  Abs.Spec CC 134 [.slice (some ⟨i1,0,none⟩) m c1,.slice (some ⟨i2,0,none⟩) m c2] G [[(i1,.cells false (xs.map cBool.cell))]] fun _ v o=>∃D',o=[D']∧D'=[(i1,.cells false ((orRow xs zs).map cBool.cell))]∧v=.bool (decide (orRow xs zs≠xs)):=by
 rcases h with ⟨rfl,rfl⟩ | h
 ·rw[orRow_self];refine(unionSelf_spec G hm hmm).mono fun F' v o _ ⟨D',h1,h2,h3⟩=>⟨D',h1,h2,?_⟩;rw[h3];simp
 ·have ha:=arr_of_cells (K:=cBool) (R:=tBool) (F:=G) (id:=i2) (row:=zs) (c:=if zs.length=0 then 0 else 1) (ro:=false) rfl (fun _ _=>rfl) rfl (hB i2 _ h);rw[hz] at ha;rw[hc2,hz];exact union_spec G hm ha zo hmm
theorem perm_lend{α:Type}{p q z y:α}{bs X own:List α}(h:bs.Perm (y::X)):(p::q::((z::bs)++own)).Perm ((z::X)++(y::p::q::own)):=by
 classical
 rw[List.perm_iff_count] at h ⊢;intro a;have:=h a;simp only[List.count_cons,List.count_append] at this ⊢;omega
theorem follow_spec(F:Frz)(g:Gram)(hg:Valid g){is:Nat}{a:Option Addr}{m c:Nat}{E:List Bool}{Fi:List (List Bool)}(hS:SetsF F is g a m c E Fi)(hFS:FSet g E Fi) :
  Abs.Spec CC 132 [.pointer (some ⟨is,0,none⟩)] F [] fun F' v o=>o=[]∧∃a' n' c' Fo,v=.slice a' n' c'∧Arr (tList tBool) F' a' n' c' Fo∧FolF g Fo:=by
 have hr:=hS.rules;have hrlen:=hr.len;have hgr:=hg.range.rules;have hgn:=hg.range.nons;have hgt:=hg.range.terms;have hgst:g.start<g.nons:=hg.range.start;obtain⟨ie,io0,ce,co,ro,hb0,hE0,hFi0⟩:=hS.blk;refine Abs.Spec.fn (n:=118) Tryz.func132 rfl rfl fun own=>?_;refine zC4 ?_;have hre:=reachedAll_spec F g hg hr;unfold gramCells at hre;refine WT.callF0 Tryz.func182 Z Z Z Z Z Z hre (fun F0 v hF0 hv=>?_);obtain⟨a3,c3,O,rfl,hO,hOR⟩:=hv;have hb0:=hF0 _ _ hb0;refine zC4 ?_;refine AW.range (S:=FS) (fun s=>[(5,.slice s.a s.m s.c)]) (fun s=>s.B::s.bs::own)
  (fun j s G=>Bld tRaw G s.a s.m s.c s.B s.vs∧Abs.Rows cBool s.vs s.bs (List.replicate j (List.replicate (g.terms+1) false))) g.nons ⟨none,0,0,[],[],[]⟩ Z Z Z Z Z Z Z Z Z zo rfl rfl (fun _=>rfl) (fun _=>rfl) sM (OwnLe.flat (List.Perm.refl _)) ⟨Bld.nil_ _ _,Abs.Rows.nil⟩ ?_ ?_
 ·intro j s F1 hF1 hj hP;obtain⟨hb,hR⟩:=hP;have hb1:=hF1 _ _ hb0;have hblen:=hb.len;have hvl:=hR.len.1;rw[List.length_replicate] at hvl;refine zC4 ?_;refine WT.makeT (l:=g.terms+1) hT Z Z Z Z Z Z Z Z Z Z Z Z zom (fun ir hir=>?_);rw[cap_eq];refine WT.buildT hT Z Z Z Z Z Z Z Z Z Z Z Z Z Z (fun i9 hi9=>?_);refine WT.appendT (R:=tRaw) (ys:=[.slice (some ⟨ir,0,none⟩) (g.terms+1) (if g.terms+1=0 then 0 else 1)]) hT 2 hb Z (fun _=>rfl) Z Z Z Z Z Z Z Z Z Z Z (fun h0 s0=>news_own hT s0 0 Z Z Z Z) (Cells.single (R:=tRaw) ⟨rfl,rfl⟩) Z (by decide) zom (fun a3 c3 B3 hB3=>?_);refine zC4 ?_
  refine⟨⟨a3,s.m+1,c3,B3,s.vs++[.slice (some ⟨ir,0,none⟩) (g.terms+1) (if g.terms+1=0 then 0 else 1)],s.bs++[(ir,.cells false (List.replicate (g.terms+1) (.bool false)))]⟩,sM,?_,hB3,?_⟩
  ·refine OwnLe.skip _ (OwnLe.flat ?_);simp only[List.flatten_cons,List.singleton_append];have:=perm_to_end (ir,Blk.cells false (List.replicate (g.terms+1) (.bool false))) B3 s.bs own.flatten;simpa using this
  ·rw[show List.replicate (j+1) (List.replicate (g.terms+1) false)=List.replicate j (List.replicate (g.terms+1) false)++[List.replicate (g.terms+1) false] from List.replicate_succ'];have:=hR.snoc (K:=cBool) (id:=ir) (row:=List.replicate (g.terms+1) false) (c:=if g.terms+1=0 then 0 else 1) (by simp);rw[List.length_replicate,List.map_replicate] at this;exact this
 ·intro s F1 hF1 hP;obtain⟨hb,hR⟩:=hP;have hb1:=hF1 _ _ hb0;have hvl:=hR.len.1;rw[List.length_replicate] at hvl;have hr1:=(hr.mono hF0).mono hF1;have hblen:=hb.len;obtain⟨io,cs,hia,hic,hiB,hcells,_⟩:=hb.at_.resolve_left (fun h=>by rw[h.1] at hvl;simp at hvl;omega);have hcs:=cells_raw hcells;subst hcs;have hic:s.c=1:=hic;refine AW.le (own2:=((io,.cells false s.vs)::s.bs)::own) (OwnLe.flat ?_) ?_
  ·rw[hiB];exact List.Perm.refl _
  rw[hia,hic,show s.m=g.nons by omega];obtain⟨id,cc,hvs,hbs,hcc⟩:=hR.at g.start (List.replicate (g.terms+1) false) (by rw[List.getElem?_replicate,if_pos hgst]);rw[List.length_replicate] at hvs;have hvs0:s.vs[0+g.start*1]?=some (.slice (some ⟨id,0,none⟩) (g.terms+1) cc):=by rw[Nat.zero_add,Nat.mul_one];exact hvs
  have hR0:=hR.set g.start (List.replicate (g.terms+1) false) ((List.replicate (g.terms+1) false).set g.terms true) id (by rw[List.getElem?_replicate,if_pos hgst]) (by simp) hbs;refine zC4 ?_;refine WT.idxA (j:=g.start) (s:=1) hT Z Z Z Z Z Z Z Z Z hgst ?_;refine WT.loadAt hT 0 Z Z Z Z Z Z me Z Z hvs0 ?_;refine zC4 ?_;refine WT.idxA (j:=g.terms) (s:=1) hT Z Z Z Z Z Z Z Z Z zo ?_;refine WT.storeAt hT 0 (g.start+1) Z Z Z Z Z Z hbs Z Z Z (by simp) Z Z ?_;refine zC4 ?_;refine AW.block ?_;refine AW.loopR (S:=FwS) (fun t=>[(6,.bool t.again)]) (fun t=>((io,.cells false s.vs)::t.bs)::own)
   (fun t G=>Abs.Rows cBool s.vs t.bs t.Fo∧FwI g t.Fo∧(t.again=false→∀r∈g.rules,Rch g r.left→∀j,SymCl g t.Fo r j)) (fun t=>if t.again=true then 1+(g.nons*(g.terms+1)-onesT t.Fo) else 0)
   ⟨(List.replicate g.nons (List.replicate (g.terms+1) false)).set g.start ((List.replicate (g.terms+1) false).set g.terms true),s.bs.set g.start (id,.cells false (((List.replicate (g.terms+1) false).set g.terms true).map cBool.cell)),true⟩
   sM (OwnLe.flat ?_) ⟨hR0,?_,fun h=>(by cases h)⟩ ?_
  ·dsimp only;rw[List.map_set,Nat.zero_add,Nat.mul_one];exact List.Perm.refl _
  ·refine⟨⟨by simp,fun row hrow=>?_⟩,fun n t ht=>?_,?_⟩
   ·rcases List.mem_or_eq_of_mem_set hrow with h1 | h1
    ·rw[List.eq_of_mem_replicate h1];simp
    ·rw[h1];simp
   ·rw[getD_setN (by simpa using hgst)] at ht;split at ht
    ·rename_i e;subst e;rcases set_get ht with rfl | h3
     ·exact .start
     ·exact absurd h3 zeros_get
    ·exfalso;rw[List.getD_eq_getElem?_getD (l:=List.replicate g.nons _),List.getElem?_replicate] at ht;split at ht
     ·exact absurd ht zeros_get
     ·simp at ht
   ·rw[getD_setN (by simpa using hgst),if_pos rfl];exact set_true (by simp)
  intro t F2 hF2 hP;obtain⟨hR,hI,hC⟩:=hP;have hr2:=hr1.mono hF2;have hb2:=hF2 _ _ hb1;have hO2:=(hO.mono hF1).mono hF2;refine zC4 ?_;refine AW.cond Z (fun h=>?_) (fun h=>?_)
  ·refine zC4 ?_;refine AW.block ?_;refine zC4 ?_;refine AW.range (S:=FwS) (fun t=>[(6,.bool t.again)]) (fun t=>((io,.cells false s.vs)::t.bs)::own)
    (fun k u G=>Abs.Rows cBool s.vs u.bs u.Fo∧FwI g u.Fo∧(u.again=true→onesT t.Fo<onesT u.Fo)∧(u.again=false→u.Fo=t.Fo∧∀r∈g.rules.take k,Rch g r.left→∀j,SymCl g t.Fo r j)) m ⟨t.Fo,t.bs,false⟩
    Z Z Z Z Z Z Z Z Z zo rfl rfl (fun _=>rfl) (fun _=>rfl) sM oR ⟨hR,hI,fun h=>(by cases h),fun _=>⟨rfl,by simp⟩⟩ ?_ ?_
   ·intro k u F3 hF3 hk hP;obtain⟨huR,huI,huT,huC⟩:=hP;have hr3:=hr2.mono hF3;have hb3:=hF3 _ _ hb2;have hO3:=hO2.mono hF3;have hOl:=hO3.len;refine zC4 ?_;refine WT.idxL hT hr3 Z Z Z Z Z Z Z Z Z zo (fun r hrk b1 off ro1 cs lx hb1' hp1 hrel=>?_);obtain⟨b2,n2,d2,rfl,hr4⟩:=hrel;obtain⟨hrl,hrr,hrs⟩:=hg.right r (gM hrk);have hr4l:=hr4.len;have htk:g.rules.take (k+1)=g.rules.take k++[r]:=by rw[List.take_add_one,hrk];rfl
    refine zC4 ?_;refine WT.allocT hT Z Z Z Z Z Z (fun i8 hi8=>?_);refine zC4 ?_;refine WT.idxL hT hO3 Z Z Z Z Z Z Z Z Z (by have:=hOR.len;omega) (fun e0 he0 b5 off5 ro5 cs5 lx5 hb5 hp5 hrel5=>?_);obtain rfl:lx5=_:=hrel5;have hgE:O.getD r.left false=e0:=by rw[List.getD_eq_getElem?_getD,he0];rfl
    refine zC4 ?_;refine AW.cond Z (fun h3=>?_) (fun h3=>?_)
    ·have h3:e0=false:=by simpa using h3
     refine AW.exit ?_;refine⟨u,sM,zow,huR,huI,huT,fun hag=>?_⟩;obtain⟨q1,q2⟩:=huC hag;refine⟨q1,fun r' hr'=>?_⟩;rw[htk] at hr';rcases List.mem_append.1 hr' with h4 | h4
     ·exact q2 r' h4
     ·rw[List.mem_singleton.1 h4];intro h5;rw[←hOR.at_,hgE,h3] at h5;cases h5
    ·have h3:e0=true:=by simpa using h3
     have hRch:Rch g r.left:=(hOR.at_ _).1 (by rw[hgE,h3]);refine zC4 ?_;refine AW.range (S:=FwS) (fun t=>[(6,.bool t.again)]) (fun t=>[(i8,.cells false [.int .i64 r.left,.slice b2 n2 d2])]::((io,.cells false s.vs)::t.bs)::own)
      (fun i v G=>Abs.Rows cBool s.vs v.bs v.Fo∧FwI g v.Fo∧(v.again=true→onesT t.Fo<onesT v.Fo)∧(v.again=false→u.again=false∧v.Fo=u.Fo∧∀j<i,SymCl g u.Fo r j)) n2 u
      Z Z Z Z Z Z Z Z Z zo rfl rfl (fun _=>rfl) (fun _=>rfl) sM oR ⟨huR,huI,huT,fun h=>⟨h,rfl,fun j hj=>absurd hj (Nat.not_lt_zero _)⟩⟩ ?_ ?_
     ·intro i v F4 hF4 hi hP;obtain⟨hvR,hvI,hvT,hvC⟩:=hP;have hr5:=hr4.mono hF4;have hb4:=hF4 _ _ hb3;refine zC4 ?_;refine WT.idxL hT hr5 Z Z Z Z Z Z Z Z Z zo (fun y hyi b5 off5 ro5 cs5 lx5 hb5 hp5 hrel5=>?_);obtain rfl:lx5=_:=hrel5;obtain⟨yt,yn⟩:=y;have hyo:=hrs _ (gM hyi);refine zC4 ?_;refine WT.allocT hT Z Z Z Z Z Z (fun i10 hi10=>?_);refine zC4 ?_;refine AW.cond Z (fun h4=>?_) (fun h4=>?_)
      ·have h4:yt=true:=by simpa using h4
       refine AW.exit ?_;exact⟨v,sM,zow,hvR,hvI,hvT,FwI.skip hyi h4 hvC⟩
      ·have h4:yt=false:=by simpa using h4
       subst h4;have hyn:yn<g.nons:=hyo;refine zC4 ?_;obtain⟨ra,rc,hrs2,hra⟩:=hr5.slice (C:=CC) (lo:=i+1) (hi:=n2) zo (Nat.le_refl _) hT (t:=87) Z Z Z (some (.int .i64 ((i+1:Nat):Int))) none (by simp[boundA];omega) rfl;refine WT.slice Z Z Z Z Z Z Z Z hrs2 ?_;rw[List.take_of_length_le zo] at hra;have hF34:=((((hF0.trans hF1).trans hF2).trans hF3).trans hF4);have hlst:=hFS.list (l:=r.right.drop (i+1)) (fun y hy=>hrs y (List.mem_of_mem_drop hy))
       refine WT.callN Tryz.func133 Z Z Z Z Z Z (sof_spec F4 hb4 (hE0.mono hF34) (hFi0.mono hF34) hS.row zo hra zo (fun y hy=>hrs y (List.mem_of_mem_drop hy))) (fun F5 w B5 hF5 hv=>?_);obtain⟨ir,rfl,hrl5,rfl⟩:=hv;refine WT.freezeAll 0 Z Z (fun F6 hF6 hB6=>?_);have hrow:Arr tBool F6 (some ⟨ir,0,none⟩) g.terms (if g.terms=0 then 0 else 1) (ofRow E Fi (List.replicate g.terms false) (r.right.drop (i+1))).1:=by
        have:=arr_of_cells (K:=cBool) (R:=tBool) (F:=F6) (id:=ir) (row:=(ofRow E Fi (List.replicate g.terms false) (r.right.drop (i+1))).1) (c:=if (ofRow E Fi (List.replicate g.terms false) (r.right.drop (i+1))).1.length=0 then 0 else 1) (ro:=false) rfl (fun _ _=>rfl) rfl (hB6 ir _ me);rw[hrl5] at this;exact this
       generalize ofRow E Fi (List.replicate g.terms false) (r.right.drop (i+1))=fr at hlst hrow hrl5 ⊢;obtain⟨row,emp⟩:=fr;dsimp only at hlst hrow hrl5;have hnl:yn<v.Fo.length:=by rw[hvI.tab.size];exact hyn
       have hrow0:v.Fo[yn]?=some (v.Fo.getD yn []):=by rw[List.getD_eq_getElem?_getD,gE hnl];rfl
       have holdl:=hvI.row hyn;obtain⟨id1,cc1,hvs1,hbs1,hcc1⟩:=hvR.at yn _ hrow0;have hst:=fun (Fo2:List (List Bool)) (h2:Fo2=if emp=true then (v.Fo.set yn (orRow (v.Fo.getD yn []) (padF (g.terms+1) row))).set yn (orRow ((v.Fo.set yn (orRow (v.Fo.getD yn []) (padF (g.terms+1) row))).getD yn []) ((v.Fo.set yn (orRow (v.Fo.getD yn []) (padF (g.terms+1) row))).getD r.left [])) else v.Fo.set yn (orRow (v.Fo.getD yn []) (padF (g.terms+1) row))) (ag:Bool)=>FwI.step (t0:=t) (u:=u) (v:=v) (gM hrk) hRch hrl hyi hyn hvI hvT (fun h=>(huC h).1) hvC hrl5 hlst.1 hlst.2 rfl h2 (ag:=ag)
       generalize hold:v.Fo.getD yn []=old at hrow0 holdl hvs1 hbs1 hst;have hpl:(padF (g.terms+1) row).length=g.terms+1:=padF_len zo;have hR1:=hvR.set yn old (orRow old (padF (g.terms+1) row)) id1 hrow0 (by rw[orRow_len zo]) hbs1;rw[holdl] at hvs1;have hvs1':s.vs[0+yn*1]?=some (.slice (some ⟨id1,0,none⟩) (g.terms+1) cc1):=by rw[Nat.zero_add,Nat.mul_one];exact hvs1
       refine zC4 ?_;refine WT.idxA (j:=yn) (s:=1) hT Z Z Z Z Z Z Z Z Z hyn ?_;refine WT.loadAt hT 3 Z Z Z Z Z Z me Z Z hvs1' ?_;refine zC4 ?_;have hpk:=perm_pick hbs1;have hn1:(v.Fo.set yn (orRow old (padF (g.terms+1) row))).getD yn []=orRow old (padF (g.terms+1) row):=by rw[getD_setN hnl,if_pos rfl]
       rw[hn1] at hst;have hnewl:(orRow old (padF (g.terms+1) row)).length=g.terms+1:=by rw[orRow_len zo];exact holdl
       refine WT.le (own2:=((io,.cells false s.vs)::v.bs.eraseIdx yn)::[(id1,.cells false (old.map cBool.cell))]::[(i10,.cells false [.bool false,.int .i64 yn])]::[(i8,.cells false [.int .i64 r.left,.slice b2 n2 d2])]::own) (OwnLe.flat (perm_lend hpk)) ?_
       refine WT.callLend1 (upd:=fun D'=>((io,.cells false s.vs)::v.bs.eraseIdx yn)::D'::[(i10,.cells false [.bool false,.int .i64 yn])]::[(i8,.cells false [.int .i64 r.left,.slice b2 n2 d2])]::own) 0 1 Tryz.func134 Z Z Z Z Z Z (List.Perm.refl _) (fun _=>List.Perm.refl _) (fun G hG hBG=>union2_spec G (it:=id1) (xs:=old) (ys:=row) (m:=g.terms+1) zo (hrow.mono hG) zo zo) (fun w D hw=>?_);obtain⟨rfl,rfl⟩:=hw;rw[holdl];generalize orRow old (padF (g.terms+1) row)=new1 at hst hR1 hnewl ⊢
       refine WT.le (own2:=[(i10,.cells false [.bool false,.int .i64 yn])]::[(i8,.cells false [.int .i64 r.left,.slice b2 n2 d2])]::((io,.cells false s.vs)::v.bs.set yn (id1,.cells false (new1.map cBool.cell)))::own) (OwnLe.flat (perm_lend (perm_set (id1,Blk.cells false (new1.map cBool.cell)) hbs1)).symm) ?_;have hbl:=(gS hbs1).1;have hbs1':(v.bs.set yn (id1,Blk.cells false (new1.map cBool.cell)))[yn]?=some (id1,.cells false (new1.map cBool.cell)):=List.getElem?_set_self hbl;generalize hbs1e:v.bs.set yn (id1,Blk.cells false (new1.map cBool.cell))=bs1 at hR1 hbs1' ⊢
       have hl1:r.left<(v.Fo.set yn new1).length:=by rw[List.length_set,hvI.tab.size];exact hrl
       have hrow1:(v.Fo.set yn new1)[yn]?=some new1:=List.getElem?_set_self hnl;have hrow2:(v.Fo.set yn new1)[r.left]?=some ((v.Fo.set yn new1).getD r.left []):=by rw[List.getD_eq_getElem?_getD,gE hl1];rfl
       have hzsl:((v.Fo.set yn new1).getD r.left []).length=g.terms+1:=by
        rw[getD_setN hnl];split
        ·exact hnewl
        ·exact hvI.row hrl
       have hzsn:r.left=yn→(v.Fo.set yn new1).getD r.left []=new1:=fun e=>by rw[getD_setN hnl,if_pos e]
       generalize hFo1:v.Fo.set yn new1=Fo1 at hst hR1 hrow1 hrow2 hzsl hzsn ⊢;generalize Fo1.getD r.left []=zs at hst hrow2 hzsl hzsn ⊢;obtain⟨id2,cc2,hvs2,hbs2,hcc2⟩:=hR1.at r.left zs hrow2;rw[hzsl] at hvs2;have hvs2':s.vs[0+r.left*1]?=some (.slice (some ⟨id2,0,none⟩) (g.terms+1) cc2):=by rw[Nat.zero_add,Nat.mul_one];exact hvs2
       have hR2:=hR1.set yn new1 (orRow new1 zs) id1 hrow1 (by rw[orRow_len zo]) hbs1';have hself:(id1=id2∧zs=new1)∨(id2,Blk.cells false (zs.map cBool.cell))∈((io,.cells false s.vs)::bs1.eraseIdx yn):=by
        by_cases e:r.left=yn
        ·left;refine⟨?_,hzsn e⟩;rw[e,hvs1] at hvs2;simp only[Option.some.injEq,Value.slice.injEq,Addr.mk.injEq] at hvs2;exact hvs2.1.1
        ·right;exact List.mem_cons_of_mem _ (List.mem_eraseIdx_iff_getElem?.2 ⟨r.left,e,hbs2⟩)
       refine zC4 ?_;refine WT.split 97 Z (fun h7=>?_) (fun h7=>?_)
       ·have h7:new1≠old:=of_decide_eq_true h7;refine zC4 ?_;refine AW.cond Z (fun h5=>?_) (fun h5=>?_)
        ·have h5:emp=true:=h5;refine zC4 ?_;refine WT.idxA (j:=yn) (s:=1) hT Z Z Z Z Z Z Z Z Z hyn ?_;refine WT.loadAt hT 2 Z Z Z Z Z Z me Z Z hvs1' ?_;refine zC4 ?_;refine WT.idxA (j:=r.left) (s:=1) hT Z Z Z Z Z Z Z Z Z hrl ?_;refine WT.loadAt hT 2 Z Z Z Z Z Z me Z Z hvs2' ?_;refine WT.le (own2:=((io,.cells false s.vs)::bs1.eraseIdx yn)::[(id1,.cells false (new1.map cBool.cell))]::[(i10,.cells false [.bool false,.int .i64 yn])]::[(i8,.cells false [.int .i64 r.left,.slice b2 n2 d2])]::own) (OwnLe.flat (perm_lend (perm_pick hbs1'))) ?_
         refine WT.callLend1 (upd:=fun D'=>((io,.cells false s.vs)::bs1.eraseIdx yn)::D'::[(i10,.cells false [.bool false,.int .i64 yn])]::[(i8,.cells false [.int .i64 r.left,.slice b2 n2 d2])]::own) 0 1 Tryz.func134 Z Z Z Z Z Z (List.Perm.refl _) (fun _=>List.Perm.refl _) (fun G hG hBG=>uniAny_spec G (i1:=id1) (i2:=id2) (xs:=new1) (zs:=zs) (m:=g.terms+1) hBG hnewl.symm hzsl zo hself hcc2) (fun w D hw=>?_);obtain⟨rfl,rfl⟩:=hw
         refine WT.le (own2:=[(i10,.cells false [.bool false,.int .i64 yn])]::[(i8,.cells false [.int .i64 r.left,.slice b2 n2 d2])]::((io,.cells false s.vs)::bs1.set yn (id1,.cells false ((orRow new1 zs).map cBool.cell)))::own) (OwnLe.flat (perm_lend (perm_set (id1,Blk.cells false ((orRow new1 zs).map cBool.cell)) hbs1')).symm) ?_;refine zC4 ?_;refine WT.split 112 Z (fun h6=>?_) (fun h6=>?_)
         ·have h6:orRow new1 zs≠new1:=of_decide_eq_true h6;refine zC4 ?_;exact⟨⟨Fo1.set yn (orRow new1 zs),bs1.set yn (id1,.cells false ((orRow new1 zs).map cBool.cell)),true⟩,sM,zow,hR2,hst _ (by rw[if_pos h5]) true (fun _=>rfl) (fun _=>rfl) (fun _ _=>rfl) (fun _=>.inr (.inr ⟨h5,h6⟩))⟩
         ·have h6:orRow new1 zs=new1:=by simpa using h6
          refine zC4 ?_;exact⟨⟨Fo1.set yn (orRow new1 zs),bs1.set yn (id1,.cells false ((orRow new1 zs).map cBool.cell)),true⟩,sM,zow,hR2,hst _ (by rw[if_pos h5]) true (fun _=>rfl) (fun _=>rfl) (fun _ h=>absurd h6 h) (fun _=>.inr (.inl h7))⟩
        ·have h5:emp=false:=h5;refine zC4 ?_;exact⟨⟨Fo1,bs1,true⟩,sM,zow,hR1,hst _ (by rw[if_neg (by rw[h5];simp)]) true (fun _=>rfl) (fun _=>rfl) (fun h=>by rw[h5] at h;cases h) (fun _=>.inr (.inl h7))⟩
       ·have h7:new1=old:=by simpa using h7
        refine zC4 ?_;refine AW.cond Z (fun h5=>?_) (fun h5=>?_)
        ·have h5:emp=true:=h5;refine zC4 ?_;refine WT.idxA (j:=yn) (s:=1) hT Z Z Z Z Z Z Z Z Z hyn ?_;refine WT.loadAt hT 2 Z Z Z Z Z Z me Z Z hvs1' ?_;refine zC4 ?_;refine WT.idxA (j:=r.left) (s:=1) hT Z Z Z Z Z Z Z Z Z hrl ?_;refine WT.loadAt hT 2 Z Z Z Z Z Z me Z Z hvs2' ?_;refine WT.le (own2:=((io,.cells false s.vs)::bs1.eraseIdx yn)::[(id1,.cells false (new1.map cBool.cell))]::[(i10,.cells false [.bool false,.int .i64 yn])]::[(i8,.cells false [.int .i64 r.left,.slice b2 n2 d2])]::own) (OwnLe.flat (perm_lend (perm_pick hbs1'))) ?_
         refine WT.callLend1 (upd:=fun D'=>((io,.cells false s.vs)::bs1.eraseIdx yn)::D'::[(i10,.cells false [.bool false,.int .i64 yn])]::[(i8,.cells false [.int .i64 r.left,.slice b2 n2 d2])]::own) 0 1 Tryz.func134 Z Z Z Z Z Z (List.Perm.refl _) (fun _=>List.Perm.refl _) (fun G hG hBG=>uniAny_spec G (i1:=id1) (i2:=id2) (xs:=new1) (zs:=zs) (m:=g.terms+1) hBG hnewl.symm hzsl zo hself hcc2) (fun w D hw=>?_);obtain⟨rfl,rfl⟩:=hw
         refine WT.le (own2:=[(i10,.cells false [.bool false,.int .i64 yn])]::[(i8,.cells false [.int .i64 r.left,.slice b2 n2 d2])]::((io,.cells false s.vs)::bs1.set yn (id1,.cells false ((orRow new1 zs).map cBool.cell)))::own) (OwnLe.flat (perm_lend (perm_set (id1,Blk.cells false ((orRow new1 zs).map cBool.cell)) hbs1')).symm) ?_;refine zC4 ?_;refine WT.split 112 Z (fun h6=>?_) (fun h6=>?_)
         ·have h6:orRow new1 zs≠new1:=of_decide_eq_true h6;refine zC4 ?_;exact⟨⟨Fo1.set yn (orRow new1 zs),bs1.set yn (id1,.cells false ((orRow new1 zs).map cBool.cell)),true⟩,sM,zow,hR2,hst _ (by rw[if_pos h5]) true (fun _=>rfl) (fun _=>rfl) (fun _ _=>rfl) (fun _=>.inr (.inr ⟨h5,h6⟩))⟩
         ·have h6:orRow new1 zs=new1:=by simpa using h6
          refine zC4 ?_;exact⟨⟨Fo1.set yn (orRow new1 zs),bs1.set yn (id1,.cells false ((orRow new1 zs).map cBool.cell)),v.again⟩,sM,zow,hR2,hst _ (by rw[if_pos h5]) v.again (fun h=>h) (fun h=>absurd h7 h) (fun _ h=>absurd h6 h) (fun h=>.inl h)⟩
        ·have h5:emp=false:=h5;refine zC4 ?_;exact⟨⟨Fo1,bs1,v.again⟩,sM,zow,hR1,hst _ (by rw[if_neg (by rw[h5];simp)]) v.again (fun h=>h) (fun h=>absurd h7 h) (fun h=>by rw[h5] at h;cases h) (fun h=>.inl h)⟩
     ·intro v F4 hF4 hP;obtain⟨hvR,hvI,hvT,hvC⟩:=hP;refine⟨v,sM,zow,hvR,hvI,hvT,fun hag=>?_⟩;obtain⟨q1,q2,q3⟩:=hvC hag;obtain⟨q4,q5⟩:=huC q1;refine⟨by rw[q2,q4],fun r' hr'=>?_⟩;rw[htk] at hr';rcases List.mem_append.1 hr' with h6 | h6
      ·exact q5 r' h6
      ·rw[List.mem_singleton.1 h6];intro _ j;rw[←q4];rcases Nat.lt_or_ge j n2 with h7 | h7
       ·exact q3 j h7
       ·intro n' hn';rw[List.getElem?_eq_none zo] at hn';cases hn'
   ·intro u F3 hF3 hP;obtain⟨huR,huI,huT,huC⟩:=hP;rw[List.take_of_length_le zo] at huC;refine⟨u,?_,sM,zow,huR,huI,fun hag=>?_⟩
    ·have h1:=onesT_le huI.tab;rw[h,if_pos rfl];split
     ·rename_i h4;have:=huT h4;omega
     ·omega
    ·obtain⟨q1,q2⟩:=huC hag;rw[q1];exact q2
  ·refine AW.exit ?_;refine AW.freezeAll 0 Z Z (fun F3 hF3 hB3=>?_);refine zC4 ?_;have hFa:=Abs.Rows.arr (K:=cBool) (R:=tBool) rfl (fun _ _=>rfl) (F:=F3) (o:=io) (c:=if t.Fo.length=0 then 0 else 1) (ro:=false) hR (fun i b hm=>hB3 i b (by simp[hm])) rfl (hB3 io _ (by simp));rw[hI.tab.size,if_neg zo] at hFa;exact AW.ret ⟨_,[],⟨_,_,rfl,rfl,rfl⟩,zsb,rfl,_,_,_,t.Fo,rfl,hFa,.of hI (hC h)⟩
theorem lookS_const(g:Gram)(I:List (List Lr))(P:Lr→Nat→Prop):lookS g I (fun _=>P)=I.map fun st=>st.map fun x=>⟨x,maskOf (P x) (g.terms+1)⟩:=by
 apply List.ext_getElem?;intro i;rw[lookS_at,List.getElem?_map]
theorem mask_add{P:Nat→Prop}{n:Nat}(h:P n):maskOf P (n+1)=maskOf P n+2 ^ n:=by
 show _+(if _ then 2 ^ n else 0)=_;rw[if_pos (@decide_eq_true _ (Classical.propDecidable _) h)]
theorem mask_no{P:Nat→Prop}{n:Nat}(h:¬P n):maskOf P (n+1)=maskOf P n:=by
 show _+(if _ then 2 ^ n else 0)=_;rw[if_neg (fun h2=>h (@of_decide_eq_true _ (Classical.propDecidable _) h2)),Nat.add_zero]
theorem mask_end(n:Nat):maskOf (fun t=>t=n) (n+1)=2 ^ n:=by
 rw[mask_add (P:=fun t=>t=n) (n:=n) rfl];have:∀k≤n,maskOf (fun t=>t=n) k=0:=by
  intro k
  induction k with
  | zero=>intro _;rfl
  | succ k ih=>
   intro hk;rw[mask_no (P:=fun t=>t=n) (n:=k) zo];exact ih zo
 rw[this n (Nat.le_refl _),Nat.zero_add]
theorem mask_congr{P Q:Nat→Prop}{n:Nat}(h:∀t,P t↔Q t):maskOf P n=maskOf Q n:=by
 have:P=Q:=funext fun t=>propext (h t);rw[this]
structure SlS where
 a:Option Addr
 m:Nat
 c:Nat
 B:List (Nat×Blk)
theorem slr_spec(F:Frz)(g:Gram)(hg:Valid g){im is:Nat}{a:Option Addr}{m c:Nat}{E:List Bool}{Fi:List (List Bool)}{eb ee:Ents Lr}(hM:MakerF F im g a m c E Fi is eb ee)
  {I:List (List Lr)} {a1 a2:Option Addr} {n1 c1 n2 c2:Nat} (hI:Arr (tList tLr) F a1 n1 c1 I) (hn1:n1≤1000) (hok:∀st∈I,st.length≤1000∧∀x∈st,OkLr g x) :
  Abs.Spec CC 101 [.pointer (some ⟨im,0,none⟩),.agg ⟨[.slice a1 n1 c1,.slice a2 n2 c2]⟩] F [] fun F' v o=>o=[]∧∃a' n' c',v=.slice a' n' c'∧Arr (tList tLook) F' a' n' c' (lookS g I fun _=>FolA g):=by
 rw[lookS_const];generalize hf:(fun x:Lr=>(⟨x,maskOf (FolA g x) (g.terms+1)⟩:Look))=f;have hgr:=hg.range.rules;have hgt:=hg.range.terms;have hgn:=hg.range.nons;have hp:=pow_small hg.range.terms.2;have hr:=hM.sets.rules;have hrl:=hr.len;have hIl:=hI.len;obtain⟨ib,ie,ro,h1,h2,h3⟩:=hM.blk;refine Abs.Spec.fn (n:=89) Tryz.func101 rfl rfl fun own=>?_;refine AW.seq (AW.reg ?_);refine WT.boxT Z Z Z Z Z Z (fun i3 hi3=>?_);refine zC4 ?_;refine WT.callF0 Tryz.func132 Z Z Z Z Z Z (follow_spec F g hg hM.sets hM.fset) (fun F0 v hF0 hv=>?_);obtain⟨a5,n5,c5,Fo,rfl,hFo,hFF⟩:=hv;have h10:=hF0 _ _ h1
 have hr0:=hr.mono hF0;have hI0:=hI.mono hF0;have hFol:=hFo.len;have hFs:=hFF.tab.size;refine zC4 ?_;refine AW.range (S:=SlS) (fun s=>[(6,.slice s.a s.m s.c)]) (fun s=>s.B::[(i3,.cells false [.slice a1 n1 c1,.slice a2 n2 c2])]::own) (fun j s G=>Bld (tList tLook) G s.a s.m s.c s.B ((I.take j).map fun st=>st.map f)) n1 ⟨none,0,0,[]⟩
  Z Z Z Z Z Z Z Z Z zo rfl rfl (fun _=>rfl) (fun _=>rfl) sM (OwnLe.flat (List.Perm.refl _)) (Bld.nil_ _ _) ?_ ?_
 ·intro j s F1 hF1 hj hb;have hI1:=hI0.mono hF1;have hbl:=hb.len;rw[List.length_map,List.length_take] at hbl;refine zC4 ?_;refine WT.idxL hT hI1 Z Z Z Z Z Z Z Z Z zo (fun st hsj b1 off1 ro1 cs1 lx1 hb1 hp1 hrel1=>?_);obtain⟨sa,sn,sc,rfl,hst⟩:=hrel1;have hsl:=hst.len;obtain⟨hs1,hs2⟩:=hok st (gM hsj);have htk:I.take (j+1)=I.take j++[st]:=by rw[List.take_add_one,hsj];rfl
  refine zC4 ?_;refine AW.range (S:=SlS) (fun s=>[(9,.slice s.a s.m s.c)]) (fun u=>u.B::s.B::[(i3,.cells false [.slice a1 n1 c1,.slice a2 n2 c2])]::own) (fun k u G=>Bld tLook G u.a u.m u.c u.B ((st.take k).map f)) sn ⟨none,0,0,[]⟩
   Z Z Z Z Z Z Z Z Z zo rfl rfl (fun _=>rfl) (fun _=>rfl) sM (OwnLe.flat (List.Perm.refl _)) (Bld.nil_ _ _) ?_ ?_
  ·intro k u F2 hF2 hk hub;have hst2:=hst.mono hF2;have h12:=hF2 _ _ (hF1 _ _ h10);have hr2:=(hr0.mono hF1).mono hF2;have hFo2:=(hFo.mono hF1).mono hF2;have hubl:=hub.len;rw[List.length_map,List.length_take] at hubl;refine zC4 ?_;refine WT.idxL hT hst2 Z Z Z Z Z Z Z Z Z zo (fun x hxk b5 off5 ro5 cs5 lx5 hb5 hp5 hrel5=>?_);obtain rfl:lx5=_:=hrel5;obtain⟨hx1,hx2⟩:=hs2 x (gM hxk);have htk2:st.take (k+1)=st.take k++[x]:=by rw[List.take_add_one,hxk];rfl
   have hp2:2 ^ g.terms≤256:=Nat.le_trans (Nat.pow_le_pow_right (by decide) hgt.2) (by decide);refine zC4 ?_;refine WT.allocT hT Z Z Z Z Z Z (fun i11 hi11=>?_);refine zC4 ?_;refine AW.draw (ps:=[(0,8),(5,8),(6,8)]) Z Z ?_;refine zC4 ?_;refine WT.shl32 (x:=1) (y:=g.terms) Z Z Z Z Z Z zo zo ?_;refine zC4 ?_;refine WT.allocT hT Z Z Z Z Z Z (fun i12 hi12=>?_);refine zC4 ?_;refine⟨zrC,?_⟩;refine zC4 ?_;refine AW.cond Z (fun h=>?_) (fun h=>?_)
   ·have h:x.rule<g.rules.length:=by simp at h;omega
    have hrx:=gE h;obtain⟨r,hrx⟩:∃r,g.rules[x.rule]?=some r:=⟨_,hrx⟩;have hrl2:=(hg.right r (gM hrx)).1;have hfx:f x=⟨x,maskOf (Fol g r.left) (g.terms+1)⟩:=by
     rw[←hf];dsimp only;congr 1;refine mask_congr fun t=>?_;unfold FolA;rw[if_pos h,leftL_at hrx]
    refine zC4 ?_;refine WT.idxL hT hr2 Z Z Z Z Z Z Z Z Z zo (fun r2 hr2x b6 off6 ro6 cs6 lx6 hb6 hp6 hrel6=>?_);rw[hrx] at hr2x;obtain rfl:=Option.some.inj hr2x;obtain⟨ra,rn,rc,rfl,hra⟩:=hrel6;refine zC4 ?_;refine WT.idxL hT hFo2 Z Z Z Z Z Z Z Z Z zo (fun row hrow b7 off7 ro7 cs7 lx7 hb7 hp7 hrel7=>?_);obtain⟨wa,wn,wc,rfl,hwa⟩:=hrel7;have hrowl:=hFF.tab.row row (gM hrow);have hwl:=hwa.len;have hrowb:∀t,row.getD t false=true↔Fol g r.left t:=fun t=>by
     rw[←hFF.at_ r.left t,List.getD_eq_getElem?_getD (l:=Fo),hrow];rfl
    refine zC4 ?_;refine AW.range (S:=Nat) (fun _=>[]) (fun S=>[(i12,.cells false [.int .i64 x.rule,.int .i64 x.dot,.int .u32 S])]::[(i11,.cells false [.int .i64 x.rule,.int .i64 x.dot])]::u.B::s.B::[(i3,.cells false [.slice a1 n1 c1,.slice a2 n2 c2])]::own) (fun t S G=>S=maskOf (Fol g r.left) t) wn 0
     Z Z Z Z Z Z Z Z Z zo rfl rfl (fun _=>rfl) (fun _=>rfl) sM oR rfl ?_ ?_
    ·intro t S F3 hF3 ht hS;have hwa3:=hwa.mono hF3;have hlt:=maskOf_lt (Fol g r.left) t;rw[←hS] at hlt;have hpt:2 ^ t≤256:=Nat.le_trans (Nat.pow_le_pow_right (by decide) (show t≤8 by omega)) (by decide);refine zC4 ?_;refine WT.idxL hT hwa3 Z Z Z Z Z Z Z Z Z zo (fun ok hok b8 off8 ro8 cs8 lx8 hb8 hp8 hrel8=>?_);obtain rfl:lx8=_:=hrel8;have hbit:ok=true↔Fol g r.left t:=by
      rw[←hrowb t,List.getD_eq_getElem?_getD,hok];rfl
     refine zC4 ?_;refine AW.cond Z (fun h=>?_) (fun h=>?_)
     ·have hnew:=mask_add (P:=Fol g r.left) (n:=t) (hbit.1 h);refine zC4 ?_;refine WT.shl32 (x:=1) (y:=t) Z Z Z Z Z Z zo zo ?_;refine WT.or32 (x:=S) (y:=1*2 ^ t) Z Z Z Z Z Z zo zo ?_;refine zC4 ?_;refine⟨S ||| 1*2 ^ t,sM,zow,?_⟩
      show S ||| 1*2 ^ t=maskOf (Fol g r.left) (t+1)
      rw[or_two_pow hlt,hnew,hS]
     ·have hnew:=mask_no (P:=Fol g r.left) (n:=t) (fun h2=>by rw[hbit.2 h2] at h;cases h);refine zC4 ?_;exact⟨S,sM,zow,by show S=maskOf (Fol g r.left) (t+1);rw[hnew];exact hS⟩
    ·intro S F3 hF3 hS;have hub3:=hub.mono hF3;rw[show wn=g.terms+1 by omega] at hS;have hxS:f x=⟨x,S⟩:=by rw[hfx,hS]
     refine zC4 ?_;refine WT.buildT hT Z Z Z Z Z Z Z Z Z Z Z Z Z Z (fun i33 hi33=>?_);refine WT.appendT (R:=tLook) (ys:=[⟨x,S⟩]) hT 3 hub3 Z (fun _=>rfl) Z Z Z Z Z Z Z Z Z Z Z (fun h0 s0=>news_own hT s0 0 Z Z Z Z) (Cells.single (R:=tLook) (x:=⟨x,S⟩) rfl) Z (by decide) zom (fun a3 c3 B3 hB3=>?_);refine zC4 ?_;refine⟨⟨a3,u.m+1,c3,B3⟩,sM,zow,?_⟩;dsimp only;rw[htk2,List.map_append,List.map_cons,List.map_nil,hxS];exact hB3
   ·have h:x.rule=g.rules.length:=by simp at h;omega
    have hfx:f x=⟨x,1*2 ^ g.terms⟩:=by
     rw[←hf];dsimp only;congr 1;rw[Nat.one_mul,←mask_end];refine mask_congr fun t=>?_;unfold FolA;rw[if_neg zo]
    refine zC4 ?_;refine WT.buildT hT Z Z Z Z Z Z Z Z Z Z Z Z Z Z (fun i33 hi33=>?_);refine WT.appendT (R:=tLook) (ys:=[⟨x,1*2 ^ g.terms⟩]) hT 3 hub Z (fun _=>rfl) Z Z Z Z Z Z Z Z Z Z Z (fun h0 s0=>news_own hT s0 0 Z Z Z Z) (Cells.single (R:=tLook) (x:=⟨x,1*2 ^ g.terms⟩) rfl) Z (by decide) zom (fun a3 c3 B3 hB3=>?_);refine zC4 ?_;refine⟨⟨a3,u.m+1,c3,B3⟩,sM,zow,?_⟩;dsimp only;rw[htk2,List.map_append,List.map_cons,List.map_nil,hfx];exact hB3
  ·intro u F2 hF2 hub;rw[List.take_of_length_le zo] at hub;have hb2:=hb.mono hF2;refine AW.freezeAll 0 Z Z (fun F3 hF3 hB3=>?_);have hrow:=hub.frozen hF3 hB3;have hb3:=hb2.mono hF3;refine zC4 ?_;refine WT.buildT hT Z Z Z Z Z Z Z Z Z Z Z Z Z Z (fun i89 hi89=>?_);refine WT.appendT (R:=tList tLook) (ys:=[st.map f]) hT 2 hb3 Z (fun _=>rfl) Z Z Z Z Z Z Z Z Z Z Z (fun h0 s0=>news_own hT s0 0 Z Z Z Z) (Cells.single (R:=tList tLook) (x:=st.map f) ⟨_,_,_,rfl,hrow⟩) Z (by decide) zom (fun a3 c3 B3 hB3'=>?_);refine zC4 ?_;refine⟨⟨a3,s.m+1,c3,B3⟩,sM,zow,?_⟩;dsimp only;rw[htk,List.map_append];exact hB3'
 ·intro s F1 hF1 hb;rw[List.take_of_length_le zo] at hb;refine AW.freezeAll 0 Z Z (fun F2 hF2 hB2=>?_);refine zC4 ?_;exact AW.ret ⟨_,[],⟨_,_,rfl,rfl,rfl⟩,zsb,rfl,_,_,_,rfl,hb.frozen hF2 hB2⟩
theorem afterO_spec(F:Frz)(g:Gram)(hg:Valid g){im is:Nat}{a:Option Addr}{m c:Nat}{E:List Bool}{Fi:List (List Bool)}{eb ee:Ents Lr}(hM:MakerF F im g a m c E Fi is eb ee)
  {id n:Nat} {st:List Look} {B:List (Nat×Blk)} (hmem:(id,Blk.cells false (lkRow st))∈B) (hsl:n=st.length) (hn:n≤1000) (hok:∀x∈st,OkLr g x.item∧x.set<2 ^ (g.terms+1)) (y:Sym) :
  Abs.Spec CC 99 [.pointer (some ⟨im,0,none⟩),.slice (some ⟨id,0,none⟩) n 3,.agg ⟨[.bool y.term,.int .i64 y.n]⟩] F [B] fun F' v o=>∃B',o=[B']∧B'=B∧∃a' n' c' z s,v=.tuple ⟨[.slice a' n' c',.bool z]⟩∧Arr tLook F' a' n' c' s∧nextK g st y=if z=true then some s else none:=by
 have hgr:=hg.range.rules;have hr:=hM.sets.rules;have hrl:=hr.len;have hgb:∀G,GB tLook G (some ⟨id,0,none⟩) n 3 [(id,.cells false (lkRow st))] st:=fun G=>⟨hsl,.inr ⟨id,lkRow st,[],rfl,rfl,by rw[List.append_nil],lkRow_cells st,by decide⟩⟩;have hg4:∀r∈g.rules,r.right.length≤100:=fun r h=>by have:=(hg.right r h).2.1;omega
 obtain⟨ib,ie,ro,h1,h2,h3⟩:=hM.blk;obtain⟨yt,yn⟩:=y;refine Abs.Spec.fn (n:=56) Tryz.func99 rfl rfl fun own=>?_;refine AW.seq (AW.reg ?_);refine WT.boxT Z Z Z Z Z Z (fun i4 hi4=>?_);refine zC4 ?_;refine AW.range (S:=AfS) (fun s=>[(8,.slice s.a s.m s.c)]) (fun s=>s.B::[(i4,.cells false [.bool yt,.int .i64 yn])]::B::own) (fun j s G=>Bld tLook G s.a s.m s.c s.B s.l∧s.l=kernK g (st.take j) ⟨yt,yn⟩∧s.m≤j) n ⟨none,0,0,[],[]⟩
  Z Z Z Z Z Z Z Z Z zo rfl rfl (fun _=>rfl) (fun _=>rfl) sM (OwnLe.flat (List.Perm.refl _)) ⟨Bld.nil_ _ _,rfl,Nat.le_refl _⟩ ?_ ?_
 ·intro j s F1 hF1 hj hP;obtain⟨hb,hsk,hsm⟩:=hP;have hr1:=hr.mono hF1;have h11:=hF1 _ _ h1;refine zC4 ?_;obtain⟨x,hxj⟩:∃x,st[j]?=some x:=⟨_,gE zo⟩;refine WT.gidx hT (hgb F1) Z Z Z Z Z Z Z Z Z zo (fun b1 hb1=>?_);refine WT.gldS (x:=x) hT 2 (hgb F1) hb1 hxj Z Z Z Z Z Z (fun z hz=>by rw[List.mem_singleton.1 hz];exact hmem) Z Z Z (fun lx hrel=>?_);obtain rfl:lx=_:=hrel;have hxo:=(hok x (gM hxj)).1;have hkt:=kernK_take (g:=g) (y:=⟨yt,yn⟩) hxj;exact shE2
 ·intro s F1 hF1 hP;obtain⟨hb,hsk,hsm⟩:=hP;rw[List.take_of_length_le zo] at hsk;have hbl:=hb.len;have hM1:=hM.mono hF1;refine AW.freezeAll 0 Z Z (fun F2 hF2 hB2=>?_);have hx:=hb.frozen hF2 hB2;have hM2:=hM1.mono hF2;have hkok:=kernK_ok (g:=g) (y:=⟨yt,yn⟩) (fun x hx=>(hok x hx).2);rw[←hsk] at hkok;refine zC4 ?_;refine AW.cond Z (fun h=>?_) (fun h=>?_)
  ·have h:s.m=0:=by simp at h;omega
   refine zC4 ?_;refine AW.ret ⟨_,[B],⟨_,_,rfl,⟨_,_,rfl,rfl,rfl⟩,rfl⟩,zsb,B,rfl,rfl,none,0,0,false,[],rfl,Arr.nil_ _ _,?_⟩;unfold nextK;rw[if_pos (by rw[←hsk];exact List.length_eq_zero_iff.1 zo)];rfl
  ·have h:0<s.m:=by simp at h;omega
   refine zC4 ?_;refine WT.callF0 Tryz.func147 Z Z Z Z Z Z (closeK_spec F2 g hg hM2 hx zo hkok) (fun F3 v hF3 hv=>?_);obtain⟨a8,m8,c8,rfl,hz⟩:=hv;refine zC4 ?_;refine AW.ret ⟨_,[B],⟨_,_,rfl,⟨_,_,rfl,rfl,rfl⟩,rfl⟩,zsb,B,rfl,rfl,a8,m8,c8,true,_,rfl,hz,?_⟩;unfold nextK;rw[if_neg (by rw[←hsk];intro e;rw[e] at hbl;simp at hbl;omega),hsk];rfl
section
variable {g:Gram}{I:List (List Lr)}{rows:List (List Int)}{L:List (List Look)}{W:List Nat}
structure JI(g:Gram)(I:List (List Lr))(rows:List (List Int))(i k:Nat)(L:List (List Look))(W:List Nat):Prop where
 la:LaI g I rows L
 st:Started g L
 wok:∀s∈W,s<I.length∧¬ZeroA L s
 oth:∀s,s≠i→s∈W∨ZeroA L s∨∀y,CloA g rows L s y
 cur:i∈W∨∀k'<k,∀y,(symsL g)[k']?=some y→CloA g rows L i y
 ne:¬ZeroA L i
structure KI(g:Gram)(I:List (List Lr))(rows:List (List Int))(L:List (List Look))(W:List Nat):Prop where
 la:LaI g I rows L
 st:Started g L
 wok:∀s∈W,s<I.length∧¬ZeroA L s
 all:∀s,s∈W∨ZeroA L s∨∀y,CloA g rows L s y
theorem KI.pop{i:Nat}(h:KI g I rows L (W++[i])):JI g I rows i 0 L W where
 la:=h.la
 st:=h.st
 wok:=fun s hs=>h.wok s (List.mem_append_left _ hs)
 oth:=fun s hs=>(h.all s).imp (fun h1=>(List.mem_append.1 h1).resolve_right fun h2=>hs (List.mem_singleton.1 h2)) id
 cur:=.inr fun k hk=>absurd hk (Nat.not_lt_zero _)
 ne:=(h.wok i (List.mem_append_right _ (List.mem_singleton_self _))).2
theorem JI.skip{i k:Nat}{y:Sym}(h:JI g I rows i k L W)(hy:(symsL g)[k]?=some y)(hgo:goR g rows i y=none):JI g I rows i (k+1) L W:=
 ⟨h.la,h.st,h.wok,h.oth,h.cur.imp id fun hc k' hk' y' hy'=>by
   rcases Nat.lt_or_ge k' k with h1 | h1
   ·exact hc k' h1 y' hy'
   ·obtain rfl:k'=k:=by omega
    rw[hy] at hy';obtain rfl:=Option.some.inj hy';intro s' st hg2;exact absurd hg2 (by rw[hgo];simp),h.ne⟩
theorem JI.fin{i k:Nat}(h:JI g I rows i k L W)(hk:(symsL g).length≤k):KI g I rows L W where
 la:=h.la
 st:=h.st
 wok:=h.wok
 all:=fun s=>by
  by_cases e:s=i
  ·subst e;refine h.cur.imp id fun hc=>.inr fun y=>?_;by_cases hy:symB g y=true
   ·have hat:=symsL_at (symB_iff.1 hy);exact hc _ (Nat.lt_of_lt_of_le (gS hat).1 hk) y hat
   ·intro s' st hg2;unfold goR at hg2;rw[if_neg hy] at hg2;cases hg2
  ·exact h.oth s e
theorem no_bits{m:Nat}(h:∀t,¬m.testBit t=true):m=0:=by
 apply Nat.eq_of_testBit_eq;intro t;rw[Nat.zero_testBit];cases hm:m.testBit t with
 | false=>rfl
 | true=>exact absurd hm (h t)
theorem mergeL_zero:∀{row l:List Look},(∀x t,¬bitsL (mergeL row l) x t)→mergeL row l=row
 | [],l,_=>by cases l<;>rfl
 | r::rs,[],_=>rfl
 | r::rs,y::ys,h=>by
  have h1:r.set ||| y.set=0:=no_bits fun t ht=>h r.item t ⟨_,List.mem_cons_self ..,ht⟩
  have h2:r.set≤r.set ||| y.set:=Nat.left_le_or
  have h3:r.set=0:=by omega
  have ih:=mergeL_zero (row:=rs) (l:=ys) fun x t ⟨m,h4,h5⟩=>h x t ⟨m,List.mem_cons_of_mem _ h4,h5⟩;show (⟨r.item,r.set ||| y.set⟩::mergeL rs ys:List Look)=r::rs
  rw[ih,h1,←h3]
theorem set_same{L:List (List Look)}{k:Nat}{row:List Look}(h:L[k]?=some row):L.set k row=L:=by
 apply List.ext_getElem?;intro i;by_cases e:i=k
 ·subst e;rw[List.getElem?_set_self (gS h).1,h]
 ·rw[List.getElem?_set_ne (fun e2=>e e2.symm)]
theorem JI.step(hg:Valid g)(hau:autoI g=some (I,rows)){i k s':Nat}{y:Sym}{st row:List Look}(h:JI g I rows i k L W)(hy:(symsL g)[k]?=some y)(hgo:goR g rows i y=some s')(hs:L[i]?=some st)(hk:L[s']?=some row){W':List Nat}
  (hW:W'=if mergeL row (closeK g (kernK g st y))≠row then W++[s'] else W):itemsK row=itemsK (closeK g (kernK g st y))∧JI g I rows i (k+1) (L.set s' (mergeL row (closeK g (kernK g st y)))) W':=by
 obtain⟨hi,hla⟩:=h.la.goto hg hau hgo hs hk h.ne;refine⟨hi,?_⟩;have hok:∀x∈itemsK (kernK g st y),OkLr g x:=fun x hx=>by rw[kernK_items] at hx;exact(kern_ok x hx).1
 have hbits:∀z t,LAc g (kernK g st y) z t→bitsL (closeK g (kernK g st y)) z t:=fun z t=>(closeK_bits hg hok).2;generalize closeK g (kernK g st y)=l at hi hla hW hbits ⊢;have hmono:∀{s x t},laK L s x t→laK (L.set s' (mergeL row l)) s x t:=fun {s x t} h1=>(laK_set hk hi).2 (.inl h1);have hnz:∀{s},¬ZeroA L s→¬ZeroA (L.set s' (mergeL row l)) s:=fun {s} h1 h2=>h1 fun x t h3=>h2 x t (hmono h3);have hst:Started g (L.set s' (mergeL row l)):=fun z t hz=>hmono (h.st z t hz);have hclo:∀{s y'},s≠s'→CloA g rows L s y'→CloA g rows (L.set s' (mergeL row l)) s y':=fun {s y'} hne hc s2 st2 h1 h2 z t hz=>by
  rw[List.getElem?_set_ne (fun e=>hne e.symm)] at h2;exact hmono (hc s2 st2 h1 h2 z t hz)
 have hzero:∀{s},s≠s'→ZeroA L s→ZeroA (L.set s' (mergeL row l)) s:=fun {s} hne hz x t h1=>hz x t (((laK_set hk hi).1 h1).resolve_right fun h2=>hne h2.1);have hnew:CloA g rows (L.set s' (mergeL row l)) i y∨i=s':=by
  by_cases e:i=s'
  ·exact .inr e
  ·left;intro s2 st2 h1 h2 z t hz;rw[List.getElem?_set_ne (fun e2=>e e2.symm),hs] at h2;obtain rfl:=Option.some.inj h2;rw[hgo] at h1;obtain rfl:=Option.some.inj h1;exact(laK_set hk hi).2 (.inr ⟨rfl,hbits z t hz⟩)
 by_cases hch:mergeL row l=row
 ·rw[if_neg (fun h1=>h1 hch)] at hW;subst hW;have hL:L.set s' (mergeL row l)=L:=by rw[hch,set_same hk]
  rw[hL];refine⟨h.la,h.st,h.wok,h.oth,h.cur.imp id fun hc k' hk' y' hy'=>?_,h.ne⟩;rcases Nat.lt_or_ge k' k with h1 | h1
  ·exact hc k' h1 y' hy'
  ·obtain rfl:k'=k:=by omega
   rw[hy] at hy';obtain rfl:=Option.some.inj hy';intro s2 st2 h1 h2 z t hz;rw[hs] at h2;obtain rfl:=Option.some.inj h2;rw[hgo] at h1;obtain rfl:=Option.some.inj h1;have:=(laK_set hk hi (s:=s') (x:=z) (t:=t)).2 (.inr ⟨rfl,hbits z t hz⟩);rw[hL] at this;exact this
 ·rw[if_pos hch] at hW;subst hW;have hs'I:s'<I.length:=by
   rw[←h.la.items,List.length_map];exact(gS hk).1
  have hs'z:¬ZeroA (L.set s' (mergeL row l)) s':=fun hz=>hch (mergeL_zero fun x t hb=>hz x t (laK_iff.2 ⟨_,List.getElem?_set_self (gS hk).1,hb⟩));refine⟨hla,hst,fun s hsm=>?_,fun s hne=>?_,?_,hnz h.ne⟩
  ·rcases List.mem_append.1 hsm with h1 | h1
   ·exact⟨(h.wok s h1).1,hnz (h.wok s h1).2⟩
   ·rw[List.mem_singleton.1 h1];exact⟨hs'I,hs'z⟩
  ·by_cases e:s=s'
   ·exact .inl (by rw[e];exact List.mem_append_right _ (List.mem_singleton_self _))
   ·exact(h.oth s hne).imp (List.mem_append_left _) fun h1=>h1.imp (hzero e) fun h2 y=>hclo e (h2 y)
  ·by_cases e:i=s'
   ·exact .inl (by rw[e];exact List.mem_append_right _ (List.mem_singleton_self _))
   ·refine h.cur.imp (List.mem_append_left _) fun hc k' hk' y' hy'=>?_;rcases Nat.lt_or_ge k' k with h1 | h1
    ·exact hclo e (hc k' h1 y' hy')
    ·obtain rfl:k'=k:=by omega
     rw[hy] at hy';obtain rfl:=Option.some.inj hy';exact hnew.resolve_right e
theorem KI.done(hg:Valid g)(hau:autoI g=some (I,rows))(h:KI g I rows L []):L=lookS g I (LalA g I rows):=
 h.la.done hg hau h.st fun s=>(h.all s).resolve_left fun h1=>by cases h1
theorem KI.begin(hg:Valid g)(hau:autoI g=some (I,rows))(h:LaI g I rows L)(hz:∀s,ZeroA L s){row:List Look}(hk:L[0]?=some row):itemsK row=itemsK (firstK g)∧KI g I rows (L.set 0 (mergeL row (firstK g))) [0]:=by
 obtain⟨hi,h1,h2,h3⟩:=h.start hg hau hk;refine⟨hi,h1,h2,fun s hs=>?_,fun s=>?_⟩
 ·rw[List.mem_singleton.1 hs];refine⟨?_,fun hz=>hz _ _ h3⟩;rw[←h.items,List.length_map];exact(gS hk).1
 ·by_cases e:s=0
  ·exact .inl (by rw[e];exact List.mem_singleton_self _)
  ·exact .inr (.inl fun x t hx=>((laK_set hk hi).1 hx).elim (hz s x t) fun h4=>e h4.1)
theorem roomL_le(l:List Look):roomL l≤l.length*512:=by
 unfold roomL
 induction l with
 | nil=>simp
 | cons x l ih=>simp only[List.map_cons,List.sum_cons,List.length_cons];omega
theorem roomT_le{B:Nat}:∀{L:List (List Look)},(∀l∈L,l.length≤B)→roomT L≤L.length*(B*512)
 | [],_=>by simp[roomT]
 | l::L,h=>by
  have ih:=roomT_le (L:=L) fun x hx=>h x (List.mem_cons_of_mem _ hx);have h1:=roomL_le l;have h2:=h l me;have h3:l.length*512≤B*512:=Nat.mul_le_mul_right _ h2;unfold roomT at ih ⊢;simp only[List.map_cons,List.sum_cons,List.length_cons,Nat.add_mul,Nat.one_mul];omega
end
theorem cells_look{F:Frz}{cs:List Value}{xs:List Look}(h:Cells tLook F cs xs):cs=lkRow xs:=by
 induction h with
 | nil=>rfl
 | @cons l cs x xs h1 h2 ih=>
  obtain rfl:l=lkV x:=h1;rw[ih];rfl
structure P1S where
 vs:List Value
 bs:List (Nat×Blk)
structure P2S where
 vs:List Value
 a:Option Addr
 m:Nat
 c:Nat
 B:List (Nat×Blk)
structure LwS where
 L:List (List Look)
 bs:List (Nat×Blk)
 W:List Nat
 a:Option Addr
 m:Nat
 c:Nat
 B:List (Nat×Blk)
def zLk(x:Lr):Look:=⟨x,0⟩
def iNat(s:Nat):Int:=(s:Int)
theorem goR_at{g:Gram}{rows:List (List Int)}{s k:Nat}{y:Sym}{row:List Int}{j:Int}(hy:(symsL g)[k]?=some y)(hr:rows[s]?=some row)(hj:row[k]?=some j):goR g rows s y=if 0≤j then some j.toNat else none:=by
 obtain⟨h1,h2⟩:=symsL_ok hy;unfold goR;rw[if_pos (symB_iff.2 h1),hr,h2];dsimp only;rw[hj]
theorem LT.arr{F:Frz}{vs:List Value}{bs:List (Nat×Blk)}{L:List (List Look)}(h:LT vs bs L){n io:Nat}{ro:Bool}(hn:n=L.length)(hp:0<n)(hio:F io=some (.cells ro vs))(hb:∀i b,(i,b)∈bs→F i=some b):Arr (tList tLook) F (some ⟨io,0,none⟩) n 1 L:=by
 refine⟨hn,.inr rfl,fun h=>zo,fun h=>(by cases h),fun p hp=>(by cases hp;rfl),fun j x hj=>?_⟩;obtain⟨id,h1,h2⟩:=h.at_ j x hj;have hg:GB tLook F (some ⟨id,0,none⟩) x.length 3 [(id,.cells false (lkRow x))] x:=⟨rfl,.inr ⟨id,lkRow x,[],rfl,rfl,by rw[List.append_nil],lkRow_cells x,by decide⟩⟩
 have ha:=hg.arr (Frz.le.refl F) (fun i b hm=>by
  have e:=List.mem_singleton.1 hm;simp only[Prod.mk.injEq] at e;rw[e.1,e.2];exact hb _ _ (gM h2))
 have hv:=(gS h1);refine⟨io,0,ro,vs,[.slice (some ⟨id,0,none⟩) x.length 3],rfl,hio,?_,_,_,_,rfl,ha⟩;refine partL_of ?_ rfl;show _=(vs.drop (0+j*1)).take 1;rw[List.drop_eq_getElem_cons hv.1,List.take_succ_cons,List.take_zero,hv.2]
theorem lalr_spec(F:Frz)(g:Gram)(hg:Valid g){im is:Nat}{a:Option Addr}{m c:Nat}{E:List Bool}{Fi:List (List Bool)}{eb ee:Ents Lr}(hM:MakerF F im g a m c E Fi is eb ee)
  {I:List (List Lr)} {rows:List (List Int)} (hau:autoI g=some (I,rows)) {a1 a2:Option Addr} {n1 c1 n2 c2:Nat} (hI:Arr (tList tLr) F a1 n1 c1 I) (hRw:Arr (tList tInt) F a2 n2 c2 rows) :
  Abs.Spec CC 102 [.pointer (some ⟨im,0,none⟩),.agg ⟨[.slice a1 n1 c1,.slice a2 n2 c2]⟩] F [] fun F' v o=>o=[]∧∃a' n' c',v=.slice a' n' c'∧Arr (tList tLook) F' a' n' c' (lookS g I (LalA g I rows)):=by
 obtain⟨hA,hN⟩:=autoI_ok hau;have hgr:=hg.range.rules;have hgt:=hg.range.terms;have hgn:=hg.range.nons;have hp:=pow_small hg.range.terms.2;have hr:=hM.sets.rules;have hrl:=hr.len;have hIl:=hI.len;have hfew:=hN.few;have hRl:=hRw.len;have hrI:rows.length=I.length:=hA.len
 have hPI:∀(s:Nat) (st:List Lr),I[s]?=some st→PI g st:=hN.all (P:=PI g) (closL_PI hg _) (fun st s _ hs=>by
  obtain⟨y,_,hy⟩:=List.mem_map.1 hs;split at hy
  ·cases hy
  ·obtain rfl:=Option.some.inj hy;exact closL_PI hg _)
 have hne:∀(s:Nat) (st:List Lr),I[s]?=some st→st≠[]:=fun s st hs=>by
  rcases Nat.eq_zero_or_pos s with rfl | hp
  ·obtain⟨st0,h1,h2⟩:=hA.zero;rw[h1] at hs;obtain rfl:=Option.some.inj hs;exact List.ne_nil_of_mem ((h2 _).2 (.base me))
  ·obtain⟨l,_,h2,h3⟩:=hA.from_ s st hp hs;obtain⟨z,l',rfl⟩:=List.exists_cons_of_ne_nil h2;exact List.ne_nil_of_mem ((h3 z).2 (.base me))
 have hI0:0<I.length:=(gS hN.first).1
 obtain⟨ib,ie,ro,h1,h2,h3⟩:=hM.blk;refine Abs.Spec.fn (n:=110) Tryz.func102 rfl rfl fun own=>?_;refine AW.seq (AW.reg ?_);refine WT.boxT Z Z Z Z Z Z (fun i3 hi3=>?_);refine zC4 ?_;refine WT.makeT (l:=n1) hT Z Z Z Z Z Z Z Z Z Z Z Z zom (fun io hio=>?_);rw[cap_eq,if_neg (show ¬n1=0 by omega)];refine WT.allocT hT Z Z Z Z Z Z (fun i5 hi5=>?_);refine zC4 ?_;refine AW.range (S:=P1S) (fun _=>[]) (fun s=>[(i5,.cells false [.slice (some ⟨io,0,none⟩) n1 1])]::[(io,.cells false s.vs)]::s.bs::[(i3,.cells false [.slice a1 n1 c1,.slice a2 n2 c2])]::own)
  (fun j s G=>s.vs.length=n1∧s.bs.length=j∧(∀k st,k<j→I[k]?=some st→∃id,s.vs[0+k*1]?=some (.slice (some ⟨id,0,none⟩) (st.map zLk).length 3)∧s.bs[k]?=some (id,.cells false (lkRow (st.map zLk))))∧∀k,j≤k→k<n1→s.vs[k]?=some (.slice none 0 0)) n1 ⟨List.replicate n1 (.slice none 0 0),[]⟩
  Z Z Z Z Z Z Z Z Z zo rfl rfl (fun _=>rfl) (fun _=>rfl) sM (OwnLe.flat (List.Perm.refl _)) ⟨by simp,rfl,fun k st hk=>absurd hk (Nat.not_lt_zero _),fun k _ hk=>by rw[List.getElem?_replicate,if_pos hk]⟩ ?_ ?_
 ·intro j s F1 hF1 hj hP;obtain⟨hvl,hbl,hold,hrest⟩:=hP;have hI1:=hI.mono hF1;refine zC4 ?_;refine WT.idxL hT hI1 Z Z Z Z Z Z Z Z Z zo (fun st hsj b1 off1 ro1 cs1 lx1 hb1 hp1 hrel1=>?_);obtain⟨sa,sn,sc,rfl,hst⟩:=hrel1;have hsl:=hst.len;have hs1:=(hPI j st hsj).1;have hst0:=hne j st hsj;have hjn:=hrest j (Nat.le_refl _) hj;refine zC4 ?_
  refine AW.range (S:=P2S) (fun _=>[]) (fun u=>u.B::[(i5,.cells false [.slice (some ⟨io,0,none⟩) n1 1])]::[(io,.cells false u.vs)]::s.bs::[(i3,.cells false [.slice a1 n1 c1,.slice a2 n2 c2])]::own) (fun k u G=>Bld tLook G u.a u.m u.c u.B ((st.take k).map zLk)∧u.vs=s.vs.set (0+j*1) (.slice u.a u.m u.c)) sn ⟨s.vs,none,0,0,[]⟩
   Z Z Z Z Z Z Z Z Z zo rfl rfl (fun _=>rfl) (fun _=>rfl) sM (OwnLe.flat (List.Perm.refl _)) ⟨Bld.nil_ _ _,?_⟩ ?_ ?_
  ·apply List.ext_getElem?;intro i;by_cases e:i=j
   ·subst e;rw[Nat.zero_add,Nat.mul_one,List.getElem?_set_self zo,hjn]
   ·rw[Nat.zero_add,Nat.mul_one,List.getElem?_set_ne (fun e2=>e e2.symm)]
  ·intro k u F2 hF2 hk hP;obtain⟨hub,huv⟩:=hP;have hst2:=hst.mono hF2;have hubl:=hub.len;rw[List.length_map,List.length_take] at hubl;have hvs1:u.vs[0+j*1]?=some (.slice u.a u.m u.c):=by rw[huv,List.getElem?_set_self zo]
   have huvl:u.vs.length=n1:=by rw[huv,List.length_set];exact hvl
   refine zC4 ?_;refine WT.idxL hT hst2 Z Z Z Z Z Z Z Z Z zo (fun x hxk b5 off5 ro5 cs5 lx5 hb5 hp5 hrel5=>?_);obtain rfl:lx5=_:=hrel5;have htk2:st.take (k+1)=st.take k++[x]:=by rw[List.take_add_one,hxk];rfl
   refine zC4 ?_;refine WT.allocT hT Z Z Z Z Z Z (fun i9 hi9=>?_);refine zC4 ?_;refine AW.draw (ps:=[(0,8),(0,9),(2,8),(5,8)]) Z Z ?_;refine zC4 ?_;refine WT.idxA (j:=j) (s:=1) hT Z Z Z Z Z Z Z Z Z hj ?_;refine WT.loadAt hT 3 Z Z Z Z Z Z me Z Z hvs1 ?_;refine zC4 ?_;refine WT.buildT hT Z Z Z Z Z Z Z Z Z Z Z Z Z Z (fun i33 hi33=>?_);refine WT.appendT (R:=tLook) (ys:=[zLk x]) hT 2 hub Z (fun _=>rfl) Z Z Z Z Z Z Z Z Z Z Z (fun h0 s0=>news_own hT s0 0 Z Z Z Z) (Cells.single (R:=tLook) (x:=zLk x) rfl) Z (by decide) zom (fun a3 c3 B3 hB3=>?_);refine WT.idxA (j:=j) (s:=1) hT Z Z Z Z Z Z Z Z Z hj ?_
   refine WT.storeAt hT 4 0 Z Z Z Z Z Z Z Z Z Z zo Z Z ?_;refine zC4 ?_;refine⟨zrC,?_⟩;refine⟨⟨u.vs.set (0+j*1) (.slice a3 (u.m+1) c3),a3,u.m+1,c3,B3⟩,sM,zow,?_,?_⟩
   ·dsimp only;rw[htk2,List.map_append];exact hB3
   ·dsimp only;rw[huv,List.set_set]
  ·intro u F2 hF2 hP;obtain⟨hub,huv⟩:=hP;rw[List.take_of_length_le zo] at hub;have hubl:=hub.len;rw[List.length_map] at hubl
   obtain⟨id,cs,hia,hic,hiB,hcells,_⟩:=hub.at_.resolve_left (fun h=>by
    have:=h.1;rw[List.map_eq_nil_iff] at this;exact hst0 this)
   obtain rfl:=cells_look hcells;have hic:u.c=3:=hic;refine⟨⟨u.vs,s.bs++[(id,.cells false (lkRow (st.map zLk)))]⟩,sM,?_,by dsimp only;rw[huv,List.length_set];exact hvl,by simp[hbl],fun k st' hk hst'=>?_,fun k h1 h2=>?_⟩
   ·refine OwnLe.flat ?_;rw[hiB];simp only[List.flatten_cons,List.singleton_append];have:=perm_to_end (id,Blk.cells false (lkRow (st.map zLk))) [(i5,.cells false [.slice (some ⟨io,0,none⟩) n1 1]),(io,.cells false u.vs)] s.bs ((i3,.cells false [.slice a1 n1 c1,.slice a2 n2 c2])::own.flatten);simpa using this
   ·dsimp only;rcases Nat.lt_or_ge k j with h6 | h6
    ·obtain⟨id2,e1,e2⟩:=hold k st' h6 hst';refine⟨id2,?_,by rw[List.getElem?_append_left zo];exact e2⟩;rw[huv,List.getElem?_set_ne zo];exact e1
    ·obtain rfl:k=j:=by omega
     rw[hsj] at hst';obtain rfl:=Option.some.inj hst';refine⟨id,?_,by rw[List.getElem?_append_right zo,hbl,Nat.sub_self];rfl⟩;rw[huv,List.getElem?_set_self zo,hia,hic,List.length_map,←hubl]
   ·dsimp only;rw[huv,List.getElem?_set_ne zo];exact hrest k zo h2
 ·intro s F1 hF1 hP;obtain⟨hvl,hbl,hold,_⟩:=hP;generalize hL0:(I.map fun st=>st.map zLk)=L0;have hLT:LT s.vs s.bs L0:=by
   rw[←hL0];refine⟨by simp;omega,by simp;omega,fun k l hl=>?_⟩;rw[List.getElem?_map] at hl;cases hk:I[k]? with
   | none=>rw[hk] at hl;cases hl
   | some st=>
    rw[hk] at hl;obtain rfl:=Option.some.inj hl;exact hold k st (by have:=(gS hk).1;omega) hk
  have hz:LaI g I rows L0∧∀s,ZeroA L0 s:=by rw[←hL0];exact LaI.zero (g:=g) (I:=I) (rows:=rows) trivial
  have hL0l:L0.length=I.length:=by rw[←hL0];simp
  have hL0r:∀l∈L0,l.length≤1000:=fun l hl=>by
   rw[←hL0] at hl;obtain⟨st,h5,rfl⟩:=List.mem_map.1 hl;obtain⟨k,hk⟩:=List.getElem?_of_mem h5;rw[List.length_map];exact(hPI k st hk).1
  obtain⟨row0,hrow0⟩:∃row,L0[0]?=some row:=⟨_,gE zo⟩;obtain⟨hi0,hK0⟩:=KI.begin hg hau hz.1 hz.2 hrow0;have hM1:=hM.mono hF1;have h11:=hF1 _ _ h1;have hrm:=roomT_le hL0r;clear hold;refine AW.le (own2:=((i5,.cells false [.slice (some ⟨io,0,none⟩) n1 1])::(io,.cells false s.vs)::s.bs)::[(i3,.cells false [.slice a1 n1 c1,.slice a2 n2 c2])]::own) (OwnLe.flat (List.Perm.refl _)) ?_;refine zC4 ?_;refine WT.callF0 Tryz.func97 Z Z Z Z Z Z (startK_spec F1 g hg hM1) (fun F2 v hF2 hv=>?_);obtain⟨fa,fn,fc,rfl,hfk⟩:=hv;have hfl:=hfk.len;have hil:(firstK g).length=row0.length:=by
   have:=congrArg List.length hi0;unfold itemsK at this;rw[List.length_map,List.length_map] at this;exact this.symm
  have hr0l:=hL0r row0 (gM hrow0);have small:∀{L:List (List Look)},LaI g I rows L→∀{k:Nat} {row:List Look},L[k]?=some row→∀x∈row,x.set<512:=fun h k row hk x hx=>Nat.lt_of_lt_of_le (h.small _ (gM hk) x hx) hp;have smallK:∀{l:List Look},∀x∈closeK g l,x.set<512:=fun x hx=>Nat.lt_of_lt_of_le (closeK_small x hx) hp;refine WT.callC1F 0 Tryz.func154 Z Z Z Z Z Z Z Z Z (fun _=>rfl) ((merge_spec F2 (i:=0) hLT zo hrow0 hfk zo zo (fun x hx=>small hz.1 hrow0 x hx) smallK).mono fun F' v o _ h=>h) (fun F3 v B3 hF3 hv=>?_);obtain⟨⟨bs3,rfl,hLT3⟩,rfl⟩:=hv;refine zC4 ?_
  refine WT.buildT hT Z Z Z Z Z Z Z Z Z Z Z Z Z Z (fun iw hiw=>?_);refine zC4 ?_;refine AW.block ?_;refine AW.loopR (S:=LwS) (fun w=>[(11,.slice w.a w.m w.c)]) (fun w=>w.B::((i5,.cells false [.slice (some ⟨io,0,none⟩) n1 1])::(io,.cells false s.vs)::w.bs)::[(i3,.cells false [.slice a1 n1 c1,.slice a2 n2 c2])]::own)
   (fun w G=>GB tInt G w.a w.m w.c w.B (w.W.map iNat)∧LT s.vs w.bs w.L∧KI g I rows w.L w.W∧w.W.length+roomT w.L≤300000000) (fun w=>w.W.length+roomT w.L) ⟨L0.set 0 (mergeL row0 (firstK g)),bs3,[0],some ⟨iw,0,none⟩,1,1,[(iw,.cells false [.int .i64 0])]⟩
   sM oR ⟨Bld.gb ⟨rfl,.inr ⟨iw,_,rfl,rfl,rfl,Cells.single (R:=tInt) (x:=0) rfl,by decide⟩⟩,hLT3,hK0,?_⟩ ?_
  ·have e1:=roomT_set (row':=mergeL row0 (firstK g)) hrow0;have e2:=(mergeL_room (row:=row0) (l:=firstK g) (fun x hx=>small hz.1 hrow0 x hx) (fun x hx=>small hK0.la (List.getElem?_set_self zo) x hx)).1;have e3:L0.length*(1000*512)≤400*(1000*512):=Nat.mul_le_mul_right _ zo;show 1+roomT (L0.set 0 (mergeL row0 (firstK g)))≤_;omega
  intro w F4 hF4 hP;obtain⟨hgb,hwT,hK,hmu⟩:=hP;have hgl:=hgb.len;rw[List.length_map] at hgl;have hM4:=((hM1.mono hF2).mono hF3).mono hF4;have h14:=hF4 _ _ (hF3 _ _ (hF2 _ _ h11));have hRw4:=(((hRw.mono hF1).mono hF2).mono hF3).mono hF4;refine zC4 ?_;refine AW.cond Z (fun h=>?_) (fun h=>?_)
  ·have h:0<w.m:=by simp at h;omega
   obtain⟨W0,i,hW⟩:∃W0 i,w.W=W0++[i]:=by
    rcases List.eq_nil_or_concat w.W with e | ⟨W0,i,e⟩
    ·rw[e] at hgl;simp at hgl;omega
    ·exact⟨W0,i,by rw[e,List.concat_eq_append]⟩
   have hWl:W0.length=w.m-1:=by rw[hgl,hW];simp
   have hget:(w.W.map iNat)[w.m-1]?=some (iNat i):=by rw[hW,List.map_append,List.getElem?_append_right (by simp;omega),List.length_map,hWl,Nat.sub_self];rfl
   have htake:(w.W.map iNat).take (w.m-1)=W0.map iNat:=by rw[hW,List.map_append,List.take_left' (by simp;omega)]
   rw[hW] at hK;have hJ0:=hK.pop;have hiI:i<I.length:=(hK.wok i (List.mem_append_right _ (List.mem_singleton_self _))).1;refine zC4 ?_;refine AW.block ?_;refine zC4 ?_;refine WT.gidx hT hgb Z Z Z Z Z Z Z Z Z zo (fun b1 hb1=>?_);refine WT.gld1 (x:=iNat i) hT 0 hgb hb1 hget Z Z Z Z Z Z (fun z hz=>hz) Z Z Z (fun v hv=>?_);obtain rfl:v=_:=(List.singleton_inj.1 hv);refine zC4 ?_;refine WT.sliceG hT hgb Z Z Z Z Z Z Z Z Z (show w.m-1≤w.m by omega) ?_;have hgb2:=hgb.take (show w.m-1≤w.m by omega);rw[htake] at hgb2;refine zC4 ?_;have hsy:=symbols_spec F4 g hg (a:=a) (m:=m) (c:=c)
   unfold gramCells at hsy;refine WT.callF0 Tryz.func146 Z Z Z Z Z Z hsy (fun F5 v hF5 hv=>?_);obtain⟨ya,yn,yc,rfl,hys⟩:=hv;have hyl:=hys.len;rw[symsL_len] at hyl;refine zC4 ?_;refine AW.range (S:=LwS) (fun w=>[(11,.slice w.a w.m w.c)]) (fun w=>w.B::((i5,.cells false [.slice (some ⟨io,0,none⟩) n1 1])::(io,.cells false s.vs)::w.bs)::[(i3,.cells false [.slice a1 n1 c1,.slice a2 n2 c2])]::own)
    (fun k u G=>GB tInt G u.a u.m u.c u.B (u.W.map iNat)∧LT s.vs u.bs u.L∧JI g I rows i k u.L u.W∧u.W.length+roomT u.L+1≤w.W.length+roomT w.L) yn ⟨w.L,w.bs,W0,w.a,w.m-1,w.c,w.B⟩
    Z Z Z Z Z Z Z Z Z zo rfl rfl (fun _=>rfl) (fun _=>rfl) sM oR ⟨hgb2.mono hF5,hwT,hJ0,by dsimp only;omega⟩ ?_ ?_
   ·intro k u F6 hF6 hk hP;obtain⟨hug,huT,huJ,humu⟩:=hP;have hul:=hug.len;rw[List.length_map] at hul;have hys6:=hys.mono hF6;have hRw6:=(hRw4.mono hF5).mono hF6;have hM6:=(hM4.mono hF5).mono hF6;have huL:u.L.length=I.length:=by rw[←huJ.la.items,List.length_map]
    refine zC4 ?_;refine WT.idxL hT hys6 Z Z Z Z Z Z Z Z Z (by rw[symsL_len];omega) (fun y hyk b5 off5 ro5 cs5 lx5 hb5 hp5 hrel5=>?_);obtain rfl:lx5=_:=hrel5;refine zC4 ?_;refine WT.allocT hT Z Z Z Z Z Z (fun i14 hi14=>?_);refine zC4 ?_;refine WT.idxL hT hRw6 Z Z Z Z Z Z Z Z Z zo (fun rw1 hrw1 b6 off6 ro6 cs6 lx6 hb6 hp6 hrel6=>?_);obtain⟨wa,wn,wc,rfl,hwa⟩:=hrel6;have hwl:=hwa.len;have hsti:=gE hiI;have hrowl:=hA.row i _ rw1 hsti hrw1;refine zC4 ?_;refine WT.idxL hT hwa Z Z Z Z Z Z Z Z Z zo (fun j hjk b7 off7 ro7 cs7 lx7 hb7 hp7 hrel7=>?_);obtain rfl:lx7=_:=hrel7;have hgo:=goR_at hyk hrw1 hjk
    refine zC4 ?_;refine AW.cond Z (fun h6=>?_) (fun h6=>?_)
    ·have h6:0≤j:=by simpa using h6
     obtain⟨to,rfl⟩:=Int.eq_ofNat_of_zero_le h6;rw[if_pos h6] at hgo;have hgo:goR g rows i y=some to:=hgo;obtain⟨st,hst⟩:∃st,u.L[i]?=some st:=⟨_,gE zo⟩;have hstI:I[i]?=some (itemsK st):=by rw[←huJ.la.items,List.getElem?_map,hst];rfl
     obtain⟨_,st',g1,g2,g3,_⟩:=hA.goes hg hgo;rw[hstI] at g1;obtain rfl:=Option.some.inj g1;have htoI:=(gS g2).1;obtain⟨row,hrow⟩:∃row,u.L[to]?=some row:=⟨_,gE zo⟩;have hknn:kernK g st y≠[]:=fun e=>g3 (kernK_nil.1 e);have hsl:st.length≤1000:=by have:=(hPI i _ hstI).1;unfold itemsK at this;rw[List.length_map] at this;exact this
     have hrowl2:row.length≤1000:=by
      have e:I[to]?=some (itemsK row):=by rw[←huJ.la.items,List.getElem?_map,hrow];rfl
      have:=(hPI to _ e).1;unfold itemsK at this;rw[List.length_map] at this;exact this
     have hok:∀x∈st,OkLr g x.item∧x.set<2 ^ (g.terms+1):=fun x hx=>⟨hA.ok i _ hstI _ (List.mem_map.2 ⟨x,hx,rfl⟩),huJ.la.small st (gM hst) x hx⟩;obtain⟨id,hvs,hbs⟩:=huT.at_ i st hst;obtain⟨hitm,hJ1⟩:=huJ.step hg hau hyk hgo hst hrow rfl;have hclen:(closeK g (kernK g st y)).length=row.length:=by
      have:=congrArg List.length hitm;unfold itemsK at this;rw[List.length_map,List.length_map] at this;exact this.symm
     obtain⟨yt,yv⟩:=y;refine zC4 ?_;refine WT.idxA (j:=i) (s:=1) hT Z Z Z Z Z Z Z Z Z zo ?_;refine WT.loadAt hT 2 Z Z Z Z Z Z (List.mem_cons_of_mem _ me) Z Z hvs ?_;refine zC4 ?_;refine WT.call1F 2 Tryz.func99 Z Z Z Z Z Z Z (fun _=>rfl) (afterO_spec F6 g hg hM6 (id:=id) (n:=st.length) (st:=st) (List.mem_cons_of_mem _ (List.mem_cons_of_mem _ (gM hbs))) Z hsl hok ⟨yt,yv⟩) (fun F7 v B7 hF7 hv=>?_);obtain⟨rfl,a',n',c',z,s',rfl,hs',hnx⟩:=hv;unfold nextK at hnx;rw[if_neg hknn] at hnx;have hz1:z=true:=by
      cases z with
      | true=>rfl
      | false=>cases hnx
     subst hz1;obtain rfl:=Option.some.inj hnx;have hs'l:=hs'.len;refine zC4 ?_;refine WT.callC1F 2 Tryz.func154 Z Z Z Z Z Z Z Z Z (fun _=>rfl) ((merge_spec F7 (i:=to) huT zo hrow hs' zo zo (fun x hx=>small huJ.la hrow x hx) smallK).mono fun F' v o _ h=>h) (fun F8 v B8 hF8 hv=>?_);obtain⟨⟨bs8,rfl,hLT8⟩,rfl⟩:=hv;have e1:=roomT_set (row':=mergeL row (closeK g (kernK g st ⟨yt,yv⟩))) hrow;have e2:=mergeL_room (row:=row) (l:=closeK g (kernK g st ⟨yt,yv⟩)) (fun x hx=>small huJ.la hrow x hx) (fun x hx=>small hJ1.la (List.getElem?_set_self zo) x hx);refine zC4 ?_
     refine AW.cond Z (fun hc=>?_) (fun hc=>?_)
     ·have hc:mergeL row (closeK g (kernK g st ⟨yt,yv⟩))≠row:=of_decide_eq_true hc;have hlt:=e2.2 hc;rw[if_pos hc] at hJ1;have hug8:=(hug.mono hF7).mono hF8;refine zC4 ?_;refine WT.buildT hT Z Z Z Z Z Z Z Z Z Z Z Z Z Z (fun i33 hi33=>?_);refine WT.appendG (R:=tInt) (ys:=[iNat to]) hT 2 hug8 Z (fun _=>rfl) Z Z Z Z Z Z Z Z Z Z Z (fun h0 s0=>news_own hT s0 0 Z Z Z Z) (Cells.single (R:=tInt) (x:=iNat to) rfl) Z (by decide) zom (fun a3 c3 B3 hB3=>?_);refine zC4 ?_;refine⟨⟨u.L.set to (mergeL row (closeK g (kernK g st ⟨yt,yv⟩))),bs8,u.W++[to],a3,u.m+1,c3,B3⟩,sM,zow,?_,hLT8,hJ1,?_⟩
      ·dsimp only;rw[List.map_append];exact hB3.gb
      ·dsimp only;rw[List.length_append,List.length_singleton];omega
     ·have hc:mergeL row (closeK g (kernK g st ⟨yt,yv⟩))=row:=by simpa using hc
      rw[if_neg (fun h=>h hc)] at hJ1;refine zC4 ?_;refine⟨⟨u.L.set to (mergeL row (closeK g (kernK g st ⟨yt,yv⟩))),bs8,u.W,u.a,u.m,u.c,u.B⟩,sM,zow,(hug.mono hF7).mono hF8,hLT8,hJ1,?_⟩;dsimp only;have:=e2.1;omega
    ·have h6:¬0≤j:=by simpa using h6
     rw[if_neg h6] at hgo;refine zC4 ?_;exact⟨u,sM,zow,hug,huT,huJ.skip hyk hgo,humu⟩
   ·intro u F6 hF6 hP;obtain⟨hug,huT,huJ,humu⟩:=hP;exact⟨u,by omega,sM,zow,hug,huT,huJ.fin (by rw[symsL_len];omega),by omega⟩
  ·have h:w.m=0:=by simp at h;omega
   have hW:w.W=[]:=List.length_eq_zero_iff.1 zo;rw[hW] at hK;have hL:=hK.done hg hau;refine AW.exit ?_;refine AW.freezeAll 1 Z Z (fun F5 hF5 hB5=>?_);have h5:=hB5 i5 _ me;refine zC4 ?_;have hwl:w.L.length=I.length:=by rw[←hK.la.items,List.length_map]
   have hres:=hwT.arr (n:=n1) (F:=F5) (ro:=false) zo zo (hB5 io _ (by simp)) (fun i b hm=>hB5 i b (by simp[hm]));rw[hL] at hres;exact AW.ret ⟨_,[],⟨_,_,rfl,rfl,rfl⟩,zsb,rfl,_,_,_,rfl,hres⟩
end Go.Proofs.D