/-
  From a contract over the abstract machine to a row of the seat: the table of the package variable, the arguments.
-/
import Derived.Test.YtcldmcmclejlhaaGreatDoorWk5
import Derived.Test.YtcldmcmclejlhaaGreatDoorCtx
import Derived.Test.YtcldmcmclejlhaaGreatDoorRows
import Derived.WalkKit
import Derived.ProofKit
import Derived.OpenShut
import Derived.LaidMore
import Derived.FnData
set_option linter.unusedVariables false
set_option maxRecDepth 100000
open Go Go.Abs Go.Proofs Go.Proofs.D
namespace Go.Proofs.D
open Go.ChangeShapes Go.WideShapes Go.RowKit Go.Proofs.YtcldmcmclejlhaaGreatDoor
def yu:List (String×DataW Unit):=Rows.topTablesRow.laid
def Nf:String:=(yu.map (·.1)).headD Rows.topTablesRow.spec
theorem Qk:Tryz.prog.globalNamed Nf=some 0:=by kernel_rfl
theorem Rf:(Tryz.prog.globals[0]?).map (·.type)=some 293:=by kernel_rfl
theorem Q9:Tryz.prog.cellsOf 5=1:=by kernel_rfl
theorem R0:Tryz.prog.cellsOf 3=1:=by kernel_rfl
theorem J1{H:Type}{enc:TypeId×Value->H}{P:Program}{w:World}{base:Nat}{U:Nat->Bool}{held:Bool}{n t e:Nat}{cs:List Value}{p:List MemPlace}{fuel:Nat}{k:IntKind}{l:List Nat}
  (ht:P.underlying t=some (.array n e)) (he:P.underlying e=some (.int k)) (hc:P.cellsOf e=1) (h:DataW.trod enc P w base U held fuel t cs=some (.agg (l.map λx:Nat=>DataW.lit (.int k (x:Int))),p)) :
  ∀(j:Nat) (v:Value),(l.map λx:Nat=>Value.int k (x:Int))[j]?=some v->cs[j]?=some v:=by
 obtain⟨xs,m,rfl,r,hlen,hn,C⟩:=DataW.trod_array ht h;simp only[Tk,DataW.agg.injEq] at r;intro j v i;rw[zy] at i;cases g:l[j]? with| none=>{rw[g] at i;cases i}| some x=>{rw[g] at i;simp only[Tq,sw] at i;subst i;have o:j<xs.length:=by{have h1:xs.length=l.length:=by{have:=congrArg List.length r.1;simpa using this.symm};rw[h1];exact(gS g).1};have J:=C j zo;rw[hc,Tp,gE o] at J;obtain⟨k2,e1,e2,_⟩:=DataW.trod_int he J;have I:(xs.map (·.1))[j]?=some (DataW.lit (.int k (x:Int))):=by{rw[<-r.1,zy,g];rfl};rw[zy,gE o,e2] at I;simp only[Tq,sw,DataW.lit.injEq,Lit.int.injEq,Vd] at I;have R:(List.take 1 (List.drop j cs))[0]?=some (Value.int k k2):=by{rw[e1];rfl};rw[Tv,n0 (by decide),Tu] at R;rw[<-I];simpa using R}
theorem KY{W:World}(h:laidMetH Tryz.prog yu W):∀(j:Nat) (v:Value),(yC.map λx:Nat=>Value.int .u8 (x:Int))[j]?=some v->W.cell? ⟨0,0+j,none⟩=some v:=by
 rw[MakeChecks.laidMetH_plain _ _ _ (by kernel_rfl)] at h;obtain⟨ps,⟨g0,t0,r,f0,C,I,g,i,o,p,_,_⟩,_,_⟩:=h;obtain rfl:=aE (Qk.symm.trans g);obtain rfl:=aE (Rf.symm.trans i);intro j v t;rw[AI,World.var?_cell Qk o j];have:=J1 (l:=yC) Tryz.underlying293 Tryz.underlying5 Q9 p j v t;simpa using this
theorem Kl(ok:CC.Ok Tryz.prog)(ab:eE CC Tryz.prog){f:FuncId}{ts:List TypeId}{W:World}{base:Nat}{H:Type}{enc:TypeId×Value->H}{vs:List Value}{ds:List (DataW H)}{ps:List MemPlace}
  (r:laidMetH Tryz.prog yu W) (hA:DataW.TrodAll enc Tryz.prog W 0 (λ_=>true) true ts vs ds ps)
  (ad:∀(j:Nat) (t:TypeId) (v:Value),ts[j]?=some t->vs[j]?=some v->Value.okWide Tryz.prog W .any base t v) (ae:∀t∈ts,t=3\/t=22)
  (spec:∀F aa,Laid F->DY 3 F ts aa->Abs.Spec CC f aa F [] λ_ v o=>o=[]/\v=.bool true) :
  (Calls Tryz.prog f ⟨vs⟩ W λe w'=>e=.returned (.bool true)/\Below W.heap.size W w')/\
   (∀W',Below W.heap.size W W'->∀sp:Nat->Bool,(∀p∈ps,sp p.block=true)->DataW.TrodAll enc Tryz.prog W' 0 sp true ts vs ds ps):=by
 obtain⟨aa,blks,locs,h1,h2,h3,h4,h5,h6⟩:=Fm Tryz.underlying3 Tryz.underlying22 R0 (by decide) ts vs ds ps CC.cA hA ad ae;refine⟨?_,h6⟩;obtain⟨l0,ag,al,_,an⟩:=Fg (W:=W) (b:=0) (off:=0) (cs:=yC.map λx:Nat=>Value.int .u8 (x:Int)) (by decide) (KY r) (by decide +kernel);let C:List (Nat×Abs.Loc):=(0,l0)::(List.range CC.cA).map λg=>(g,⟨g,0,0⟩);have ao:∀i,i<CC.cA->∃l,dI C i=some l/\l.bQ=i/\l.off=0:=by{intro i hi;have P:∀(L:List Nat),i∈L->dI (L.map λg=>(g,(⟨g,0,0⟩:Abs.Loc))) i=some ⟨i,0,0⟩:=by{intro L;induction L with| nil=>{intro h;cases h}| cons a L ih=>{intro h;simp only[y2,dI];by_cases J:a=i;{subst J;simp};{rw[nw J];rcases PJ.1 h with rfl | h;{exact absurd rfl J};{exact ih h}}}};by_cases R:0=i;{subst R;exact⟨l0,by simp[C,dI],ag,al⟩};{exact⟨⟨i,0,0⟩,by simp only[C,dI];rw[nw R];exact P _ (Tz.2 hi),rfl,rfl⟩}};have I:∀i,CC.cA<=i->dI C i=none:=by{intro i hi;have av:∀(L:List Nat),(∀a∈L,a<CC.cA)->dI (L.map λg=>(g,(⟨g,0,0⟩:Abs.Loc))) i=none:=by{intro L;induction L with| nil=>{intro _;rfl}| cons a L ih=>{intro h;have J:=h a me;simp only[y2,dI];rw[nw zo];exact ih λb hb=>h b (mb _ hb)}};have R:0<CC.cA:=by{decide};simp only[C,dI];rw[nw zo];exact av _ λa J=>Tz.1 J};have R:0<CC.cA:=by{decide};refine Bt ok ab (aa:=aa) (blks:=(0,.cells true (yC.map λx:Nat=>Value.int .u8 (x:Int)))::blks) (locs:=C++locs) (nx:=CC.cA+ts.length) ?_ ?_ ?_ ?_ ?_ ?_;{intro p hp;rcases PJ.1 hp with rfl | hp;{refine⟨by decide +kernel,by simp only;omega,l0,?_,an⟩;rw[k6];simp[C,dI]};{obtain⟨a,b,c,l,d,e⟩:=h1 p hp;refine⟨c,b,l,?_,e⟩;rw[k6,I _ a];exact d}};{simp only[y2,TJ];refine⟨λhm=>?_,h3⟩;obtain⟨p,hp,e⟩:=x6.1 hm;have:=(h1 p hp).1;omega};{intro g hg;obtain⟨l,a,b,c⟩:=ao g hg;exact⟨l,by rw[k6,a],b,c⟩};{intro i hi;rw[k6,I i zo];cases U:dI locs i with| none=>{rfl}| some l=>{have:=h2 i l U;simp only;omega}};{refine h4 _ λi l U=>?_;rw[k6,I i (h2 i l U).1];exact U};{intro F hF;refine spec F aa (λp hp=>?_) (h5 F λp hp=>hF p (mb _ hp));simp only[fA,PJ,V5,or_false] at hp;subst hp;exact hF _ me}
end Go.Proofs.D