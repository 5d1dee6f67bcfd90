/-
  From a contract over the abstract machine to a row of the seat: the table of the package variable, the arguments.
-/
import Derived.Test.YtmbdmfjijofmmaaGreatDoorWk7
import Derived.Test.YtmbdmfjijofmmaaGreatDoorCtx
import Derived.Test.YtmbdmfjijofmmaaGreatDoorRows
import Derived.WalkKit
import Derived.ProofKit
import Derived.OpenShut
import Derived.LaidMore
import Derived.FnData
set_option linter.unusedVariables false
set_option maxRecDepth 100000
open Go Go.Abs Go.Proofs Go.Proofs.D
namespace Go.Proofs.D
open Go.ChangeShapes Go.WideShapes Go.RowKit Go.Proofs.YtmbdmfjijofmmaaGreatDoor
def wX:List (String×DataW Unit):=Rows.clashNoneRow.laid
def MR:String:=(wX.map (·.1)).headD Rows.clashNoneRow.spec
theorem PJ:Tryz.prog.globalNamed MR=some 0:=by kernel_rfl
theorem Qp:(Tryz.prog.globals[0]?).map (·.type)=some 343:=by kernel_rfl
theorem Qk:Tryz.prog.cellsOf 5=1:=by kernel_rfl
theorem QR:Tryz.prog.cellsOf 3=1:=by kernel_rfl
theorem I7{H:Type}{enc:TypeId×Value->H}{P:Program}{w:World}{base:Nat}{R:Nat->Bool}{held:Bool}{n t e:Nat}{cs:List Value}{p:List MemPlace}{fuel:Nat}{k:IntKind}{l:List Nat}
  (U:P.underlying t=some (.array n e)) (he:P.underlying e=some (.int k)) (hc:P.cellsOf e=1) (h:DataW.trod enc P w base R held fuel t cs=some (.agg (l.map λx:Nat=>DataW.lit (.int k (x:Int))),p)) :
  ∀(j:Nat) (v:Value),(l.map λx:Nat=>Value.int k (x:Int))[j]?=some v->cs[j]?=some v:=by obtain⟨xs,m,rfl,o,hlen,hn,r⟩:=DataW.trod_array U h;simp only[R7,DataW.agg.injEq] at o;intro j v g;rw[zm] at g;cases f:l[j]? with|none=>{rw[f] at g;cases g}|some x=>{rw[f] at g;simp only[Si,pr] at g;subst g;have i:j<xs.length:=by{have h1:xs.length=l.length:=by{have:=congrArg List.length o.1;simpa using this.symm};rw[h1];exact(gS f).1};have I:=r j zo;rw[hc,R9,gE i] at I;obtain⟨k2,e1,e2,_⟩:=DataW.trod_int he I;have C:(xs.map (·.1))[j]?=some (DataW.lit (.int k (x:Int))):=by{rw[<-o.1,zm,f];rfl};rw[zm,gE i,e2] at C;simp only[Si,pr,DataW.lit.injEq,Lit.int.injEq,Uk] at C;have J:(List.take 1 (List.drop j cs))[0]?=some (Value.int k k2):=by{rw[e1];rfl};rw[Sg,nw (by decide),Sj] at J;rw[<-C];simpa using J}
theorem Kc{W:World}(h:laidMetH Tryz.prog wX W):∀(j:Nat) (v:Value),(u0.map λx:Nat=>Value.int .u8 (x:Int))[j]?=some v->W.cell? ⟨0,0+j,none⟩=some v:=by rw[MakeChecks.laidMetH_plain _ _ _ (by kernel_rfl)] at h;obtain⟨ps,⟨C,t0,r,f0,I,J,g,i,o,p,_,_⟩,_,_⟩:=h;obtain rfl:=mm (PJ.symm.trans g);obtain rfl:=mm (Qp.symm.trans i);intro j v t;rw[yo,World.var?_cell PJ o j];have:=I7 (l:=u0) Tryz.underlying343 Tryz.underlying5 Qk p j v t;simpa using this
theorem Jx(ok:CC.Ok Tryz.prog)(ab:lf CC Tryz.prog){f:FuncId}{ts:List TypeId}{W:World}{base:Nat}{H:Type}{enc:TypeId×Value->H}{vs:List Value}{ds:List (DataW H)}{ps:List MemPlace}
  (r:laidMetH Tryz.prog wX W) (hA:DataW.TrodAll enc Tryz.prog W 0 (λ_=>true) true ts vs ds ps)
  (ad:∀(j:Nat) (t:TypeId) (v:Value),ts[j]?=some t->vs[j]?=some v->Value.okWide Tryz.prog W .any base t v) (ae:∀t∈ts,t=3\/t=22)
  (spec:∀F aa,Laid F->CN 3 F ts aa->Abs.Spec CC f aa F [] λ_ v o=>o=[]/\v=.bool true) :
  (Calls Tryz.prog f ⟨vs⟩ W λe w'=>e=.returned (.bool true)/\Below W.heap.size W w')/\
   (∀W',Below W.heap.size W W'->∀sp:Nat->Bool,(∀p∈ps,sp p.block=true)->DataW.TrodAll enc Tryz.prog W' 0 sp true ts vs ds ps):=by obtain⟨aa,blks,locs,h1,h2,h3,h4,h5,h6⟩:=Ec Tryz.underlying3 Tryz.underlying22 QR (by decide) ts vs ds ps CC.cM hA ad ae;refine⟨?_,h6⟩;obtain⟨l0,ag,al,_,an⟩:=D9 (W:=W) (b:=0) (off:=0) (cs:=u0.map λx:Nat=>Value.int .u8 (x:Int)) (by decide) (Kc r) (by decide +kernel);let C:List (Nat×Abs.Loc):=(0,l0)::(List.range CC.cM).map λg=>(g,⟨g,0,0⟩);have ao:∀i,i<CC.cM->∃l,dA C i=some l/\l.cf=i/\l.off=0:=by{intro i hi;have P:∀(L:List Nat),i∈L->dA (L.map λg=>(g,(⟨g,0,0⟩:Abs.Loc))) i=some ⟨i,0,0⟩:=by{intro L;induction L with|nil=>{intro h;cases h}|cons a L ih=>{intro h;simp only[y2,dA];by_cases J:a=i;{subst J;simp};{rw[mb J];rcases IN.1 h with rfl | h;{exact absurd rfl J};{exact ih h}}}};by_cases R:0=i;{subst R;exact⟨l0,by simp[C,dA],ag,al⟩};{exact⟨⟨i,0,0⟩,by simp only[C,dA];rw[mb R];exact P _ (Sr.2 hi),rfl,rfl⟩}};have I:∀i,CC.cM<=i->dA C i=none:=by{intro i hi;have ar:∀(L:List Nat),(∀a∈L,a<CC.cM)->dA (L.map λg=>(g,(⟨g,0,0⟩:Abs.Loc))) i=none:=by{intro L;induction L with|nil=>{intro _;rfl}|cons a L ih=>{intro h;have J:=h a me;simp only[y2,dA];rw[mb zo];exact ih λb hb=>h b (ma _ hb)}};have R:0<CC.cM:=by{decide};simp only[C,dA];rw[mb zo];exact ar _ λa J=>Sr.1 J};have R:0<CC.cM:=by{decide};refine Ah ok ab (aa:=aa) (blks:=(0,.cells true (u0.map λx:Nat=>Value.int .u8 (x:Int)))::blks) (locs:=C++locs) (nx:=CC.cM+ts.length) ?_ ?_ ?_ ?_ ?_ ?_;{intro p hp;rcases IN.1 hp with rfl | hp;{refine⟨by decide +kernel,by simp only;omega,l0,?_,an⟩;rw[kx];simp[C,dA]};{obtain⟨a,b,c,l,d,e⟩:=h1 p hp;refine⟨c,b,l,?_,e⟩;rw[kx,I _ a];exact d}};{simp only[y2,Ss];refine⟨λhm=>?_,h3⟩;obtain⟨p,hp,e⟩:=tx.1 hm;have:=(h1 p hp).1;omega};{intro g hg;obtain⟨l,a,b,c⟩:=ao g hg;exact⟨l,by rw[kx,a],b,c⟩};{intro i hi;rw[kx,I i zo];cases U:dA locs i with|none=>rfl|some l=>{have:=h2 i l U;simp only;omega}};{refine h4 _ λi l U=>?_;rw[kx,I i (h2 i l U).1];exact U};{intro F hF;refine spec F aa (λp hp=>?_) (h5 F λp hp=>hF p (ma _ hp));simp only[eN,IN,List.not_mem_nil,or_false] at hp;subst hp;exact hF _ me}
end Go.Proofs.D