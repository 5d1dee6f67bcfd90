/-
  From a contract over the abstract machine to a row of the seat: the table of the package variable, the arguments.
-/
import Derived.Test.YtmbdmfjijofmmaaGreatDoorPWk6
import Derived.Test.YtmbdmfjijofmmaaGreatDoorPCtx
import Derived.Test.YtmbdmfjijofmmaaGreatDoorRows
import Derived.WalkKit
import Derived.ProofKit
import Derived.OpenShut
import Derived.LaidMore
import Derived.FnData
set_option linter.unusedVariables false
set_option maxRecDepth 100000
open Go Go.Abs Go.Proofs Go.Proofs.D
namespace Go.Proofs.D
open Go.ChangeShapes Go.WideShapes Go.RowKit Go.Proofs.YtmbdmfjijofmmaaGreatDoor
def vx:List (String×DataW Unit):=Rows.parsersSameRow.laid
def K2:String:=(vx.map (·.1)).headD Rows.parsersSameRow.spec
theorem OC:Tryz.prog.globalNamed K2=some 0:=by kernel_rfl
theorem PA:(Tryz.prog.globals[0]?).map (·.type)=some 343:=by kernel_rfl
theorem Pt:Tryz.prog.cellsOf 5=1:=by kernel_rfl
theorem Qi:Tryz.prog.cellsOf 3=1:=by kernel_rfl
theorem GQ{H:Type}{enc:TypeId×Value->H}{P:Program}{w:World}{base:Nat}{sp:Nat->Bool}{held:Bool}{n t e:Nat}{cs:List Value}{p:List MemPlace}{fuel:Nat}{k:IntKind}{l:List Nat}
  (ht:P.underlying t=some (.array n e)) (he:P.underlying e=some (.int k)) (hc:P.cellsOf e=1) (h:DataW.trod enc P w base sp held fuel t cs=some (.agg (l.map λx:Nat=>DataW.lit (.int k (x:Int))),p)) :
  ∀(j:Nat) (v:Value),(l.map λx:Nat=>Value.int k (x:Int))[j]?=some v->cs[j]?=some v:=by
 obtain⟨xs,m,rfl,hx,hlen,hn,hel⟩:=DataW.trod_array ht h;simp only[Sb,DataW.agg.injEq] at hx;intro j v hj;rw[RM] at hj;cases hlj:l[j]? with
 | none=>rw[hlj] at hj;cases hj
 | some x=>
  rw[hlj] at hj;simp only[Sp,IT] at hj;subst hj;have hjl:j<xs.length:=by
   have h1:xs.length=l.length:=by
    have:=congrArg List.length hx.1;simpa using this.symm
   rw[h1];exact(gS hlj).1
  have h0:=hel j zo;rw[hc,Sy,gE hjl] at h0;obtain⟨k2,e1,e2,_⟩:=DataW.trod_int he h0;have h3:(xs.map (·.1))[j]?=some (DataW.lit (.int k (x:Int))):=by rw[<-hx.1,RM,hlj];rfl
  rw[RM,gE hjl,e2] at h3;simp only[Sp,IT,DataW.lit.injEq,Lit.int.injEq,true_and] at h3;have h4:(List.take 1 (List.drop j cs))[0]?=some (Value.int k k2):=by rw[e1];rfl
  rw[Sg,By (by decide),Se] at h4;rw[<-h3];simpa using h4
theorem HQ{W:World}(h:laidMetH Tryz.prog vx W):∀(j:Nat) (v:Value),(vC.map λx:Nat=>Value.int .u8 (x:Int))[j]?=some v->W.cell? ⟨0,0+j,none⟩=some v:=by
 rw[MakeChecks.laidMetH_plain _ _ _ (by kernel_rfl)] at h;obtain⟨ps,⟨g0,t0,cs0,f0,p0,q0,hg0,ht0,hv0,hd0,_,_⟩,_,_⟩:=h;obtain rfl:=BY (OC.symm.trans hg0);obtain rfl:=BY (PA.symm.trans ht0);intro j v hj;rw[RY,World.var?_cell OC hv0 j];have:=GQ (l:=vC) Tryz.underlying343 Tryz.underlying5 Pt hd0 j v hj;simpa using this
theorem Hf(ok:CC.Ok Tryz.prog)(fok:bS CC Tryz.prog){f:FuncId}{ts:List TypeId}{W:World}{base:Nat}{H:Type}{enc:TypeId×Value->H}{vs:List Value}{ds:List (DataW H)}{ps:List MemPlace}
  (hlaid:laidMetH Tryz.prog vx W) (hA:DataW.TrodAll enc Tryz.prog W 0 (λ_=>true) true ts vs ds ps)
  (hok:∀(j:Nat) (t:TypeId) (v:Value),ts[j]?=some t->vs[j]?=some v->Value.okWide Tryz.prog W .any base t v) (hts:∀t∈ts,t=3\/t=22)
  (spec:∀F aa,Laid F->AQ 3 F ts aa->cJ CC Tryz.prog f aa F [] λ_ v o=>o=[]/\v=.bool true) :
  (Calls Tryz.prog f ⟨vs⟩ W λe w'=>e=.returned (.bool true)/\Below W.heap.size W w')/\
   (∀W',Below W.heap.size W W'->∀sp:Nat->Bool,(∀p∈ps,sp p.block=true)->DataW.TrodAll enc Tryz.prog W' 0 sp true ts vs ds ps):=by
 obtain⟨aa,blks,locs,h1,h2,h3,h4,h5,h6⟩:=Cg Tryz.underlying3 Tryz.underlying22 Qi (by decide) ts vs ds ps CC.cK hA hok hts;refine⟨?_,h6⟩;obtain⟨l0,hl1,hl2,_,hl4⟩:=Ce (W:=W) (b:=0) (off:=0) (cs:=vC.map λx:Nat=>Value.int .u8 (x:Int)) (by decide) (HQ hlaid) (by decide +kernel);let gl:List (Nat×Abs.Loc):=(0,l0)::(List.range CC.cK).map λg=>(g,⟨g,0,0⟩);have hgl:∀i,i<CC.cK->∃l,dc gl i=some l/\l.bu=i/\l.off=0:=by
  intro i hi;have hmem:∀(L:List Nat),i∈L->dc (L.map λg=>(g,(⟨g,0,0⟩:Abs.Loc))) i=some ⟨i,0,0⟩:=by
   intro L
   induction L with
   | nil=>intro h;cases h
   | cons a L ih=>
    intro h;simp only[JN,dc];by_cases ha:a=i
    ·subst ha;simp
    ·rw[AT ha];rcases R0.1 h with rfl | h
     ·exact absurd rfl ha
     ·exact ih h
  by_cases h0:0=i
  ·subst h0;exact⟨l0,by simp[gl,dc],hl1,hl2⟩
  ·exact⟨⟨i,0,0⟩,by simp only[gl,dc];rw[AT h0];exact hmem _ (RQ.2 hi),rfl,rfl⟩
 have hgn:∀i,CC.cK<=i->dc gl i=none:=by
  intro i hi;have hno:∀(L:List Nat),(∀a∈L,a<CC.cK)->dc (L.map λg=>(g,(⟨g,0,0⟩:Abs.Loc))) i=none:=by
   intro L
   induction L with
   | nil=>intro _;rfl
   | cons a L ih=>
    intro h;have ha:=h a me;simp only[JN,dc];rw[AT zo];exact ih λb hb=>h b (If _ hb)
  have h0:0<CC.cK:=by decide
  simp only[gl,dc];rw[AT zo];exact hno _ λa ha=>RQ.1 ha
 have h0:0<CC.cK:=by decide
 refine xk (C:=CC) (aa:=aa) (blks:=(0,.cells true (vC.map λx:Nat=>Value.int .u8 (x:Int)))::blks) (locs:=gl++locs) (nx:=CC.cK+ts.length) ?_ ?_ ?_ ?_ ?_ ?_
 ·intro p hp;rcases R0.1 hp with rfl | hp
  ·refine⟨by decide +kernel,by simp only;omega,l0,?_,hl4⟩;rw[j4];simp[gl,dc]
  ·obtain⟨a,b,c,l,d,e⟩:=h1 p hp;refine⟨c,b,l,?_,e⟩;rw[j4,hgn _ a];exact d
 ·simp only[JN,SM];refine⟨λhm=>?_,h3⟩;obtain⟨p,hp,e⟩:=RI.1 hm;have:=(h1 p hp).1;omega
 ·intro g hg;obtain⟨l,a,b,c⟩:=hgl g hg;exact⟨l,by rw[j4,a],b,c⟩
 ·intro i hi;rw[j4,hgn i zo];cases hl:dc locs i with
  | none=>rfl
  | some l=>have:=h2 i l hl;simp only;omega
 ·refine h4 _ λi l hl=>?_;rw[j4,hgn i (h2 i l hl).1];exact hl
 ·intro F hF;refine spec F aa (λp hp=>?_) (h5 F λp hp=>hF p (If _ hp));simp only[eJ,R0,SR,T4] at hp;subst hp;exact hF _ me
end Go.Proofs.D