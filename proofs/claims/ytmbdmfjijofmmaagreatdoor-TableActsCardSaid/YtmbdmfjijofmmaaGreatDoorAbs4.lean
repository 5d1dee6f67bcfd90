/-
  The abstract machine is sound, fourth part: steps and regions in the order of the text.
-/
import Derived.Test.YtmbdmfjijofmmaaGreatDoorAbs3
/-
 Soundness,sixteenth part: abstract heaps grow;frames;one operation of a region;regions in the text's order.
-/
namespace Go.Abs
open Go
section
variable {C:Ctx}{P:Program}
structure HEv(h h':Heap):Prop where
 next:h.next≤h'.next
 dead:∀i,i<h.next→h.get i=none→h'.get i=none
 ro:∀i b,h'.get i=some b→b.ro=true→h.get i=some b
 wf:(∀i b,h.get i=some b→i<h.next)→∀i b,h'.get i=some b→i<h'.next
theorem HEv.refl(h:Heap):HEv h h:=⟨Nat.le_refl _,fun _ _ e=>e,fun _ _ e _=>e,fun e=>e⟩
theorem HEv.trans{a b c:Heap}(x:HEv a b)(y:HEv b c):HEv a c:=
 ⟨Nat.le_trans x.next y.next,fun i hi e=>y.dead i (Nat.lt_of_lt_of_le hi x.next) (x.dead i hi e),fun i B e r=>x.ro i B (y.ro i B e r) r,fun e=>y.wf (x.wf e)⟩
theorem HEv.alloc(h:Heap){b:Blk}(hb:b.ro=false):HEv h (h.alloc b) where
 next:=by simp
 dead:=fun i hi e=>by rw[Heap.get_alloc,if_neg (by omega)];exact e
 ro:=fun i B e r=>by
  rw[Heap.get_alloc] at e;split at e
  ·cases e;rw[hb] at r;cases r
  ·exact e
 wf:=fun hw i B e=>by
  rw[Heap.get_alloc] at e;simp only[Heap.next_alloc];split at e
  ·omega
  ·have:=hw i B e;omega
theorem HEv.put(h:Heap){i:Nat}{b b0:Blk}(hb0:h.get i=some b0)(hb:b.ro=false):HEv h (h.put i (some b)) where
 next:=Nat.le_refl _
 dead:=fun j hj e=>by
  rw[Heap.get_put];split
  ·rename_i hji;subst hji;rw[hb0] at e;cases e
  ·exact e
 ro:=fun j B e r=>by
  rw[Heap.get_put] at e;split at e
  ·cases e;rw[hb] at r;cases r
  ·exact e
 wf:=fun hw j B e=>by
  rw[Heap.get_put] at e;simp only[Heap.next_put];split at e
  ·rename_i hji;subst hji;exact hw _ _ hb0
  ·exact hw j B e
theorem HEv.kill(h:Heap)(i:Nat):HEv h (h.put i none) where
 next:=Nat.le_refl _
 dead:=fun j hj e=>by rw[Heap.get_put];split<;>first | rfl | exact e
 ro:=fun j B e r=>by
  rw[Heap.get_put] at e;split at e
  ·cases e
  ·exact e
 wf:=fun hw j B e=>by
  rw[Heap.get_put] at e;split at e
  ·cases e
  ·exact hw j B e
theorem bif_then{α:Type}{c:Bool}{a:Option α}{x:α}(h:(bif c then a else none)=some x):c=true∧a=some x:=by
 cases c with
 | true=>exact⟨rfl,h⟩
 | false=>cases h
theorem bif_else{α:Type}{c:Bool}{a:Option α}{x:α}(h:(bif c then none else a)=some x):c=false∧a=some x:=by
 cases c with
 | true=>cases h
 | false=>exact⟨rfl,h⟩
theorem bif_cases{α:Type}{c:Bool}{a b:α}{x:α}(h:(bif c then a else b)=x):(c=true∧a=x)∨(c=false∧b=x):=by
 cases c with
 | true=>exact .inl ⟨rfl,h⟩
 | false=>exact .inr ⟨rfl,h⟩
theorem append_hev{h h':Heap}{t:TypeId}{xt:Option TypeId}{x y v:Value}(e:appendA C h t xt x y=some (v,h')):HEv h h':=by
 unfold appendA at e;split at e
 ·split at e
  ·split at e
   ·rename_i n new hnw;obtain⟨_,e⟩:=bif_else e;cases hn0:(n==0) with
    | true=>simp only[hn0,cond_true,Option.some.injEq,Prod.mk.injEq] at e;obtain⟨_,rfl⟩:=e;exact HEv.refl _
    | false=>
     simp only[hn0,cond_false] at e;split at e
     ·cases e;exact HEv.alloc _ rfl
     ·rcases bif_cases e with ⟨_,e⟩ | ⟨_,e⟩
      ·obtain⟨_,e⟩:=bif_then e;cases e;exact HEv.alloc _ rfl
      ·obtain⟨_,e⟩:=bif_else e;split at e
       ·split at e
        ·cases e;exact(HEv.kill _ _).trans (HEv.alloc _ rfl)
        ·cases e
       ·cases e
     ·cases e
   ·cases e
  ·cases e
 ·cases e
theorem copy_hev{h h':Heap}{t:TypeId}{x y v:Value}(e:copyA C h t x y=some (v,h')):HEv h h':=by
 unfold copyA at e;split at e
 ·split at e
  ·split at e
   ·rename_i new hfi;obtain⟨_,e⟩:=bif_else e;split at e
    ·cases e;exact HEv.refl _
    ·cases hemp:new.isEmpty with
     | true=>simp only[hemp,cond_true,Option.some.injEq,Prod.mk.injEq] at e;obtain⟨_,rfl⟩:=e;exact HEv.refl _
     | false=>
      simp only[hemp,cond_false] at e;split at e
      ·rename_i cs hblk;obtain⟨_,e⟩:=bif_then e;cases e;exact HEv.put _ hblk rfl
      ·cases e
    ·cases e
   ·cases e
  ·cases e
 ·cases e
theorem clear_hev{h h':Heap}{t:TypeId}{x:Value}(e:clearA C h t x=some h'):HEv h h':=by
 unfold clearA at e;split at e
 ·cases e;exact HEv.refl _
 ·cases e;exact HEv.refl _
 ·split at e
  ·rename_i z cs hz hblk;obtain⟨_,e⟩:=bif_then e;cases e;exact HEv.put _ hblk rfl
  ·cases e
 ·cases e
theorem mapUpdate_hev{h h':Heap}{t:TypeId}{m k v:Value}(e:mapUpdateA C h t m k v=some h'):HEv h h':=by
 unfold mapUpdateA at e;split at e
 ·split at e
  ·rename_i es he;revert e;generalize keyOk C 8 _ k=ko;intro e;cases ko with
   | false=>simp only[Bool.not_false,cond_true] at e;cases e
   | true=>
    simp only[Bool.not_true,cond_false] at e;split at e
    ·split at e
     ·rename_i k2 v2 _;cases hs:sameV k2 k with
      | true=>simp only[hs,cond_true,Option.some.injEq] at e;subst e;exact HEv.put _ he rfl
      | false=>simp only[hs,cond_false] at e;cases e
     ·cases e
    ·cases e;exact HEv.put _ he rfl
    ·cases e
  ·cases e
 ·cases e
theorem mapEntry_hev{h h':Heap}{t:TypeId}{m k v:Value}(e:mapEntryA C h t m k=some (v,h')):HEv h h':=by
 unfold mapEntryA at e;split at e
 ·split at e
  ·rename_i es he;rcases bif_cases e with ⟨_,e⟩ | ⟨_,e⟩
   ·cases e
   ·split at e
    ·split at e
     ·obtain⟨_,e⟩:=bif_then e;cases e;exact HEv.refl _
     ·cases e
    ·split at e
     ·cases e;exact HEv.put _ he rfl
     ·cases e
    ·cases e
  ·cases e
 ·cases e
theorem entryStore_hev{h h':Heap}{m n v:Value}(e:entryStoreA h m n v=some h'):HEv h h':=by
 unfold entryStoreA at e;split at e
 ·split at e
  ·rename_i es he;split at e
   ·split at e
    ·cases e;exact HEv.put _ he rfl
    ·cases e
   ·cases e
  ·cases e
 ·cases e
theorem delete_hev{h h':Heap}{t:TypeId}{m k:Value}(e:deleteA C h t m k=some h'):HEv h h':=by
 unfold deleteA at e;split at e
 ·split at e
  ·rename_i es he;rcases bif_cases e with ⟨_,e⟩ | ⟨_,e⟩
   ·cases e
   ·split at e
    ·cases e;exact HEv.put _ he rfl
    ·cases e;exact HEv.put _ he rfl
    ·cases e
  ·cases e
 ·cases e
theorem op_hev(ok:C.Ok P){ρ:Operand→Option Value}{h h':Heap}{o:Oper}{v:Value}(e:opA C ρ h o.op=some (.val v h')):HEv h h':=by
 cases hs:isStill o.op with
 | true=>
  obtain⟨v2,h1,_⟩:=still_ok ok hs e;cases h1;exact HEv.refl _
 | false=>
  cases hn:isNew o.op with
  | true=>
   obtain⟨v2,b,hb,h1,_⟩:=new_ok ok hn e;cases h1;exact HEv.alloc _ hb
  | false=>
   cases hst:isStore o.op with
   | true=>
    obtain⟨b,cs,_,h1,⟨cs0,h2⟩,_⟩:=storeOp_ok ok hst e;cases h1;exact HEv.put _ h2 rfl
   | false=>
    cases ho:o.op with
    | mapUpdate t m k x=>
     rw[ho] at e;simp only[opA] at e;split at e
     ·rename_i m1 k1 x1 _ _ _;cases hst:mapUpdateA C h t m1 k1 x1 with
      | none=>rw[hst] at e;cases e
      | some h2=>rw[hst] at e;cases e;exact mapUpdate_hev hst
     ·cases e
    | mapEntry t m k=>
     rw[ho] at e;simp only[opA] at e;split at e
     ·rename_i m1 k1 _ _;cases hst:mapEntryA C h t m1 k1 with
      | none=>rw[hst] at e;cases e
      | some h2=>rw[hst] at e;obtain⟨v2,h2⟩:=h2;cases e;exact mapEntry_hev hst
     ·cases e
    | entryStore t m k x=>
     rw[ho] at e;simp only[opA] at e;split at e
     ·rename_i m1 k1 x1 _ _ _;cases hst:entryStoreA h m1 k1 x1 with
      | none=>rw[hst] at e;cases e
      | some h2=>rw[hst] at e;cases e;exact entryStore_hev hst
     ·cases e
    | insert t m k x=>
     rw[ho] at e;simp only[opA] at e;split at e
     ·rename_i m1 k1 x1 _ _ _;cases hst:mapUpdateA C h t m1 k1 x1 with
      | none=>rw[hst] at e;cases e
      | some h2=>rw[hst] at e;cases e;exact mapUpdate_hev hst
     ·cases e
    | call c=>
     rw[ho] at e hs;cases hc:c.callee with
     | invoke x m=>
      simp only[opA,hc] at e;split at e
      ·split at e
       ·split at e
        ·rename_i fn hfn;cases hb:fn.body.isSome<;>simp[hb] at e
        ·cases e
       ·cases e
      ·cases e
     | value f=>
      simp only[opA,hc] at e;split at e
      ·unfold callA at e;split at e
       ·split at e
        ·rename_i fn hfn;cases hb:fn.body.isSome<;>simp[hb] at e
        ·cases e
       ·cases e
      ·cases e
     | builtin b=>
      simp only[opA,hc] at e;split at e
      ·rename_i as _;cases hbr:builtinA C h b c.argTypes.toList as with
       | none=>rw[hbr] at e;cases e
       | some vh=>
        rw[hbr] at e;obtain⟨v2,h2⟩:=vh;cases e;unfold builtinA at hbr;split at hbr<;>first
         | (simp[isStill,hc] at hs;done)
         | exact append_hev hbr
         | exact copy_hev hbr
         | (rename_i t _ x y _ _; cases hcl : deleteA C h t x y with
            | none=>rw[hcl] at hbr;cases hbr
            | some h3=>rw[hcl] at hbr;cases hbr;exact delete_hev hcl)
         | (rename_i t _ x _ _; cases hcl : clearA C h t x with
            | none=>rw[hcl] at hbr;cases hbr
            | some h3=>rw[hcl] at hbr;cases hbr;exact clear_hev hcl)
         | (cases hbr;exact HEv.refl _)
         | cases hbr
      ·cases e
    | _=>first
     | (rw[ho] at hs;cases hs;done)
     | (rw[ho] at hn;cases hn;done)
     | (rw[ho] at hst;cases hst;done)
     | (rw[ho] at e;cases e)
structure REnv(σ:Sig)(e:Env)(a:Act):Prop where
 size:e.n=a.tmps.size
 rel:∀(i:Nat) (v:Value),e.get i=some v→∃v',a.tmps[i]?=some v'∧VRel σ v v'
def Glob(C:Ctx)(σ:Sig):Prop:=∀g,g<C.globs→∃l,σ g=some l∧l.blk=g∧l.off=0
theorem Glob.mono{σ τ:Sig}(h:Glob C σ)(hl:Sig.le σ τ):Glob C τ:=fun g hg=>let ⟨l,a,b⟩:=h g hg;⟨l,hl _ _ a,b⟩
theorem REnv.mono{σ τ:Sig}{e:Env}{a:Act}(h:REnv σ e a)(hl:Sig.le σ τ):REnv τ e a:=
 ⟨h.size,fun i v q=>let ⟨v',x,y⟩:=h.rel i v q;⟨v',x,y.mono hl⟩⟩
theorem REnv.opds{σ:Sig}{e:Env}{a:Act}(h:REnv σ e a)(hg:Glob C σ):Opds σ (e.eval C) a.eval:=by
 intro x v q;cases x with
 | tmp i=>
  obtain⟨v',h1,h2⟩:=h.rel i v q;simp only[Act.eval];rw[Array.getD_eq_getD_getElem?,h1];exact h2
 | const c=>
  simp only[Env.eval] at q;cases hp:plain c with
  | true=>simp[hp] at q;subst q;exact plain_rel σ c hp
  | false=>simp[hp] at q
 | global g=>
  simp only[Env.eval] at q;cases hb:Nat.blt g C.globs with
  | true=>
   simp only[hb,cond_true,Option.some.injEq] at q;subst q;obtain⟨l,h1,h2,h3⟩:=hg g (by simpa using hb);exact⟨l,h1,rfl,by simp[Act.eval,h2,h3]⟩
  | false=>simp[hb] at q
 | func f=>
  simp only[Env.eval,Option.some.injEq] at q;subst q;exact⟨[],[],rfl,rfl,rfl⟩
theorem REnv.put{σ:Sig}{e:Env}{a:Act}(h:REnv σ e a){d:Option Tmp}{v v':Value}(hv:VRel σ v v'):REnv σ (e.put d v) (a.put d v'):=by
 cases d with
 | none=>exact h
 | some d=>
  simp only[Env.put,Act.put];cases hb:Nat.blt d e.n with
  | true=>
   simp only[cond_true];refine⟨by simp[h.size],fun i u q=>?_⟩;have hd:d<a.tmps.size:=by rw[←h.size];simpa using hb
   by_cases hi:i=d
   ·subst hi;have:(e.t.set i (some v)).get i=some u:=q;rw[T.get_set_same] at this;cases this;exact⟨v',by simp[hd],hv⟩
   ·have:(e.t.set d (some v)).get i=some u:=q;rw[T.get_set_ne _ _ _ _ hi] at this;obtain⟨u',q1,q2⟩:=h.rel i u this;exact⟨u',by rw[Array.getElem?_setIfInBounds_ne (Ne.symm hi)];exact q1,q2⟩
  | false=>
   simp only[cond_false];have hd:¬d<a.tmps.size:=by rw[←h.size];intro hlt;rw[show Nat.blt d e.n=true from by simpa using hlt] at hb;cases hb
   refine⟨by simp[h.size],fun i u q=>?_⟩;obtain⟨u',q1,q2⟩:=h.rel i u q;refine⟨u',?_,q2⟩;have hi:i≠d:=by
    intro hi;subst hi;have:=(Array.getElem?_eq_some_iff.1 q1).1;exact hd this
   rw[Array.getElem?_setIfInBounds_ne (Ne.symm hi)];exact q1
theorem want_ok{σ:Sig}{ops:Array Oper}{e:Env}{a:Act}(h:REnv σ e a){o:Oper}{b:Bool}(q:wantA ops.toList e o=some b):Region.wanted o (yielded ops a.tmps)=b:=by
 unfold wantA at q;unfold Region.wanted;cases hg:o.guard with
 | none=>simp[hg] at q;subst q;rfl
 | some jw=>
  obtain⟨j,want⟩:=jw;simp only[hg] at q ⊢;unfold yielded;rw[Array.getElem?_toList] at q;cases hd:(ops[j]?).bind (·.dst) with
  | none=>simp[hd] at q;subst q;simp
  | some d=>
   simp only[hd] at q;simp only[Option.bind_some];split at q
   ·rename_i b2 hb;cases q;obtain⟨v',h1,h2⟩:=h.rel d _ hb;rw[h1,show v'=.bool b2 from h2];simp
   ·rename_i hb;cases q;obtain⟨v',h1,cs,h2,h3⟩:=h.rel d _ hb;rw[h1,h2];simp
   ·cases q
structure CalOk(C:Ctx)(P:Program)(cal:Cal):Prop where
 hev:∀f args h v h',cal f args h=some (v,h')→HEv h h'
 run:∀f args h v h',cal f args h=some (v,h')→(∀i b,h.get i=some b→i<h.next)→∀σ w args',Glob C σ→Sim σ h.get w→VRels σ args args'→
  (∀i,h.next≤i→i<h'.next→σ i=none)→
  Calls P f ⟨args'⟩ w fun en w'=>∃v' σ',en=.returned v'∧VRel σ' v v'∧Sim σ' h'.get w'∧Ev σ h.get h.next w σ' h'.get h'.next w'
theorem step_hev(ok:C.Ok P){cal:Cal}(hc:CalOk C P cal){ops:List Oper}{o:Oper}{e e':Env}{h h':Heap}(q:stepA C cal ops o e h=some (e',h')):HEv h h':=by
 unfold stepA at q;split at q
 ·cases q
 ·cases q;exact HEv.refl _
 ·split at q
  ·cases q
  ·rename_i v h1 ho;cases q;exact op_hev ok ho
  ·rename_i f args ho;split at q
   ·cases q
   ·rename_i v h1 hcl;cases q;exact hc.hev _ _ _ _ _ hcl
theorem step_ok(ok:C.Ok P){cal:Cal}(hcal:CalOk C P cal){ops:Array Oper}{o:Oper}{i:Nat}(hi:ops[i]?=some o){e e':Env}{h h':Heap}(q:stepA C cal ops.toList o e h=some (e',h'))
  {σ:Sig} {a:Act} {w:World} (hw:∀i b,h.get i=some b→i<h.next) (hg:Glob C σ) (s:Sim σ h.get w) (he:REnv σ e a) (hf:∀i,h.next≤i→i<h'.next→σ i=none)
  {Q:Exit→Act→World→Prop} {K:Act→World→Prop}
  (hK:∀σ' a' w',REnv σ' e' a'→a'.defers=a.defers→Sim σ' h'.get w'→Ev σ h.get h.next w σ' h'.get h'.next w'→K a' w'):wpOp P ops Q i K a w:=by
 unfold wpOp;rw[hi];simp only;have hput:∀(v':Value),(a.put o.dst v').defers=a.defers:=fun v'=>by cases o.dst<;>rfl
 unfold stepA at q;split at q
 ·cases q
 ·rename_i hwant;cases q;rw[want_ok he hwant,if_neg (by simp)];exact hK σ _ w (he.put (undef_rel σ)) (hput _) s (Ev.refl _ _ _ _)
 ·rename_i hwant;rw[want_ok he hwant,if_pos rfl];left;have hop:=he.opds hg;unfold Oper.wp;split at q
  ·cases q
  ·rename_i v h1 ho;cases q;have key:∃σ' v' w',Done ((execOp a.eval o).run P w) v' w'∧VRel σ' v v'∧Sim σ' h'.get w'∧Ev σ h.get h.next w σ' h'.get h'.next w':=by
    cases hs:isStill o.op with
    | true=>
     obtain⟨v2,q1,q2⟩:=still_ok ok hs ho;cases q1;obtain⟨v',r1,r2⟩:=q2 a.eval σ h.get w s hop (fun _ _=>rfl);exact⟨σ,v',w,.inl r1,r2,s,Ev.refl _ _ _ _⟩
    | false=>
     cases hn:isNew o.op with
     | true=>
      obtain⟨v2,b,hb,q1,q2⟩:=new_ok ok hn ho;cases q1;obtain⟨l,v',w',r1,r2,r3,r4,_⟩:=q2 a.eval σ h.get w s (hf h.next (Nat.le_refl _) (by simp)) hop
      exact⟨_,v',w',.inl r1,r2,by rw[Heap.get_alloc'];exact r3,by rw[Heap.get_alloc'];exact r4⟩
     | false=>
      cases hst:isStore o.op with
      | true=>
       obtain⟨b,cs,_,q1,_,q2⟩:=storeOp_ok ok hst ho;cases q1;obtain⟨w',r1,r2,r3⟩:=q2 a.eval σ h.get w h.next s hop rfl
       exact⟨σ,undef,w',.inr ⟨r1,rfl⟩,undef_rel σ,by rw[Heap.get_put'];exact r2,by rw[Heap.get_put'];exact r3⟩
      | false=>exact callOp_ok ok (by simp[isCall,hs,hn,hst]) ho s hw hop hf
   obtain⟨σ',v',w',hd,r1,r2,r3⟩:=key;have he':=(he.mono (r3.le hf)).put (d:=o.dst) r1;rcases hd with hd | ⟨hd,rfl⟩
   ·rw[hd];exact hK σ' _ w' he' (hput _) r2 r3
   ·rw[hd];exact hK σ' _ w' he' (hput _) r2 r3
  ·rename_i f args ho;split at q
   ·cases q
   ·rename_i v h1 hcl;cases q;obtain⟨args',r1,r2⟩:=enterOp_ok ok ho hop s;rw[r1];simp only[Oper.upon];refine(hcal.run f args h v h' hcl hw σ w args' hg s r2 hf).mono ?_;rintro en w' ⟨v',σ',rfl,r3,r4,r5⟩;exact hK σ' _ w' ((he.mono (r5.le hf)).put r3) (hput _) r4 r5
theorem seq_hev(ok:C.Ok P){cal:Cal}(hc:CalOk C P cal){ops:List Oper}:∀(rest:List Oper) (e e':Env) (h h':Heap),seqA C cal ops rest e h=some (e',h')→HEv h h'
 | [],e,e',h,h',q=>by cases q;exact HEv.refl _
 | o::rest,e,e',h,h',q=>by
  unfold seqA at q;split at q
  ·cases q
  ·rename_i e1 h1 hs;exact(step_hev ok hc hs).trans (seq_hev ok hc rest _ _ _ _ q)
theorem seq_ok(ok:C.Ok P){cal:Cal}(hcal:CalOk C P cal){ops:Array Oper}{Q:Exit→Act→World→Prop}:∀(rest:List Oper) (l:List Nat) (e e':Env) (h h':Heap) (σ:Sig) (a:Act) (w:World),
  l.map (fun i=>ops[i]?)=rest.map some→seqA C cal ops.toList rest e h=some (e',h')→
  (∀i b,h.get i=some b→i<h.next)→Glob C σ→Sim σ h.get w→REnv σ e a→(∀i,h.next≤i→i<h'.next→σ i=none)→
  (∀σ' a' w',REnv σ' e' a'→a'.defers=a.defers→Sim σ' h'.get w'→Ev σ h.get h.next w σ' h'.get h'.next w'→Q .normal a' w')→wpOps P ops Q l a w
 | [],l,e,e',h,h',σ,a,w,hl,q,hw,hg,s,he,hf,hQ=>by
  have:l=[]:=by simpa using hl
  subst this;cases q;exact hQ σ a w he rfl s (Ev.refl _ _ _ _)
 | o::rest,l,e,e',h,h',σ,a,w,hl,q,hw,hg,s,he,hf,hQ=>by
  cases l with
  | nil=>cases hl
  | cons i l=>
   simp only[List.map_cons,List.cons.injEq] at hl;unfold seqA at q;split at q
   ·cases q
   ·rename_i e1 h1 hs;have hev1:=step_hev ok hcal hs;have hev2:=seq_hev ok hcal _ _ _ _ _ q;rw[wpOps_cons];refine step_ok ok hcal hl.1 hs hw hg s he (fun i h1 h2=>hf i h1 (Nat.lt_of_lt_of_le h2 hev2.next)) ?_
    intro σ1 a1 w1 r1 r2 r3 r4;have hle:=r4.le (fun i h1 h2=>hf i h1 (Nat.lt_of_lt_of_le h2 hev2.next))
    refine seq_ok ok hcal rest l e1 e' h1 h' σ1 a1 w1 hl.2 q (hev1.wf hw) (hg.mono hle) r3 r1 (fun i h2 h3=>?_) ?_
    ·rw[r4.sig i (.inr h2)];exact hf i (Nat.le_trans hev1.next h2) h3
    ·intro σ2 a2 w2 r5 r6 r7 r8;exact hQ σ2 a2 w2 r5 (r6.trans r2) r7 (r4.trans r8 hev1.next hev2.next)
end
end Go.Abs
/-
 Soundness,seventeenth part: a region whose order is open: the plain facts.
-/
namespace Go.Abs
open Go
theorem maskOf_bit{masks:List Nat}{o:Oper}{i:Nat}(h:(maskOf masks o).testBit i=true) :
  ∃x∈o.after.toList,Region.binds .any x=true∧(i=x.on∨((masks[x.on]?).getD 0).testBit i=true):=by
 unfold maskOf at h;have key:∀(l:List Edge) (s:Nat),(l.foldl (fun s x=>bif Region.binds .any x then s ||| 2 ^ x.on ||| (masks[x.on]?).getD 0 else s) s).testBit i=true→
   s.testBit i=true∨∃x∈l,Region.binds .any x=true∧(i=x.on∨((masks[x.on]?).getD 0).testBit i=true):=by
  intro l
  induction l with
  | nil=>intro s hs;exact .inl hs
  | cons x l ih=>
   intro s hs;simp only[List.foldl_cons] at hs;rcases ih _ hs with h1 | ⟨y,hy,h2⟩
   ·cases hb:Region.binds .any x with
    | false=>simp only[hb,cond_false] at h1;exact .inl h1
    | true=>
     simp only[hb,cond_true,Nat.testBit_or,Bool.or_eq_true] at h1;rcases h1 with (h1 | h1) | h1
     ·exact .inl h1
     ·rw[Nat.testBit_two_pow] at h1;exact .inr ⟨x,by simp,hb,.inl (by have:=of_decide_eq_true h1;exact this.symm)⟩
     ·exact .inr ⟨x,by simp,hb,.inr h1⟩
   ·exact .inr ⟨y,by simp[hy],h2⟩
 rcases key _ 0 h with h1 | h1
 ·simp at h1
 ·exact h1
theorem masksFrom_old:∀(ops:List Oper) (acc:List Nat) (k:Nat),k<acc.length→(masksFrom acc ops)[k]?=acc[k]?
 | [],_,_,_=>rfl
 | o::ops,acc,k,h=>by
  unfold masksFrom;rw[masksFrom_old ops _ k (by simp;omega),List.getElem?_append_left h]
theorem masksFrom_at:∀(ops:List Oper) (acc:List Nat) (j:Nat) (o:Oper),ops[j]?=some o→
  ∃l,(masksFrom acc ops)[acc.length+j]?=some (maskOf l o)∧∀k,k<acc.length+j→l[k]?=(masksFrom acc ops)[k]?
 | [],acc,j,o,h=>by simp at h
 | p::ops,acc,0,o,h=>by
  simp at h;subst h;unfold masksFrom;refine⟨acc,?_,fun k hk=>?_⟩
  ·rw[masksFrom_old ops _ _ (by simp)];simp
  ·rw[masksFrom_old ops _ k (by simp;omega),List.getElem?_append_left (by omega)]
 | p::ops,acc,j+1,o,h=>by
  unfold masksFrom;obtain⟨l,h1,h2⟩:=masksFrom_at ops (acc++[maskOf acc p]) j o (by simpa using h);simp only[List.length_append,List.length_cons,List.length_nil] at h1 h2;exact⟨l,by rw[show acc.length+(j+1)=acc.length+(0+1)+j from by omega];exact h1,fun k hk=>h2 k (by omega)⟩
def before(ops:List Oper)(j:Nat):Nat:=((masksFrom [] ops)[j]?).getD 0
theorem before_bit{ops:List Oper}{j i:Nat}{o:Oper}(ho:ops[j]?=some o)(h:(before ops j).testBit i=true) :
  ∃x∈o.after.toList,Region.binds .any x=true∧(i=x.on∨(x.on<j∧(before ops x.on).testBit i=true)∨¬x.on<j):=by
 obtain⟨l,h1,h2⟩:=masksFrom_at ops [] j o ho;simp only[List.length_nil,Nat.zero_add] at h1 h2;unfold before at h;rw[h1] at h;obtain⟨x,hx,hb,hor⟩:=maskOf_bit h;refine⟨x,hx,hb,?_⟩;rcases hor with h3 | h3
 ·exact .inl h3
 ·by_cases hlt:x.on<j
  ·refine .inr (.inl ⟨hlt,?_⟩);unfold before;rw[←h2 x.on hlt];exact h3
  ·exact .inr (.inr hlt)
theorem edges_at:∀{ops:List Oper} {k:Nat},edgesOk ops k=true→∀(j:Nat) (o:Oper),ops[j]?=some o→
  (∀x∈o.after.toList,Region.binds .any x=true→x.on<k+j)∧(∀q b,o.guard=some (q,b)→∃x∈o.after.toList,x.on=q∧Region.binds .any x=true)
 | [],k,_,j,o,h=>by simp at h
 | p::ops,k,he,0,o,h=>by
  simp at h;subst h;unfold edgesOk at he;simp only[Bool.and_eq_true] at he;obtain⟨⟨h1,h2⟩,_⟩:=he;refine⟨fun x hx hb=>?_,fun q b hg=>?_⟩
  ·have:=List.all_eq_true.1 h1 x hx;simp only[hb,Bool.not_true,Bool.false_or] at this;simpa using this
  ·rw[hg] at h2;simp only[List.any_eq_true,Bool.and_eq_true,beq_iff_eq] at h2;exact h2
 | p::ops,k,he,j+1,o,h=>by
  unfold edgesOk at he;simp only[Bool.and_eq_true] at he;obtain⟨_,h3⟩:=he;have:=edges_at h3 j o (by simpa using h);rw[show k+1+j=k+(j+1) from by omega] at this;exact this
theorem before_lt{ops:List Oper}(he:edgesOk ops 0=true):∀(j i:Nat) (o:Oper),ops[j]?=some o→(before ops j).testBit i=true→i<j:=by
 intro j
 induction j using Nat.strongRecOn with
 | _ j ih=>
  intro i o ho h;obtain⟨x,hx,hb,hor⟩:=before_bit ho h;have hlt:x.on<j:=by have:=(edges_at he j o ho).1 x hx hb;omega
  rcases hor with h1 | ⟨_,h1⟩ | h1
  ·omega
  ·cases ho2:ops[x.on]? with
   | none=>
    have:(before ops x.on)=0:=by
     unfold before;have hl:∀(ops:List Oper) (acc:List Nat),(masksFrom acc ops).length=acc.length+ops.length:=by
      intro ops
      induction ops with
      | nil=>intro acc;simp[masksFrom]
      | cons p ops ih=>intro acc;unfold masksFrom;rw[ih];simp;omega
     rw[List.getElem?_eq_none (by rw[hl];simp;exact List.getElem?_eq_none_iff.1 ho2)];rfl
    rw[this] at h1;simp at h1
   | some o2=>have:=ih x.on hlt i o2 ho2 h1;omega
  ·exact absurd hlt h1
def Closed(ops:List Oper)(D:Nat→Prop):Prop:=∀j o,D j→ops[j]?=some o→∀x∈o.after.toList,Region.binds .any x=true→D x.on
theorem before_closed{ops:List Oper}(he:edgesOk ops 0=true){D:Nat→Prop}(hD:Closed ops D):∀(j i:Nat) (o:Oper),ops[j]?=some o→
  (∀x∈o.after.toList,Region.binds .any x=true→D x.on)→(before ops j).testBit i=true→D i:=by
 intro j
 induction j using Nat.strongRecOn with
 | _ j ih=>
  intro i o ho hd h;obtain⟨x,hx,hb,hor⟩:=before_bit ho h;have hlt:x.on<j:=by have:=(edges_at he j o ho).1 x hx hb;omega
  have hxD:=hd x hx hb;rcases hor with h1 | ⟨_,h1⟩ | h1
  ·subst h1;exact hxD
  ·cases ho2:ops[x.on]? with
   | none=>
    have:(before ops x.on)=0:=by
     unfold before;have hl:∀(ops:List Oper) (acc:List Nat),(masksFrom acc ops).length=acc.length+ops.length:=by
      intro ops
      induction ops with
      | nil=>intro acc;simp[masksFrom]
      | cons p ops ih=>intro acc;unfold masksFrom;rw[ih];simp;omega
     rw[List.getElem?_eq_none (by rw[hl];simp;exact List.getElem?_eq_none_iff.1 ho2)];rfl
    rw[this] at h1;simp at h1
   | some o2=>exact ih x.on hlt i o2 ho2 (hD x.on o2 hxD ho2) h1
  ·exact absurd hlt h1
theorem inner_ok{ops:List Oper}{b:Oper}{j m:Nat}:∀(l:List Oper) (i:Nat),pairsOk.inner ops b j m l i=true→∀(k:Nat) (a:Oper),l[k]?=some a→i+k<j→
  m.testBit (i+k)=true∨apartA ops a b=true
 | [],i,_,k,a,h,_=>by simp at h
 | p::l,i,hi,k,a,h,hk=>by
  unfold pairsOk.inner at hi;have hji:Nat.ble j i=false:=by
   cases hb:Nat.ble j i with
   | false=>rfl
   | true=>have:=Nat.le_of_ble_eq_true hb;omega
  simp only[hji,cond_false,Bool.and_eq_true,Bool.or_eq_true] at hi;cases k with
  | zero=>simp at h;subst h;exact hi.1
  | succ k=>
   have:=inner_ok l (i+1) hi.2 k a (by simpa using h) (by omega);rw[show i+1+k=i+(k+1) from by omega] at this;exact this
theorem pairs_at{ops:List Oper}:∀{rest:List Oper} {j0:Nat},pairsOk ops (masksFrom [] ops) rest j0=true→∀(j:Nat) (b:Oper),rest[j]?=some b→∀(k:Nat) (a:Oper),ops[k]?=some a→k<j0+j→
  (before ops (j0+j)).testBit k=true∨apartA ops a b=true
 | [],j0,_,j,b,h,_,_,_,_=>by simp at h
 | p::rest,j0,hp,j,b,h,k,a,hk,hlt=>by
  unfold pairsOk at hp;simp only[Bool.and_eq_true] at hp;cases j with
  | zero=>
   simp at h;subst h;have:=inner_ok ops 0 hp.1 k a hk (by omega);simpa [before] using this
  | succ j=>
   have:=pairs_at hp.2 j b (by simpa using h) k a hk (by omega);rw[show j0+1+j=j0+(j+1) from by omega] at this;exact this
theorem apart_dst{ops:List Oper}{a b:Oper}(h:apartA ops a b=true){d:Tmp}(hd:a.dst=some d):d∉tmpsOf ops b∧b.dst≠some d:=by
 unfold apartA at h;simp only[hd,Bool.and_eq_true,Bool.not_eq_true'] at h;obtain⟨⟨⟨⟨h1,h2⟩,_⟩,_⟩,_⟩:=h;refine⟨fun hm=>?_,fun hm=>?_⟩
 ·rw[List.contains_iff_mem.2 hm] at h1;cases h1
 ·rw[hm] at h2;simp at h2
theorem apart_dst2{ops:List Oper}{a b:Oper}(h:apartA ops a b=true){d:Tmp}(hd:b.dst=some d):d∉tmpsOf ops a:=by
 unfold apartA at h;simp only[hd,Bool.and_eq_true,Bool.not_eq_true'] at h;obtain⟨⟨⟨_,h1⟩,_⟩,_⟩:=h;intro hm;rw[List.contains_iff_mem.2 hm] at h1;cases h1
theorem apart_call{ops:List Oper}{a b:Oper}(h:apartA ops a b=true):¬(isCall b.op=true∧isStill a.op=false)∧¬(isCall a.op=true∧isStore b.op=true):=by
 unfold apartA at h;simp only[Bool.and_eq_true,Bool.not_eq_true'] at h;obtain⟨⟨_,h1⟩,h2⟩:=h;refine⟨fun ⟨x,y⟩=>?_,fun ⟨x,y⟩=>?_⟩
 ·rw[x,y] at h1;cases h1
 ·rw[x,y] at h2;cases h2
theorem cinner_ok{mi i:Nat}{masks:List Nat}{look:List Nat}{fl:Heap→Bool}:∀(os:List Oper) (tr:List Trc) (j0:Nat),clashOk.outer.inner masks fl i look mi os tr j0=true→
  ∀(k:Nat) (o:Oper) (h h1:Heap) (lk:List Nat×(Heap→Bool)),os[k]?=some o→tr[k]?=some (h,h1,lk)→
   isStill o.op=true∨i=j0+k∨mi.testBit (j0+k)=true∨((masks[j0+k]?).getD 0).testBit i=true∨(∀x∈look,h.get x=h1.get x)∨(i<j0+k∧fl h1=true)
 | [],_,_,_,k,o,h,h1,lk,ho,_=>by simp at ho
 | _::_,[],_,_,k,o,h,h1,lk,_,ht=>by simp at ht
 | p::os,(g,g1,l1,l2)::tr,j0,hi,k,o,h,h1,lk,ho,ht=>by
  unfold clashOk.outer.inner at hi;simp only[Bool.and_eq_true,Bool.or_eq_true] at hi;cases k with
  | zero=>
   simp at ho ht;subst ho;obtain⟨rfl,rfl,rfl⟩:=ht;rcases hi.1 with ((((h2 | h2) | h2) | h2) | h2) | h2
   ·exact .inl h2
   ·exact .inr (.inl (by simpa using h2))
   ·exact .inr (.inr (.inl h2))
   ·exact .inr (.inr (.inr (.inl h2)))
   ·exact .inr (.inr (.inr (.inr (.inl fun x hx=>sameB_eq (List.all_eq_true.1 h2 x hx)))))
   ·exact .inr (.inr (.inr (.inr (.inr ⟨Nat.lt_of_lt_of_le (Nat.le_of_ble_eq_true h2.1) (Nat.le_refl _),h2.2⟩))))
  | succ k=>
   have:=cinner_ok os tr (j0+1) hi.2 k o h h1 lk (by simpa using ho) (by simpa using ht);rw[show j0+1+k=j0+(k+1) from by omega] at this;exact this
theorem clash_at{ops:List Oper}{masks:List Nat}{tr:List Trc}:∀(rest:List Trc) (i0:Nat),clashOk.outer ops masks tr rest i0=true→
  ∀(i:Nat) (g g1:Heap) (look:List Nat) (fl:Heap→Bool),rest[i]?=some (g,g1,look,fl)→∀(k:Nat) (o:Oper) (h h1:Heap) (lk:List Nat×(Heap→Bool)),ops[k]?=some o→tr[k]?=some (h,h1,lk)→∀x∈look,
   isStill o.op=true∨i0+i=k∨((masks[i0+i]?).getD 0).testBit k=true∨((masks[k]?).getD 0).testBit (i0+i)=true∨h.get x=h1.get x∨(i0+i<k∧fl h1=true)
 | [],_,_,i,g,g1,look,fl,h,_,_,_,_,_,_,_,_,_=>by simp at h
 | (p,p1,pl,pf)::rest,i0,hc,i,g,g1,look,fl,hi,k,o,h,h1,lk,ho,ht,x,hx=>by
  unfold clashOk.outer at hc;simp only[Bool.and_eq_true] at hc;cases i with
  | zero=>
   simp at hi;obtain⟨rfl,rfl,rfl,rfl⟩:=hi;have hc1:=hc.1;split at hc1
   ·cases hx
   ·have:=cinner_ok ops tr 0 hc1 k o h h1 lk ho ht;simp only[Nat.zero_add] at this;rcases this with h2 | h2 | h2 | h2 | h2 | h2
    ·exact .inl h2
    ·exact .inr (.inl h2)
    ·exact .inr (.inr (.inl h2))
    ·exact .inr (.inr (.inr (.inl h2)))
    ·exact .inr (.inr (.inr (.inr (.inl (h2 x hx)))))
    ·exact .inr (.inr (.inr (.inr (.inr ⟨by simpa using h2.1,h2.2⟩))))
  | succ i=>
   have:=clash_at rest (i0+1) hc.2 i g g1 look fl (by simpa using hi) k o h h1 lk ho ht x hx;rw[show i0+1+i=i0+(i+1) from by omega] at this;exact this
end Go.Abs
/-
 Soundness,eighteenth part: a region whose order is open: whatever order,the same comes out.
-/
namespace Go.Abs
open Go
section
variable {C:Ctx}{P:Program}
theorem vals_congr{ρ ρ2:Operand→Option Value}:∀(xs:List Operand),(∀x∈xs,ρ x=ρ2 x)→vals ρ xs=vals ρ2 xs
 | [],_=>rfl
 | x::xs,h=>by simp only[vals,h x (by simp),vals_congr xs fun y hy=>h y (by simp[hy])]
theorem parts_congr{ρ ρ2:Operand→Option Value}:∀(xs:List (Nat×Operand)),(∀x∈xs.map (·.2),ρ x=ρ2 x)→partsA ρ xs=partsA ρ2 xs
 | [],_=>rfl
 | (i,x)::xs,h=>by simp only[partsA,h x (by simp),parts_congr xs fun y hy=>h y (by simp only[List.map_cons,List.mem_cons];exact .inr hy)]
theorem opt_congr{ρ ρ2:Operand→Option Value}{x:Option Operand}(h:∀y,x=some y→ρ y=ρ2 y):optA ρ x=optA ρ2 x:=by
 cases x with
 | none=>rfl
 | some y=>simp only[optA,h y rfl]
theorem opA_congr{ρ ρ2:Operand→Option Value}{h:Heap}{op:Op}(hx:∀x∈op.operands,ρ x=ρ2 x):opA C ρ h op=opA C ρ2 h op∧looksA ρ op=looksA ρ2 op:=by
 cases op with
 | build t ps=>
  have:=parts_congr (ρ:=ρ) (ρ2:=ρ2) ps.toList (fun x hm=>hx x (by simpa [Op.operands] using hm));simp only[opA,looksA,this,and_self]
 | buildSlice t n ps=>
  have:=parts_congr (ρ:=ρ) (ρ2:=ρ2) ps.toList (fun x hm=>hx x (by simpa [Op.operands] using hm));simp only[opA,looksA,this,and_self]
 | makeFunc fn xs ys=>
  have h1:=vals_congr (ρ:=ρ) (ρ2:=ρ2) xs.toList (fun x hm=>hx x (by simp[Op.operands,Array.mem_toList_iff.1 hm]));have h2:=vals_congr (ρ:=ρ) (ρ2:=ρ2) ys.toList (fun x hm=>hx x (by simp[Op.operands,Array.mem_toList_iff.1 hm]));simp only[opA,looksA,h1,h2,and_self]
 | slice t x lo hi mx=>
  have h0:=hx x (by simp[Op.operands]);have h1:=opt_congr (ρ:=ρ) (ρ2:=ρ2) (x:=lo) (fun y hy=>hx y (by subst hy;simp[Op.operands]));have h2:=opt_congr (ρ:=ρ) (ρ2:=ρ2) (x:=hi) (fun y hy=>hx y (by subst hy;simp[Op.operands]));have h3:=opt_congr (ρ:=ρ) (ρ2:=ρ2) (x:=mx) (fun y hy=>hx y (by subst hy;simp[Op.operands]));simp only[opA,looksA,h0,h1,h2,h3,and_self]
 | call c=>
  cases hc:c.callee with
  | value f=>
   have h0:=hx f (by simp[Op.operands,Call.operands,hc]);have h1:=vals_congr (ρ:=ρ) (ρ2:=ρ2) c.args.toList (fun x hm=>hx x (by simp[Op.operands,Call.operands,Array.mem_toList_iff.1 hm]));simp only[opA,looksA,hc,h0,h1,and_self]
  | invoke f m=>
   have h0:=hx f (by simp[Op.operands,Call.operands,hc]);have h1:=vals_congr (ρ:=ρ) (ρ2:=ρ2) c.args.toList (fun x hm=>hx x (by simp[Op.operands,Call.operands,Array.mem_toList_iff.1 hm]));simp only[opA,looksA,hc,h0,h1,and_self]
  | builtin b=>
   have h1:=vals_congr (ρ:=ρ) (ρ2:=ρ2) c.args.toList (fun x hm=>hx x (by simp[Op.operands,Call.operands,Array.mem_toList_iff.1 hm]));simp only[opA,hc,h1,true_and];cases b<;>simp only[looksA,hc];cases hax:c.args.toList with
   | nil=>rfl
   | cons a as=>
    have h0:=hx a (by
     have:a∈c.args:=Array.mem_toList_iff.1 (by rw[hax];simp);simp[Op.operands,Call.operands,this])
    simp only[h0]
 | makeMap t r=>cases r<;>exact⟨rfl,rfl⟩
 | move x | assign x | load t x | nilCheck x | unOp t x t2 | convert t t2 x | makeInterface t x | fieldAddr t x f | field t x f | extract x i | typeAssert x xt t b | box t x=>
  simp only[Op.operands] at hx;simp[opA,looksA,hx]
 | pick x y z=>
  simp only[Op.operands] at hx;simp[opA,looksA,hx x (by simp),hx y (by simp),hx z (by simp)]
 | store t x y | binOp o t x y t2 | makeSlice t x y | indexAddr t x y | index t x y | lookup t x y b | mapEntry t x y=>
  simp only[Op.operands] at hx;simp[opA,looksA,hx x (by simp),hx y (by simp)]
 | mapUpdate t x y z | insert t x y z | entryStore t x y z=>
  simp only[Op.operands] at hx;simp[opA,looksA,hx x (by simp),hx y (by simp),hx z (by simp)]
 | _=>exact⟨rfl,rfl⟩
theorem trace_states{cal:Cal}{ops:List Oper}:∀(rest:List Oper) (e e':Env) (h h':Heap) (tr:List Trc),traceA C cal ops rest e h=some (e',h',tr)→
  ∃(es:Nat→Env) (hs:Nat→Heap),es 0=e∧hs 0=h∧es rest.length=e'∧hs rest.length=h'∧
   ∀(j:Nat) (o:Oper),rest[j]?=some o→stepA C cal ops o (es j) (hs j)=some (es (j+1),hs (j+1))∧tr[j]?=some (hs j,hs (j+1),looksA ((es j).eval C) o.op,flexA C ((es j).eval C) (hs j) o.op)
 | [],e,e',h,h',tr,q=>by
  cases q;exact⟨fun _=>e,fun _=>h,rfl,rfl,rfl,rfl,fun j o ho=>by simp at ho⟩
 | o::rest,e,e',h,h',tr,q=>by
  unfold traceA at q;split at q
  ·cases q
  ·rename_i e1 h1 hst;split at q
   ·cases q
   ·rename_i e2 h2 l ht;cases q;obtain⟨es,hs,p1,p2,p3,p4,p5⟩:=trace_states rest e1 e' h1 h' l ht;refine⟨fun j=>match j with | 0=>e | j+1=>es j,fun j=>match j with | 0=>h | j+1=>hs j,rfl,rfl,p3,p4,fun j p hp=>?_⟩
    cases j with
    | zero=>
     simp at hp;subst hp;simp only[p1,p2];exact⟨hst,by simp⟩
    | succ j=>exact⟨(p5 j p (by simpa using hp)).1,by simpa using (p5 j p (by simpa using hp)).2⟩
structure Drawn(C:Ctx)(P:Program)(cal:Cal)(ops:Array Oper)(es:Nat→Env)(hs:Nat→Heap)(tr:List Trc):Prop where
 ok:C.Ok P
 calok:CalOk C P cal
 step:∀(j:Nat) (o:Oper),ops[j]?=some o→stepA C cal ops.toList o (es j) (hs j)=some (es (j+1),hs (j+1))∧tr[j]?=some (hs j,hs (j+1),looksA ((es j).eval C) o.op,flexA C ((es j).eval C) (hs j) o.op)
 wf:∀i b,(hs 0).get i=some b→i<(hs 0).next
 draw:drawOk ops.toList=true
 clash:clashOk ops.toList (masksFrom [] ops.toList) tr=true
variable {cal:Cal}{ops:Array Oper}{es:Nat→Env}{hs:Nat→Heap}{tr:List Trc}
theorem Drawn.hev(d:Drawn C P cal ops es hs tr){j:Nat}(h:j<ops.size):HEv (hs j) (hs (j+1)):=by
 have ho:ops[j]?=some ops[j]:=by simp[h]
 exact step_hev d.ok d.calok (d.step j _ ho).1
theorem Drawn.hevs(d:Drawn C P cal ops es hs tr){i j:Nat}(hij:i≤j)(h:j≤ops.size):HEv (hs i) (hs j):=by
 induction j with
 | zero => have : i = 0 := by omega
           subst this;exact HEv.refl _
 | succ j ih=>
  by_cases hi:i=j+1
  ·subst hi;exact HEv.refl _
  ·exact(ih (by omega) (by omega)).trans (d.hev (by omega))
theorem Drawn.wfs(d:Drawn C P cal ops es hs tr){j:Nat}(h:j≤ops.size):∀i b,(hs j).get i=some b→i<(hs j).next:=(d.hevs (Nat.zero_le j) h).wf d.wf
theorem Drawn.edges(d:Drawn C P cal ops es hs tr):edgesOk ops.toList 0=true:=by
 have:=d.draw;simp only[drawOk,Bool.and_eq_true] at this;exact this.1
theorem Drawn.pair(d:Drawn C P cal ops es hs tr){i j:Nat}{a b:Oper}(ha:ops[i]?=some a)(hb:ops[j]?=some b)(h:i<j):(before ops.toList j).testBit i=true∨apartA ops.toList a b=true:=by
 have:=d.draw;simp only[drawOk,Bool.and_eq_true] at this;have:=pairs_at this.2 j b (by simpa using hb) i a (by simpa using ha) (by omega);simpa using this
def changed(hs:Nat→Heap)(k x:Nat):Prop:=(hs (k+1)).get x≠(hs k).get x
theorem Drawn.kinds(d:Drawn C P cal ops es hs tr){k:Nat}{o:Oper}(ho:ops[k]?=some o) :
  (isStill o.op=true→hs (k+1)=hs k)∧(isNew o.op=true→∀x,changed hs k x→x=(hs k).next)∧(isStore o.op=true→∀x,changed hs k x→looksA ((es k).eval C) o.op=[x]∧∃B,(hs k).get x=some B):=by
 have q:=(d.step k o ho).1;unfold stepA at q;split at q
 ·cases q
 ·simp only[Option.some.injEq,Prod.mk.injEq] at q;obtain⟨_,q2⟩:=q;have hno:∀x,¬changed hs k x:=fun x hx=>hx (by rw[←q2]);exact⟨fun _=>q2.symm,fun _ x hx=>absurd hx (hno x),fun _ x hx=>absurd hx (hno x)⟩
 ·split at q
  ·cases q
  ·rename_i v h1 hop;simp only[Option.some.injEq,Prod.mk.injEq] at q;obtain⟨q1,q2⟩:=q;refine⟨fun hst=>?_,fun hn x hx=>?_,fun hst x hx=>?_⟩
   ·obtain⟨v2,r1,_⟩:=still_ok d.ok hst hop;cases r1;exact q2.symm
   ·obtain⟨v2,b,_,r1,_⟩:=new_ok d.ok hn hop;cases r1;unfold changed at hx;rw[←q2,Heap.get_alloc] at hx;split at hx
    ·assumption
    ·exact absurd rfl hx
   ·obtain⟨b,cs,r0,r1,⟨cs0,r2⟩,_⟩:=storeOp_ok d.ok hst hop;cases r1;unfold changed at hx;rw[←q2,Heap.get_put] at hx;split at hx
    ·rename_i hxb;subst hxb;exact⟨r0,_,r2⟩
    ·exact absurd rfl hx
  ·rename_i f args hop;refine⟨fun hst=>?_,fun hn x hx=>?_,fun hst x hx=>?_⟩
   ·obtain⟨v2,r1,_⟩:=still_ok d.ok hst hop;cases r1
   ·obtain⟨v2,b,_,r1,_⟩:=new_ok d.ok hn hop;cases r1
   ·obtain⟨b,cs,r0,r1,_⟩:=storeOp_ok d.ok hst hop;cases r1
open Classical in
noncomputable def G(hs:Nat→Heap)(D:Nat→Prop):Nat→Nat→Option Blk
 | 0,x=>(hs 0).get x
 | k+1,x=>if D k∧changed hs k x then (hs (k+1)).get x else G hs D k x
open Classical in
noncomputable def V(ops:Array Oper)(es:Nat→Env)(D:Nat→Prop):Nat→Nat→Option Value
 | 0,t=>(es 0).get t
 | k+1,t=>if D k∧(ops[k]?).bind (·.dst)=some t then (es (k+1)).get t else V ops es D k t
theorem G_text{D:Nat→Prop}{x:Nat}:∀{j:Nat},(∀k,k<j→changed hs k x→D k)→G hs D j x=(hs j).get x
 | 0,_=>rfl
 | j+1,h=>by
  unfold G;by_cases hc:changed hs j x
  ·rw[if_pos ⟨h j (by omega) hc,hc⟩]
  ·rw[if_neg (fun q=>hc q.2),G_text fun k hk=>h k (by omega)];unfold changed at hc;exact(Classical.not_not.1 hc).symm
theorem G_still{D:Nat→Prop}{x i:Nat}:∀{j:Nat},i≤j→(∀k,i≤k→k<j→¬(D k∧changed hs k x))→G hs D j x=G hs D i x
 | 0, h, _ => by have : i = 0 := by omega
                 subst this;rfl
 | j+1,h,hn=>by
  by_cases hi:i=j+1
  ·subst hi;rfl
  ·rw[G,if_neg (hn j (by omega) (by omega)),G_still (by omega) fun k h1 h2=>hn k h1 (by omega)]
theorem G_congr{D D':Nat→Prop}{x:Nat}:∀{j:Nat},(∀k,k<j→changed hs k x→(D k↔D' k))→G hs D j x=G hs D' j x
 | 0,_=>rfl
 | j+1,h=>by
  unfold G;rw[G_congr fun k hk=>h k (by omega)];by_cases hc:changed hs j x
  ·by_cases hd:D j
   ·rw[if_pos ⟨hd,hc⟩,if_pos ⟨(h j (by omega) hc).1 hd,hc⟩]
   ·rw[if_neg (fun q=>hd q.1),if_neg (fun q=>hd ((h j (by omega) hc).2 q.1))]
  ·rw[if_neg (fun q=>hc q.2),if_neg (fun q=>hc q.2)]
theorem V_text(d:Drawn C P cal ops es hs tr){D:Nat→Prop}{t:Nat}:∀{j:Nat},j≤ops.size→(∀k,k<j→(ops[k]?).bind (·.dst)=some t→D k)→V ops es D j t=(es j).get t
 | 0,_,_=>rfl
 | j+1,hj,h=>by
  unfold V;by_cases hc:(ops[j]?).bind (·.dst)=some t
  ·rw[if_pos ⟨h j (by omega) hc,hc⟩]
  ·rw[if_neg (fun q=>hc q.2),V_text d (by omega) fun k hk=>h k (by omega)];have ho:ops[j]?=some ops[j]:=by simp[show j<ops.size from by omega]
   have q:=(d.step j _ ho).1;have hput:∀v,((es j).put ops[j].dst v).get t=(es j).get t:=by
    intro v;unfold Env.put;cases hd:ops[j].dst with
    | none=>rfl
    | some dd=>
     simp only;have hdt:t≠dd:=by
      intro e;subst e;exact hc (by rw[ho];exact hd)
     cases hb:Nat.blt dd (es j).n with
     | true=>exact T.get_set_ne _ _ _ _ hdt
     | false=>rfl
   unfold stepA at q;split at q
   ·cases q
   ·simp only[Option.some.injEq,Prod.mk.injEq] at q;rw[←q.1,hput]
   ·split at q
    ·cases q
    ·simp only[Option.some.injEq,Prod.mk.injEq] at q;rw[←q.1,hput]
    ·split at q
     ·cases q
     ·simp only[Option.some.injEq,Prod.mk.injEq] at q;rw[←q.1,hput]
theorem V_still{D:Nat→Prop}{t i:Nat}:∀{j:Nat},i≤j→(∀k,i≤k→k<j→¬(D k∧(ops[k]?).bind (·.dst)=some t))→V ops es D j t=V ops es D i t
 | 0, h, _ => by have : i = 0 := by omega
                 subst this;rfl
 | j+1,h,hn=>by
  by_cases hi:i=j+1
  ·subst hi;rfl
  ·rw[V,if_neg (hn j (by omega) (by omega)),V_still (by omega) fun k h1 h2=>hn k h1 (by omega)]
theorem V_congr{D D':Nat→Prop}{t:Nat}:∀{j:Nat},(∀k,k<j→(ops[k]?).bind (·.dst)=some t→(D k↔D' k))→V ops es D j t=V ops es D' j t
 | 0,_=>rfl
 | j+1,h=>by
  unfold V;rw[V_congr fun k hk=>h k (by omega)];by_cases hc:(ops[j]?).bind (·.dst)=some t
  ·by_cases hd:D j
   ·rw[if_pos ⟨hd,hc⟩,if_pos ⟨(h j (by omega) hc).1 hd,hc⟩]
   ·rw[if_neg (fun q=>hd q.1),if_neg (fun q=>hd ((h j (by omega) hc).2 q.1))]
  ·rw[if_neg (fun q=>hc q.2),if_neg (fun q=>hc q.2)]
end
end Go.Abs
/-
 Soundness,nineteenth part: one step of a region whose order is open.
-/
namespace Go.Abs
open Go
section
variable {C:Ctx}{P:Program}
theorem Ev.widen{σ:Sig}{g:Nat→Option Blk}{n:Nat}{w:World}{σ':Sig}{g':Nat→Option Blk}{n':Nat}{w':World}(h:Ev σ g n w σ' g' n' w'){n0 N:Nat}(h0:n0≤n)(h1:n'≤N) :
  Ev σ g n0 w σ' g' N w':=⟨h.size,h.os,h.out,h.tape,h.keep,h.own,fun i hi=>h.sig i (by omega)⟩
theorem Ev.comp{σ:Sig}{g:Nat→Option Blk}{n N:Nat}{w:World}{σ1:Sig}{g1:Nat→Option Blk}{w1:World}{σ2:Sig}{g2:Nat→Option Blk}{w2:World}
  (a:Ev σ g n w σ1 g1 N w1) (b:Ev σ1 g1 n w1 σ2 g2 N w2):Ev σ g n w σ2 g2 N w2 where
 size:=Nat.le_trans a.size b.size
 os:=b.os.trans a.os
 out:=b.out.trans a.out
 tape:=b.tape.trans a.tape
 keep:=fun k hk hn=>by
  rw[b.keep k (Nat.lt_of_lt_of_le hk a.size) (fun i B l hg hr hs hb=>?_),a.keep k hk hn];rcases a.own i B l hg hr hs with h1 | ⟨j,D,m,h1,h2,h3,h4⟩
  ·omega
  ·exact hn j D m h1 h2 h3 (h4.trans hb)
 own:=fun i B l hg hr hs=>by
  rcases b.own i B l hg hr hs with h1 | ⟨j,D,m,h1,h2,h3,h4⟩
  ·exact .inl (Nat.le_trans a.size h1)
  ·rcases a.own j D m h1 h2 h3 with h5 | ⟨k,E,q,h5,h6,h7,h8⟩
   ·exact .inl (by omega)
   ·exact .inr ⟨k,E,q,h5,h6,h7,h8.trans h4⟩
 sig:=fun i hi=>by rw[b.sig i hi,a.sig i hi]
structure Inv(C:Ctx)(ops:Array Oper)(es:Nat→Env)(hs:Nat→Heap)(σ0:Sig)(w0:World)(df:List Deferred)(D:Nat→Prop)(σ:Sig)(a:Act)(w:World):Prop where
 glob:Glob C σ
 sim:Sim σ (G hs D ops.size) w
 size:(es 0).n=a.tmps.size
 env:∀(t:Nat) (v:Value),V ops es D ops.size t=some v→∃v',a.tmps[t]?=some v'∧VRel σ v v'
 fresh:∀k,k<ops.size→¬D k→∀i,(hs k).next≤i→i<(hs (k+1)).next→σ i=none
 ev:Ev σ0 (hs 0).get (hs 0).next w0 σ (G hs D ops.size) (hs ops.size).next w
 defers:a.defers=df
variable {cal:Cal}{ops:Array Oper}{es:Nat→Env}{hs:Nat→Heap}{tr:List Trc}
theorem Env.put_n(e:Env)(d:Option Tmp)(v:Value):(e.put d v).n=e.n:=by
 unfold Env.put;cases d with
 | none=>rfl
 | some d=>simp only;cases Nat.blt d e.n<;>rfl
theorem step_n{cal:Cal}{l:List Oper}{o:Oper}{e e':Env}{h h':Heap}(q:stepA C cal l o e h=some (e',h')):e'.n=e.n:=by
 unfold stepA at q;split at q
 ·cases q
 ·simp only[Option.some.injEq,Prod.mk.injEq] at q;rw[←q.1,Env.put_n]
 ·split at q
  ·cases q
  ·simp only[Option.some.injEq,Prod.mk.injEq] at q;rw[←q.1,Env.put_n]
  ·split at q
   ·cases q
   ·simp only[Option.some.injEq,Prod.mk.injEq] at q;rw[←q.1,Env.put_n]
theorem Drawn.ns(d:Drawn C P cal ops es hs tr):∀{j:Nat},j≤ops.size→(es j).n=(es 0).n
 | 0,_=>rfl
 | j+1,h=>by
  have ho:ops[j]?=some ops[j]:=by simp[show j<ops.size from by omega]
  rw[step_n (d.step j _ ho).1,d.ns (by omega)]
structure Ready(ops:Array Oper)(D:Nat→Prop)(j:Nat)(o:Oper):Prop where
 at_:ops[j]?=some o
 not:¬D j
 edges:∀x∈o.after.toList,Region.binds .any x=true→D x.on
 closed:Closed ops.toList D
theorem Ready.lt{D:Nat→Prop}{j:Nat}{o:Oper}(r:Ready ops D j o):j<ops.size:=(Array.getElem?_eq_some_iff.1 r.at_).1
theorem Ready.anc{D:Nat→Prop}{j:Nat}{o:Oper}(r:Ready ops D j o)(d:Drawn C P cal ops es hs tr){k:Nat}(h:(before ops.toList j).testBit k=true):D k:=
 before_closed d.edges r.closed j k o (by simpa using r.at_) r.edges h
theorem Ready.desc{D:Nat→Prop}{j:Nat}{o:Oper}(r:Ready ops D j o)(d:Drawn C P cal ops es hs tr){k:Nat}{p:Oper}(hk:D k)(hp:ops[k]?=some p)(h:(before ops.toList k).testBit j=true):False:=
 r.not (before_closed d.edges r.closed k j p (by simpa using hp) (fun x hx hb=>r.closed k p hk (by simpa using hp) x hx hb) h)
theorem dst_op{ops:Array Oper}{k t:Nat}(h:(ops[k]?).bind (·.dst)=some t):∃p,ops[k]?=some p∧p.dst=some t:=by
 cases hp:ops[k]? with
 | none=>simp[hp] at h
 | some p=>exact⟨p,rfl,by simpa [hp] using h⟩
theorem Ready.writers{D:Nat→Prop}{j:Nat}{o:Oper}(r:Ready ops D j o)(d:Drawn C P cal ops es hs tr){t:Nat}(ht:t∈tmpsOf ops.toList o∨o.dst=some t) :
  ∀k,k≠j→(ops[k]?).bind (·.dst)=some t→(k<j→D k)∧(j<k→¬D k):=by
 intro k hkj hd;obtain⟨p,hp,hpd⟩:=dst_op hd;refine⟨fun hlt=>?_,fun hlt hk=>?_⟩
 ·rcases d.pair hp r.at_ hlt with h | h
  ·exact r.anc d h
  ·obtain⟨h1,h2⟩:=apart_dst h hpd;rcases ht with ht | ht
   ·exact absurd ht h1
   ·exact absurd ht h2
 ·rcases d.pair r.at_ hp hlt with h | h
  ·exact r.desc d hk hp h
  ·rcases ht with ht | ht
   ·exact absurd ht (apart_dst2 h hpd)
   ·exact absurd hpd (apart_dst h ht).2
theorem Ready.read{D:Nat→Prop}{j:Nat}{o:Oper}(r:Ready ops D j o)(d:Drawn C P cal ops es hs tr){t:Nat}(ht:t∈tmpsOf ops.toList o∨o.dst=some t) :
  V ops es D ops.size t=(es j).get t:=by
 have hlt:=r.lt;rw[V_still (i:=j) (by omega),V_text d (by omega)]
 ·intro k hk hd;exact(r.writers d ht k (by omega) hd).1 hk
 ·rintro k h1 h2 ⟨hD,hd⟩;by_cases hkj:k=j
  ·subst hkj;exact r.not hD
  ·exact(r.writers d ht k hkj hd).2 (by omega) hD
def plus(D:Nat→Prop)(j:Nat):Nat→Prop:=fun k=>D k∨k=j
theorem Ready.after{D:Nat→Prop}{j:Nat}{o:Oper}(r:Ready ops D j o)(d:Drawn C P cal ops es hs tr){t:Nat} :
  V ops es (plus D j) ops.size t=if o.dst=some t then (es (j+1)).get t else V ops es D ops.size t:=by
 have hlt:=r.lt;split
 ·rename_i ht;rw[V_still (i:=j+1) (by omega),V_text d (by omega)]
  ·intro k hk hd;by_cases hkj:k=j
   ·exact .inr hkj
   ·exact .inl ((r.writers d (.inr ht) k hkj hd).1 (by omega))
  ·rintro k h1 h2 ⟨hD,hd⟩;rcases hD with hD | hD
   ·exact(r.writers d (.inr ht) k (by omega) hd).2 (by omega) hD
   ·omega
 ·rename_i ht;refine V_congr fun k hk hd=>?_;have hkj:k≠j:=by
   intro e;subst e;rw[r.at_] at hd;exact ht (by simpa using hd)
  exact⟨fun h=>h.resolve_right hkj,.inl⟩
theorem Ready.finish{D:Nat→Prop}{j:Nat}{o:Oper}(r:Ready ops D j o)(d:Drawn C P cal ops es hs tr){σ0 σ σ':Sig}{w0 w w':World}{df:List Deferred}{a:Act}(I:Inv C ops es hs σ0 w0 df D σ a w)
  {v v':Value} (he:es (j+1)=(es j).put o.dst v) (hv:VRel σ' v v') (hle:Sig.le σ σ') (hs':Sim σ' (G hs (plus D j) ops.size) w')
  (hev:Ev σ (G hs D ops.size) (hs 0).next w σ' (G hs (plus D j) ops.size) (hs ops.size).next w')
  (hfr:∀k,k<ops.size→¬D k→k≠j→∀i,(hs k).next≤i→i<(hs (k+1)).next→σ' i=σ i) :
  Inv C ops es hs σ0 w0 df (plus D j) σ' (a.put o.dst v') w' where
 glob:=I.glob.mono hle
 sim:=hs'
 size:=by
  rw[I.size];cases hd:o.dst with
  | none=>rfl
  | some t=>simp[Act.put]
 env:=fun t u hu=>by
  rw[r.after d] at hu;have old:V ops es D ops.size t=some u→∃v',a.tmps[t]?=some v'∧VRel σ' u v':=fun h=>by
   obtain⟨u',h1,h2⟩:=I.env t u h;exact⟨u',h1,h2.mono hle⟩
  have hn:(es j).n=a.tmps.size:=by rw[d.ns (Nat.le_of_lt r.lt),I.size]
  split at hu
  ·rename_i ht;rw[he] at hu;simp only[ht,Env.put,Act.put] at hu ⊢;cases hb:Nat.blt t (es j).n with
   | true=>
    simp only[hb,cond_true] at hu;have:((es j).t.set t (some v)).get t=some u:=hu;rw[T.get_set_same] at this;cases this;have hlt:t<a.tmps.size:=by rw[←hn];simpa using hb
    exact⟨v',by simp[hlt],hv⟩
   | false=>
    simp only[hb,cond_false] at hu;have hlt:¬t<a.tmps.size:=by
     rw[←hn];intro h;rw[show Nat.blt t (es j).n=true from by simpa using h] at hb;cases hb
    obtain⟨u',h1,h2⟩:=old (by rw[r.read d (.inr ht)];exact hu);exact absurd (Array.getElem?_eq_some_iff.1 h1).1 hlt
  ·rename_i ht;obtain⟨u',h1,h2⟩:=old hu;refine⟨u',?_,h2⟩;cases hd:o.dst with
   | none=>exact h1
   | some t2=>
    have hne:t≠t2:=fun e=>ht (by rw[hd,e]);simp only[Act.put];rw[Array.getElem?_setIfInBounds_ne (Ne.symm hne)];exact h1
 fresh:=fun k hk hnk i h1 h2=>by
  have hkj:k≠j:=fun e=>hnk (.inr e);rw[hfr k hk (fun h=>hnk (.inl h)) hkj i h1 h2];exact I.fresh k hk (fun h=>hnk (.inl h)) i h1 h2
 ev:=I.ev.comp hev
 defers:=by
  rw[←I.defers];cases o.dst<;>rfl
end
end Go.Abs