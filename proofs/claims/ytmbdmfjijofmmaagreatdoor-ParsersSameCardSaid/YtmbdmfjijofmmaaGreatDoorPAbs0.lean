/-
  An abstract machine for code that draws nothing and prints nothing: values, blocks, the evaluator.
-/
import Derived.Orders
import Derived.RowKit3
/-
 Tries,abstract blocks,abstract heaps,and how an abstract value stands for a value of the model.
-/
namespace Go.Abs
abbrev AI:=@Nat.le_trans
abbrev AS:=@Nat.le_refl
abbrev AT:=@if_neg
abbrev By:=@if_pos
abbrev BY:=@Option.some.inj
abbrev If:=@List.mem_cons_of_mem
abbrev IN:=@Bool.and_eq_true
abbrev IT:=@Option.some.injEq
abbrev JN:=@List.map_cons
abbrev No:=@List.getD_eq_getElem?_getD
abbrev NO:=@List.Perm.refl
abbrev OF:=@Nat.mul_le_mul_right
abbrev RH:=@cond_true
abbrev RI:=@List.mem_map
abbrev RJ:=@List.mem_filter
abbrev RK:=@List.mem_singleton
abbrev RL:=@List.length_map
abbrev RM:=@List.getElem?_map
abbrev RN:=@List.take_of_length_le
abbrev RO:=@cond_false
abbrev RP:=@List.length_append
abbrev RQ:=@List.mem_range
abbrev RR:=@List.mem_cons_self
abbrev RS:=@Nat.pow_le_pow_right
abbrev RU:=@Nat.add_le_add
abbrev RV:=@Array.getElem?_eq_some_iff
abbrev RW:=@List.getElem?_append_left
abbrev RX:=@Array.getD_eq_getD_getElem?
abbrev RY:=@Nat.zero_add
abbrev RZ:=@List.take_add_one
abbrev R0:=@List.mem_cons
abbrev R1:=@List.cons.injEq
abbrev R2:=@Nat.lt_or_ge
abbrev R3:=@List.getElem?_eq_none
abbrev R4:=@List.length_cons
abbrev R5:=@List.mem_append
abbrev R6:=@Nat.zero_le
abbrev R7:=@Array.getElem?_toList
abbrev R8:=@Nat.eq_of_beq_eq_true
abbrev R9:=@List.getElem?_eq_some_iff
abbrev Sa:=@List.drop_eq_getElem_cons
abbrev Sb:=@Prod.mk.injEq
abbrev Sc:=@List.getElem?_set_self
abbrev Se:=@List.getElem?_drop
abbrev Sf:=@Nat.ble_eq_true_of_le
abbrev Sg:=@List.getElem?_take
abbrev Sh:=@List.getElem?_eq_getElem
abbrev Si:=@List.map_append
abbrev Sj:=@List.getElem?_append_right
abbrev Sk:=@List.Sublist.refl
abbrev Sl:=@Nat.mul_le_mul
abbrev Sm:=@List.length_take
abbrev Sn:=@List.countP_eq_length_filter
abbrev Sp:=@Option.map_some
abbrev Sq:=@List.append_nil
abbrev Sr:=@List.isPrefixOf_iff_prefix
abbrev Ss:=@Nat.add_mul
abbrev Su:=@decide_eq_true_eq
abbrev Sv:=@List.any_eq_true
abbrev Sw:=@List.mem_append_left
abbrev Sx:=@List.Pairwise.filter
abbrev Sy:=@Nat.mul_one
abbrev Sz:=@Array.getElem?_setIfInBounds_ne
abbrev SA:=@List.ext_getElem?
abbrev SC:=@List.mem_append_right
abbrev SD:=@List.getElem?_set_ne
abbrev SE:=@List.eq_nil_of_length_eq_zero
abbrev SF:=@Nat.le_of_lt
abbrev SG:=@List.sum_cons
abbrev SH:=@Nat.lt_of_lt_of_le
abbrev SI:=@List.all_eq_true
abbrev SJ:=@List.getElem_of_mem
abbrev SK:=@beq_iff_eq
abbrev SL:=@List.append_assoc
abbrev SM:=@List.nodup_cons
abbrev SN:=@Nat.min_eq_left
abbrev SO:=@Nat.add_le_add_left
abbrev SP:=@List.drop_of_length_le
abbrev SQ:=@List.map_nil
abbrev SR:=@List.not_mem_nil
abbrev SS:=@Array.mem_toList_iff
abbrev SU:=@if_true
abbrev SV:=@Bool.eq_false_iff
abbrev SW:=@List.nodup_iff_pairwise_ne
abbrev SX:=@List.length_replicate
abbrev SY:=@Nat.mul_le_mul_left
abbrev SZ:=@Bool.or_eq_true
abbrev S0:=@List.length_range
abbrev S1:=@Nat.le_of_ble_eq_true
abbrev S2:=@List.take_append_drop
abbrev S3:=@List.mem_flatMap
abbrev S4:=@of_decide_eq_true
abbrev S5:=@List.nodup_append
abbrev S6:=@Bool.false_eq_true
abbrev S7:=@Nat.one_mul
abbrev S8:=@List.flatten_cons
abbrev S9:=@List.getElem?_replicate
abbrev Ta:=@Bool.eq_iff_iff
abbrev Tb:=@List.map_set
abbrev Tc:=@List.mem_of_getElem?
abbrev Td:=@Nat.lt_succ_self
abbrev Te:=@if_false
abbrev Tf:=@List.sublist_cons_self
abbrev Tg:=@List.getElem?_range
abbrev Th:=@Nat.ble_eq
abbrev Ti:=@List.map_map
abbrev Tj:=@Nat.mul_comm
abbrev Tk:=@List.eq_of_mem_replicate
abbrev Tl:=@Nat.not_lt_zero
abbrev Tm:=@Nat.two_pow_pos
abbrev Tn:=@List.head_eq_of_cons_eq
abbrev To:=@Nat.min_eq_right
abbrev Tp:=@Bool.not_true
abbrev Tq:=@Nat.add_zero
abbrev Tr:=@Nat.lt_irrefl
abbrev Ts:=@Nat.mul_assoc
abbrev Tt:=@List.perm_ext_iff_of_nodup
abbrev Tu:=@Bool.not_eq_true'
abbrev Tv:=@List.pairwise_iff_getElem
abbrev Tw:=@List.length_singleton
abbrev Tx:=@Nat.beq_refl
abbrev Tz:=@Nat.add_sub_cancel
abbrev TA:=@List.getElem?_cons_succ
abbrev TC:=@List.pairwise_map
abbrev TD:=@List.flatMap_append
abbrev TE:=@Array.getElem?_setIfInBounds_self
abbrev TF:=@Nat.testBit_lt_two_pow
abbrev TG:=@Nat.pow_succ
abbrev TH:=@List.zipWith_cons_cons
abbrev TI:=@Nat.pow_add
abbrev TJ:=@Bool.and_self
abbrev TK:=@List.getElem_mem
abbrev TL:=@List.length_eq_countP_add_countP
abbrev TN:=@Bool.not_false
abbrev TO:=@Int.natCast_nonneg
abbrev TP:=@Nat.eq_zero_or_pos
abbrev TQ:=@List.length_filter_le
abbrev TR:=@List.getElem?_eq_none_iff
abbrev TS:=@List.mem_or_eq_of_mem_set
abbrev TT:=@Array.ext'
abbrev TU:=@Bool.or_eq_false_iff
abbrev TV:=@List.Nodup.length_le_of_subset
abbrev TW:=@Nat.sub_self
abbrev TX:=@List.range_succ
abbrev TY:=@List.mem_of_mem_drop
abbrev TZ:=@Nat.le_total
abbrev T0:=@Int.toNat_natCast
abbrev T1:=@Nat.add_assoc
abbrev T2:=@Array.length_toList
abbrev T3:=@List.cons_append
abbrev T4:=@or_false
abbrev T5:=@List.perm_middle
abbrev T6:=@List.take_length
abbrev T7:=@List.nodup_nil
abbrev T8:=@Nat.lt_of_le_of_lt
abbrev T9:=@List.countP_mono_left
abbrev Ua:=@List.getElem?_set
abbrev Ub:=@List.Perm.flatten
abbrev Uc:=@Nat.pow_lt_pow_right
abbrev Ud:=@Nat.add_comm
abbrev Ue:=@List.countP_cons
abbrev Uf:=@Nat.min_le_right
abbrev Ug:=@List.mem_map_of_mem
abbrev Uh:=@List.pairwise_singleton
abbrev Ui:=@Int.natCast_mul
abbrev Uj:=@Nat.min_le_left
abbrev Uk:=@List.mem_filterMap
abbrev Ul:=@List.set_cons_zero
abbrev Um:=@List.set_cons_succ
abbrev Un:=@Nat.div_le_self
abbrev Uo:=@List.map_replicate
abbrev Up:=@List.prefix_append
abbrev Uq:=@Nat.le_min
abbrev Ur:=@List.length_pos_of_mem
abbrev Us:=@List.exists_mem_of_length_pos
abbrev Ut:=@Array.toList_push
abbrev Uu:=@Int.emod_eq_of_lt
abbrev Uv:=@List.flatMap_cons
abbrev Uw:=@Nat.lt_succ_of_le
abbrev Ux:=@List.drop_zero
abbrev Uy:=@Bool.false_and
abbrev Uz:=@List.idxOf_lt_length_of_mem
abbrev UA:=@List.nodup_range
abbrev UC:=@List.flatMap_nil
abbrev UD:=@List.getElem?_of_mem
abbrev UE:=@List.filter_cons
abbrev UF:=@Bool.and_true
abbrev UG:=@Nat.pow_pos
abbrev UH:=@Nat.testBit_two_pow
abbrev UI:=@List.drop_succ_cons
abbrev UJ:=@List.length_nil
abbrev UK:=@List.mem_of_find?_eq_some
abbrev UL:=@List.nil_append
abbrev UM:=@Array.getElem?_eq_getElem
abbrev UN:=@Nat.zero_mul
abbrev UO:=@of_decide_eq_false
abbrev UP:=@and_true
abbrev UQ:=@List.drop_drop
abbrev UR:=@List.getElem?_cons_zero
abbrev UT:=@List.tail_eq_of_cons_eq
abbrev UU:=@Array.getElem?_push_lt
abbrev UW:=@List.getElem_cons_zero
abbrev UX:=@Nat.mul_add
abbrev UY:=@List.pairwise_lt_range
abbrev UZ:=@List.mem_flatten
abbrev U0:=@Nat.div_lt_iff_lt_mul
abbrev U1:=@decide_eq_false
abbrev U2:=@List.take_left'
abbrev U3:=@Nat.testBit_and
abbrev U4:=@List.sum_append
abbrev U5:=@List.sum_nil
abbrev U6:=@List.length_set
inductive T(α:Type) where
 | e:T α
 | n:T α->Option α->T α->T α
def T.get{α:Type}:T α->Nat->Option α
 | .e,_=>none
 | .n l v r,k=>match k with
  | 0=>v
  | k+1=>bif k % 2==0 then l.get (k / 2) else r.get (k / 2)
def T.rq{α:Type}:Nat->T α->Nat->Option α->T α
 | 0,t,_,_=>t
 | f+1,.e,k,v=>match k with
  | 0=>.n .e v .e
  | k+1=>bif k % 2==0 then .n (T.rq f .e (k / 2) v) none .e else .n .e none (T.rq f .e (k / 2) v)
 | f+1,.n l x r,k,v=>match k with
  | 0=>.n l v r
  | k+1=>bif k % 2==0 then .n (T.rq f l (k / 2) v) x r else .n l x (T.rq f r (k / 2) v)
def T.set{α:Type}(t:T α)(k:Nat)(v:Option α):T α:=T.rq (k+1) t k v
theorem T.Oo{α:Type}(k:Nat):(T.e:T α).get k=none:=rfl
theorem FA{α:Type}{j k m:Nat}{x y:α}(h:k % 2=m)(h2:j % 2=m):(if j / 2=k / 2 then x else y)=if j=k then x else y:=by
 by_cases hj:j=k
 ·subst hj;simp
 ·rw[AT hj,AT (by omega)]
theorem T.rJ{α:Type}:∀(f:Nat) (t:T α) (k j:Nat) (v:Option α),k<f->
  (T.rq f t k v).get j=if j=k then v else t.get j
 | 0,_,_,_,_,h=>absurd h (Tl _)
 | f+1,.e,0,j,v,_=>by
  cases j with
  | zero=>simp[T.rq,T.get]
  | succ j=>simp[T.rq,T.get]
 | f+1,.e,k+1,0,v,_=>by
  cases h:(k % 2==0)<;>simp[T.rq,T.get,h]
 | f+1,.e,k+1,j+1,v,hk=>by
  have ih:=T.rJ f (.e:T α) (k / 2) (j / 2) v (by omega);rw[T.Oo] at ih
  cases h:(k % 2==0)<;>cases h2:(j % 2==0)<;>simp at h h2<;>simp[T.rq,T.get,h,h2,ih]<;>
   (first | omega | exact FA h h2)
 | f+1,.n l x r,0,j,v,_=>by
  cases j with
  | zero=>simp[T.rq,T.get]
  | succ j=>simp[T.rq,T.get]
 | f+1,.n l x r,k+1,0,v,_=>by
  cases h:(k % 2==0)<;>simp[T.rq,T.get,h]
 | f+1,.n l x r,k+1,j+1,v,hk=>by
  have ihl:=T.rJ f l (k / 2) (j / 2) v (by omega);have ihr:=T.rJ f r (k / 2) (j / 2) v (by omega)
  cases h:(k % 2==0)<;>cases h2:(j % 2==0)<;>simp at h h2<;>simp[T.rq,T.get,h,h2,ihl,ihr]<;>
   (first | omega | exact FA h h2)
theorem T.kO{α:Type}(t:T α)(k j:Nat)(v:Option α):(t.set k v).get j=if j=k then v else t.get j:=
 T.rJ _ t k j v (Td k)
theorem T.qJ{α:Type}(t:T α)(k:Nat)(v:Option α):(t.set k v).get k=v:=by rw[T.kO,By rfl]
theorem T.vQ{α:Type}(t:T α)(k j:Nat)(v:Option α)(h:j≠k):(t.set k v).get j=t.get j:=by rw[T.kO,AT h]
inductive aE where
 | cells (ro:Bool) (cs:List Value)
 | map (es:List (Value×Value))
def aE.ro:aE->Bool
 | .cells ro _=>ro
 | .map _=>false
structure aq where
 next:Nat
 t:T aE
def aq.get(h:aq)(i:Nat):Option aE:=h.t.get i
def aq.put(h:aq)(i:Nat)(b:Option aE):aq:={ next:=h.next,t:=h.t.set i b }
def aq.alloc(h:aq)(b:aE):aq:={ next:=h.next+1,t:=h.t.set h.next (some b) }
theorem aq.dy(h:aq)(i j:Nat)(b:Option aE):(h.put i b).get j=if j=i then b else h.get j:=T.kO _ _ _ _
theorem aq.dP(h:aq)(j:Nat)(b:aE):(h.alloc b).get j=if j=h.next then some b else h.get j:=T.kO _ _ _ _
@[simp] theorem aq.Kd (h:aq) (i:Nat) (b:Option aE):(h.put i b).next=h.next:=rfl
@[simp] theorem aq.Ey (h:aq) (b:aE):(h.alloc b).next=h.next+1:=rfl
structure Loc where
 bu:Nat
 off:Nat
 size:Nat
abbrev aY:=Nat->Option Loc
mutual
def aL(σ:aY):Value->Value->Prop
 | .bool b,v'=>v'=.bool b
 | .int k n,v'=>v'=.int k n
 | .float k n,v'=>v'=.float k n
 | .complex k a b,v'=>v'=.complex k a b
 | .string s,v'=>v'=.string s
 | .pointer none,v'=>v'=.pointer none
 | .pointer (some a),v'=>∃l,σ a.block=some l/\a.spot=none/\v'=.pointer (some ⟨l.bu,l.off+a.off,none⟩)
 | .slice none len c,v'=>len=0/\c=0/\v'=.slice none 0 0
 | .slice (some a) len c,v'=>∃l a' cap,σ a.block=some l/\a.spot=none/\v'=.slice (some a') len cap/\len<=cap/\(c=0->cap=0)/\
   (cap≠0->a'=⟨l.bu,l.off+a.off,none⟩/\l.off+a.off+cap*c<=l.size)
 | .map none,v'=>v'=.map none
 | .map (some r),v'=>∃l,σ r=some l/\v'=.map (some l.bu)
 | .chan _,_=>False
 | .func fn ⟨xs⟩ ⟨ys⟩,v'=>∃xs' ys',v'=.func fn ⟨xs'⟩ ⟨ys'⟩/\aJ σ xs xs'/\aJ σ ys ys'
 | .nilFunc,v'=>v'=.nilFunc
 | .iface t v,v'=>∃u,v'=.iface t u/\aL σ v u
 | .nilIface,v'=>v'=.nilIface
 | .agg ⟨cs⟩,v'=>∃cs',v'=.agg ⟨cs'⟩/\aJ σ cs cs'
 | .tuple ⟨cs⟩,v'=>∃cs',v'=.tuple ⟨cs'⟩/\aJ σ cs cs'
def aJ(σ:aY):List Value->List Value->Prop
 | [],l=>l=[]
 | v::vs,l=>∃v' vs',l=v'::vs'/\aL σ v v'/\aJ σ vs vs'
end
end Go.Abs
namespace Go.Abs
def aY.le(σ τ:aY):Prop:=∀i l,σ i=some l->τ i=some l
theorem aY.le_refl(σ:aY):aY.le σ σ:=λ_ _ h=>h
mutual
theorem aL.mono{σ τ:aY}(h:aY.le σ τ):∀{v v':Value},aL σ v v'->aL τ v v'
 | .bool _,_,r=>r
 | .int _ _,_,r=>r
 | .float _ _,_,r=>r
 | .complex _ _ _,_,r=>r
 | .string _,_,r=>r
 | .pointer none,_,r=>r
 | .pointer (some _),_,⟨l,a,r⟩=>⟨l,h _ _ a,r⟩
 | .slice none _ _,_,r=>r
 | .slice (some _) _ _,_,⟨l,a',c,e,r⟩=>⟨l,a',c,h _ _ e,r⟩
 | .map none,_,r=>r
 | .map (some _),_,⟨l,a,r⟩=>⟨l,h _ _ a,r⟩
 | .chan _,_,r=>r
 | .func _ ⟨_⟩ ⟨_⟩,_,⟨a,b,e,r,s⟩=>⟨a,b,e,aJ.mono h r,aJ.mono h s⟩
 | .nilFunc,_,r=>r
 | .iface _ _,_,⟨u,e,r⟩=>⟨u,e,aL.mono h r⟩
 | .nilIface,_,r=>r
 | .agg ⟨_⟩,_,⟨c,e,r⟩=>⟨c,e,aJ.mono h r⟩
 | .tuple ⟨_⟩,_,⟨c,e,r⟩=>⟨c,e,aJ.mono h r⟩
theorem aJ.mono{σ τ:aY}(h:aY.le σ τ):∀{vs vs':List Value},aJ σ vs vs'->aJ τ vs vs'
 | [],_,r=>r
 | _::_,_,⟨a,b,e,r,s⟩=>⟨a,b,e,aL.mono h r,aJ.mono h s⟩
end
theorem aJ.length{σ:aY}:∀{vs vs':List Value},aJ σ vs vs'->vs'.length=vs.length
 | [],_,r=>by rw[show _=[] from r]
 | _::_,_,⟨_,_,e,_,s⟩=>by rw[e,R4,R4,aJ.length s]
theorem aJ.get{σ:aY}:∀{vs vs':List Value},aJ σ vs vs'->∀(i:Nat) (v:Value),vs[i]?=some v->∃v',vs'[i]?=some v'/\aL σ v v'
 | [],_,_,i,v,h=>by simp at h
 | x::_,_,⟨a,b,e,r,s⟩,i,v,h=>by
  subst e;cases i with
  | zero=>simp at h;subst h;exact⟨a,rfl,r⟩
  | succ i=>exact aJ.get s i v (by simpa using h)
theorem aJ.app{σ:aY}:∀{xs xs' ys ys':List Value},aJ σ xs xs'->aJ σ ys ys'->aJ σ (xs++ys) (xs'++ys')
 | [],_,_,_,h,k=>by rw[show _=[] from h];exact k
 | _::_,_,_,_,⟨a,b,e,r,s⟩,k=>by subst e;exact⟨a,b++_,rfl,r,aJ.app s k⟩
theorem aJ.take{σ:aY}:∀{xs xs':List Value} (n:Nat),aJ σ xs xs'->aJ σ (xs.take n) (xs'.take n)
 | _,_,0,_=>by simp[aJ]
 | [],_,_+1,h=>by rw[show _=[] from h];simp[aJ]
 | _::_,_,n+1,⟨a,b,e,r,s⟩=>by subst e;exact⟨a,b.take n,rfl,r,aJ.take n s⟩
theorem aJ.drop{σ:aY}:∀{xs xs':List Value} (n:Nat),aJ σ xs xs'->aJ σ (xs.drop n) (xs'.drop n)
 | _,_,0,h=>by simpa using h
 | [],_,_+1,h=>by rw[show _=[] from h];simp[aJ]
 | _::_,_,n+1,⟨a,b,e,r,s⟩=>by subst e;simpa using aJ.drop n s
mutual
def plain:Value->Bool
 | .bool _=>true
 | .int _ _=>true
 | .float _ _=>true
 | .complex _ _ _=>true
 | .string _=>true
 | .pointer a=>a.isNone
 | .slice a n c=>a.isNone&&n==0&&c==0
 | .map r=>r.isNone
 | .chan _=>false
 | .func _ ⟨xs⟩ ⟨ys⟩=>fG xs&&fG ys
 | .nilFunc=>true
 | .iface _ v=>plain v
 | .nilIface=>true
 | .agg ⟨cs⟩=>fG cs
 | .tuple ⟨cs⟩=>fG cs
def fG:List Value->Bool
 | []=>true
 | v::vs=>plain v&&fG vs
end
mutual
theorem gj(σ:aY):∀(v:Value),plain v=true->aL σ v v
 | .bool _,_=>rfl
 | .int _ _,_=>rfl
 | .float _ _,_=>rfl
 | .complex _ _ _,_=>rfl
 | .string _,_=>rfl
 | .pointer none,_=>rfl
 | .pointer (some _),h=>by simp[plain] at h
 | .slice none n c,h=>by
  simp[plain] at h;obtain⟨rfl,rfl⟩:=h;exact⟨rfl,rfl,rfl⟩
 | .slice (some _) _ _,h=>by simp[plain] at h
 | .map none,_=>rfl
 | .map (some _),h=>by simp[plain] at h
 | .chan _,h=>by simp[plain] at h
 | .func _ ⟨xs⟩ ⟨ys⟩,h=>by
  simp[plain] at h;exact⟨xs,ys,rfl,cX σ xs h.1,cX σ ys h.2⟩
 | .nilFunc,_=>rfl
 | .iface _ v,h=>⟨v,rfl,gj σ v (by simpa [plain] using h)⟩
 | .nilIface,_=>rfl
 | .agg ⟨cs⟩,h=>⟨cs,rfl,cX σ cs (by simpa [plain] using h)⟩
 | .tuple ⟨cs⟩,h=>⟨cs,rfl,cX σ cs (by simpa [plain] using h)⟩
theorem cX(σ:aY):∀(vs:List Value),fG vs=true->aJ σ vs vs
 | [],_=>rfl
 | v::vs,h=>by
  simp[fG] at h;exact⟨v,vs,rfl,gj σ v h.1,cX σ vs h.2⟩
end
theorem aL.cells{σ:aY}:∀{v v':Value},aL σ v v'->aJ σ v.cells.toList v'.cells.toList
 | .bool _,_,h=>by have e:=h;rw[show _=_ from e];exact⟨_,[],rfl,rfl,rfl⟩
 | .int _ _,_,h=>by have e:=h;rw[show _=_ from e];exact⟨_,[],rfl,rfl,rfl⟩
 | .float _ _,_,h=>by have e:=h;rw[show _=_ from e];exact⟨_,[],rfl,rfl,rfl⟩
 | .complex _ _ _,_,h=>by have e:=h;rw[show _=_ from e];exact⟨_,[],rfl,rfl,rfl⟩
 | .string _,_,h=>by have e:=h;rw[show _=_ from e];exact⟨_,[],rfl,rfl,rfl⟩
 | .pointer none,_,h=>by have e:=h;rw[show _=_ from e];exact⟨_,[],rfl,rfl,rfl⟩
 | .pointer (some _),_,⟨l,a,b,e⟩=>by subst e;exact⟨_,[],rfl,⟨l,a,b,rfl⟩,rfl⟩
 | .slice none _ _,_,⟨a,b,e⟩=>by subst e;exact⟨_,[],rfl,⟨a,b,rfl⟩,rfl⟩
 | .slice (some _) _ _,_,⟨l,a',c,a,b,e,r⟩=>by subst e;exact⟨_,[],rfl,⟨l,a',c,a,b,rfl,r⟩,rfl⟩
 | .map none,_,h=>by have e:=h;rw[show _=_ from e];exact⟨_,[],rfl,rfl,rfl⟩
 | .map (some _),_,⟨l,a,e⟩=>by subst e;exact⟨_,[],rfl,⟨l,a,rfl⟩,rfl⟩
 | .func _ ⟨_⟩ ⟨_⟩,_,⟨xs',ys',e,r,s⟩=>by subst e;exact⟨_,[],rfl,⟨xs',ys',rfl,r,s⟩,rfl⟩
 | .nilFunc,_,h=>by have e:=h;rw[show _=_ from e];exact⟨_,[],rfl,rfl,rfl⟩
 | .iface _ _,_,⟨u,e,r⟩=>by subst e;exact⟨_,[],rfl,⟨u,rfl,r⟩,rfl⟩
 | .nilIface,_,h=>by have e:=h;rw[show _=_ from e];exact⟨_,[],rfl,rfl,rfl⟩
 | .agg ⟨_⟩,_,⟨cs',e,r⟩=>by subst e;exact r
 | .tuple ⟨_⟩,_,⟨cs',e,r⟩=>by subst e;exact⟨_,[],rfl,⟨cs',rfl,r⟩,rfl⟩
def one:Value->Bool
 | .agg _=>false
 | .tuple _=>false
 | _=>true
theorem aL.one{σ:aY}:∀{v v':Value},aL σ v v'->one v=true->v'.oneCell'=true
 | .bool _,_,h,_=>by rw[show _=_ from h];rfl
 | .int _ _,_,h,_=>by rw[show _=_ from h];rfl
 | .float _ _,_,h,_=>by rw[show _=_ from h];rfl
 | .complex _ _ _,_,h,_=>by rw[show _=_ from h];rfl
 | .string _,_,h,_=>by rw[show _=_ from h];rfl
 | .pointer none,_,h,_=>by rw[show _=_ from h];rfl
 | .pointer (some _),_,⟨l,a,b,e⟩,_=>by subst e;rfl
 | .slice none _ _,_,⟨a,b,e⟩,_=>by subst e;rfl
 | .slice (some _) _ _,_,⟨l,a',c,a,b,e,r⟩,_=>by subst e;rfl
 | .map none,_,h,_=>by rw[show _=_ from h];rfl
 | .map (some _),_,⟨l,a,e⟩,_=>by subst e;rfl
 | .func _ ⟨_⟩ ⟨_⟩,_,⟨xs',ys',e,r,s⟩,_=>by subst e;rfl
 | .nilFunc,_,h,_=>by rw[show _=_ from h];rfl
 | .iface _ _,_,⟨u,e,r⟩,_=>by subst e;rfl
 | .nilIface,_,h,_=>by rw[show _=_ from h];rfl
 | .agg _,_,_,h=>by cases h
 | .tuple _,_,_,h=>by cases h
end Go.Abs
/-
 The abstract machine: a deterministic evaluator of the model's code,without tape,capacities and orders.
-/
namespace Go.Abs
structure Ctx where
 info:TypeId->Option TypeInfo
 func:FuncId->Option Func
 /-- how many package variables are known to lie where the model lays them -/
 cK:Nat
 /-- struct types that are compared field by field -/
 flat:TypeId->Bool
 /-- functions without parameters that are known to return true, and the blocks that must stand -/
 fact:FuncId->Option (List (Nat×aE)):=λ_=>none
def Ctx.gZ(C:Ctx)(t:TypeId):Option TypeDesc:=
 match C.info t with
 | some i=>match i.desc with
  | .named _ u=>(C.info u).map (·.desc)
  | d=>some d
 | none=>none
def Ctx.size(C:Ctx)(t:TypeId):Option Nat:=(C.info t).map (·.size)
def Ctx.bytes(C:Ctx)(t:TypeId):Option Nat:=(C.info t).map (·.bytes)
def Ctx.zero(C:Ctx)(t:TypeId):Option Value:=
 match C.info t with
 | some i=>match i.zero with
  | some z=>bif plain z&&z.cells.size==i.size then some z else none
  | none=>none
 | none=>none
def ue:TypeDesc->Bool
 | .struct _=>true
 | .array _ _=>true
 | _=>false
def bk(cs:List Value)(off:Nat)(vs:List Value):List Value:=cs.take off++(vs++cs.drop (off+vs.length))
def cf(cs:List Value)(off n:Nat):Option (List Value):=
 let l:=(cs.drop off).take n
 bif l.length==n then some l else none
def jS(h:aq)(b:Nat):Option (List Value):=
 match h.get b with
 | some (.cells _ cs)=>some cs
 | _=>none
def eX(C:Ctx)(cs:List Value)(t:TypeId)(off:Nat):Option Value:=
 match C.gZ t with
 | none=>none
 | some d=>bif ue d then
   match C.size t with
   | some n=>(cf cs off n).map λl=>.agg ⟨l⟩
   | none=>none
  else cs[off]?
def m5(C:Ctx)(h:aq)(t:TypeId):Value->Option Value
 | .pointer (some ⟨b,off,none⟩)=>match jS h b with
  | some cs=>eX C cs t off
  | none=>none
 | _=>none
def sV(C:Ctx)(h:aq)(t:TypeId)(p v:Value):Option aq:=
 match p with
 | .pointer (some ⟨b,off,none⟩)=>
  match h.get b,C.size t with
  | some (.cells false cs),some n=>
   let vs:=v.cells.toList
   bif vs.length==n&&vs.all one&&Nat.ble (off+n) cs.length then some (h.put b (some (.cells false (bk cs off vs)))) else none
  | _,_=>none
 | _=>none
def lp(place:Nat->Option (Nat×Nat)):List Value->List (Nat×Value)->Option (List Value)
 | cs,[]=>some cs
 | cs,(i,v)::rest=>
  match place i with
  | none=>none
  | some (off,size)=>
   let vs:=v.cells.toList
   bif vs.length==size&&Nat.ble (off+size) cs.length then lp place (bk cs off vs) rest else none
def c7(z:List Value):Nat->List Value
 | 0=>[]
 | n+1=>z++c7 z n
def places(C:Ctx):List Field->Option (List (Nat×Nat))
 | []=>some []
 | f::fs=>match C.size f.type,places C fs with
  | some n,some r=>some ((f.offset,n)::r)
  | _,_=>none
def sP(C:Ctx)(t:TypeId)(parts:List (Nat×Value)):Option Value:=
 match C.zero t,C.gZ t with
 | some z,some (.struct fields)=>match places C fields.toList with
  | some ps=>(lp (λi=>ps[i]?) z.cells.toList parts).map λcs=>.agg ⟨cs⟩
  | none=>none
 | some z,some (.array _ e)=>match C.size e with
  | some n=>(lp (λi=>some (i*n,n)) z.cells.toList parts).map λcs=>.agg ⟨cs⟩
  | none=>none
 | _,_=>none
def gV(C:Ctx)(h:aq)(t:TypeId)(len:Nat)(parts:List (Nat×Value)):Option (Value×aq):=
 match C.gZ t with
 | some (.slice e)=>match C.size e,C.zero e with
  | some n,some z=>
   bif Nat.ble (len*n) 16777216&&Nat.blt 0 n then
    match lp (λi=>some (i*n,n)) (c7 z.cells.toList len) parts with
    | some cs=>some (.slice (some ⟨h.next,0,none⟩) len (bif len==0 then 0 else n),h.alloc (.cells false cs))
    | none=>none
   else none
  | _,_=>none
 | _=>none
def dj(op:BinOp)(k:IntKind)(a b:Int):Option Value:=
 match op with
 | .add=>some (.int k (k.wrap (a+b)))
 | .sub=>some (.int k (k.wrap (a-b)))
 | .mul=>some (.int k (k.wrap (a*b)))
 | .quo=>if b=0 then none else some (.int k (k.wrap (a.tdiv b)))
 | .rem=>if b=0 then none else some (.int k (a.tmod b))
 | .and=>some (.int k (k.wrap (BitVec.ofInt k.bits a &&& BitVec.ofInt k.bits b).toNat))
 | .or=>some (.int k (k.wrap (BitVec.ofInt k.bits a ||| BitVec.ofInt k.bits b).toNat))
 | .xor=>some (.int k (k.wrap (BitVec.ofInt k.bits a ^^^ BitVec.ofInt k.bits b).toNat))
 | .andNot=>some (.int k (k.wrap (BitVec.ofInt k.bits a &&& ~~~BitVec.ofInt k.bits b).toNat))
 | .eql=>some (.bool (a==b))
 | .neq=>some (.bool (a != b))
 | .lss=>some (.bool (decide (a<b)))
 | .leq=>some (.bool (decide (a<=b)))
 | .gtr=>some (.bool (decide (a > b)))
 | .geq=>some (.bool (decide (a≥b)))
 | _=>none
def jH(op:BinOp)(k:IntKind)(x y:Int):Option Value:=
 if y<0 then none else
 match op with
 | .shl=>some (.int k (k.wrap (x*2 ^ (min y.toNat k.bits))))
 | .shr=>some (.int k (x.fdiv (2 ^ (min y.toNat k.bits))))
 | _=>none
def wH:TypeDesc->Bool
 | .bool=>true
 | .int _=>true
 | .string=>true
 | .pointer _=>true
 | _=>false
def gr(d:TypeDesc)(x y:Value):Option Bool:=
 match d,x,y with
 | .bool,.bool a,.bool b=>some (a==b)
 | .int _,.int k a,.int k' b=>if k=k' then some (a==b) else none
 | .string,.string a,.string b=>some (a==b)
 | .pointer _,.pointer none,.pointer none=>some true
 | _,_,_=>none
def eqFields(C:Ctx)(eq:TypeId->Value->Value->Option Bool):List Field->List Value->List Value->Option Bool
 | [],_,_=>some true
 | f::fs,xs,ys=>
  match eX C xs f.type f.offset,eX C ys f.type f.offset with
  | some a,some b=>match eq f.type a b with
   | some true=>eqFields C eq fs xs ys
   | r=>r
  | _,_=>none
def rC(C:Ctx)(eq:Value->Value->Option Bool)(e s:Nat)(xs ys:List Value):List Nat->Option Bool
 | []=>some true
 | i::is=>
  match eX C xs e (i*s),eX C ys e (i*s) with
  | some a,some b=>match eq a b with
   | some true=>rC C eq e s xs ys is
   | r=>r
  | _,_=>none
def uA(C:Ctx):Nat->TypeId->Value->Value->Option Bool
 | 0,_,_,_=>none
 | n+1,t,x,y=>
  match C.gZ t,x,y with
  | some (.struct fs),.agg xs,.agg ys=>bif C.flat t then eqFields C (uA C n) fs.toList xs.toList ys.toList else none
  | some (.array len e),.agg xs,.agg ys=>match C.size e with
   | some s=>rC C (uA C n e) e s xs.toList ys.toList (List.range len)
   | none=>none
  | some d,x,y=>gr d x y
  | none,_,_=>none
def live(h:aq)(i:Nat):Bool:=
 match h.get i with
 | some (.cells false _)=>true
 | _=>false
def equalA(C:Ctx)(h:aq)(t:TypeId)(x y:Value):Option Bool:=
 match C.gZ t,x,y with
 | some (.pointer _),.pointer none,.pointer b=>some b.isNone
 | some (.pointer _),.pointer (some _),.pointer none=>some false
 | some (.pointer e),.pointer (some ⟨a,i,none⟩),.pointer (some ⟨b,j,none⟩)=>
  match C.size e with
  | some n=>bif n==0 then none else bif a==b then some (i==j) else bif live h a&&live h b then some false else none
  | none=>none
 | some (.interface _),.nilIface,.nilIface=>some true
 | some (.interface _),.nilIface,.iface _ _=>some false
 | some (.interface _),.iface _ _,.nilIface=>some false
 | some (.slice _),.slice none _ _,.slice b _ _=>some b.isNone
 | some (.slice _),.slice (some _) _ _,.slice none _ _=>some false
 | some (.map _ _),.map none,.map b=>some b.isNone
 | some (.map _ _),.map (some _),.map none=>some false
 | some (.func _ _ _),.nilFunc,.nilFunc=>some true
 | some (.func _ _ _),.nilFunc,.func _ _ _=>some false
 | some (.func _ _ _),.func _ _ _,.nilFunc=>some false
 | _,_,_=>uA C 8 t x y
def lV(op:BinOp)(a b:ByteArray):Option Value:=
 match op with
 | .add=>bif Nat.ble (a.size+b.size) 9223372036854775807 then some (.string (a++b)) else none
 | .eql=>some (.bool (a.toList==b.toList))
 | .neq=>some (.bool !(a.toList==b.toList))
 | _=>none
def jD(C:Ctx)(t:TypeId)(x y:Operand)(a b:Value):Bool:=
 match a,b with
 | .nilIface,.nilIface=>(match x with | .const _=>true | _=>match y with | .const _=>true | _=>false)
 | .agg _,.agg _=>C.flat t
 | _,_=>true
def kW(C:Ctx)(h:aq)(op:BinOp)(t:TypeId)(xo yo:Operand)(x y:Value):Option Value:=
 match op,x,y with
 | .shl,.int k a,.int _ b=>jH .shl k a b
 | .shr,.int k a,.int _ b=>jH .shr k a b
 | op,.int k a,.int k' b=>if k=k' then dj op k a b else none
 | op,.string a,.string b=>lV op a b
 | .eql,x,y=>bif jD C t xo yo x y then (equalA C h t x y).map λb=>.bool b else none
 | .neq,x,y=>bif jD C t xo yo x y then (equalA C h t x y).map λb=>.bool !b else none
 | _,_,_=>none
def Pm(op:UnOp)(x:Value):Option Value:=
 match op,x with
 | .neg,.int k n=>some (.int k (k.wrap (0-n)))
 | .xor,.int k n=>some (.int k (k.wrap (BitVec.ofInt k.bits (if k.signed then -1 else k.max) ^^^ BitVec.ofInt k.bits n).toNat))
 | .not,.bool b=>some (.bool !b)
 | _,_=>none
def xe(C:Ctx)(src dst:TypeId)(x:Value):Option Value:=
 match C.gZ src,C.gZ dst,x with
 | some _,some (.int k),.int _ n=>some (.int k (k.wrap n))
 | _,_,_=>none
def iU(C:Ctx)(t:TypeId)(x i:Value):Option Value:=
 match C.gZ t,x,i with
 | some (.slice e),.slice (some ⟨b,off,none⟩) len _,.int _ n=>
  match C.size e with
  | some s=>if 0<=n/\n<len then some (.pointer (some ⟨b,off+n.toNat*s,none⟩)) else none
  | none=>none
 | some (.array len e),.pointer (some ⟨b,off,none⟩),.int _ n=>
  match C.size e with
  | some s=>if 0<=n/\n<len then some (.pointer (some ⟨b,off+n.toNat*s,none⟩)) else none
  | none=>none
 | _,_,_=>none
def j7(C:Ctx)(t:TypeId)(x:Value)(f:Nat):Option Value:=
 match C.gZ t,x with
 | some (.struct fs),.pointer (some ⟨b,off,none⟩)=>match fs.toList[f]? with
  | some fd=>match C.size fd.type with
   | some n=>bif n==0 then none else some (.pointer (some ⟨b,off+fd.offset,none⟩))
   | none=>none
  | none=>none
 | _,_=>none
def vL(C:Ctx)(t:TypeId)(x:Value)(f:Nat):Option Value:=
 match C.gZ t,x with
 | some (.struct fs),.agg cs=>match fs.toList[f]? with
  | some fd=>eX C cs.toList fd.type fd.offset
  | none=>none
 | _,_=>none
def Aj(C:Ctx)(t:TypeId)(x i:Value):Option Value:=
 match C.gZ t,x,i with
 | some (.array len e),.agg cs,.int _ n=>match C.size e with
  | some s=>if 0<=n/\n<len then eX C cs.toList e (n.toNat*s) else none
  | none=>none
 | some .string,.string s,.int _ n=>if 0<=n then (s.data.toList[n.toNat]?).map λb=>.int .u8 b.toNat else none
 | _,_,_=>none
def db(v:Option Value)(dflt:Nat):Option Nat:=
 match v with
 | none=>some dflt
 | some (.int _ n)=>if 0<=n then some n.toNat else none
 | _=>none
def kT(C:Ctx)(h:aq)(t:TypeId)(x:Value)(lo hi mx:Option Value):Option Value:=
 match C.gZ t,x with
 | some (.slice e),.slice none _ _=>
  match C.size e,db lo 0,db hi 0,db mx 0 with
  | some _,some 0,some 0,some 0=>bif mx.isSome&&hi.isNone then none else some (.slice none 0 0)
  | _,_,_,_=>none
 | some (.slice e),.slice (some ⟨b,off,none⟩) len c=>
  match C.size e,db lo 0,db hi len,mx with
  | some s,some l,some u,none=>
   bif Nat.ble l u&&Nat.ble u len&&(c==0||c==s) then some (.slice (some ⟨b,off+l*s,none⟩) (u-l) c) else none
  | some s,some l,some u,some _=>match db mx 0 with
   | some m=>bif hi.isSome&&Nat.ble l u&&Nat.ble u m&&Nat.ble m len&&(c==0||c==s) then
     some (.slice (some ⟨b,off+l*s,none⟩) (u-l) (bif m==l then 0 else c)) else none
   | none=>none
  | _,_,_,_=>none
 | some (.array n e),.pointer (some ⟨b,off,none⟩)=>
  match C.size e,db lo 0,db hi n,mx,jS h b with
  | some s,some l,some u,none,some cs=>
   bif Nat.ble l u&&Nat.ble u n&&Nat.blt 0 s&&Nat.ble (off+n*s) cs.length then some (.slice (some ⟨b,off+l*s,none⟩) (u-l) (bif n==l then 0 else s)) else none
  | _,_,_,_,_=>none
 | some .string,.string s=>
  match db lo 0,db hi s.size,mx with
  | some l,some u,none=>bif Nat.ble l u&&Nat.ble u s.size then some (.string (s.extract l u)) else none
  | _,_,_=>none
 | _,_=>none
def cH:Value->Bool
 | .tuple _=>true
 | _=>false
def alive:List (Value×Value)->List (Value×Value)
 | []=>[]
 | (k,v)::es=>bif cH k then alive es else (k,v)::alive es
def stamps:Nat->List (Value×Value)->List Nat
 | _,[]=>[]
 | n,(k,_)::es=>bif cH k then stamps (n+1) es else n::stamps (n+1) es
def aR(x:Value×Value):List (Value×Value)->Nat->List (Value×Value)
 | [],_=>[]
 | (k,v)::es,0=>bif cH k then (k,v)::aR x es 0 else x::es
 | (k,v)::es,j+1=>bif cH k then (k,v)::aR x es (j+1) else (k,v)::aR x es j
def DP(C:Ctx)(h:aq)(t:TypeId)(x:Value):Option Value:=
 match C.gZ t,x with
 | some .string,.string s=>some (.int .i64 s.size)
 | some (.array n _),_=>some (.int .i64 n)
 | some (.slice _),.slice _ n _=>some (.int .i64 n)
 | some (.map _ _),.map none=>some (.int .i64 0)
 | some (.map _ _),.map (some r)=>match h.get r with
  | some (.map es)=>some (.int .i64 (alive es).length)
  | _=>none
 | _,_=>none
def KF(C:Ctx)(t:TypeId)(x:Value):Option Value:=
 match C.gZ t,x with
 | some (.array n _),_=>some (.int .i64 n)
 | some (.slice _),.slice none _ _=>some (.int .i64 0)
 | some (.slice _),.slice (some _) _ 0=>some (.int .i64 0)
 | _,_=>none
def iE(h:aq)(s n:Nat):Value->Option (List Value)
 | .slice none _ _=>some []
 | .slice (some ⟨b,off,none⟩) _ _=>bif n==0 then some [] else match jS h b with
  | some cs=>cf cs off (n*s)
  | none=>none
 | .string x=>some ((x.extract 0 n).data.toList.map λb=>.int .u8 b.toNat)
 | _=>none
def jA:Value->Option Nat
 | .slice _ n _=>some n
 | .string s=>some s.size
 | _=>none
def eT(h:aq)(s:Nat)(x:Value):Option (Nat×List Value):=
 match jA x with
 | some n=>(iE h s n x).map λl=>(n,l)
 | none=>none
def kl(C:Ctx)(h:aq)(e:TypeId)(s:Nat)(xt:Option TypeId)(x:Value):Option (Nat×List Value):=
 match xt with
 | none=>eT h s x
 | some t=>match C.gZ t with
  | none=>none
  | some (.int _)=>match x,C.zero e with
   | .int _ n,some z=>if 0<=n/\n<1000000 then some (n.toNat,c7 z.cells.toList n.toNat) else none
   | _,_=>none
  | some _=>eT h s x
def gp(C:Ctx)(h:aq)(t:TypeId)(xt:Option TypeId)(s x:Value):Option (Value×aq):=
 match C.gZ t,s with
 | some (.slice e),.slice base len c=>match C.size e,C.zero e,C.bytes e with
  | some sz,some _,some by_=>match kl C h e sz xt x with
   | some (n,new)=>
    bif !(new.length==n*sz&&new.all one&&Nat.blt 0 sz&&Nat.blt 0 by_&&Nat.ble ((len+n)*by_) 140737488355328) then none else
    bif n==0 then some (s,h) else
    match base with
    | none=>some (.slice (some ⟨h.next,0,none⟩) n sz,h.alloc (.cells false new))
    | some ⟨b,off,none⟩=>
     bif c==0 then (bif len==0 then some (.slice (some ⟨h.next,0,none⟩) n sz,h.alloc (.cells false new)) else none) else
     bif !(c==sz) then none else
     match h.get b with
     | some (.cells false cs)=>match cf cs off (len*sz) with
      | some c6=>some (.slice (some ⟨h.next,0,none⟩) (len+n) sz,(h.put b none).alloc (.cells false (c6++new)))
      | none=>none
     | _=>none
    | _=>none
   | none=>none
  | _,_,_=>none
 | _,_=>none
def B0(C:Ctx)(h:aq)(t:TypeId)(d x:Value):Option (Value×aq):=
 match C.gZ t,d,jA x with
 | some (.slice e),.slice base dl _,some n=>match C.size e with
  | some s=>match iE h s (Nat.min n dl) x with
   | some new=>bif !(new.all one) then none else
    match base with
    | none=>some (.int .i64 (Nat.min n dl),h)
    | some ⟨b,off,none⟩=>bif new.isEmpty then some (.int .i64 (Nat.min n dl),h) else match h.get b with
     | some (.cells false cs)=>bif Nat.ble (off+new.length) cs.length then
       some (.int .i64 (Nat.min n dl),h.put b (some (.cells false (bk cs off new)))) else none
     | _=>none
    | _=>none
   | none=>none
  | none=>none
 | _,_,_=>none
def nW(C:Ctx)(h:aq)(t:TypeId)(x:Value):Option aq:=
 match C.gZ t,x with
 | some (.slice _),.slice none _ _=>some h
 | some (.slice _),.slice _ 0 _=>some h
 | some (.slice e),.slice (some ⟨b,off,none⟩) n _=>match C.zero e,h.get b with
  | some z,some (.cells false cs)=>
   let new:=c7 z.cells.toList n
   bif new.all one&&Nat.ble (off+new.length) cs.length then some (h.put b (some (.cells false (bk cs off new)))) else none
  | _,_=>none
 | _,_=>none
def je(C:Ctx)(h:aq)(t:TypeId)(len cap:Value):Option (Value×aq):=
 match C.gZ t,len,cap with
 | some (.slice e),.int _ l,.int _ c=>match C.size e,C.zero e,C.bytes e with
  | some s,some z,some by_=>
   if 0<=l/\l=c/\c<=281474976710656/\by_*c<=281474976710656/\0<s then
    some (.slice (some ⟨h.next,0,none⟩) l.toNat (bif l.toNat==0 then 0 else s),h.alloc (.cells false (c7 z.cells.toList l.toNat)))
   else none
  | _,_,_=>none
 | _,_,_=>none
def jZ(C:Ctx)(ok:TypeId->Value->Bool):List Field->List Value->Bool
 | [],_=>true
 | f::fs,cs=>(match eX C cs f.type f.offset with
  | some a=>ok f.type a
  | none=>false)&&jZ C ok fs cs
def rp(C:Ctx)(ok:Value->Bool)(e s:Nat)(xs:List Value):List Nat->Bool
 | []=>true
 | i::is=>(match eX C xs e (i*s) with
  | some a=>ok a
  | none=>false)&&rp C ok e s xs is
def fm(C:Ctx):Nat->TypeId->Value->Bool
 | 0,_,_=>false
 | n+1,t,v=>
  match C.gZ t,v with
  | some (.struct fs),.agg cs=>jZ C (fm C n) fs.toList cs.toList
  | some (.array len e),.agg xs=>(match C.size e with
   | some s=>rp C (fm C n e) e s xs.toList (List.range len)
   | none=>false)
  | some d,v=>wH d&&!cH v
  | none,_=>false
def gw(C:Ctx)(t:TypeId)(k:Value):List (Value×Value)->Nat->Option (Option (Nat×Value))
 | [],_=>some none
 | (k',v)::es,i=>match uA C 8 t k k' with
  | some true=>some (some (i,v))
  | some false=>gw C t k es (i+1)
  | none=>none
def iD(h:aq):Value->Option (List (Value×Value))
 | .map none=>some []
 | .map (some r)=>match h.get r with
  | some (.map es)=>some (alive es)
  | _=>none
 | _=>none
def ji(C:Ctx)(h:aq)(t:TypeId)(x k:Value)(ok:Bool):Option Value:=
 match C.gZ t,iD h x with
 | some (.map kt et),some es=>bif !fm C 8 kt k then none else
  match gw C kt k es 0 with
  | some (some (_,v))=>some (bif ok then .tuple ⟨[v,.bool true]⟩ else v)
  | some none=>match C.zero et with
   | some z=>some (bif ok then .tuple ⟨[z,.bool false]⟩ else z)
   | none=>none
  | none=>none
 | _,_=>none
mutual
def bN:Value->Value->Bool
 | .bool a,.bool b=>a==b
 | .int k a,.int k' b=>k==k'&&a==b
 | .float k a,.float k' b=>k==k'&&a==b
 | .complex k a b,.complex k' a' b'=>k==k'&&a==a'&&b==b'
 | .string a,.string b=>a.data.toList==b.data.toList
 | .chan a,.chan b=>a==b
 | .pointer a,.pointer b=>a==b
 | .slice a n c,.slice a' n' c'=>a==a'&&n==n'&&c==c'
 | .map a,.map b=>a==b
 | .func f ⟨xs⟩ ⟨ys⟩,.func g ⟨xs'⟩ ⟨ys'⟩=>f==g&&jF xs xs'&&jF ys ys'
 | .nilFunc,.nilFunc=>true
 | .iface t v,.iface u w=>t==u&&bN v w
 | .nilIface,.nilIface=>true
 | .agg ⟨xs⟩,.agg ⟨ys⟩=>jF xs ys
 | .tuple ⟨xs⟩,.tuple ⟨ys⟩=>jF xs ys
 | _,_=>false
def jF:List Value->List Value->Bool
 | [],[]=>true
 | a::as,b::bs=>bN a b&&jF as bs
 | _,_=>false
end
def cN(C:Ctx)(h:aq)(t:TypeId)(m k v:Value):Option aq:=
 match C.gZ t,m with
 | some (.map kt _),.map (some r)=>match h.get r with
  | some (.map es)=>bif !fm C 8 kt k then none else
   match gw C kt k (alive es) 0 with
   | some (some (i,_))=>match (alive es)[i]? with
    | some (k2,_)=>bif bN k2 k then some (h.put r (some (.map (aR (k,v) es i)))) else none
    | none=>none
   | some none=>some (h.put r (some (.map (es++[(k,v)]))))
   | none=>none
  | _=>none
 | _,_=>none
def dv:Value:=.tuple ⟨[]⟩
def mB(C:Ctx)(h:aq)(t:TypeId)(m k:Value):Option aq:=
 match C.gZ t,m with
 | some (.map kt _),.map (some r)=>match h.get r with
  | some (.map es)=>bif !fm C 8 kt k then none else
   match gw C kt k (alive es) 0 with
   | some (some (i,_))=>some (h.put r (some (.map (aR (dv,dv) es i))))
   | some none=>some (h.put r (some (.map es)))
   | none=>none
  | _=>none
 | _,_=>none
def gh(C:Ctx)(h:aq)(t:TypeId)(m k:Value):Option (Value×aq):=
 match C.gZ t,m with
 | some (.map kt et),.map (some r)=>match h.get r with
  | some (.map es)=>bif !fm C 8 kt k then none else
   match gw C kt k (alive es) 0 with
   | some (some (i,v))=>match (alive es)[i]?,(stamps 0 es)[i]? with
    | some (k2,_),some n=>bif bN k2 k then some (.tuple ⟨[v,.int .i64 n]⟩,h) else none
    | _,_=>none
   | some none=>match C.zero et with
    | some z=>some (.tuple ⟨[z,.int .i64 es.length]⟩,h.put r (some (.map (es++[(k,z)]))))
    | none=>none
   | none=>none
  | _=>none
 | _,_=>none
def eF(h:aq)(m s v:Value):Option aq:=
 match m,s with
 | .map (some r),.int _ n=>match h.get r with
  | some (.map es)=>match (stamps 0 es).findIdx? (λ(b:Nat)=>decide ((b:Int)=n)) with
   | some j=>match (alive es)[j]? with
    | some (k,_)=>some (h.put r (some (.map (aR (k,v) es j))))
    | none=>none
   | none=>none
  | _=>none
 | _,_=>none
def Cq:TypeDesc->Bool
 | .interface _=>true
 | _=>false
def oA(C:Ctx)(x:Value)(t:TypeId)(ok:Bool):Option Value:=
 match C.gZ t with
 | none=>none
 | some d=>bif Cq d then none else
  match x with
  | .iface t' v=>bif Nat.beq t' t then some (bif ok then .tuple ⟨[v,.bool true]⟩ else v) else
    bif ok then (C.zero t).map λz=>.tuple ⟨[z,.bool false]⟩ else none
  | .nilIface=>bif ok then (C.zero t).map λz=>.tuple ⟨[z,.bool false]⟩ else none
  | _=>none
def A4(C:Ctx)(h:aq)(x:Value)(name:String):Option (FuncId×Value):=
 match x with
 | .iface t v=>match C.info t,C.gZ t with
  | some i,some d=>match i.methods.find? (·.name==name) with
   | some m=>bif m.path.isEmpty then
     match m.func,d with
     | some (f,true),.pointer _=>some (f,v)
     | some (f,false),.pointer e=>(m5 C h e v).map λx=>(f,x)
     | _,_=>none
    else none
   | none=>none
  | _,_=>none
 | _=>none
inductive yX where
 | val (v:Value) (h:aq)
 | call (f:FuncId) (args:List Value)
def dI(ρ:Operand->Option Value):List Operand->Option (List Value)
 | []=>some []
 | x::xs=>match ρ x,dI ρ xs with
  | some v,some vs=>some (v::vs)
  | _,_=>none
def eN(ρ:Operand->Option Value):List (Nat×Operand)->Option (List (Nat×Value))
 | []=>some []
 | (i,x)::xs=>match ρ x,eN ρ xs with
  | some v,some vs=>some ((i,v)::vs)
  | _,_=>none
def lH(ρ:Operand->Option Value):Option Operand->Option (Option Value)
 | none=>some none
 | some x=>(ρ x).map some
def bR(C:Ctx)(h:aq)(b:Builtin)(ts:List TypeId)(args:List Value):Option (Value×aq):=
 match b,ts,args with
 | .len,t::_,[x]=>(DP C h t x).map λv=>(v,h)
 | .cap,t::_,[x]=>(KF C t x).map λv=>(v,h)
 | .append,t::ts,[s,x]=>gp C h t ts.head? s x
 | .copy,t::_,[d,x]=>B0 C h t d x
 | .clear,t::_,[x]=>(nW C h t x).map λh=>(dv,h)
 | .delete,t::_,[m,k]=>(mB C h t m k).map λh=>(dv,h)
 | .min,_,[.int k a,.int _ b]=>some (.int k (if b<a then b else a),h)
 | .max,_,[.int k a,.int _ b]=>some (.int k (if b > a then b else a),h)
 | .min,_,[.int k a,.int _ b,.int _ c]=>
  let m:=if b<a then b else a
  some (.int k (if c<m then c else m),h)
 | _,_,_=>none
def lD(C:Ctx)(f:Value)(args:List Value):Option yX:=
 match f with
 | .func (.func i) first captured=>match C.func i with
  | some fn=>bif fn.body.isSome then some (.call i (first.toList++args++captured.toList)) else none
  | none=>none
 | _=>none
def aN(C:Ctx)(ρ:Operand->Option Value)(h:aq)(op:Op):Option yX:=
 let v (x:Option Value):Option yX:=x.map λv=>.val v h;let w (x:Option (Value×aq)):Option yX:=x.map λr=>.val r.1 r.2;let u (x:Option aq):Option yX:=x.map λh=>.val dv h
 match op with
 | .move x=>v (ρ x)
 | .assign x=>v (ρ x)
 | .pick c a b=>match ρ c with
  | some (.bool true)=>v (ρ a)
  | some (.bool false)=>v (ρ b)
  | _=>none
 | .alloc e=>match C.zero e with
  | some z=>some (.val (.pointer (some ⟨h.next,0,none⟩)) (h.alloc (.cells false z.cells.toList)))
  | none=>none
 | .box _ x=>match ρ x with
  | some y=>some (.val (.pointer (some ⟨h.next,0,none⟩)) (h.alloc (.cells false y.cells.toList)))
  | none=>none
 | .build t ps=>match eN ρ ps.toList with
  | some ps=>v (sP C t ps)
  | none=>none
 | .buildSlice t n ps=>match eN ρ ps.toList with
  | some ps=>w (gV C h t n ps)
  | none=>none
 | .load t a=>match ρ a with
  | some a=>v (m5 C h t a)
  | none=>none
 | .store t a x=>match ρ a,ρ x with
  | some a,some x=>u (sV C h t a x)
  | _,_=>none
 | .nilCheck x=>match ρ x with
  | some (.pointer (some a))=>v (some (.pointer (some a)))
  | some (.func (.func f) xs ys)=>v (some (.func (.func f) xs ys))
  | _=>none
 | .binOp op t x y _=>match ρ x,ρ y with
  | some a,some b=>v (kW C h op t x y a b)
  | _,_=>none
 | .unOp op _ x=>match ρ x with
  | some a=>v (Pm op a)
  | none=>none
 | .convert s d x=>match ρ x with
  | some a=>v (xe C s d a)
  | none=>none
 | .makeInterface t x=>match ρ x,C.gZ t with
  | some a,some d=>match d with
   | .interface _=>none
   | _=>v (some (.iface t a))
  | _,_=>none
 | .makeFunc fn xs ys=>match dI ρ xs.toList,dI ρ ys.toList with
  | some a,some b=>v (some (.func fn ⟨a⟩ ⟨b⟩))
  | _,_=>none
 | .makeMap _ none=>some (.val (.map (some h.next)) (h.alloc (.map [])))
 | .makeSlice t l c=>match ρ l,ρ c with
  | some l,some c=>w (je C h t l c)
  | _,_=>none
 | .slice t x lo hi mx=>match ρ x,lH ρ lo,lH ρ hi,lH ρ mx with
  | some x,some lo,some hi,some mx=>v (kT C h t x lo hi mx)
  | _,_,_,_=>none
 | .fieldAddr t x f=>match ρ x with
  | some x=>v (j7 C t x f)
  | none=>none
 | .field t x f=>match ρ x with
  | some x=>v (vL C t x f)
  | none=>none
 | .indexAddr t x i=>match ρ x,ρ i with
  | some x,some i=>v (iU C t x i)
  | _,_=>none
 | .index t x i=>match ρ x,ρ i with
  | some x,some i=>v (Aj C t x i)
  | _,_=>none
 | .lookup t x k ok=>match ρ x,ρ k with
  | some x,some k=>v (ji C h t x k ok)
  | _,_=>none
 | .mapUpdate t m k x=>match ρ m,ρ k,ρ x with
  | some m,some k,some x=>u (cN C h t m k x)
  | _,_,_=>none
 | .insert t m k x=>match ρ m,ρ k,ρ x with
  | some m,some k,some x=>u (cN C h t m k x)
  | _,_,_=>none
 | .mapEntry t m k=>match ρ m,ρ k with
  | some m,some k=>w (gh C h t m k)
  | _,_=>none
 | .entryStore _ m s x=>match ρ m,ρ s,ρ x with
  | some m,some s,some x=>u (eF h m s x)
  | _,_,_=>none
 | .extract x i=>match ρ x with
  | some (.tuple vs)=>v (vs.toList[i]?)
  | _=>none
 | .typeAssert x _ t ok=>match ρ x with
  | some x=>v (oA C x t ok)
  | none=>none
 | .call c=>match c.callee with
  | .builtin b=>match dI ρ c.args.toList with
   | some as=>w (bR C h b c.argTypes.toList as)
   | none=>none
  | .value f=>match ρ f,dI ρ c.args.toList with
   | some f,some as=>lD C f as
   | _,_=>none
  | .invoke r name=>match ρ r,dI ρ c.args.toList with
   | some x,some as=>match A4 C h x name with
    | some (f,recv)=>match C.func f with
     | some fn=>bif fn.body.isSome then some (.call f (recv::as)) else none
     | none=>none
    | none=>none
   | _,_=>none
 | _=>none
structure Env where
 n:Nat
 t:T Value
def Env.get(e:Env)(i:Nat):Option Value:=e.t.get i
def Env.put(e:Env)(d:Option Tmp)(v:Value):Env:=
 match d with
 | none=>e
 | some d=>bif Nat.blt d e.n then { n:=e.n,t:=e.t.set d (some v) } else e
def Env.eval(C:Ctx)(e:Env):Operand->Option Value
 | .tmp i=>e.get i
 | .const v=>bif plain v then some v else none
 | .global g=>bif Nat.blt g C.cK then some (.pointer (some ⟨g,0,none⟩)) else none
 | .func f=>some (.func (.func f) #[] #[])
def rU(ops:List Oper)(e:Env)(o:Oper):Option Bool:=
 match o.guard with
 | none=>some true
 | some (j,want)=>match (ops[j]?).bind (·.dst) with
  | none=>some false
  | some d=>match e.get d with
   | some (.bool b)=>some (b==want)
   | some (.tuple ⟨[]⟩)=>some false
   | _=>none
abbrev u0:=FuncId->List Value->aq->Option (Value×aq)
def ep(C:Ctx)(cal:u0)(ops:List Oper)(o:Oper)(e:Env)(h:aq):Option (Env×aq):=
 match rU ops e o with
 | none=>none
 | some false=>some (e.put o.dst dv,h)
 | some true=>match aN C (e.eval C) h o.op with
  | none=>none
  | some (.val v h)=>some (e.put o.dst v,h)
  | some (.call f args)=>match cal f args h with
   | none=>none
   | some (v,h)=>some (e.put o.dst v,h)
def xP(C:Ctx)(cal:u0)(ops:List Oper):List Oper->Env->aq->Option (Env×aq)
 | [],e,h=>some (e,h)
 | o::rest,e,h=>match ep C cal ops o e h with
  | none=>none
  | some (e,h)=>xP C cal ops rest e h
def bH(masks:List Nat)(o:Oper):Nat:=
 o.after.toList.foldl (λs x=>bif Region.binds .any x then s ||| 2 ^ x.on ||| (masks[x.on]?).getD 0 else s) 0
def bp(masks:List Nat):List Oper->List Nat
 | []=>masks
 | o::os=>bp (masks++[bH masks o]) os
def rK:Op->Bool
 | .alloc _=>true
 | .box _ _=>true
 | .buildSlice _ _ _=>true
 | .makeMap _ _=>true
 | .makeSlice _ _ _=>true
 | _=>false
def cb:Op->Bool
 | .move _=>true
 | .assign _=>true
 | .pick _ _ _=>true
 | .build _ _=>true
 | .load _ _=>true
 | .nilCheck _=>true
 | .binOp _ _ _ _ _=>true
 | .unOp _ _ _=>true
 | .convert _ _ _=>true
 | .makeInterface _ _=>true
 | .makeFunc _ _ _=>true
 | .slice _ _ _ _ _=>true
 | .fieldAddr _ _ _=>true
 | .field _ _ _=>true
 | .indexAddr _ _ _=>true
 | .index _ _ _=>true
 | .lookup _ _ _ _=>true
 | .extract _ _=>true
 | .typeAssert _ _ _ _=>true
 | .call c=>match c.callee with
  | .builtin .len=>true
  | .builtin .cap=>true
  | .builtin .min=>true
  | .builtin .max=>true
  | _=>false
 | _=>false
def gJ:Op->Bool
 | .store _ _ _=>true
 | _=>false
def fj(o:Op):Bool:=!rK o&&!cb o&&!gJ o
def tmpsOf(ops:List Oper)(o:Oper):List Tmp:=
 (o.op.operands.toList.filterMap λx=>match x with | .tmp t=>some t | _=>none)++
  (match o.guard with
   | some (j,_)=>(match (ops[j]?).bind (·.dst) with | some d=>[d] | none=>[])
   | none=>[])
def kq(ops:List Oper)(a b:Oper):Bool:=
 (match a.dst with
  | some d=>!(tmpsOf ops b).contains d&&!(b.dst==some d)
  | none=>true) &&
 (match b.dst with
  | some d=>!(tmpsOf ops a).contains d
  | none=>true) &&
 !(fj b.op&&!cb a.op)&&!(fj a.op&&gJ b.op)
def oK(ops:List Oper)(masks:List Nat):List Oper->Nat->Bool
 | [],_=>true
 | b::rest,j=>
  (let m:=(masks[j]?).getD 0
   let rec inner:List Oper->Nat->Bool
     | [],_=>true
     | a::as,i=>bif Nat.ble j i then true else (m.testBit i||kq ops a b)&&inner as (i+1)
   inner ops 0)&&oK ops masks rest (j+1)
def jM:List Oper->Nat->Bool
 | [],_=>true
 | o::os,i=>(o.after.toList.all λx=>!Region.binds .any x||Nat.blt x.on i) &&
   (match o.guard with | some (j,_)=>(o.after.toList.any λx=>x.on==j&&Region.binds .any x) | none=>true)&&jM os (i+1)
def mf(ops:List Oper):Bool:=jM ops 0&&oK ops (bp [] ops) ops 0
def bE(ρ:Operand->Option Value):Op->List Nat
 | .load _ a=>match ρ a with
  | some (.pointer (some a))=>[a.block]
  | _=>[]
 | .store _ a _=>match ρ a with
  | some (.pointer (some a))=>[a.block]
  | _=>[]
 | .slice _ a _ _ _=>match ρ a with
  | some (.pointer (some a))=>[a.block]
  | _=>[]
 | .lookup _ m _ _=>match ρ m with
  | some (.map (some r))=>[r]
  | _=>[]
 | .binOp _ _ x y _=>(match ρ x with | some (.pointer (some a))=>[a.block] | _=>[])++(match ρ y with | some (.pointer (some a))=>[a.block] | _=>[])
 | .call c=>match c.callee with
  | .builtin .len=>match c.args.toList with
   | x::_=>match ρ x with
    | some (.map (some r))=>[r]
    | _=>[]
   | _=>[]
  | _=>[]
 | _=>[]
def nl:List (Value×Value)->List (Value×Value)->Bool
 | [],[]=>true
 | (a,b)::x,(c,d)::y=>bN a c&&bN b d&&nl x y
 | _,_=>false
def nJ:Option aE->Option aE->Bool
 | none,none=>true
 | some (.cells r xs),some (.cells s ys)=>r==s&&jF xs ys
 | some (.map xs),some (.map ys)=>nl xs ys
 | _,_=>false
def lN(C:Ctx)(ρ:Operand->Option Value)(h:aq)(op:Op)(h2:aq):Bool:=
 match op with
 | .lookup _ _ _ _=>(match aN C ρ h op,aN C ρ h2 op with
  | some (.val v _),some (.val v2 _)=>bN v v2
  | _,_=>false)
 | _=>false
abbrev xH:=aq×aq×List Nat×(aq->Bool)
def iQ(C:Ctx)(cal:u0)(ops:List Oper):List Oper->Env->aq->Option (Env×aq×List xH)
 | [],e,h=>some (e,h,[])
 | o::rest,e,h=>match ep C cal ops o e h with
  | none=>none
  | some (e1,h1)=>match iQ C cal ops rest e1 h1 with
   | none=>none
   | some (e2,h2,l)=>some (e2,h2,(h,h1,bE (e.eval C) o.op,lN C (e.eval C) h o.op)::l)
def ez(ops:List Oper)(masks:List Nat)(tr:List xH):Bool:=
 let rec outer:List xH->Nat->Bool
  | [],_=>true
  | (_,_,look,fl)::rest,i=>
   (match look with
    | []=>true
    | look=>
      let mi:=(masks[i]?).getD 0;let rec inner:List Oper->List xH->Nat->Bool
        | o::os,(h,h1,_,_)::tr,j=>
          (cb o.op||i==j||mi.testBit j||((masks[j]?).getD 0).testBit i||(look.all λx=>nJ (h.get x) (h1.get x))||(Nat.blt i j&&fl h1))&&inner os tr (j+1)
        | _,_,_=>true
      inner ops tr 0)&&outer rest (i+1)
 outer tr 0
def mF(C:Ctx)(cal:u0)(ops:List Oper)(draw:Bool)(e:Env)(h:aq):Option (Env×aq):=
 bif draw then
  match iQ C cal ops ops e h with
  | none=>none
  | some (e',h',tr)=>bif mf ops&&ez ops (bp [] ops) tr then some (e',h') else none
 else xP C cal ops ops e h
inductive Ex where
 | normal
 | exit (id:Nat)
 | ret
def ss(C:Ctx)(e:Env)(h:aq):ResultVar->Option Value
 | .tmp t=>e.get t
 | .cell a t=>match e.get a with
  | some v=>m5 C h t v
  | none=>none
def kB(C:Ctx)(e:Env)(h:aq):List ResultVar->Option (List Value)
 | []=>some []
 | r::rs=>match ss C e h r,kB C e h rs with
  | some v,some vs=>some (v::vs)
  | _,_=>none
def ej:List Value->Value
 | [v]=>v
 | vs=>.tuple ⟨vs⟩
def mQ(n:Nat)(args:List Value):Env:=
 let rec go:List Value->Nat->T Value->T Value
  | [],_,t=>t
  | v::vs,i,t=>go vs (i+1) (t.set i (some v))
 {n:=max n args.length,t:=go args 0 .e }
abbrev Nh:=Code->Env->aq->Option (Ex×Env×aq)
def iu(C:Ctx)(exe:Nh):u0:=λf args h=>
 match C.fact f with
 | some eJ=>bif args.isEmpty&&eJ.all (λp=>nJ (h.get p.1) (some p.2)) then some (.bool true,h) else none
 | none=>match C.func f with
  | none=>none
  | some fn=>match fn.body with
   | none=>none
   | some c=>match exe c (mQ fn.ntmps args) h with
    | some (.exit _,_,_)=>none
    | some (_,e,h)=>match kB C e h fn.results.toList with
     | some vs=>some (ej vs,h)
     | none=>none
    | none=>none
def bB(C:Ctx)(exe:Nh):Nh:=λc e h=>
 match c with
 | .skip=>some (.normal,e,h)
 | .region _ ops draw=>match mF C (iu C exe) ops.toList draw e h with
  | some (e,h)=>some (.normal,e,h)
  | none=>none
 | .seq a b=>match exe a e h with
  | some (.normal,e,h)=>exe b e h
  | r=>r
 | .cond x a b=>match (e.eval C) x with
  | some (.bool true)=>exe a e h
  | some (.bool false)=>exe b e h
  | _=>none
 | .block id a=>match exe a e h with
  | some (.exit i,e,h)=>some (bif i==id then .normal else .exit i,e,h)
  | r=>r
 | .loop a=>match exe a e h with
  | some (.normal,e,h)=>exe (.loop a) e h
  | r=>r
 | .exit id=>some (.exit id,e,h)
 | .ret=>some (.ret,e,h)
 | _=>none
def exec(C:Ctx):Nat->Nh
 | 0=>λ_ _ _=>none
 | n+1=>bB C (exec C n)
def call(C:Ctx)(n:Nat):u0:=iu C (exec C n)
end Go.Abs