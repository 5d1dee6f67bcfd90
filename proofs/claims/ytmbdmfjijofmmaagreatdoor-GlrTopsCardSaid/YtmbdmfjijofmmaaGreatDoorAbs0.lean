/-
  An abstract machine for code that draws nothing and prints nothing: values, blocks, the evaluator.
-/
import Derived.Orders
import Derived.RowKit3
/-
 Tries,abstract blocks,abstract heaps,and how an abstract value stands for a value of the model.
-/
namespace Go.Abs
abbrev AI:=@Nat.le_trans
abbrev AS:=@Nat.le_refl
abbrev AT:=@Option.some.inj
abbrev By:=@if_neg
abbrev BY:=@List.getD_eq_getElem?_getD
abbrev If:=@if_pos
abbrev IN:=@Bool.and_eq_true
abbrev IT:=@Option.some.injEq
abbrev I9:=@List.mem_cons_of_mem
abbrev Na:=@List.map_cons
abbrev No:=@List.take_of_length_le
abbrev OF:=@cond_true
abbrev Ra:=@List.mem_filter
abbrev Rb:=@Nat.mul_le_mul_right
abbrev Rc:=@List.Perm.refl
abbrev Re:=@List.getElem?_map
abbrev Rf:=@List.length_append
abbrev Rg:=@List.mem_map
abbrev Rh:=@List.mem_singleton
abbrev Ri:=@cond_false
abbrev Rj:=@List.getElem?_append_left
abbrev Rk:=@List.take_add_one
abbrev Rl:=@List.mem_cons_self
abbrev Rm:=@List.mem_range
abbrev Rn:=@Nat.zero_add
abbrev Ro:=@Array.getElem?_eq_some_iff
abbrev Rp:=@Array.getD_eq_getD_getElem?
abbrev Rq:=@List.length_map
abbrev Rr:=@Nat.add_le_add
abbrev Rs:=@List.getElem?_append_right
abbrev Rt:=@List.mem_cons
abbrev Rv:=@List.cons.injEq
abbrev Rw:=@Nat.lt_or_ge
abbrev Rx:=@List.mem_append
abbrev Ry:=@List.getElem?_eq_none
abbrev Rz:=@Nat.pow_le_pow_right
abbrev RA:=@List.getElem?_set_self
abbrev RC:=@Nat.zero_le
abbrev RD:=@List.getElem?_take
abbrev RE:=@Array.getElem?_toList
abbrev RF:=@Nat.eq_of_beq_eq_true
abbrev RG:=@List.length_cons
abbrev RH:=@List.getElem?_eq_some_iff
abbrev RI:=@List.getElem?_drop
abbrev RJ:=@Prod.mk.injEq
abbrev RK:=@List.length_take
abbrev RL:=@List.getElem?_eq_getElem
abbrev RM:=@List.Sublist.refl
abbrev RN:=@Nat.mul_le_mul
abbrev RO:=@List.getElem?_set_ne
abbrev RP:=@Nat.ble_eq_true_of_le
abbrev RQ:=@Nat.mul_one
abbrev RR:=@List.countP_eq_length_filter
abbrev RS:=@decide_eq_true_eq
abbrev RU:=@Option.map_some
abbrev RV:=@List.map_append
abbrev RW:=@List.isPrefixOf_iff_prefix
abbrev RX:=@List.drop_eq_getElem_cons
abbrev RY:=@List.append_assoc
abbrev RZ:=@List.any_eq_true
abbrev R0:=@List.append_nil
abbrev R1:=@List.Pairwise.filter
abbrev R2:=@List.getElem_of_mem
abbrev R3:=@Nat.add_mul
abbrev R4:=@Array.getElem?_setIfInBounds_ne
abbrev R5:=@List.ext_getElem?
abbrev R6:=@List.mem_append_left
abbrev R7:=@List.mem_append_right
abbrev R8:=@List.eq_nil_of_length_eq_zero
abbrev R9:=@Nat.le_of_lt
abbrev Sa:=@List.length_replicate
abbrev Sb:=@beq_iff_eq
abbrev Sc:=@Nat.lt_of_lt_of_le
abbrev Se:=@Nat.min_eq_left
abbrev Sf:=@List.all_eq_true
abbrev Sg:=@List.map_nil
abbrev Sh:=@List.nodup_cons
abbrev Si:=@List.take_append_drop
abbrev Sj:=@Nat.add_le_add_left
abbrev Sk:=@Array.mem_toList_iff
abbrev Sl:=@List.eq_of_mem_replicate
abbrev Sm:=@of_decide_eq_true
abbrev Sn:=@Bool.eq_false_iff
abbrev Sp:=@List.getElem?_replicate
abbrev Sq:=@Nat.mul_le_mul_left
abbrev Sr:=@Bool.or_eq_true
abbrev Ss:=@List.Perm.of_eq
abbrev Su:=@List.drop_of_length_le
abbrev Sv:=@if_true
abbrev Sw:=@Nat.le_of_ble_eq_true
abbrev Sx:=@List.length_singleton
abbrev Sy:=@List.sum_cons
abbrev Sz:=@List.not_mem_nil
abbrev SA:=@List.map_set
abbrev SC:=@List.flatten_cons
abbrev SD:=@List.nodup_append
abbrev SE:=@Bool.false_eq_true
abbrev SF:=@List.sublist_cons_self
abbrev SG:=@List.nil_append
abbrev SH:=@Bool.eq_iff_iff
abbrev SI:=@List.mem_of_getElem?
abbrev SJ:=@Nat.add_zero
abbrev SK:=@Nat.lt_succ_self
abbrev SL:=@if_false
abbrev SM:=@List.mem_flatMap
abbrev SN:=@List.mem_or_eq_of_mem_set
abbrev SO:=@List.take_append_of_le_length
abbrev SP:=@List.getElem?_range
abbrev SQ:=@Nat.ble_eq
abbrev SR:=@Bool.not_eq_true'
abbrev SS:=@Bool.not_true
abbrev SU:=@Nat.mul_comm
abbrev SV:=@Nat.sub_self
abbrev SW:=@Nat.one_mul
abbrev SX:=@Nat.two_pow_pos
abbrev SY:=@Nat.add_sub_cancel
abbrev SZ:=@List.head_eq_of_cons_eq
abbrev S0:=@List.perm_middle
abbrev S1:=@List.take_length
abbrev S2:=@List.mem_of_mem_drop
abbrev S3:=@List.map_map
abbrev S4:=@Nat.lt_irrefl
abbrev S5:=@Nat.mul_assoc
abbrev S6:=@List.drop_zero
abbrev S7:=@List.length_range
abbrev S8:=@List.getElem?_eq_none_iff
abbrev S9:=@List.length_filter_le
abbrev Ta:=@Nat.beq_refl
abbrev Tb:=@Nat.eq_zero_or_pos
abbrev Tc:=@Nat.min_eq_right
abbrev Td:=@List.drop_drop
abbrev Te:=@List.nodup_nil
abbrev Tf:=@List.drop_eq_getElem?_toList_append
abbrev Tg:=@List.getElem?_cons_succ
abbrev Th:=@Array.getElem?_setIfInBounds_self
abbrev Ti:=@List.zipWith_cons_cons
abbrev Tj:=@Nat.pow_add
abbrev Tk:=@List.perm_ext_iff_of_nodup
abbrev Tl:=@List.cons_append
abbrev Tm:=@List.countP_cons
abbrev Tn:=@List.length_eq_countP_add_countP
abbrev To:=@Bool.not_false
abbrev Tp:=@Int.natCast_nonneg
abbrev Tq:=@List.set_cons_zero
abbrev Tr:=@Nat.not_lt_zero
abbrev Ts:=@Array.ext'
abbrev Tt:=@Bool.or_eq_false_iff
abbrev Tu:=@List.Nodup.length_le_of_subset
abbrev Tv:=@Nat.pow_succ
abbrev Tw:=@Nat.le_total
abbrev Tx:=@List.getElem?_set
abbrev Tz:=@Int.toNat_natCast
abbrev TA:=@Nat.add_assoc
abbrev TC:=@Bool.and_self
abbrev TD:=@Array.length_toList
abbrev TE:=@List.replicate_succ
abbrev TF:=@Nat.mod_eq_of_lt
abbrev TG:=@List.getElem_mem
abbrev TH:=@Nat.min_le_right
abbrev TI:=@Nat.testBit_lt_two_pow
abbrev TJ:=@List.length_pos_of_mem
abbrev TK:=@Nat.pow_pos
abbrev TL:=@of_decide_eq_false
abbrev TN:=@List.set_cons_succ
abbrev TO:=@List.map_replicate
abbrev TP:=@Nat.min_le_left
abbrev TQ:=@List.length_nil
abbrev TR:=@List.countP_mono_left
abbrev TS:=@List.Perm.flatten
abbrev TT:=@Nat.pow_lt_pow_right
abbrev TU:=@List.getElem?_of_mem
abbrev TV:=@List.take_zero
abbrev TW:=@Nat.add_comm
abbrev TX:=@List.mem_map_of_mem
abbrev TY:=@List.pairwise_singleton
abbrev TZ:=@Int.natCast_mul
abbrev T0:=@List.mem_filterMap
abbrev T1:=@List.take_left'
abbrev T2:=@List.length_set
abbrev T3:=@List.prefix_append
abbrev T4:=@Nat.le_min
abbrev T5:=@or_false
abbrev T6:=@List.exists_mem_of_length_pos
abbrev T7:=@Array.toList_push
abbrev T8:=@Int.emod_eq_of_lt
abbrev T9:=@Nat.lt_succ_of_le
abbrev Ua:=@Nat.zero_mul
abbrev Ub:=@Bool.false_and
abbrev Uc:=@List.nodup_range
abbrev Ud:=@List.filter_cons
abbrev Ue:=@Bool.and_true
abbrev Uf:=@Nat.testBit_two_pow
abbrev Ug:=@List.mem_of_find?_eq_some
abbrev Uh:=@Array.getElem?_eq_getElem
abbrev Ui:=@and_true
abbrev Uj:=@Nat.lt_of_le_of_lt
abbrev Uk:=@List.take_take
abbrev Ul:=@List.getElem?_cons_zero
abbrev Um:=@List.tail_eq_of_cons_eq
abbrev Un:=@Array.getElem?_push_lt
abbrev Uo:=@Nat.mul_add
abbrev Up:=@List.mem_flatten
abbrev Uq:=@Nat.div_lt_iff_lt_mul
abbrev Ur:=@List.set_append_right
abbrev Us:=@decide_eq_false
abbrev Ut:=@Nat.testBit_and
abbrev Uu:=@Nat.div_le_self
abbrev Uv:=@List.sum_append
abbrev Uw:=@List.sum_nil
inductive T(α:Type) where
 | e:T α
 | n:T α->Option α->T α->T α
def T.get{α:Type}:T α->Nat->Option α
 | .e,_=>none
 | .n l v r,k=>match k with
  | 0=>v
  | k+1=>bif k % 2==0 then l.get (k / 2) else r.get (k / 2)
def T.qG{α:Type}:Nat->T α->Nat->Option α->T α
 | 0,t,_,_=>t
 | f+1,.e,k,v=>match k with
  | 0=>.n .e v .e
  | k+1=>bif k % 2==0 then .n (T.qG f .e (k / 2) v) none .e else .n .e none (T.qG f .e (k / 2) v)
 | f+1,.n l x r,k,v=>match k with
  | 0=>.n l v r
  | k+1=>bif k % 2==0 then .n (T.qG f l (k / 2) v) x r else .n l x (T.qG f r (k / 2) v)
def T.set{α:Type}(t:T α)(k:Nat)(v:Option α):T α:=T.qG (k+1) t k v
theorem T.NQ{α:Type}(k:Nat):(T.e:T α).get k=none:=rfl
theorem EN{α:Type}{j k m:Nat}{x y:α}(h:k % 2=m)(h2:j % 2=m):(if j / 2=k / 2 then x else y)=if j=k then x else y:=by
 by_cases hj:j=k
 ·subst hj;simp
 ·rw[By hj,By (by omega)]
theorem T.qZ{α:Type}:∀(f:Nat) (t:T α) (k j:Nat) (v:Option α),k<f->
  (T.qG f t k v).get j=if j=k then v else t.get j
 | 0,_,_,_,_,h=>absurd h (Tr _)
 | f+1,.e,0,j,v,_=>by
  cases j with
  | zero=>simp[T.qG,T.get]
  | succ j=>simp[T.qG,T.get]
 | f+1,.e,k+1,0,v,_=>by
  cases h:(k % 2==0)<;>simp[T.qG,T.get,h]
 | f+1,.e,k+1,j+1,v,hk=>by
  have ih:=T.qZ f (.e:T α) (k / 2) (j / 2) v (by omega);rw[T.NQ] at ih
  cases h:(k % 2==0)<;>cases h2:(j % 2==0)<;>simp at h h2<;>simp[T.qG,T.get,h,h2,ih]<;>
   (first | omega | exact EN h h2)
 | f+1,.n l x r,0,j,v,_=>by
  cases j with
  | zero=>simp[T.qG,T.get]
  | succ j=>simp[T.qG,T.get]
 | f+1,.n l x r,k+1,0,v,_=>by
  cases h:(k % 2==0)<;>simp[T.qG,T.get,h]
 | f+1,.n l x r,k+1,j+1,v,hk=>by
  have ihl:=T.qZ f l (k / 2) (j / 2) v (by omega);have ihr:=T.qZ f r (k / 2) (j / 2) v (by omega)
  cases h:(k % 2==0)<;>cases h2:(j % 2==0)<;>simp at h h2<;>simp[T.qG,T.get,h,h2,ihl,ihr]<;>
   (first | omega | exact EN h h2)
theorem T.kI{α:Type}(t:T α)(k j:Nat)(v:Option α):(t.set k v).get j=if j=k then v else t.get j:=
 T.qZ _ t k j v (SK k)
theorem T.qh{α:Type}(t:T α)(k:Nat)(v:Option α):(t.set k v).get k=v:=by rw[T.kI,If rfl]
theorem T.vg{α:Type}(t:T α)(k j:Nat)(v:Option α)(h:j≠k):(t.set k v).get j=t.get j:=by rw[T.kI,By h]
inductive aD where
 | cells (ro:Bool) (cs:List Value)
 | map (es:List (Value×Value))
def aD.ro:aD->Bool
 | .cells ro _=>ro
 | .map _=>false
structure aq where
 next:Nat
 t:T aD
def aq.get(h:aq)(i:Nat):Option aD:=h.t.get i
def aq.put(h:aq)(i:Nat)(b:Option aD):aq:={ next:=h.next,t:=h.t.set i b }
def aq.alloc(h:aq)(b:aD):aq:={ next:=h.next+1,t:=h.t.set h.next (some b) }
theorem aq.dt(h:aq)(i j:Nat)(b:Option aD):(h.put i b).get j=if j=i then b else h.get j:=T.kI _ _ _ _
theorem aq.dI(h:aq)(j:Nat)(b:aD):(h.alloc b).get j=if j=h.next then some b else h.get j:=T.kI _ _ _ _
@[simp] theorem aq.JA (h:aq) (i:Nat) (b:Option aD):(h.put i b).next=h.next:=rfl
@[simp] theorem aq.Dz (h:aq) (b:aD):(h.alloc b).next=h.next+1:=rfl
structure Loc where
 bp:Nat
 off:Nat
 size:Nat
abbrev aZ:=Nat->Option Loc
mutual
def aJ(σ:aZ):Value->Value->Prop
 | .bool b,v'=>v'=.bool b
 | .int k n,v'=>v'=.int k n
 | .float k n,v'=>v'=.float k n
 | .complex k a b,v'=>v'=.complex k a b
 | .string s,v'=>v'=.string s
 | .pointer none,v'=>v'=.pointer none
 | .pointer (some a),v'=>∃l,σ a.block=some l/\a.spot=none/\v'=.pointer (some ⟨l.bp,l.off+a.off,none⟩)
 | .slice none len c,v'=>len=0/\c=0/\v'=.slice none 0 0
 | .slice (some a) len c,v'=>∃l a' cap,σ a.block=some l/\a.spot=none/\v'=.slice (some a') len cap/\len<=cap/\(c=0->cap=0)/\
   (cap≠0->a'=⟨l.bp,l.off+a.off,none⟩/\l.off+a.off+cap*c<=l.size)
 | .map none,v'=>v'=.map none
 | .map (some r),v'=>∃l,σ r=some l/\v'=.map (some l.bp)
 | .chan _,_=>False
 | .func fn ⟨xs⟩ ⟨ys⟩,v'=>∃xs' ys',v'=.func fn ⟨xs'⟩ ⟨ys'⟩/\aH σ xs xs'/\aH σ ys ys'
 | .nilFunc,v'=>v'=.nilFunc
 | .iface t v,v'=>∃u,v'=.iface t u/\aJ σ v u
 | .nilIface,v'=>v'=.nilIface
 | .agg ⟨cs⟩,v'=>∃cs',v'=.agg ⟨cs'⟩/\aH σ cs cs'
 | .tuple ⟨cs⟩,v'=>∃cs',v'=.tuple ⟨cs'⟩/\aH σ cs cs'
def aH(σ:aZ):List Value->List Value->Prop
 | [],l=>l=[]
 | v::vs,l=>∃v' vs',l=v'::vs'/\aJ σ v v'/\aH σ vs vs'
end
end Go.Abs
namespace Go.Abs
def aZ.le(σ τ:aZ):Prop:=∀i l,σ i=some l->τ i=some l
theorem aZ.le_refl(σ:aZ):aZ.le σ σ:=λ_ _ h=>h
mutual
theorem aJ.mono{σ τ:aZ}(h:aZ.le σ τ):∀{v v':Value},aJ σ v v'->aJ τ v v'
 | .bool _,_,r=>r
 | .int _ _,_,r=>r
 | .float _ _,_,r=>r
 | .complex _ _ _,_,r=>r
 | .string _,_,r=>r
 | .pointer none,_,r=>r
 | .pointer (some _),_,⟨l,a,r⟩=>⟨l,h _ _ a,r⟩
 | .slice none _ _,_,r=>r
 | .slice (some _) _ _,_,⟨l,a',c,e,r⟩=>⟨l,a',c,h _ _ e,r⟩
 | .map none,_,r=>r
 | .map (some _),_,⟨l,a,r⟩=>⟨l,h _ _ a,r⟩
 | .chan _,_,r=>r
 | .func _ ⟨_⟩ ⟨_⟩,_,⟨a,b,e,r,s⟩=>⟨a,b,e,aH.mono h r,aH.mono h s⟩
 | .nilFunc,_,r=>r
 | .iface _ _,_,⟨u,e,r⟩=>⟨u,e,aJ.mono h r⟩
 | .nilIface,_,r=>r
 | .agg ⟨_⟩,_,⟨c,e,r⟩=>⟨c,e,aH.mono h r⟩
 | .tuple ⟨_⟩,_,⟨c,e,r⟩=>⟨c,e,aH.mono h r⟩
theorem aH.mono{σ τ:aZ}(h:aZ.le σ τ):∀{vs vs':List Value},aH σ vs vs'->aH τ vs vs'
 | [],_,r=>r
 | _::_,_,⟨a,b,e,r,s⟩=>⟨a,b,e,aJ.mono h r,aH.mono h s⟩
end
theorem aH.length{σ:aZ}:∀{vs vs':List Value},aH σ vs vs'->vs'.length=vs.length
 | [],_,r=>by rw[show _=[] from r]
 | _::_,_,⟨_,_,e,_,s⟩=>by rw[e,RG,RG,aH.length s]
theorem aH.get{σ:aZ}:∀{vs vs':List Value},aH σ vs vs'->∀(i:Nat) (v:Value),vs[i]?=some v->∃v',vs'[i]?=some v'/\aJ σ v v'
 | [],_,_,i,v,h=>by simp at h
 | x::_,_,⟨a,b,e,r,s⟩,i,v,h=>by
  subst e;cases i with
  | zero=>simp at h;subst h;exact⟨a,rfl,r⟩
  | succ i=>exact aH.get s i v (by simpa using h)
theorem aH.app{σ:aZ}:∀{xs xs' ys ys':List Value},aH σ xs xs'->aH σ ys ys'->aH σ (xs++ys) (xs'++ys')
 | [],_,_,_,h,k=>by rw[show _=[] from h];exact k
 | _::_,_,_,_,⟨a,b,e,r,s⟩,k=>by subst e;exact⟨a,b++_,rfl,r,aH.app s k⟩
theorem aH.take{σ:aZ}:∀{xs xs':List Value} (n:Nat),aH σ xs xs'->aH σ (xs.take n) (xs'.take n)
 | _,_,0,_=>by simp[aH]
 | [],_,_+1,h=>by rw[show _=[] from h];simp[aH]
 | _::_,_,n+1,⟨a,b,e,r,s⟩=>by subst e;exact⟨a,b.take n,rfl,r,aH.take n s⟩
theorem aH.drop{σ:aZ}:∀{xs xs':List Value} (n:Nat),aH σ xs xs'->aH σ (xs.drop n) (xs'.drop n)
 | _,_,0,h=>by simpa using h
 | [],_,_+1,h=>by rw[show _=[] from h];simp[aH]
 | _::_,_,n+1,⟨a,b,e,r,s⟩=>by subst e;simpa using aH.drop n s
mutual
def plain:Value->Bool
 | .bool _=>true
 | .int _ _=>true
 | .float _ _=>true
 | .complex _ _ _=>true
 | .string _=>true
 | .pointer a=>a.isNone
 | .slice a n c=>a.isNone&&n==0&&c==0
 | .map r=>r.isNone
 | .chan _=>false
 | .func _ ⟨xs⟩ ⟨ys⟩=>fp xs&&fp ys
 | .nilFunc=>true
 | .iface _ v=>plain v
 | .nilIface=>true
 | .agg ⟨cs⟩=>fp cs
 | .tuple ⟨cs⟩=>fp cs
def fp:List Value->Bool
 | []=>true
 | v::vs=>plain v&&fp vs
end
mutual
theorem fL(σ:aZ):∀(v:Value),plain v=true->aJ σ v v
 | .bool _,_=>rfl
 | .int _ _,_=>rfl
 | .float _ _,_=>rfl
 | .complex _ _ _,_=>rfl
 | .string _,_=>rfl
 | .pointer none,_=>rfl
 | .pointer (some _),h=>by simp[plain] at h
 | .slice none n c,h=>by
  simp[plain] at h;obtain⟨rfl,rfl⟩:=h;exact⟨rfl,rfl,rfl⟩
 | .slice (some _) _ _,h=>by simp[plain] at h
 | .map none,_=>rfl
 | .map (some _),h=>by simp[plain] at h
 | .chan _,h=>by simp[plain] at h
 | .func _ ⟨xs⟩ ⟨ys⟩,h=>by
  simp[plain] at h;exact⟨xs,ys,rfl,cS σ xs h.1,cS σ ys h.2⟩
 | .nilFunc,_=>rfl
 | .iface _ v,h=>⟨v,rfl,fL σ v (by simpa [plain] using h)⟩
 | .nilIface,_=>rfl
 | .agg ⟨cs⟩,h=>⟨cs,rfl,cS σ cs (by simpa [plain] using h)⟩
 | .tuple ⟨cs⟩,h=>⟨cs,rfl,cS σ cs (by simpa [plain] using h)⟩
theorem cS(σ:aZ):∀(vs:List Value),fp vs=true->aH σ vs vs
 | [],_=>rfl
 | v::vs,h=>by
  simp[fp] at h;exact⟨v,vs,rfl,fL σ v h.1,cS σ vs h.2⟩
end
theorem aJ.cells{σ:aZ}:∀{v v':Value},aJ σ v v'->aH σ v.cells.toList v'.cells.toList
 | .bool _,_,h=>by have e:=h;rw[show _=_ from e];exact⟨_,[],rfl,rfl,rfl⟩
 | .int _ _,_,h=>by have e:=h;rw[show _=_ from e];exact⟨_,[],rfl,rfl,rfl⟩
 | .float _ _,_,h=>by have e:=h;rw[show _=_ from e];exact⟨_,[],rfl,rfl,rfl⟩
 | .complex _ _ _,_,h=>by have e:=h;rw[show _=_ from e];exact⟨_,[],rfl,rfl,rfl⟩
 | .string _,_,h=>by have e:=h;rw[show _=_ from e];exact⟨_,[],rfl,rfl,rfl⟩
 | .pointer none,_,h=>by have e:=h;rw[show _=_ from e];exact⟨_,[],rfl,rfl,rfl⟩
 | .pointer (some _),_,⟨l,a,b,e⟩=>by subst e;exact⟨_,[],rfl,⟨l,a,b,rfl⟩,rfl⟩
 | .slice none _ _,_,⟨a,b,e⟩=>by subst e;exact⟨_,[],rfl,⟨a,b,rfl⟩,rfl⟩
 | .slice (some _) _ _,_,⟨l,a',c,a,b,e,r⟩=>by subst e;exact⟨_,[],rfl,⟨l,a',c,a,b,rfl,r⟩,rfl⟩
 | .map none,_,h=>by have e:=h;rw[show _=_ from e];exact⟨_,[],rfl,rfl,rfl⟩
 | .map (some _),_,⟨l,a,e⟩=>by subst e;exact⟨_,[],rfl,⟨l,a,rfl⟩,rfl⟩
 | .func _ ⟨_⟩ ⟨_⟩,_,⟨xs',ys',e,r,s⟩=>by subst e;exact⟨_,[],rfl,⟨xs',ys',rfl,r,s⟩,rfl⟩
 | .nilFunc,_,h=>by have e:=h;rw[show _=_ from e];exact⟨_,[],rfl,rfl,rfl⟩
 | .iface _ _,_,⟨u,e,r⟩=>by subst e;exact⟨_,[],rfl,⟨u,rfl,r⟩,rfl⟩
 | .nilIface,_,h=>by have e:=h;rw[show _=_ from e];exact⟨_,[],rfl,rfl,rfl⟩
 | .agg ⟨_⟩,_,⟨cs',e,r⟩=>by subst e;exact r
 | .tuple ⟨_⟩,_,⟨cs',e,r⟩=>by subst e;exact⟨_,[],rfl,⟨cs',rfl,r⟩,rfl⟩
def one:Value->Bool
 | .agg _=>false
 | .tuple _=>false
 | _=>true
theorem aJ.one{σ:aZ}:∀{v v':Value},aJ σ v v'->one v=true->v'.oneCell'=true
 | .bool _,_,h,_=>by rw[show _=_ from h];rfl
 | .int _ _,_,h,_=>by rw[show _=_ from h];rfl
 | .float _ _,_,h,_=>by rw[show _=_ from h];rfl
 | .complex _ _ _,_,h,_=>by rw[show _=_ from h];rfl
 | .string _,_,h,_=>by rw[show _=_ from h];rfl
 | .pointer none,_,h,_=>by rw[show _=_ from h];rfl
 | .pointer (some _),_,⟨l,a,b,e⟩,_=>by subst e;rfl
 | .slice none _ _,_,⟨a,b,e⟩,_=>by subst e;rfl
 | .slice (some _) _ _,_,⟨l,a',c,a,b,e,r⟩,_=>by subst e;rfl
 | .map none,_,h,_=>by rw[show _=_ from h];rfl
 | .map (some _),_,⟨l,a,e⟩,_=>by subst e;rfl
 | .func _ ⟨_⟩ ⟨_⟩,_,⟨xs',ys',e,r,s⟩,_=>by subst e;rfl
 | .nilFunc,_,h,_=>by rw[show _=_ from h];rfl
 | .iface _ _,_,⟨u,e,r⟩,_=>by subst e;rfl
 | .nilIface,_,h,_=>by rw[show _=_ from h];rfl
 | .agg _,_,_,h=>by cases h
 | .tuple _,_,_,h=>by cases h
end Go.Abs
/-
 The abstract machine: a deterministic evaluator of the model's code,without tape,capacities and orders.
-/
namespace Go.Abs
structure Ctx where
 info:TypeId->Option TypeInfo
 func:FuncId->Option Func
 /-- how many package variables are known to lie where the model lays them -/
 cG:Nat
 /-- struct types that are compared field by field -/
 flat:TypeId->Bool
 /-- functions without parameters that are known to return true, and the blocks that must stand -/
 fact:FuncId->Option (List (Nat×aD)):=λ_=>none
def Ctx.gQ(C:Ctx)(t:TypeId):Option TypeDesc:=
 match C.info t with
 | some i=>match i.desc with
  | .named _ u=>(C.info u).map (·.desc)
  | d=>some d
 | none=>none
def Ctx.size(C:Ctx)(t:TypeId):Option Nat:=(C.info t).map (·.size)
def Ctx.bytes(C:Ctx)(t:TypeId):Option Nat:=(C.info t).map (·.bytes)
def Ctx.zero(C:Ctx)(t:TypeId):Option Value:=
 match C.info t with
 | some i=>match i.zero with
  | some z=>bif plain z&&z.cells.size==i.size then some z else none
  | none=>none
 | none=>none
def tt:TypeDesc->Bool
 | .struct _=>true
 | .array _ _=>true
 | _=>false
def aV(cs:List Value)(off:Nat)(vs:List Value):List Value:=cs.take off++(vs++cs.drop (off+vs.length))
def bF(cs:List Value)(off n:Nat):Option (List Value):=
 let l:=(cs.drop off).take n
 bif l.length==n then some l else none
def iv(h:aq)(b:Nat):Option (List Value):=
 match h.get b with
 | some (.cells _ cs)=>some cs
 | _=>none
def eI(C:Ctx)(cs:List Value)(t:TypeId)(off:Nat):Option Value:=
 match C.gQ t with
 | none=>none
 | some d=>bif tt d then
   match C.size t with
   | some n=>(bF cs off n).map λl=>.agg ⟨l⟩
   | none=>none
  else cs[off]?
def mU(C:Ctx)(h:aq)(t:TypeId):Value->Option Value
 | .pointer (some ⟨b,off,none⟩)=>match iv h b with
  | some cs=>eI C cs t off
  | none=>none
 | _=>none
def sd(C:Ctx)(h:aq)(t:TypeId)(p v:Value):Option aq:=
 match p with
 | .pointer (some ⟨b,off,none⟩)=>
  match h.get b,C.size t with
  | some (.cells false cs),some n=>
   let vs:=v.cells.toList
   bif vs.length==n&&vs.all one&&Nat.ble (off+n) cs.length then some (h.put b (some (.cells false (aV cs off vs)))) else none
  | _,_=>none
 | _=>none
def ld(place:Nat->Option (Nat×Nat)):List Value->List (Nat×Value)->Option (List Value)
 | cs,[]=>some cs
 | cs,(i,v)::rest=>
  match place i with
  | none=>none
  | some (off,size)=>
   let vs:=v.cells.toList
   bif vs.length==size&&Nat.ble (off+size) cs.length then ld place (aV cs off vs) rest else none
def cX(z:List Value):Nat->List Value
 | 0=>[]
 | n+1=>z++cX z n
def places(C:Ctx):List Field->Option (List (Nat×Nat))
 | []=>some []
 | f::fs=>match C.size f.type,places C fs with
  | some n,some r=>some ((f.offset,n)::r)
  | _,_=>none
def rU(C:Ctx)(t:TypeId)(parts:List (Nat×Value)):Option Value:=
 match C.zero t,C.gQ t with
 | some z,some (.struct fields)=>match places C fields.toList with
  | some ps=>(ld (λi=>ps[i]?) z.cells.toList parts).map λcs=>.agg ⟨cs⟩
  | none=>none
 | some z,some (.array _ e)=>match C.size e with
  | some n=>(ld (λi=>some (i*n,n)) z.cells.toList parts).map λcs=>.agg ⟨cs⟩
  | none=>none
 | _,_=>none
def gK(C:Ctx)(h:aq)(t:TypeId)(len:Nat)(parts:List (Nat×Value)):Option (Value×aq):=
 match C.gQ t with
 | some (.slice e)=>match C.size e,C.zero e with
  | some n,some z=>
   bif Nat.ble (len*n) 16777216&&Nat.blt 0 n then
    match ld (λi=>some (i*n,n)) (cX z.cells.toList len) parts with
    | some cs=>some (.slice (some ⟨h.next,0,none⟩) len (bif len==0 then 0 else n),h.alloc (.cells false cs))
    | none=>none
   else none
  | _,_=>none
 | _=>none
def b9(op:BinOp)(k:IntKind)(a b:Int):Option Value:=
 match op with
 | .add=>some (.int k (k.wrap (a+b)))
 | .sub=>some (.int k (k.wrap (a-b)))
 | .mul=>some (.int k (k.wrap (a*b)))
 | .quo=>if b=0 then none else some (.int k (k.wrap (a.tdiv b)))
 | .rem=>if b=0 then none else some (.int k (a.tmod b))
 | .and=>some (.int k (k.wrap (BitVec.ofInt k.bits a &&& BitVec.ofInt k.bits b).toNat))
 | .or=>some (.int k (k.wrap (BitVec.ofInt k.bits a ||| BitVec.ofInt k.bits b).toNat))
 | .xor=>some (.int k (k.wrap (BitVec.ofInt k.bits a ^^^ BitVec.ofInt k.bits b).toNat))
 | .andNot=>some (.int k (k.wrap (BitVec.ofInt k.bits a &&& ~~~BitVec.ofInt k.bits b).toNat))
 | .eql=>some (.bool (a==b))
 | .neq=>some (.bool (a != b))
 | .lss=>some (.bool (decide (a<b)))
 | .leq=>some (.bool (decide (a<=b)))
 | .gtr=>some (.bool (decide (a > b)))
 | .geq=>some (.bool (decide (a≥b)))
 | _=>none
def iU(op:BinOp)(k:IntKind)(x y:Int):Option Value:=
 if y<0 then none else
 match op with
 | .shl=>some (.int k (k.wrap (x*2 ^ (min y.toNat k.bits))))
 | .shr=>some (.int k (x.fdiv (2 ^ (min y.toNat k.bits))))
 | _=>none
def vF:TypeDesc->Bool
 | .bool=>true
 | .int _=>true
 | .string=>true
 | .pointer _=>true
 | _=>false
def fU(d:TypeDesc)(x y:Value):Option Bool:=
 match d,x,y with
 | .bool,.bool a,.bool b=>some (a==b)
 | .int _,.int k a,.int k' b=>if k=k' then some (a==b) else none
 | .string,.string a,.string b=>some (a==b)
 | .pointer _,.pointer none,.pointer none=>some true
 | _,_,_=>none
def eqFields(C:Ctx)(eq:TypeId->Value->Value->Option Bool):List Field->List Value->List Value->Option Bool
 | [],_,_=>some true
 | f::fs,xs,ys=>
  match eI C xs f.type f.offset,eI C ys f.type f.offset with
  | some a,some b=>match eq f.type a b with
   | some true=>eqFields C eq fs xs ys
   | r=>r
  | _,_=>none
def qS(C:Ctx)(eq:Value->Value->Option Bool)(e s:Nat)(xs ys:List Value):List Nat->Option Bool
 | []=>some true
 | i::is=>
  match eI C xs e (i*s),eI C ys e (i*s) with
  | some a,some b=>match eq a b with
   | some true=>qS C eq e s xs ys is
   | r=>r
  | _,_=>none
def tK(C:Ctx):Nat->TypeId->Value->Value->Option Bool
 | 0,_,_,_=>none
 | n+1,t,x,y=>
  match C.gQ t,x,y with
  | some (.struct fs),.agg xs,.agg ys=>bif C.flat t then eqFields C (tK C n) fs.toList xs.toList ys.toList else none
  | some (.array len e),.agg xs,.agg ys=>match C.size e with
   | some s=>qS C (tK C n e) e s xs.toList ys.toList (List.range len)
   | none=>none
  | some d,x,y=>fU d x y
  | none,_,_=>none
def live(h:aq)(i:Nat):Bool:=
 match h.get i with
 | some (.cells false _)=>true
 | _=>false
def equalA(C:Ctx)(h:aq)(t:TypeId)(x y:Value):Option Bool:=
 match C.gQ t,x,y with
 | some (.pointer _),.pointer none,.pointer b=>some b.isNone
 | some (.pointer _),.pointer (some _),.pointer none=>some false
 | some (.pointer e),.pointer (some ⟨a,i,none⟩),.pointer (some ⟨b,j,none⟩)=>
  match C.size e with
  | some n=>bif n==0 then none else bif a==b then some (i==j) else bif live h a&&live h b then some false else none
  | none=>none
 | some (.interface _),.nilIface,.nilIface=>some true
 | some (.interface _),.nilIface,.iface _ _=>some false
 | some (.interface _),.iface _ _,.nilIface=>some false
 | some (.slice _),.slice none _ _,.slice b _ _=>some b.isNone
 | some (.slice _),.slice (some _) _ _,.slice none _ _=>some false
 | some (.map _ _),.map none,.map b=>some b.isNone
 | some (.map _ _),.map (some _),.map none=>some false
 | some (.func _ _ _),.nilFunc,.nilFunc=>some true
 | some (.func _ _ _),.nilFunc,.func _ _ _=>some false
 | some (.func _ _ _),.func _ _ _,.nilFunc=>some false
 | _,_,_=>tK C 8 t x y
def lT(op:BinOp)(a b:ByteArray):Option Value:=
 match op with
 | .add=>bif Nat.ble (a.size+b.size) 9223372036854775807 then some (.string (a++b)) else none
 | .eql=>some (.bool (a.toList==b.toList))
 | .neq=>some (.bool !(a.toList==b.toList))
 | _=>none
def js(C:Ctx)(t:TypeId)(x y:Operand)(a b:Value):Bool:=
 match a,b with
 | .nilIface,.nilIface=>(match x with | .const _=>true | _=>match y with | .const _=>true | _=>false)
 | .agg _,.agg _=>C.flat t
 | _,_=>true
def kQ(C:Ctx)(h:aq)(op:BinOp)(t:TypeId)(xo yo:Operand)(x y:Value):Option Value:=
 match op,x,y with
 | .shl,.int k a,.int _ b=>iU .shl k a b
 | .shr,.int k a,.int _ b=>iU .shr k a b
 | op,.int k a,.int k' b=>if k=k' then b9 op k a b else none
 | op,.string a,.string b=>lT op a b
 | .eql,x,y=>bif js C t xo yo x y then (equalA C h t x y).map λb=>.bool b else none
 | .neq,x,y=>bif js C t xo yo x y then (equalA C h t x y).map λb=>.bool !b else none
 | _,_,_=>none
def OM(op:UnOp)(x:Value):Option Value:=
 match op,x with
 | .neg,.int k n=>some (.int k (k.wrap (0-n)))
 | .xor,.int k n=>some (.int k (k.wrap (BitVec.ofInt k.bits (if k.signed then -1 else k.max) ^^^ BitVec.ofInt k.bits n).toNat))
 | .not,.bool b=>some (.bool !b)
 | _,_=>none
def wk(C:Ctx)(src dst:TypeId)(x:Value):Option Value:=
 match C.gQ src,C.gQ dst,x with
 | some _,some (.int k),.int _ n=>some (.int k (k.wrap n))
 | _,_,_=>none
def iJ(C:Ctx)(t:TypeId)(x i:Value):Option Value:=
 match C.gQ t,x,i with
 | some (.slice e),.slice (some ⟨b,off,none⟩) len _,.int _ n=>
  match C.size e with
  | some s=>if 0<=n/\n<len then some (.pointer (some ⟨b,off+n.toNat*s,none⟩)) else none
  | none=>none
 | some (.array len e),.pointer (some ⟨b,off,none⟩),.int _ n=>
  match C.size e with
  | some s=>if 0<=n/\n<len then some (.pointer (some ⟨b,off+n.toNat*s,none⟩)) else none
  | none=>none
 | _,_,_=>none
def jX(C:Ctx)(t:TypeId)(x:Value)(f:Nat):Option Value:=
 match C.gQ t,x with
 | some (.struct fs),.pointer (some ⟨b,off,none⟩)=>match fs.toList[f]? with
  | some fd=>match C.size fd.type with
   | some n=>bif n==0 then none else some (.pointer (some ⟨b,off+fd.offset,none⟩))
   | none=>none
  | none=>none
 | _,_=>none
def vb(C:Ctx)(t:TypeId)(x:Value)(f:Nat):Option Value:=
 match C.gQ t,x with
 | some (.struct fs),.agg cs=>match fs.toList[f]? with
  | some fd=>eI C cs.toList fd.type fd.offset
  | none=>none
 | _,_=>none
def zh(C:Ctx)(t:TypeId)(x i:Value):Option Value:=
 match C.gQ t,x,i with
 | some (.array len e),.agg cs,.int _ n=>match C.size e with
  | some s=>if 0<=n/\n<len then eI C cs.toList e (n.toNat*s) else none
  | none=>none
 | some .string,.string s,.int _ n=>if 0<=n then (s.data.toList[n.toNat]?).map λb=>.int .u8 b.toNat else none
 | _,_,_=>none
def cZ(v:Option Value)(dflt:Nat):Option Nat:=
 match v with
 | none=>some dflt
 | some (.int _ n)=>if 0<=n then some n.toNat else none
 | _=>none
def kM(C:Ctx)(h:aq)(t:TypeId)(x:Value)(lo hi mx:Option Value):Option Value:=
 match C.gQ t,x with
 | some (.slice e),.slice none _ _=>
  match C.size e,cZ lo 0,cZ hi 0,cZ mx 0 with
  | some _,some 0,some 0,some 0=>bif mx.isSome&&hi.isNone then none else some (.slice none 0 0)
  | _,_,_,_=>none
 | some (.slice e),.slice (some ⟨b,off,none⟩) len c=>
  match C.size e,cZ lo 0,cZ hi len,mx with
  | some s,some l,some u,none=>
   bif Nat.ble l u&&Nat.ble u len&&(c==0||c==s) then some (.slice (some ⟨b,off+l*s,none⟩) (u-l) c) else none
  | some s,some l,some u,some _=>match cZ mx 0 with
   | some m=>bif hi.isSome&&Nat.ble l u&&Nat.ble u m&&Nat.ble m len&&(c==0||c==s) then
     some (.slice (some ⟨b,off+l*s,none⟩) (u-l) (bif m==l then 0 else c)) else none
   | none=>none
  | _,_,_,_=>none
 | some (.array n e),.pointer (some ⟨b,off,none⟩)=>
  match C.size e,cZ lo 0,cZ hi n,mx,iv h b with
  | some s,some l,some u,none,some cs=>
   bif Nat.ble l u&&Nat.ble u n&&Nat.blt 0 s&&Nat.ble (off+n*s) cs.length then some (.slice (some ⟨b,off+l*s,none⟩) (u-l) (bif n==l then 0 else s)) else none
  | _,_,_,_,_=>none
 | some .string,.string s=>
  match cZ lo 0,cZ hi s.size,mx with
  | some l,some u,none=>bif Nat.ble l u&&Nat.ble u s.size then some (.string (s.extract l u)) else none
  | _,_,_=>none
 | _,_=>none
def cA:Value->Bool
 | .tuple _=>true
 | _=>false
def alive:List (Value×Value)->List (Value×Value)
 | []=>[]
 | (k,v)::es=>bif cA k then alive es else (k,v)::alive es
def stamps:Nat->List (Value×Value)->List Nat
 | _,[]=>[]
 | n,(k,_)::es=>bif cA k then stamps (n+1) es else n::stamps (n+1) es
def aS(x:Value×Value):List (Value×Value)->Nat->List (Value×Value)
 | [],_=>[]
 | (k,v)::es,0=>bif cA k then (k,v)::aS x es 0 else x::es
 | (k,v)::es,j+1=>bif cA k then (k,v)::aS x es (j+1) else (k,v)::aS x es j
def CZ(C:Ctx)(h:aq)(t:TypeId)(x:Value):Option Value:=
 match C.gQ t,x with
 | some .string,.string s=>some (.int .i64 s.size)
 | some (.array n _),_=>some (.int .i64 n)
 | some (.slice _),.slice _ n _=>some (.int .i64 n)
 | some (.map _ _),.map none=>some (.int .i64 0)
 | some (.map _ _),.map (some r)=>match h.get r with
  | some (.map es)=>some (.int .i64 (alive es).length)
  | _=>none
 | _,_=>none
def J2(C:Ctx)(t:TypeId)(x:Value):Option Value:=
 match C.gQ t,x with
 | some (.array n _),_=>some (.int .i64 n)
 | some (.slice _),.slice none _ _=>some (.int .i64 0)
 | some (.slice _),.slice (some _) _ 0=>some (.int .i64 0)
 | _,_=>none
def eU(h:aq)(s n:Nat):Value->Option (List Value)
 | .slice none _ _=>some []
 | .slice (some ⟨b,off,none⟩) _ _=>bif n==0 then some [] else match iv h b with
  | some cs=>bF cs off (n*s)
  | none=>none
 | .string x=>some ((x.extract 0 n).data.toList.map λb=>.int .u8 b.toNat)
 | _=>none
def gV:Value->Option Nat
 | .slice _ n _=>some n
 | .string s=>some s.size
 | _=>none
def eD(h:aq)(s:Nat)(x:Value):Option (Nat×List Value):=
 match gV x with
 | some n=>(eU h s n x).map λl=>(n,l)
 | none=>none
def kG(C:Ctx)(h:aq)(e:TypeId)(s:Nat)(xt:Option TypeId)(x:Value):Option (Nat×List Value):=
 match xt with
 | none=>eD h s x
 | some t=>match C.gQ t with
  | none=>none
  | some (.int _)=>match x,C.zero e with
   | .int _ n,some z=>if 0<=n/\n<1000000 then some (n.toNat,cX z.cells.toList n.toNat) else none
   | _,_=>none
  | some _=>eD h s x
def ja(C:Ctx)(h:aq)(t:TypeId)(xt:Option TypeId)(s x:Value):Option (Value×aq):=
 match C.gQ t,s with
 | some (.slice e),.slice base len c=>match C.size e,C.zero e,C.bytes e with
  | some sz,some _,some by_=>match kG C h e sz xt x with
   | some (n,new)=>
    bif !(new.length==n*sz&&new.all one&&Nat.blt 0 sz&&Nat.blt 0 by_&&Nat.ble ((len+n)*by_) 140737488355328) then none else
    bif n==0 then some (s,h) else
    match base with
    | none=>some (.slice (some ⟨h.next,0,none⟩) n sz,h.alloc (.cells false new))
    | some ⟨b,off,none⟩=>
     bif c==0 then (bif len==0 then some (.slice (some ⟨h.next,0,none⟩) n sz,h.alloc (.cells false new)) else none) else
     bif !(c==sz) then none else
     match h.get b with
     | some (.cells false cs)=>match bF cs off (len*sz) with
      | some cw=>some (.slice (some ⟨h.next,0,none⟩) (len+n) sz,(h.put b none).alloc (.cells false (cw++new)))
      | none=>none
     | _=>none
    | _=>none
   | none=>none
  | _,_,_=>none
 | _,_=>none
def vp(C:Ctx)(h:aq)(t:TypeId)(d x:Value):Option (Value×aq):=
 match C.gQ t,d,gV x with
 | some (.slice e),.slice base dl _,some n=>match C.size e with
  | some s=>match eU h s (Nat.min n dl) x with
   | some new=>bif !(new.all one) then none else
    match base with
    | none=>some (.int .i64 (Nat.min n dl),h)
    | some ⟨b,off,none⟩=>bif new.isEmpty then some (.int .i64 (Nat.min n dl),h) else match h.get b with
     | some (.cells false cs)=>bif Nat.ble (off+new.length) cs.length then
       some (.int .i64 (Nat.min n dl),h.put b (some (.cells false (aV cs off new)))) else none
     | _=>none
    | _=>none
   | none=>none
  | none=>none
 | _,_,_=>none
def nM(C:Ctx)(h:aq)(t:TypeId)(x:Value):Option aq:=
 match C.gQ t,x with
 | some (.slice _),.slice none _ _=>some h
 | some (.slice _),.slice _ 0 _=>some h
 | some (.slice e),.slice (some ⟨b,off,none⟩) n _=>match C.zero e,h.get b with
  | some z,some (.cells false cs)=>
   let new:=cX z.cells.toList n
   bif new.all one&&Nat.ble (off+new.length) cs.length then some (h.put b (some (.cells false (aV cs off new)))) else none
  | _,_=>none
 | _,_=>none
def iV(C:Ctx)(h:aq)(t:TypeId)(len cap:Value):Option (Value×aq):=
 match C.gQ t,len,cap with
 | some (.slice e),.int _ l,.int _ c=>match C.size e,C.zero e,C.bytes e with
  | some s,some z,some by_=>
   if 0<=l/\l=c/\c<=281474976710656/\by_*c<=281474976710656/\0<s then
    some (.slice (some ⟨h.next,0,none⟩) l.toNat (bif l.toNat==0 then 0 else s),h.alloc (.cells false (cX z.cells.toList l.toNat)))
   else none
  | _,_,_=>none
 | _,_,_=>none
def jT(C:Ctx)(ok:TypeId->Value->Bool):List Field->List Value->Bool
 | [],_=>true
 | f::fs,cs=>(match eI C cs f.type f.offset with
  | some a=>ok f.type a
  | none=>false)&&jT C ok fs cs
def qF(C:Ctx)(ok:Value->Bool)(e s:Nat)(xs:List Value):List Nat->Bool
 | []=>true
 | i::is=>(match eI C xs e (i*s) with
  | some a=>ok a
  | none=>false)&&qF C ok e s xs is
def eW(C:Ctx):Nat->TypeId->Value->Bool
 | 0,_,_=>false
 | n+1,t,v=>
  match C.gQ t,v with
  | some (.struct fs),.agg cs=>jT C (eW C n) fs.toList cs.toList
  | some (.array len e),.agg xs=>(match C.size e with
   | some s=>qF C (eW C n e) e s xs.toList (List.range len)
   | none=>false)
  | some d,v=>vF d&&!cA v
  | none,_=>false
def gg(C:Ctx)(t:TypeId)(k:Value):List (Value×Value)->Nat->Option (Option (Nat×Value))
 | [],_=>some none
 | (k',v)::es,i=>match tK C 8 t k k' with
  | some true=>some (some (i,v))
  | some false=>gg C t k es (i+1)
  | none=>none
def ik(h:aq):Value->Option (List (Value×Value))
 | .map none=>some []
 | .map (some r)=>match h.get r with
  | some (.map es)=>some (alive es)
  | _=>none
 | _=>none
def iY(C:Ctx)(h:aq)(t:TypeId)(x k:Value)(ok:Bool):Option Value:=
 match C.gQ t,ik h x with
 | some (.map kt et),some es=>bif !eW C 8 kt k then none else
  match gg C kt k es 0 with
  | some (some (_,v))=>some (bif ok then .tuple ⟨[v,.bool true]⟩ else v)
  | some none=>match C.zero et with
   | some z=>some (bif ok then .tuple ⟨[z,.bool false]⟩ else z)
   | none=>none
  | none=>none
 | _,_=>none
mutual
def bI:Value->Value->Bool
 | .bool a,.bool b=>a==b
 | .int k a,.int k' b=>k==k'&&a==b
 | .float k a,.float k' b=>k==k'&&a==b
 | .complex k a b,.complex k' a' b'=>k==k'&&a==a'&&b==b'
 | .string a,.string b=>a.data.toList==b.data.toList
 | .chan a,.chan b=>a==b
 | .pointer a,.pointer b=>a==b
 | .slice a n c,.slice a' n' c'=>a==a'&&n==n'&&c==c'
 | .map a,.map b=>a==b
 | .func f ⟨xs⟩ ⟨ys⟩,.func g ⟨xs'⟩ ⟨ys'⟩=>f==g&&jv xs xs'&&jv ys ys'
 | .nilFunc,.nilFunc=>true
 | .iface t v,.iface u w=>t==u&&bI v w
 | .nilIface,.nilIface=>true
 | .agg ⟨xs⟩,.agg ⟨ys⟩=>jv xs ys
 | .tuple ⟨xs⟩,.tuple ⟨ys⟩=>jv xs ys
 | _,_=>false
def jv:List Value->List Value->Bool
 | [],[]=>true
 | a::as,b::bs=>bI a b&&jv as bs
 | _,_=>false
end
def cH(C:Ctx)(h:aq)(t:TypeId)(m k v:Value):Option aq:=
 match C.gQ t,m with
 | some (.map kt _),.map (some r)=>match h.get r with
  | some (.map es)=>bif !eW C 8 kt k then none else
   match gg C kt k (alive es) 0 with
   | some (some (i,_))=>match (alive es)[i]? with
    | some (k2,_)=>bif bI k2 k then some (h.put r (some (.map (aS (k,v) es i)))) else none
    | none=>none
   | some none=>some (h.put r (some (.map (es++[(k,v)]))))
   | none=>none
  | _=>none
 | _,_=>none
def dq:Value:=.tuple ⟨[]⟩
def mz(C:Ctx)(h:aq)(t:TypeId)(m k:Value):Option aq:=
 match C.gQ t,m with
 | some (.map kt _),.map (some r)=>match h.get r with
  | some (.map es)=>bif !eW C 8 kt k then none else
   match gg C kt k (alive es) 0 with
   | some (some (i,_))=>some (h.put r (some (.map (aS (dq,dq) es i))))
   | some none=>some (h.put r (some (.map es)))
   | none=>none
  | _=>none
 | _,_=>none
def fJ(C:Ctx)(h:aq)(t:TypeId)(m k:Value):Option (Value×aq):=
 match C.gQ t,m with
 | some (.map kt et),.map (some r)=>match h.get r with
  | some (.map es)=>bif !eW C 8 kt k then none else
   match gg C kt k (alive es) 0 with
   | some (some (i,v))=>match (alive es)[i]?,(stamps 0 es)[i]? with
    | some (k2,_),some n=>bif bI k2 k then some (.tuple ⟨[v,.int .i64 n]⟩,h) else none
    | _,_=>none
   | some none=>match C.zero et with
    | some z=>some (.tuple ⟨[z,.int .i64 es.length]⟩,h.put r (some (.map (es++[(k,z)]))))
    | none=>none
   | none=>none
  | _=>none
 | _,_=>none
def eu(h:aq)(m s v:Value):Option aq:=
 match m,s with
 | .map (some r),.int _ n=>match h.get r with
  | some (.map es)=>match (stamps 0 es).findIdx? (λ(b:Nat)=>decide ((b:Int)=n)) with
   | some j=>match (alive es)[j]? with
    | some (k,_)=>some (h.put r (some (.map (aS (k,v) es j))))
    | none=>none
   | none=>none
  | _=>none
 | _,_=>none
def Bn:TypeDesc->Bool
 | .interface _=>true
 | _=>false
def oe(C:Ctx)(x:Value)(t:TypeId)(ok:Bool):Option Value:=
 match C.gQ t with
 | none=>none
 | some d=>bif Bn d then none else
  match x with
  | .iface t' v=>bif Nat.beq t' t then some (bif ok then .tuple ⟨[v,.bool true]⟩ else v) else
    bif ok then (C.zero t).map λz=>.tuple ⟨[z,.bool false]⟩ else none
  | .nilIface=>bif ok then (C.zero t).map λz=>.tuple ⟨[z,.bool false]⟩ else none
  | _=>none
def Ag(C:Ctx)(h:aq)(x:Value)(name:String):Option (FuncId×Value):=
 match x with
 | .iface t v=>match C.info t,C.gQ t with
  | some i,some d=>match i.methods.find? (·.name==name) with
   | some m=>bif m.path.isEmpty then
     match m.func,d with
     | some (f,true),.pointer _=>some (f,v)
     | some (f,false),.pointer e=>(mU C h e v).map λx=>(f,x)
     | _,_=>none
    else none
   | none=>none
  | _,_=>none
 | _=>none
inductive yb where
 | val (v:Value) (h:aq)
 | call (f:FuncId) (args:List Value)
def dx(ρ:Operand->Option Value):List Operand->Option (List Value)
 | []=>some []
 | x::xs=>match ρ x,dx ρ xs with
  | some v,some vs=>some (v::vs)
  | _,_=>none
def ez(ρ:Operand->Option Value):List (Nat×Operand)->Option (List (Nat×Value))
 | []=>some []
 | (i,x)::xs=>match ρ x,ez ρ xs with
  | some v,some vs=>some ((i,v)::vs)
  | _,_=>none
def lD(ρ:Operand->Option Value):Option Operand->Option (Option Value)
 | none=>some none
 | some x=>(ρ x).map some
def bR(C:Ctx)(h:aq)(b:Builtin)(ts:List TypeId)(args:List Value):Option (Value×aq):=
 match b,ts,args with
 | .len,t::_,[x]=>(CZ C h t x).map λv=>(v,h)
 | .cap,t::_,[x]=>(J2 C t x).map λv=>(v,h)
 | .append,t::ts,[s,x]=>ja C h t ts.head? s x
 | .copy,t::_,[d,x]=>vp C h t d x
 | .clear,t::_,[x]=>(nM C h t x).map λh=>(dq,h)
 | .delete,t::_,[m,k]=>(mz C h t m k).map λh=>(dq,h)
 | .min,_,[.int k a,.int _ b]=>some (.int k (if b<a then b else a),h)
 | .max,_,[.int k a,.int _ b]=>some (.int k (if b > a then b else a),h)
 | .min,_,[.int k a,.int _ b,.int _ c]=>
  let m:=if b<a then b else a
  some (.int k (if c<m then c else m),h)
 | _,_,_=>none
def lu(C:Ctx)(f:Value)(args:List Value):Option yb:=
 match f with
 | .func (.func i) first captured=>match C.func i with
  | some fn=>bif fn.body.isSome then some (.call i (first.toList++args++captured.toList)) else none
  | none=>none
 | _=>none
def aN(C:Ctx)(ρ:Operand->Option Value)(h:aq)(op:Op):Option yb:=
 let v (x:Option Value):Option yb:=x.map λv=>.val v h;let w (x:Option (Value×aq)):Option yb:=x.map λr=>.val r.1 r.2;let u (x:Option aq):Option yb:=x.map λh=>.val dq h
 match op with
 | .move x=>v (ρ x)
 | .assign x=>v (ρ x)
 | .pick c a b=>match ρ c with
  | some (.bool true)=>v (ρ a)
  | some (.bool false)=>v (ρ b)
  | _=>none
 | .alloc e=>match C.zero e with
  | some z=>some (.val (.pointer (some ⟨h.next,0,none⟩)) (h.alloc (.cells false z.cells.toList)))
  | none=>none
 | .box _ x=>match ρ x with
  | some y=>some (.val (.pointer (some ⟨h.next,0,none⟩)) (h.alloc (.cells false y.cells.toList)))
  | none=>none
 | .build t ps=>match ez ρ ps.toList with
  | some ps=>v (rU C t ps)
  | none=>none
 | .buildSlice t n ps=>match ez ρ ps.toList with
  | some ps=>w (gK C h t n ps)
  | none=>none
 | .load t a=>match ρ a with
  | some a=>v (mU C h t a)
  | none=>none
 | .store t a x=>match ρ a,ρ x with
  | some a,some x=>u (sd C h t a x)
  | _,_=>none
 | .nilCheck x=>match ρ x with
  | some (.pointer (some a))=>v (some (.pointer (some a)))
  | some (.func (.func f) xs ys)=>v (some (.func (.func f) xs ys))
  | _=>none
 | .binOp op t x y _=>match ρ x,ρ y with
  | some a,some b=>v (kQ C h op t x y a b)
  | _,_=>none
 | .unOp op _ x=>match ρ x with
  | some a=>v (OM op a)
  | none=>none
 | .convert s d x=>match ρ x with
  | some a=>v (wk C s d a)
  | none=>none
 | .makeInterface t x=>match ρ x,C.gQ t with
  | some a,some d=>match d with
   | .interface _=>none
   | _=>v (some (.iface t a))
  | _,_=>none
 | .makeFunc fn xs ys=>match dx ρ xs.toList,dx ρ ys.toList with
  | some a,some b=>v (some (.func fn ⟨a⟩ ⟨b⟩))
  | _,_=>none
 | .makeMap _ none=>some (.val (.map (some h.next)) (h.alloc (.map [])))
 | .makeSlice t l c=>match ρ l,ρ c with
  | some l,some c=>w (iV C h t l c)
  | _,_=>none
 | .slice t x lo hi mx=>match ρ x,lD ρ lo,lD ρ hi,lD ρ mx with
  | some x,some lo,some hi,some mx=>v (kM C h t x lo hi mx)
  | _,_,_,_=>none
 | .fieldAddr t x f=>match ρ x with
  | some x=>v (jX C t x f)
  | none=>none
 | .field t x f=>match ρ x with
  | some x=>v (vb C t x f)
  | none=>none
 | .indexAddr t x i=>match ρ x,ρ i with
  | some x,some i=>v (iJ C t x i)
  | _,_=>none
 | .index t x i=>match ρ x,ρ i with
  | some x,some i=>v (zh C t x i)
  | _,_=>none
 | .lookup t x k ok=>match ρ x,ρ k with
  | some x,some k=>v (iY C h t x k ok)
  | _,_=>none
 | .mapUpdate t m k x=>match ρ m,ρ k,ρ x with
  | some m,some k,some x=>u (cH C h t m k x)
  | _,_,_=>none
 | .insert t m k x=>match ρ m,ρ k,ρ x with
  | some m,some k,some x=>u (cH C h t m k x)
  | _,_,_=>none
 | .mapEntry t m k=>match ρ m,ρ k with
  | some m,some k=>w (fJ C h t m k)
  | _,_=>none
 | .entryStore _ m s x=>match ρ m,ρ s,ρ x with
  | some m,some s,some x=>u (eu h m s x)
  | _,_,_=>none
 | .extract x i=>match ρ x with
  | some (.tuple vs)=>v (vs.toList[i]?)
  | _=>none
 | .typeAssert x _ t ok=>match ρ x with
  | some x=>v (oe C x t ok)
  | none=>none
 | .call c=>match c.callee with
  | .builtin b=>match dx ρ c.args.toList with
   | some as=>w (bR C h b c.argTypes.toList as)
   | none=>none
  | .value f=>match ρ f,dx ρ c.args.toList with
   | some f,some as=>lu C f as
   | _,_=>none
  | .invoke r name=>match ρ r,dx ρ c.args.toList with
   | some x,some as=>match Ag C h x name with
    | some (f,recv)=>match C.func f with
     | some fn=>bif fn.body.isSome then some (.call f (recv::as)) else none
     | none=>none
    | none=>none
   | _,_=>none
 | _=>none
structure Env where
 n:Nat
 t:T Value
def Env.get(e:Env)(i:Nat):Option Value:=e.t.get i
def Env.put(e:Env)(d:Option Tmp)(v:Value):Env:=
 match d with
 | none=>e
 | some d=>bif Nat.blt d e.n then { n:=e.n,t:=e.t.set d (some v) } else e
def Env.eval(C:Ctx)(e:Env):Operand->Option Value
 | .tmp i=>e.get i
 | .const v=>bif plain v then some v else none
 | .global g=>bif Nat.blt g C.cG then some (.pointer (some ⟨g,0,none⟩)) else none
 | .func f=>some (.func (.func f) #[] #[])
def ru(ops:List Oper)(e:Env)(o:Oper):Option Bool:=
 match o.guard with
 | none=>some true
 | some (j,want)=>match (ops[j]?).bind (·.dst) with
  | none=>some false
  | some d=>match e.get d with
   | some (.bool b)=>some (b==want)
   | some (.tuple ⟨[]⟩)=>some false
   | _=>none
abbrev uy:=FuncId->List Value->aq->Option (Value×aq)
def ek(C:Ctx)(cal:uy)(ops:List Oper)(o:Oper)(e:Env)(h:aq):Option (Env×aq):=
 match ru ops e o with
 | none=>none
 | some false=>some (e.put o.dst dq,h)
 | some true=>match aN C (e.eval C) h o.op with
  | none=>none
  | some (.val v h)=>some (e.put o.dst v,h)
  | some (.call f args)=>match cal f args h with
   | none=>none
   | some (v,h)=>some (e.put o.dst v,h)
def wW(C:Ctx)(cal:uy)(ops:List Oper):List Oper->Env->aq->Option (Env×aq)
 | [],e,h=>some (e,h)
 | o::rest,e,h=>match ek C cal ops o e h with
  | none=>none
  | some (e,h)=>wW C cal ops rest e h
def bC(masks:List Nat)(o:Oper):Nat:=
 o.after.toList.foldl (λs x=>bif Region.binds .any x then s ||| 2 ^ x.on ||| (masks[x.on]?).getD 0 else s) 0
def bk(masks:List Nat):List Oper->List Nat
 | []=>masks
 | o::os=>bk (masks++[bC masks o]) os
def rf:Op->Bool
 | .alloc _=>true
 | .box _ _=>true
 | .buildSlice _ _ _=>true
 | .makeMap _ _=>true
 | .makeSlice _ _ _=>true
 | _=>false
def bS:Op->Bool
 | .move _=>true
 | .assign _=>true
 | .pick _ _ _=>true
 | .build _ _=>true
 | .load _ _=>true
 | .nilCheck _=>true
 | .binOp _ _ _ _ _=>true
 | .unOp _ _ _=>true
 | .convert _ _ _=>true
 | .makeInterface _ _=>true
 | .makeFunc _ _ _=>true
 | .slice _ _ _ _ _=>true
 | .fieldAddr _ _ _=>true
 | .field _ _ _=>true
 | .indexAddr _ _ _=>true
 | .index _ _ _=>true
 | .lookup _ _ _ _=>true
 | .extract _ _=>true
 | .typeAssert _ _ _ _=>true
 | .call c=>match c.callee with
  | .builtin .len=>true
  | .builtin .cap=>true
  | .builtin .min=>true
  | .builtin .max=>true
  | _=>false
 | _=>false
def gy:Op->Bool
 | .store _ _ _=>true
 | _=>false
def eV(o:Op):Bool:=!rf o&&!bS o&&!gy o
def tmpsOf(ops:List Oper)(o:Oper):List Tmp:=
 (o.op.operands.toList.filterMap λx=>match x with | .tmp t=>some t | _=>none)++
  (match o.guard with
   | some (j,_)=>(match (ops[j]?).bind (·.dst) with | some d=>[d] | none=>[])
   | none=>[])
def j8(ops:List Oper)(a b:Oper):Bool:=
 (match a.dst with
  | some d=>!(tmpsOf ops b).contains d&&!(b.dst==some d)
  | none=>true) &&
 (match b.dst with
  | some d=>!(tmpsOf ops a).contains d
  | none=>true) &&
 !(eV b.op&&!bS a.op)&&!(eV a.op&&gy b.op)
def ov(ops:List Oper)(masks:List Nat):List Oper->Nat->Bool
 | [],_=>true
 | b::rest,j=>
  (let m:=(masks[j]?).getD 0
   let rec inner:List Oper->Nat->Bool
     | [],_=>true
     | a::as,i=>bif Nat.ble j i then true else (m.testBit i||j8 ops a b)&&inner as (i+1)
   inner ops 0)&&ov ops masks rest (j+1)
def jH:List Oper->Nat->Bool
 | [],_=>true
 | o::os,i=>(o.after.toList.all λx=>!Region.binds .any x||Nat.blt x.on i) &&
   (match o.guard with | some (j,_)=>(o.after.toList.any λx=>x.on==j&&Region.binds .any x) | none=>true)&&jH os (i+1)
def lZ(ops:List Oper):Bool:=jH ops 0&&ov ops (bk [] ops) ops 0
def bA(ρ:Operand->Option Value):Op->List Nat
 | .load _ a=>match ρ a with
  | some (.pointer (some a))=>[a.block]
  | _=>[]
 | .store _ a _=>match ρ a with
  | some (.pointer (some a))=>[a.block]
  | _=>[]
 | .slice _ a _ _ _=>match ρ a with
  | some (.pointer (some a))=>[a.block]
  | _=>[]
 | .lookup _ m _ _=>match ρ m with
  | some (.map (some r))=>[r]
  | _=>[]
 | .binOp _ _ x y _=>(match ρ x with | some (.pointer (some a))=>[a.block] | _=>[])++(match ρ y with | some (.pointer (some a))=>[a.block] | _=>[])
 | .call c=>match c.callee with
  | .builtin .len=>match c.args.toList with
   | x::_=>match ρ x with
    | some (.map (some r))=>[r]
    | _=>[]
   | _=>[]
  | _=>[]
 | _=>[]
def m7:List (Value×Value)->List (Value×Value)->Bool
 | [],[]=>true
 | (a,b)::x,(c,d)::y=>bI a c&&bI b d&&m7 x y
 | _,_=>false
def pn:Option aD->Option aD->Bool
 | none,none=>true
 | some (.cells r xs),some (.cells s ys)=>r==s&&jv xs ys
 | some (.map xs),some (.map ys)=>m7 xs ys
 | _,_=>false
def lJ(C:Ctx)(ρ:Operand->Option Value)(h:aq)(op:Op)(h2:aq):Bool:=
 match op with
 | .lookup _ _ _ _=>(match aN C ρ h op,aN C ρ h2 op with
  | some (.val v _),some (.val v2 _)=>bI v v2
  | _,_=>false)
 | _=>false
abbrev wN:=aq×aq×List Nat×(aq->Bool)
def iG(C:Ctx)(cal:uy)(ops:List Oper):List Oper->Env->aq->Option (Env×aq×List wN)
 | [],e,h=>some (e,h,[])
 | o::rest,e,h=>match ek C cal ops o e h with
  | none=>none
  | some (e1,h1)=>match iG C cal ops rest e1 h1 with
   | none=>none
   | some (e2,h2,l)=>some (e2,h2,(h,h1,bA (e.eval C) o.op,lJ C (e.eval C) h o.op)::l)
def ed(ops:List Oper)(masks:List Nat)(tr:List wN):Bool:=
 let rec outer:List wN->Nat->Bool
  | [],_=>true
  | (_,_,look,fl)::rest,i=>
   (match look with
    | []=>true
    | look=>
      let mi:=(masks[i]?).getD 0;let rec inner:List Oper->List wN->Nat->Bool
        | o::os,(h,h1,_,_)::tr,j=>
          (bS o.op||i==j||mi.testBit j||((masks[j]?).getD 0).testBit i||(look.all λx=>pn (h.get x) (h1.get x))||(Nat.blt i j&&fl h1))&&inner os tr (j+1)
        | _,_,_=>true
      inner ops tr 0)&&outer rest (i+1)
 outer tr 0
def mF(C:Ctx)(cal:uy)(ops:List Oper)(draw:Bool)(e:Env)(h:aq):Option (Env×aq):=
 bif draw then
  match iG C cal ops ops e h with
  | none=>none
  | some (e',h',tr)=>bif lZ ops&&ed ops (bk [] ops) tr then some (e',h') else none
 else wW C cal ops ops e h
inductive Ex where
 | normal
 | exit (id:Nat)
 | ret
def rD(C:Ctx)(e:Env)(h:aq):ResultVar->Option Value
 | .tmp t=>e.get t
 | .cell a t=>match e.get a with
  | some v=>mU C h t v
  | none=>none
def kj(C:Ctx)(e:Env)(h:aq):List ResultVar->Option (List Value)
 | []=>some []
 | r::rs=>match rD C e h r,kj C e h rs with
  | some v,some vs=>some (v::vs)
  | _,_=>none
def ei:List Value->Value
 | [v]=>v
 | vs=>.tuple ⟨vs⟩
def mO(n:Nat)(args:List Value):Env:=
 let rec go:List Value->Nat->T Value->T Value
  | [],_,t=>t
  | v::vs,i,t=>go vs (i+1) (t.set i (some v))
 {n:=max n args.length,t:=go args 0 .e }
abbrev MG:=Code->Env->aq->Option (Ex×Env×aq)
def jf(C:Ctx)(exe:MG):uy:=λf args h=>
 match C.fact f with
 | some gA=>bif args.isEmpty&&gA.all (λp=>pn (h.get p.1) (some p.2)) then some (.bool true,h) else none
 | none=>match C.func f with
  | none=>none
  | some fn=>match fn.body with
   | none=>none
   | some c=>match exe c (mO fn.ntmps args) h with
    | some (.exit _,_,_)=>none
    | some (_,e,h)=>match kj C e h fn.results.toList with
     | some vs=>some (ei vs,h)
     | none=>none
    | none=>none
def bt(C:Ctx)(exe:MG):MG:=λc e h=>
 match c with
 | .skip=>some (.normal,e,h)
 | .region _ ops draw=>match mF C (jf C exe) ops.toList draw e h with
  | some (e,h)=>some (.normal,e,h)
  | none=>none
 | .seq a b=>match exe a e h with
  | some (.normal,e,h)=>exe b e h
  | r=>r
 | .cond x a b=>match (e.eval C) x with
  | some (.bool true)=>exe a e h
  | some (.bool false)=>exe b e h
  | _=>none
 | .block id a=>match exe a e h with
  | some (.exit i,e,h)=>some (bif i==id then .normal else .exit i,e,h)
  | r=>r
 | .loop a=>match exe a e h with
  | some (.normal,e,h)=>exe (.loop a) e h
  | r=>r
 | .exit id=>some (.exit id,e,h)
 | .ret=>some (.ret,e,h)
 | _=>none
def exec(C:Ctx):Nat->MG
 | 0=>λ_ _ _=>none
 | n+1=>bt C (exec C n)
def call(C:Ctx)(n:Nat):uy:=jf C (exec C n)
end Go.Abs