/-
  An abstract machine for code that draws nothing and prints nothing: values, blocks, the evaluator.
-/
import Derived.Orders
import Derived.RowKit3
import Derived.Recover
/-
 Tries,abstract blocks,abstract heaps,and how an abstract value stands for a value of the model.
-/
namespace Go.Abs
abbrev aE:=@Option.some.inj
abbrev mb:=@List.mem_cons_of_mem
abbrev mc:=@Nat.le_refl
abbrev nw:=@if_neg
abbrev n0:=@if_pos
abbrev pf:=@List.getD_eq_getElem?_getD
abbrev qs:=@List.take_of_length_le
abbrev sh:=@List.Perm.refl
abbrev sj:=@List.length_append
abbrev sw:=@Option.some.injEq
abbrev ti:=@List.mem_singleton
abbrev tj:=@List.length_map
abbrev tx:=@Bool.and_eq_true
abbrev xf:=@cond_true
abbrev xk:=@List.getElem?_set_self
abbrev x6:=@List.mem_map
abbrev yf:=@List.getElem?_set_ne
abbrev yo:=@List.take_add_one
abbrev y2:=@List.map_cons
abbrev zm:=@cond_false
abbrev zy:=@List.getElem?_map
abbrev zE:=@List.getElem?_eq_none
abbrev AI:=@Nat.zero_add
abbrev AS:=@Nat.le_trans
abbrev AT:=@List.getElem?_append_left
abbrev By:=@List.append_assoc
abbrev BY:=@List.eq_nil_of_length_eq_zero
abbrev D1:=@List.mem_append
abbrev D2:=@List.mem_cons_self
abbrev If:=@Nat.zero_le
abbrev IN:=@Nat.lt_or_ge
abbrev IT:=@List.length_cons
abbrev Mr:=@Nat.eq_of_beq_eq_true
abbrev No:=@List.getElem?_eq_some_iff
abbrev OF:=@List.getElem?_append_right
abbrev PJ:=@List.mem_cons
abbrev Te:=@List.mem_append_left
abbrev Tf:=@List.mem_append_right
abbrev Tg:=@List.length_take
abbrev Th:=@List.map_append
abbrev Ti:=@Nat.lt_of_lt_of_le
abbrev Tj:=@Nat.ble_eq_true_of_le
abbrev Tk:=@Prod.mk.injEq
abbrev Tl:=@List.drop_eq_getElem_cons
abbrev Tm:=@List.Sublist.refl
abbrev Tn:=@List.ext_getElem?
abbrev To:=@List.getElem?_eq_getElem
abbrev Tp:=@Nat.mul_one
abbrev Tq:=@Option.map_some
abbrev Tr:=@Array.getElem?_eq_some_iff
abbrev Ts:=@Nat.eq_zero_or_pos
abbrev Tt:=@Nat.pow_le_pow_right
abbrev Tu:=@List.getElem?_drop
abbrev Tv:=@List.getElem?_take
abbrev Tw:=@List.length_singleton
abbrev Tx:=@List.append_nil
abbrev Tz:=@List.mem_range
abbrev TA:=@Array.getD_eq_getD_getElem?
abbrev TC:=@Nat.le_of_lt
abbrev TD:=@Nat.lt_succ_self
abbrev TE:=@List.drop_of_length_le
abbrev TF:=@List.flatten_cons
abbrev TG:=@Nat.mul_le_mul_right
abbrev TH:=@Nat.le_of_ble_eq_true
abbrev TI:=@List.cons_append
abbrev TJ:=@List.nodup_cons
abbrev TK:=@Array.getElem?_toList
abbrev TL:=@List.sum_cons
abbrev TM:=@List.all_eq_true
abbrev TN:=@List.getElem?_range
abbrev TO:=@Nat.add_mul
abbrev TP:=@List.nodup_iff_pairwise_ne
abbrev TQ:=@decide_eq_true_eq
abbrev TR:=@List.head_eq_of_cons_eq
abbrev TS:=@List.pairwise_iff_getElem
abbrev TT:=@Bool.false_eq_true
abbrev TU:=@List.length_replicate
abbrev TV:=@List.getElem?_replicate
abbrev TW:=@List.mem_singleton_self
abbrev TX:=@List.length_set
abbrev TY:=@if_true
abbrev TZ:=@Bool.not_eq_true'
abbrev T0:=@Array.getElem?_setIfInBounds_ne
abbrev T1:=@List.cons.injEq
abbrev T3:=@List.length_range
abbrev T4:=@List.take_append_of_le_length
abbrev T5:=@beq_iff_eq
abbrev T6:=@Nat.not_lt_zero
abbrev T7:=@Bool.or_eq_true
abbrev T8:=@Bool.eq_iff_iff
abbrev T9:=@List.map_set
abbrev Ua:=@Nat.sub_self
abbrev Ub:=@List.eq_of_mem_replicate
abbrev Uc:=@List.map_congr_left
abbrev Ud:=@List.mem_map_of_mem
abbrev Ue:=@of_decide_eq_true
abbrev Uf:=@List.nodup_append
abbrev Ug:=@List.getElem?_cons_succ
abbrev Uh:=@Bool.and_self
abbrev Ui:=@Nat.testBit_or
abbrev Uj:=@List.mem_of_getElem?
abbrev Uk:=@List.range_succ
abbrev Ul:=@Nat.min_eq_left
abbrev Um:=@List.getElem?_of_mem
abbrev Un:=@if_false
abbrev Uo:=@List.take_length
abbrev Up:=@List.mem_flatMap
abbrev Uq:=@List.mem_or_eq_of_mem_set
abbrev Ur:=@List.flatMap_cons
abbrev Us:=@List.map_map
abbrev Ut:=@List.take_append_drop
abbrev Uu:=@Nat.one_mul
abbrev Uv:=@Nat.two_pow_pos
abbrev Uw:=@List.sum_append
abbrev Ux:=@List.set_cons_succ
abbrev Uy:=@Array.mem_toList_iff
abbrev Uz:=@Bool.not_true
abbrev UA:=@Nat.add_zero
abbrev UC:=@Nat.lt_irrefl
abbrev UD:=@Nat.testBit_lt_two_pow
abbrev UE:=@List.sublist_cons_self
abbrev UF:=@List.nodup_nil
abbrev UG:=@List.getElem?_eq_none_iff
abbrev UH:=@List.length_erase_of_mem
abbrev UI:=@List.singleton_inj
abbrev UJ:=@Nat.add_assoc
abbrev UK:=@Bool.not_false
abbrev UL:=@List.getElem?_cons_zero
abbrev UM:=@List.getElem?_set
abbrev UN:=@Nat.or_lt_two_pow
abbrev UO:=@Array.length_toList
abbrev UP:=@Array.getElem?_setIfInBounds_self
abbrev UQ:=@List.zipWith_cons_cons
abbrev UR:=@List.getElem_mem
abbrev UT:=@Nat.mul_le_mul
abbrev UU:=@List.perm_append_comm
abbrev UW:=@Array.ext'
abbrev UX:=@Nat.beq_refl
abbrev UY:=@Nat.eq_of_testBit_eq
abbrev UZ:=@Nat.pow_lt_pow_right
abbrev U0:=@List.pairwise_map
abbrev U1:=@List.pairwise_singleton
abbrev U2:=@List.reverse_append
abbrev U3:=@List.perm_middle
abbrev U4:=@List.take_zero
abbrev U5:=@Nat.min_eq_right
abbrev U6:=@Int.natCast_nonneg
abbrev U7:=@List.set_cons_zero
abbrev U8:=@List.map_replicate
abbrev U9:=@List.idxOf_lt_length_of_mem
abbrev Va:=@List.Perm.of_eq
abbrev Vb:=@List.nil_append
abbrev Vc:=@List.mem_iff_getElem?
abbrev Vd:=@true_and
abbrev Ve:=@Nat.ble_eq
abbrev Vf:=@List.mem_of_mem_drop
abbrev Vg:=@List.drop_zero
abbrev Vh:=@List.length_drop
abbrev Vi:=@Nat.add_comm
abbrev Vj:=@List.length_filterMap_le
abbrev Vk:=@Nat.testBit_two_pow
abbrev Vl:=@List.filterMap_cons
abbrev Vm:=@List.tail_eq_of_cons_eq
abbrev Vn:=@Bool.and_true
abbrev Vo:=@Int.natCast_mul
abbrev Vp:=@List.mem_filterMap
abbrev Vq:=@List.eq_nil_iff_forall_not_mem
abbrev Vr:=@Option.toList_some
abbrev Vs:=@and_true
abbrev Vt:=@List.Perm.flatten
abbrev Vu:=@Int.toNat_natCast
abbrev Vv:=@List.reverse_cons
abbrev Vw:=@List.drop_drop
abbrev Vx:=@Nat.succ_mul
abbrev Vy:=@List.Perm.append_left
abbrev Vz:=@List.filterMap_append
abbrev VA:=@List.any_eq_true
abbrev VC:=@List.mem_flatten
abbrev VD:=@Nat.min_le_right
abbrev VE:=@List.mem_erase_of_ne
abbrev VF:=@List.reverse_reverse
abbrev VG:=@List.drop_succ_cons
abbrev VH:=@List.flatMap_append
abbrev VI:=@List.getElem_of_mem
abbrev VJ:=@List.mem_of_find?_eq_some
abbrev VK:=@List.getElem?_take_of_lt
abbrev VL:=@Nat.lt_of_le_of_lt
abbrev VM:=@decide_eq_true_iff
abbrev VN:=@List.getElem_range
abbrev VO:=@List.take_left
abbrev VP:=@Nat.le_mul_of_pos_right
abbrev VQ:=@Int.eq_ofNat_of_zero_le
abbrev VR:=@List.length_eq_zero_iff
abbrev VS:=@Array.toList_push
abbrev VT:=@Int.emod_eq_of_lt
abbrev VU:=@List.any_eq_false
abbrev VV:=@Nat.lt_trichotomy
abbrev VW:=@Nat.le_succ
abbrev VX:=@Array.getElem?_eq_none
abbrev VY:=@Option.map_eq_some_iff
abbrev VZ:=@List.length_pos_of_mem
abbrev V0:=@List.getElem_cons_zero
abbrev V1:=@List.pairwise_lt_range
abbrev V2:=@Option.getD_some
abbrev V3:=@Nat.le_add_right
abbrev V4:=@List.ext_getElem
abbrev V5:=@List.not_mem_nil
abbrev V6:=@List.set_append_right
abbrev V7:=@List.length_filter_le
abbrev V8:=@List.singleton_append
abbrev V9:=@List.foldl_cons
abbrev Wa:=@Nat.zero_mul
abbrev Wb:=@decide_eq_false
abbrev Wc:=@Nat.testBit_and
abbrev Wd:=@Nat.div_le_self
abbrev We:=@Nat.pow_succ
abbrev Wf:=@List.map_nil
abbrev Wg:=@List.mem_filter
inductive T(α:Type) where
 | e:T α
 | n:T α->Option α->T α->T α
def T.get{α:Type}:T α->Nat->Option α
 | .e,_=>none
 | .n l v r,k=>match k with
  | 0=>v
  | k+1=>bif k % 2==0 then l.get (k / 2) else r.get (k / 2)
def T.tK{α:Type}:Nat->T α->Nat->Option α->T α
 | 0,t,_,_=>t
 | f+1,.e,k,v=>match k with
  | 0=>.n .e v .e
  | k+1=>bif k % 2==0 then .n (T.tK f .e (k / 2) v) none .e else .n .e none (T.tK f .e (k / 2) v)
 | f+1,.n l x r,k,v=>match k with
  | 0=>.n l v r
  | k+1=>bif k % 2==0 then .n (T.tK f l (k / 2) v) x r else .n l x (T.tK f r (k / 2) v)
def T.set{α:Type}(t:T α)(k:Nat)(v:Option α):T α:=T.tK (k+1) t k v
theorem T.P8{α:Type}(k:Nat):(T.e:T α).get k=none:=rfl
theorem IL{α:Type}{j k m:Nat}{x y:α}(h:k % 2=m)(i:j % 2=m):(if j / 2=k / 2 then x else y)=if j=k then x else y:=by
 by_cases g:j=k;{subst g;simp};{rw[nw g,nw (by omega)]}
theorem T.tV{α:Type}:∀(f:Nat) (t:T α) (k j:Nat) (v:Option α),k<f->
  (T.tK f t k v).get j=if j=k then v else t.get j
 | 0,_,_,_,_,h=>absurd h (T6 _)
 | f+1,.e,0,j,v,_=>by{cases j with| zero=>{simp[T.tK,T.get]}| succ j=>{simp[T.tK,T.get]}}
 | f+1,.e,k+1,0,v,_=>by{cases h:(k % 2==0)<;>simp[T.tK,T.get,h]}
 | f+1,.e,k+1,j+1,v,hk=>by{have p:=T.tV f (.e:T α) (k / 2) (j / 2) v (by omega);rw[T.P8] at p;cases h:(k % 2==0)<;>cases g:(j % 2==0)<;>simp at h g<;>simp[T.tK,T.get,h,g,p]<;> (first | omega | exact IL h g)}
 | f+1,.n l x r,0,j,v,_=>by{cases j with| zero=>{simp[T.tK,T.get]}| succ j=>{simp[T.tK,T.get]}}
 | f+1,.n l x r,k+1,0,v,_=>by{cases h:(k % 2==0)<;>simp[T.tK,T.get,h]}
 | f+1,.n l x r,k+1,j+1,v,hk=>by{have i:=T.tV f l (k / 2) (j / 2) v (by omega);have o:=T.tV f r (k / 2) (j / 2) v (by omega);cases h:(k % 2==0)<;>cases g:(j % 2==0)<;>simp at h g<;>simp[T.tK,T.get,h,g,i,o]<;> (first | omega | exact IL h g)}
theorem T.je{α:Type}(t:T α)(k j:Nat)(v:Option α):(t.set k v).get j=if j=k then v else t.get j:=
 T.tV _ t k j v (TD k)
theorem T.sW{α:Type}(t:T α)(k:Nat)(v:Option α):(t.set k v).get k=v:=by rw[T.je,n0 rfl]
theorem T.y6{α:Type}(t:T α)(k j:Nat)(v:Option α)(h:j≠k):(t.set k v).get j=t.get j:=by rw[T.je,nw h]
inductive aJ where
 | cells (ro:Bool) (cs:List Value)
 | map (es:List (Value×Value))
def aJ.ro:aJ->Bool
 | .cells ro _=>ro
 | .map _=>false
structure au where
 next:Nat
 t:T aJ
def au.get(h:au)(i:Nat):Option aJ:=h.t.get i
def au.put(h:au)(i:Nat)(b:Option aJ):au:={ next:=h.next,t:=h.t.set i b }
def au.alloc(h:au)(b:aJ):au:={ next:=h.next+1,t:=h.t.set h.next (some b) }
theorem au.dX(h:au)(i j:Nat)(b:Option aJ):(h.put i b).get j=if j=i then b else h.get j:=T.je _ _ _ _
theorem au.eB(h:au)(j:Nat)(b:aJ):(h.alloc b).get j=if j=h.next then some b else h.get j:=T.je _ _ _ _
@[simp] theorem au.MJ (h:au) (i:Nat) (b:Option aJ):(h.put i b).next=h.next:=rfl
@[simp] theorem au.HK (h:au) (b:aJ):(h.alloc b).next=h.next+1:=rfl
structure Loc where
 bQ:Nat
 off:Nat
 size:Nat
abbrev bD:=Nat->Option Loc
mutual
def aX(σ:bD):Value->Value->Prop
 | .bool b,v'=>v'=.bool b
 | .int k n,v'=>v'=.int k n
 | .float k n,v'=>v'=.float k n
 | .complex k a b,v'=>v'=.complex k a b
 | .string s,v'=>v'=.string s
 | .pointer none,v'=>v'=.pointer none
 | .pointer (some a),v'=>∃l,σ a.block=some l/\a.spot=none/\v'=.pointer (some ⟨l.bQ,l.off+a.off,none⟩)
 | .slice none len c,v'=>len=0/\c=0/\v'=.slice none 0 0
 | .slice (some a) len c,v'=>∃l j cap,σ a.block=some l/\a.spot=none/\v'=.slice (some j) len cap/\len<=cap/\(c=0->cap=0)/\
   (cap≠0->j=⟨l.bQ,l.off+a.off,none⟩/\l.off+a.off+cap*c<=l.size)
 | .map none,v'=>v'=.map none
 | .map (some r),v'=>∃l,σ r=some l/\v'=.map (some l.bQ)
 | .chan _,_=>False
 | .func fn ⟨xs⟩ ⟨ys⟩,v'=>∃g i,v'=.func fn ⟨g⟩ ⟨i⟩/\aV σ xs g/\aV σ ys i
 | .nilFunc,v'=>v'=.nilFunc
 | .iface t v,v'=>∃u,v'=.iface t u/\aX σ v u
 | .nilIface,v'=>v'=.nilIface
 | .agg ⟨cs⟩,v'=>∃cs',v'=.agg ⟨cs'⟩/\aV σ cs cs'
 | .tuple ⟨cs⟩,v'=>∃cs',v'=.tuple ⟨cs'⟩/\aV σ cs cs'
def aV(σ:bD):List Value->List Value->Prop
 | [],l=>l=[]
 | v::vs,l=>∃v' g,l=v'::g/\aX σ v v'/\aV σ vs g
end
end Go.Abs
namespace Go.Abs
def bD.le(σ τ:bD):Prop:=∀i l,σ i=some l->τ i=some l
theorem bD.le_refl(σ:bD):bD.le σ σ:=λ_ _ h=>h
mutual
theorem aX.mono{σ τ:bD}(h:bD.le σ τ):∀{v v':Value},aX σ v v'->aX τ v v'
 | .bool _,_,r=>r
 | .int _ _,_,r=>r
 | .float _ _,_,r=>r
 | .complex _ _ _,_,r=>r
 | .string _,_,r=>r
 | .pointer none,_,r=>r
 | .pointer (some _),_,⟨l,a,r⟩=>⟨l,h _ _ a,r⟩
 | .slice none _ _,_,r=>r
 | .slice (some _) _ _,_,⟨l,g,c,e,r⟩=>⟨l,g,c,h _ _ e,r⟩
 | .map none,_,r=>r
 | .map (some _),_,⟨l,a,r⟩=>⟨l,h _ _ a,r⟩
 | .chan _,_,r=>r
 | .func _ ⟨_⟩ ⟨_⟩,_,⟨a,b,e,r,s⟩=>⟨a,b,e,aV.mono h r,aV.mono h s⟩
 | .nilFunc,_,r=>r
 | .iface _ _,_,⟨u,e,r⟩=>⟨u,e,aX.mono h r⟩
 | .nilIface,_,r=>r
 | .agg ⟨_⟩,_,⟨c,e,r⟩=>⟨c,e,aV.mono h r⟩
 | .tuple ⟨_⟩,_,⟨c,e,r⟩=>⟨c,e,aV.mono h r⟩
theorem aV.mono{σ τ:bD}(h:bD.le σ τ):∀{vs g:List Value},aV σ vs g->aV τ vs g
 | [],_,r=>r
 | _::_,_,⟨a,b,e,r,s⟩=>⟨a,b,e,aX.mono h r,aV.mono h s⟩
end
theorem aV.length{σ:bD}:∀{vs g:List Value},aV σ vs g->g.length=vs.length
 | [],_,r=>by rw[show _=[] from r]
 | _::_,_,⟨_,_,e,_,s⟩=>by rw[e,IT,IT,aV.length s]
theorem aV.get{σ:bD}:∀{vs g:List Value},aV σ vs g->∀(i:Nat) (v:Value),vs[i]?=some v->∃v',g[i]?=some v'/\aX σ v v'
 | [],_,_,i,v,h=>by simp at h
 | x::_,_,⟨a,b,e,r,s⟩,i,v,h=>by{subst e;cases i with| zero=>{simp at h;subst h;exact⟨a,rfl,r⟩}| succ i=>{exact aV.get s i v (by simpa using h)}}
theorem aV.app{σ:bD}:∀{xs g ys i:List Value},aV σ xs g->aV σ ys i->aV σ (xs++ys) (g++i)
 | [],_,_,_,h,k=>by rw[show _=[] from h];exact k
 | _::_,_,_,_,⟨a,b,e,r,s⟩,k=>by subst e;exact⟨a,b++_,rfl,r,aV.app s k⟩
theorem aV.take{σ:bD}:∀{xs g:List Value} (n:Nat),aV σ xs g->aV σ (xs.take n) (g.take n)
 | _,_,0,_=>by simp[aV]
 | [],_,_+1,h=>by rw[show _=[] from h];simp[aV]
 | _::_,_,n+1,⟨a,b,e,r,s⟩=>by subst e;exact⟨a,b.take n,rfl,r,aV.take n s⟩
theorem aV.drop{σ:bD}:∀{xs g:List Value} (n:Nat),aV σ xs g->aV σ (xs.drop n) (g.drop n)
 | _,_,0,h=>by simpa using h
 | [],_,_+1,h=>by rw[show _=[] from h];simp[aV]
 | _::_,_,n+1,⟨a,b,e,r,s⟩=>by subst e;simpa using aV.drop n s
mutual
def plain:Value->Bool
 | .bool _=>true
 | .int _ _=>true
 | .float _ _=>true
 | .complex _ _ _=>true
 | .string _=>true
 | .pointer a=>a.isNone
 | .slice a n c=>a.isNone&&n==0&&c==0
 | .map r=>r.isNone
 | .chan _=>false
 | .func _ ⟨xs⟩ ⟨ys⟩=>gk xs&&gk ys
 | .nilFunc=>true
 | .iface _ v=>plain v
 | .nilIface=>true
 | .agg ⟨cs⟩=>gk cs
 | .tuple ⟨cs⟩=>gk cs
def gk:List Value->Bool
 | []=>true
 | v::vs=>plain v&&gk vs
end
mutual
theorem gD(σ:bD):∀(v:Value),plain v=true->aX σ v v
 | .bool _,_=>rfl
 | .int _ _,_=>rfl
 | .float _ _,_=>rfl
 | .complex _ _ _,_=>rfl
 | .string _,_=>rfl
 | .pointer none,_=>rfl
 | .pointer (some _),h=>by simp[plain] at h
 | .slice none n c,h=>by{simp[plain] at h;obtain⟨rfl,rfl⟩:=h;exact⟨rfl,rfl,rfl⟩}
 | .slice (some _) _ _,h=>by simp[plain] at h
 | .map none,_=>rfl
 | .map (some _),h=>by simp[plain] at h
 | .chan _,h=>by simp[plain] at h
 | .func _ ⟨xs⟩ ⟨ys⟩,h=>by{simp[plain] at h;exact⟨xs,ys,rfl,dz σ xs h.1,dz σ ys h.2⟩}
 | .nilFunc,_=>rfl
 | .iface _ v,h=>⟨v,rfl,gD σ v (by simpa [plain] using h)⟩
 | .nilIface,_=>rfl
 | .agg ⟨cs⟩,h=>⟨cs,rfl,dz σ cs (by simpa [plain] using h)⟩
 | .tuple ⟨cs⟩,h=>⟨cs,rfl,dz σ cs (by simpa [plain] using h)⟩
theorem dz(σ:bD):∀(vs:List Value),gk vs=true->aV σ vs vs
 | [],_=>rfl
 | v::vs,h=>by{simp[gk] at h;exact⟨v,vs,rfl,gD σ v h.1,dz σ vs h.2⟩}
end
theorem aX.cells{σ:bD}:∀{v v':Value},aX σ v v'->aV σ v.cells.toList v'.cells.toList
 | .bool _,_,h=>by have e:=h;rw[show _=_ from e];exact⟨_,[],rfl,rfl,rfl⟩
 | .int _ _,_,h=>by have e:=h;rw[show _=_ from e];exact⟨_,[],rfl,rfl,rfl⟩
 | .float _ _,_,h=>by have e:=h;rw[show _=_ from e];exact⟨_,[],rfl,rfl,rfl⟩
 | .complex _ _ _,_,h=>by have e:=h;rw[show _=_ from e];exact⟨_,[],rfl,rfl,rfl⟩
 | .string _,_,h=>by have e:=h;rw[show _=_ from e];exact⟨_,[],rfl,rfl,rfl⟩
 | .pointer none,_,h=>by have e:=h;rw[show _=_ from e];exact⟨_,[],rfl,rfl,rfl⟩
 | .pointer (some _),_,⟨l,a,b,e⟩=>by subst e;exact⟨_,[],rfl,⟨l,a,b,rfl⟩,rfl⟩
 | .slice none _ _,_,⟨a,b,e⟩=>by subst e;exact⟨_,[],rfl,⟨a,b,rfl⟩,rfl⟩
 | .slice (some _) _ _,_,⟨l,j,c,a,b,e,r⟩=>by subst e;exact⟨_,[],rfl,⟨l,j,c,a,b,rfl,r⟩,rfl⟩
 | .map none,_,h=>by have e:=h;rw[show _=_ from e];exact⟨_,[],rfl,rfl,rfl⟩
 | .map (some _),_,⟨l,a,e⟩=>by subst e;exact⟨_,[],rfl,⟨l,a,rfl⟩,rfl⟩
 | .func _ ⟨_⟩ ⟨_⟩,_,⟨g,i,e,r,s⟩=>by subst e;exact⟨_,[],rfl,⟨g,i,rfl,r,s⟩,rfl⟩
 | .nilFunc,_,h=>by have e:=h;rw[show _=_ from e];exact⟨_,[],rfl,rfl,rfl⟩
 | .iface _ _,_,⟨u,e,r⟩=>by subst e;exact⟨_,[],rfl,⟨u,rfl,r⟩,rfl⟩
 | .nilIface,_,h=>by have e:=h;rw[show _=_ from e];exact⟨_,[],rfl,rfl,rfl⟩
 | .agg ⟨_⟩,_,⟨cs',e,r⟩=>by subst e;exact r
 | .tuple ⟨_⟩,_,⟨cs',e,r⟩=>by subst e;exact⟨_,[],rfl,⟨cs',rfl,r⟩,rfl⟩
def one:Value->Bool
 | .agg _=>false
 | .tuple _=>false
 | _=>true
theorem aX.one{σ:bD}:∀{v v':Value},aX σ v v'->one v=true->v'.oneCell'=true
 | .bool _,_,h,_=>by rw[show _=_ from h];rfl
 | .int _ _,_,h,_=>by rw[show _=_ from h];rfl
 | .float _ _,_,h,_=>by rw[show _=_ from h];rfl
 | .complex _ _ _,_,h,_=>by rw[show _=_ from h];rfl
 | .string _,_,h,_=>by rw[show _=_ from h];rfl
 | .pointer none,_,h,_=>by rw[show _=_ from h];rfl
 | .pointer (some _),_,⟨l,a,b,e⟩,_=>by subst e;rfl
 | .slice none _ _,_,⟨a,b,e⟩,_=>by subst e;rfl
 | .slice (some _) _ _,_,⟨l,j,c,a,b,e,r⟩,_=>by subst e;rfl
 | .map none,_,h,_=>by rw[show _=_ from h];rfl
 | .map (some _),_,⟨l,a,e⟩,_=>by subst e;rfl
 | .func _ ⟨_⟩ ⟨_⟩,_,⟨g,i,e,r,s⟩,_=>by subst e;rfl
 | .nilFunc,_,h,_=>by rw[show _=_ from h];rfl
 | .iface _ _,_,⟨u,e,r⟩,_=>by subst e;rfl
 | .nilIface,_,h,_=>by rw[show _=_ from h];rfl
 | .agg _,_,_,h=>by cases h
 | .tuple _,_,_,h=>by cases h
end Go.Abs
/-
 The abstract machine: a deterministic evaluator of the model's code,without tape,capacities and orders.
-/
namespace Go.Abs
structure Ctx where
 info:TypeId->Option TypeInfo
 func:FuncId->Option Func
 /-- how many package variables are known to lie where the model lays them -/
 cA:Nat
 /-- struct types that are compared field by field -/
 flat:TypeId->Bool
 /-- functions without parameters that are known to return true, and the blocks that must stand -/
 fact:FuncId->Option (List Value->au->Option (Value×au)):=λ_=>none
 /-- the type of the only value with which the program panics -/
 jN:Nat:=0
 /-- what stands for the result of a call that panics, in the operations that are not reached -/
 Ej:Value:=.nilIface
 /-- functions that defer a call -/
 DE:FuncId->Bool:=λ_=>false
def Ctx.iL(C:Ctx)(t:TypeId):Option TypeDesc:=
 match C.info t with
 | some i=>match i.desc with
  | .named _ u=>(C.info u).map (·.desc)
  | d=>some d
 | none=>none
def Ctx.size(C:Ctx)(t:TypeId):Option Nat:=(C.info t).map (·.size)
def Ctx.bytes(C:Ctx)(t:TypeId):Option Nat:=(C.info t).map (·.bytes)
def Ctx.zero(C:Ctx)(t:TypeId):Option Value:=
 match C.info t with
 | some i=>match i.zero with
  | some z=>bif plain z&&z.cells.size==i.size then some z else none
  | none=>none
 | none=>none
def v8:TypeDesc->Bool
 | .struct _=>true
 | .array _ _=>true
 | _=>false
def bp(cs:List Value)(off:Nat)(vs:List Value):List Value:=cs.take off++(vs++cs.drop (off+vs.length))
def bO(cs:List Value)(off n:Nat):Option (List Value):=
 let l:=(cs.drop off).take n
 bif l.length==n then some l else none
def kO(h:au)(b:Nat):Option (List Value):=
 match h.get b with
 | some (.cells _ cs)=>some cs
 | _=>none
def fN(C:Ctx)(cs:List Value)(t:TypeId)(off:Nat):Option Value:=
 match C.iL t with
 | none=>none
 | some d=>bif v8 d then
   match C.size t with
   | some n=>(bO cs off n).map λl=>.agg ⟨l⟩
   | none=>none
  else cs[off]?
def nq(C:Ctx)(h:au)(t:TypeId):Value->Option Value
 | .pointer (some ⟨b,off,none⟩)=>match kO h b with
  | some cs=>fN C cs t off
  | none=>none
 | _=>none
def vd(C:Ctx)(h:au)(t:TypeId)(p v:Value):Option au:=
 match p with
 | .pointer (some ⟨b,off,none⟩)=>
  match h.get b,C.size t with
  | some (.cells false cs),some n=>
   let vs:=v.cells.toList
   bif vs.length==n&&vs.all one&&Nat.ble (off+n) cs.length then some (h.put b (some (.cells false (bp cs off vs)))) else none
  | _,_=>none
 | _=>none
def mO(place:Nat->Option (Nat×Nat)):List Value->List (Nat×Value)->Option (List Value)
 | cs,[]=>some cs
 | cs,(i,v)::rest=>
  match place i with
  | none=>none
  | some (off,size)=>
   let vs:=v.cells.toList
   bif vs.length==size&&Nat.ble (off+size) cs.length then mO place (bp cs off vs) rest else none
def dH(z:List Value):Nat->List Value
 | 0=>[]
 | n+1=>z++dH z n
def places(C:Ctx):List Field->Option (List (Nat×Nat))
 | []=>some []
 | f::g=>match C.size f.type,places C g with
  | some n,some r=>some ((f.offset,n)::r)
  | _,_=>none
def uY(C:Ctx)(t:TypeId)(parts:List (Nat×Value)):Option Value:=
 match C.zero t,C.iL t with
 | some z,some (.struct fields)=>match places C fields.toList with
  | some ps=>(mO (λi=>ps[i]?) z.cells.toList parts).map λcs=>.agg ⟨cs⟩
  | none=>none
 | some z,some (.array _ e)=>match C.size e with
  | some n=>(mO (λi=>some (i*n,n)) z.cells.toList parts).map λcs=>.agg ⟨cs⟩
  | none=>none
 | _,_=>none
def iI(C:Ctx)(h:au)(t:TypeId)(len:Nat)(parts:List (Nat×Value)):Option (Value×au):=
 match C.iL t with
 | some (.slice e)=>match C.size e,C.zero e with
  | some n,some z=>
   bif Nat.ble (len*n) 16777216&&Nat.blt 0 n then
    match mO (λi=>some (i*n,n)) (dH z.cells.toList len) parts with
    | some cs=>some (.slice (some ⟨h.next,0,none⟩) len (bif len==0 then 0 else n),h.alloc (.cells false cs))
    | none=>none
   else none
  | _,_=>none
 | _=>none
def fF(op:BinOp)(k:IntKind)(a b:Int):Option Value:=
 match op with
 | .add=>some (.int k (k.wrap (a+b)))
 | .sub=>some (.int k (k.wrap (a-b)))
 | .mul=>some (.int k (k.wrap (a*b)))
 | .quo=>if b=0 then none else some (.int k (k.wrap (a.tdiv b)))
 | .rem=>if b=0 then none else some (.int k (a.tmod b))
 | .and=>some (.int k (k.wrap (BitVec.ofInt k.bits a &&& BitVec.ofInt k.bits b).toNat))
 | .or=>some (.int k (k.wrap (BitVec.ofInt k.bits a ||| BitVec.ofInt k.bits b).toNat))
 | .xor=>some (.int k (k.wrap (BitVec.ofInt k.bits a ^^^ BitVec.ofInt k.bits b).toNat))
 | .andNot=>some (.int k (k.wrap (BitVec.ofInt k.bits a &&& ~~~BitVec.ofInt k.bits b).toNat))
 | .eql=>some (.bool (a==b))
 | .neq=>some (.bool (a != b))
 | .lss=>some (.bool (decide (a<b)))
 | .leq=>some (.bool (decide (a<=b)))
 | .gtr=>some (.bool (decide (a > b)))
 | .geq=>some (.bool (decide (a≥b)))
 | _=>none
def mF(op:BinOp)(k:IntKind)(x y:Int):Option Value:=
 if y<0 then none else
 match op with
 | .shl=>some (.int k (k.wrap (x*2 ^ (min y.toNat k.bits))))
 | .shr=>some (.int k (x.fdiv (2 ^ (min y.toNat k.bits))))
 | _=>none
def sC:TypeDesc->Bool
 | .bool=>true
 | .int _=>true
 | .string=>true
 | .pointer _=>true
 | _=>false
def fL(d:TypeDesc)(x y:Value):Option Bool:=
 match d,x,y with
 | .bool,.bool a,.bool b=>some (a==b)
 | .int _,.int k a,.int g b=>if k=g then some (a==b) else none
 | .string,.string a,.string b=>some (a==b)
 | .pointer _,.pointer none,.pointer none=>some true
 | _,_,_=>none
def eqFields(C:Ctx)(eq:TypeId->Value->Value->Option Bool):List Field->List Value->List Value->Option Bool
 | [],_,_=>some true
 | f::g,xs,ys=>
  match fN C xs f.type f.offset,fN C ys f.type f.offset with
  | some a,some b=>match eq f.type a b with
   | some true=>eqFields C eq g xs ys
   | r=>r
  | _,_=>none
def nX(C:Ctx)(eq:Value->Value->Option Bool)(e s:Nat)(xs ys:List Value):List Nat->Option Bool
 | []=>some true
 | i::is=>
  match fN C xs e (i*s),fN C ys e (i*s) with
  | some a,some b=>match eq a b with
   | some true=>nX C eq e s xs ys is
   | r=>r
  | _,_=>none
def rD(C:Ctx):Nat->TypeId->Value->Value->Option Bool
 | 0,_,_,_=>none
 | n+1,t,x,y=>
  match C.iL t,x,y with
  | some (.struct g),.agg xs,.agg ys=>bif C.flat t then eqFields C (rD C n) g.toList xs.toList ys.toList else none
  | some (.array len e),.agg xs,.agg ys=>match C.size e with
   | some s=>nX C (rD C n e) e s xs.toList ys.toList (List.range len)
   | none=>none
  | some d,x,y=>fL d x y
  | none,_,_=>none
def live(h:au)(i:Nat):Bool:=
 match h.get i with
 | some (.cells false _)=>true
 | _=>false
def equalA(C:Ctx)(h:au)(t:TypeId)(x y:Value):Option Bool:=
 match C.iL t,x,y with
 | some (.pointer _),.pointer none,.pointer b=>some b.isNone
 | some (.pointer _),.pointer (some _),.pointer none=>some false
 | some (.pointer e),.pointer (some ⟨a,i,none⟩),.pointer (some ⟨b,j,none⟩)=>
  match C.size e with
  | some n=>bif n==0 then none else bif a==b then some (i==j) else bif live h a&&live h b then some false else none
  | none=>none
 | some (.interface _),.nilIface,.nilIface=>some true
 | some (.interface _),.nilIface,.iface _ _=>some false
 | some (.interface _),.iface _ _,.nilIface=>some false
 | some (.slice _),.slice none _ _,.slice b _ _=>some b.isNone
 | some (.slice _),.slice (some _) _ _,.slice none _ _=>some false
 | some (.map _ _),.map none,.map b=>some b.isNone
 | some (.map _ _),.map (some _),.map none=>some false
 | some (.func _ _ _),.nilFunc,.nilFunc=>some true
 | some (.func _ _ _),.nilFunc,.func _ _ _=>some false
 | some (.func _ _ _),.func _ _ _,.nilFunc=>some false
 | _,_,_=>rD C 8 t x y
def nI(op:BinOp)(a b:ByteArray):Option Value:=
 match op with
 | .add=>bif Nat.ble (a.size+b.size) 9223372036854775807 then some (.string (a++b)) else none
 | .eql=>some (.bool (a.toList==b.toList))
 | .neq=>some (.bool !(a.toList==b.toList))
 | _=>none
def jH(C:Ctx)(t:TypeId)(x y:Operand)(a b:Value):Bool:=
 match a,b with
 | .nilIface,.nilIface=>(match x with | .const _=>true | _=>match y with | .const _=>true | _=>false)
 | .agg _,.agg _=>C.flat t
 | _,_=>true
def mw(C:Ctx)(h:au)(op:BinOp)(t:TypeId)(g i:Operand)(x y:Value):Option Value:=
 match op,x,y with
 | .shl,.int k a,.int _ b=>mF .shl k a b
 | .shr,.int k a,.int _ b=>mF .shr k a b
 | op,.int k a,.int j b=>if k=j then fF op k a b else none
 | op,.string a,.string b=>nI op a b
 | .eql,x,y=>bif jH C t g i x y then (equalA C h t x y).map λb=>.bool b else none
 | .neq,x,y=>bif jH C t g i x y then (equalA C h t x y).map λb=>.bool !b else none
 | _,_,_=>none
def Q4(op:UnOp)(x:Value):Option Value:=
 match op,x with
 | .neg,.int k n=>some (.int k (k.wrap (0-n)))
 | .xor,.int k n=>some (.int k (k.wrap (BitVec.ofInt k.bits (if k.signed then -1 else k.max) ^^^ BitVec.ofInt k.bits n).toNat))
 | .not,.bool b=>some (.bool !b)
 | _,_=>none
def Ay(C:Ctx)(src dst:TypeId)(x:Value):Option Value:=
 match C.iL src,C.iL dst,x with
 | some _,some (.int k),.int _ n=>some (.int k (k.wrap n))
 | _,_,_=>none
def jC(C:Ctx)(t:TypeId)(x i:Value):Option Value:=
 match C.iL t,x,i with
 | some (.slice e),.slice (some ⟨b,off,none⟩) len _,.int _ n=>
  match C.size e with
  | some s=>if 0<=n/\n<len then some (.pointer (some ⟨b,off+n.toNat*s,none⟩)) else none
  | none=>none
 | some (.array len e),.pointer (some ⟨b,off,none⟩),.int _ n=>
  match C.size e with
  | some s=>if 0<=n/\n<len then some (.pointer (some ⟨b,off+n.toNat*s,none⟩)) else none
  | none=>none
 | _,_,_=>none
def lp(C:Ctx)(t:TypeId)(x:Value)(f:Nat):Option Value:=
 match C.iL t,x with
 | some (.struct g),.pointer (some ⟨b,off,none⟩)=>match g.toList[f]? with
  | some fd=>match C.size fd.type with
   | some n=>bif n==0 then none else some (.pointer (some ⟨b,off+fd.offset,none⟩))
   | none=>none
  | none=>none
 | _,_=>none
def yX(C:Ctx)(t:TypeId)(x:Value)(f:Nat):Option Value:=
 match C.iL t,x with
 | some (.struct g),.agg cs=>match g.toList[f]? with
  | some fd=>fN C cs.toList fd.type fd.offset
  | none=>none
 | _,_=>none
def He(C:Ctx)(t:TypeId)(x i:Value):Option Value:=
 match C.iL t,x,i with
 | some (.array len e),.agg cs,.int _ n=>match C.size e with
  | some s=>if 0<=n/\n<len then fN C cs.toList e (n.toNat*s) else none
  | none=>none
 | some .string,.string s,.int _ n=>if 0<=n then (s.data.toList[n.toNat]?).map λb=>.int .u8 b.toNat else none
 | _,_,_=>none
def di(v:Option Value)(g:Nat):Option Nat:=
 match v with
 | none=>some g
 | some (.int _ n)=>if 0<=n then some n.toNat else none
 | _=>none
def ik(C:Ctx)(h:au)(t:TypeId)(x:Value)(lo hi g:Option Value):Option Value:=
 match C.iL t,x with
 | some (.slice e),.slice none _ _=>
  match C.size e,di lo 0,di hi 0,di g 0 with
  | some _,some 0,some 0,some 0=>bif g.isSome&&hi.isNone then none else some (.slice none 0 0)
  | _,_,_,_=>none
 | some (.slice e),.slice (some ⟨b,off,none⟩) len c=>
  match C.size e,di lo 0,di hi len,g with
  | some s,some l,some u,none=>
   bif Nat.ble l u&&Nat.ble u len&&(c==0||c==s) then some (.slice (some ⟨b,off+l*s,none⟩) (u-l) c) else none
  | some s,some l,some u,some _=>match di g 0 with
   | some m=>bif hi.isSome&&Nat.ble l u&&Nat.ble u m&&Nat.ble m len&&(c==0||c==s) then
     some (.slice (some ⟨b,off+l*s,none⟩) (u-l) (bif m==l then 0 else c)) else none
   | none=>none
  | _,_,_,_=>none
 | some (.array n e),.pointer (some ⟨b,off,none⟩)=>
  match C.size e,di lo 0,di hi n,g,kO h b with
  | some s,some l,some u,none,some cs=>
   bif Nat.ble l u&&Nat.ble u n&&Nat.blt 0 s&&Nat.ble (off+n*s) cs.length then some (.slice (some ⟨b,off+l*s,none⟩) (u-l) (bif n==l then 0 else s)) else none
  | _,_,_,_,_=>none
 | some .string,.string s=>
  match di lo 0,di hi s.size,g with
  | some l,some u,none=>bif Nat.ble l u&&Nat.ble u s.size then some (.string (s.extract l u)) else none
  | _,_,_=>none
 | _,_=>none
def cm:Value->Bool
 | .tuple _=>true
 | _=>false
def alive:List (Value×Value)->List (Value×Value)
 | []=>[]
 | (k,v)::es=>bif cm k then alive es else (k,v)::alive es
def stamps:Nat->List (Value×Value)->List Nat
 | _,[]=>[]
 | n,(k,_)::es=>bif cm k then stamps (n+1) es else n::stamps (n+1) es
def aO(x:Value×Value):List (Value×Value)->Nat->List (Value×Value)
 | [],_=>[]
 | (k,v)::es,0=>bif cm k then (k,v)::aO x es 0 else x::es
 | (k,v)::es,j+1=>bif cm k then (k,v)::aO x es (j+1) else (k,v)::aO x es j
def G9(C:Ctx)(h:au)(t:TypeId)(x:Value):Option Value:=
 match C.iL t,x with
 | some .string,.string s=>some (.int .i64 s.size)
 | some (.array n _),_=>some (.int .i64 n)
 | some (.slice _),.slice _ n _=>some (.int .i64 n)
 | some (.map _ _),.map none=>some (.int .i64 0)
 | some (.map _ _),.map (some r)=>match h.get r with
  | some (.map es)=>some (.int .i64 (alive es).length)
  | _=>none
 | _,_=>none
def MZ(C:Ctx)(t:TypeId)(x:Value):Option Value:=
 match C.iL t,x with
 | some (.array n _),_=>some (.int .i64 n)
 | some (.slice _),.slice none _ _=>some (.int .i64 0)
 | some (.slice _),.slice (some _) _ 0=>some (.int .i64 0)
 | _,_=>none
def jf(h:au)(s n:Nat):Value->Option (List Value)
 | .slice none _ _=>some []
 | .slice (some ⟨b,off,none⟩) _ _=>bif n==0 then some [] else match kO h b with
  | some cs=>bO cs off (n*s)
  | none=>none
 | .string x=>some ((x.extract 0 n).data.toList.map λb=>.int .u8 b.toNat)
 | _=>none
def kj:Value->Option Nat
 | .slice _ n _=>some n
 | .string s=>some s.size
 | _=>none
def fG(h:au)(s:Nat)(x:Value):Option (Nat×List Value):=
 match kj x with
 | some n=>(jf h s n x).map λl=>(n,l)
 | none=>none
def kD(C:Ctx)(h:au)(e:TypeId)(s:Nat)(g:Option TypeId)(x:Value):Option (Nat×List Value):=
 match g with
 | none=>fG h s x
 | some t=>match C.iL t with
  | none=>none
  | some (.int _)=>match x,C.zero e with
   | .int _ n,some z=>if 0<=n/\n<1000000 then some (n.toNat,dH z.cells.toList n.toNat) else none
   | _,_=>none
  | some _=>fG h s x
def gg(C:Ctx)(h:au)(t:TypeId)(i:Option TypeId)(s x:Value):Option (Value×au):=
 match C.iL t,s with
 | some (.slice e),.slice base len c=>match C.size e,C.zero e,C.bytes e with
  | some g,some _,some by_=>match kD C h e g i x with
   | some (n,new)=>
    bif !(new.length==n*g&&new.all one&&Nat.blt 0 g&&Nat.blt 0 by_&&Nat.ble ((len+n)*by_) 140737488355328) then none else
    bif n==0 then some (s,h) else
    match base with
    | none=>some (.slice (some ⟨h.next,0,none⟩) n g,h.alloc (.cells false new))
    | some ⟨b,off,none⟩=>
     bif c==0 then (bif len==0 then some (.slice (some ⟨h.next,0,none⟩) n g,h.alloc (.cells false new)) else none) else
     bif !(c==g) then none else
     match h.get b with
     | some (.cells false cs)=>match bO cs off (len*g) with
      | some dy=>some (.slice (some ⟨h.next,0,none⟩) (len+n) g,(h.put b none).alloc (.cells false (dy++new)))
      | none=>none
     | _=>none
    | _=>none
   | none=>none
  | _,_,_=>none
 | _,_=>none
def E2(C:Ctx)(h:au)(t:TypeId)(d x:Value):Option (Value×au):=
 match C.iL t,d,kj x with
 | some (.slice e),.slice base dl _,some n=>match C.size e with
  | some s=>match jf h s (Nat.min n dl) x with
   | some new=>bif !(new.all one) then none else
    match base with
    | none=>some (.int .i64 (Nat.min n dl),h)
    | some ⟨b,off,none⟩=>bif new.isEmpty then some (.int .i64 (Nat.min n dl),h) else match h.get b with
     | some (.cells false cs)=>bif Nat.ble (off+new.length) cs.length then
       some (.int .i64 (Nat.min n dl),h.put b (some (.cells false (bp cs off new)))) else none
     | _=>none
    | _=>none
   | none=>none
  | none=>none
 | _,_,_=>none
def pI(C:Ctx)(h:au)(t:TypeId)(x:Value):Option au:=
 match C.iL t,x with
 | some (.slice _),.slice none _ _=>some h
 | some (.slice _),.slice _ 0 _=>some h
 | some (.slice e),.slice (some ⟨b,off,none⟩) n _=>match C.zero e,h.get b with
  | some z,some (.cells false cs)=>
   let new:=dH z.cells.toList n
   bif new.all one&&Nat.ble (off+new.length) cs.length then some (h.put b (some (.cells false (bp cs off new)))) else none
  | _,_=>none
 | _,_=>none
def jM(C:Ctx)(h:au)(t:TypeId)(len cap:Value):Option (Value×au):=
 match C.iL t,len,cap with
 | some (.slice e),.int _ l,.int _ c=>match C.size e,C.zero e,C.bytes e with
  | some s,some z,some by_=>
   if 0<=l/\l=c/\c<=281474976710656/\by_*c<=281474976710656/\0<s then
    some (.slice (some ⟨h.next,0,none⟩) l.toNat (bif l.toNat==0 then 0 else s),h.alloc (.cells false (dH z.cells.toList l.toNat)))
   else none
  | _,_,_=>none
 | _,_,_=>none
def kZ(C:Ctx)(ok:TypeId->Value->Bool):List Field->List Value->Bool
 | [],_=>true
 | f::g,cs=>(match fN C cs f.type f.offset with
  | some a=>ok f.type a
  | none=>false)&&kZ C ok g cs
def mS(C:Ctx)(ok:Value->Bool)(e s:Nat)(xs:List Value):List Nat->Bool
 | []=>true
 | i::is=>(match fN C xs e (i*s) with
  | some a=>ok a
  | none=>false)&&mS C ok e s xs is
def eD(C:Ctx):Nat->TypeId->Value->Bool
 | 0,_,_=>false
 | n+1,t,v=>
  match C.iL t,v with
  | some (.struct g),.agg cs=>kZ C (eD C n) g.toList cs.toList
  | some (.array len e),.agg xs=>(match C.size e with
   | some s=>mS C (eD C n e) e s xs.toList (List.range len)
   | none=>false)
  | some d,v=>sC d&&!cm v
  | none,_=>false
def eY(C:Ctx)(t:TypeId)(k:Value):List (Value×Value)->Nat->Option (Option (Nat×Value))
 | [],_=>some none
 | (g,v)::es,i=>match rD C 8 t k g with
  | some true=>some (some (i,v))
  | some false=>eY C t k es (i+1)
  | none=>none
def gv(h:au):Value->Option (List (Value×Value))
 | .map none=>some []
 | .map (some r)=>match h.get r with
  | some (.map es)=>some (alive es)
  | _=>none
 | _=>none
def gZ(C:Ctx)(h:au)(t:TypeId)(x k:Value)(ok:Bool):Option Value:=
 match C.iL t,gv h x with
 | some (.map g i),some es=>bif !eD C 8 g k then none else
  match eY C g k es 0 with
  | some (some (_,v))=>some (bif ok then .tuple ⟨[v,.bool true]⟩ else v)
  | some none=>match C.zero i with
   | some z=>some (bif ok then .tuple ⟨[z,.bool false]⟩ else z)
   | none=>none
  | none=>none
 | _,_=>none
mutual
def cg:Value->Value->Bool
 | .bool a,.bool b=>a==b
 | .int k a,.int i b=>k==i&&a==b
 | .float k a,.float i b=>k==i&&a==b
 | .complex k a b,.complex i j b'=>k==i&&a==j&&b==b'
 | .string a,.string b=>a.data.toList==b.data.toList
 | .chan a,.chan b=>a==b
 | .pointer a,.pointer b=>a==b
 | .slice a n c,.slice j p r=>a==j&&n==p&&c==r
 | .map a,.map b=>a==b
 | .func f ⟨xs⟩ ⟨ys⟩,.func g ⟨l⟩ ⟨o⟩=>f==g&&jg xs l&&jg ys o
 | .nilFunc,.nilFunc=>true
 | .iface t v,.iface u w=>t==u&&cg v w
 | .nilIface,.nilIface=>true
 | .agg ⟨xs⟩,.agg ⟨ys⟩=>jg xs ys
 | .tuple ⟨xs⟩,.tuple ⟨ys⟩=>jg xs ys
 | _,_=>false
def jg:List Value->List Value->Bool
 | [],[]=>true
 | a::as,b::bs=>cg a b&&jg as bs
 | _,_=>false
end
def cO(C:Ctx)(h:au)(t:TypeId)(m k v:Value):Option au:=
 match C.iL t,m with
 | some (.map g _),.map (some r)=>match h.get r with
  | some (.map es)=>bif !eD C 8 g k then none else
   match eY C g k (alive es) 0 with
   | some (some (i,_))=>match (alive es)[i]? with
    | some (k2,_)=>bif cg k2 k then some (h.put r (some (.map (aO (k,v) es i)))) else none
    | none=>none
   | some none=>some (h.put r (some (.map (es++[(k,v)]))))
   | none=>none
  | _=>none
 | _,_=>none
def bX:Value:=.tuple ⟨[]⟩
def kL(C:Ctx)(h:au)(t:TypeId)(m k:Value):Option au:=
 match C.iL t,m with
 | some (.map g _),.map (some r)=>match h.get r with
  | some (.map es)=>bif !eD C 8 g k then none else
   match eY C g k (alive es) 0 with
   | some (some (i,_))=>some (h.put r (some (.map (aO (bX,bX) es i))))
   | some none=>some (h.put r (some (.map es)))
   | none=>none
  | _=>none
 | _,_=>none
def eX(C:Ctx)(h:au)(t:TypeId)(m k:Value):Option (Value×au):=
 match C.iL t,m with
 | some (.map g j),.map (some r)=>match h.get r with
  | some (.map es)=>bif !eD C 8 g k then none else
   match eY C g k (alive es) 0 with
   | some (some (i,v))=>match (alive es)[i]?,(stamps 0 es)[i]? with
    | some (k2,_),some n=>bif cg k2 k then some (.tuple ⟨[v,.int .i64 n]⟩,h) else none
    | _,_=>none
   | some none=>match C.zero j with
    | some z=>some (.tuple ⟨[z,.int .i64 es.length]⟩,h.put r (some (.map (es++[(k,z)]))))
    | none=>none
   | none=>none
  | _=>none
 | _,_=>none
def eG(h:au)(m s v:Value):Option au:=
 match m,s with
 | .map (some r),.int _ n=>match h.get r with
  | some (.map es)=>match (stamps 0 es).findIdx? (λ(b:Nat)=>decide ((b:Int)=n)) with
   | some j=>match (alive es)[j]? with
    | some (k,_)=>some (h.put r (some (.map (aO (k,v) es j))))
    | none=>none
   | none=>none
  | _=>none
 | _,_=>none
def z7:TypeDesc->Bool
 | .interface _=>true
 | _=>false
def ke(C:Ctx)(x:Value)(t:TypeId)(ok:Bool):Option Value:=
 match C.iL t with
 | none=>none
 | some d=>bif z7 d then none else
  match x with
  | .iface g v=>bif Nat.beq g t then some (bif ok then .tuple ⟨[v,.bool true]⟩ else v) else
    bif ok then (C.zero t).map λz=>.tuple ⟨[z,.bool false]⟩ else none
  | .nilIface=>bif ok then (C.zero t).map λz=>.tuple ⟨[z,.bool false]⟩ else none
  | _=>none
def jS(C:Ctx)(h:au)(x:Value)(name:String):Option (FuncId×Value):=
 match x with
 | .iface t v=>match C.info t,C.iL t with
  | some i,some d=>match i.methods.find? (·.name==name) with
   | some m=>bif m.path.isEmpty then
     match m.func,d with
     | some (f,true),.pointer _=>some (f,v)
     | some (f,false),.pointer e=>(nq C h e v).map λx=>(f,x)
     | _,_=>none
    else none
   | none=>none
  | _,_=>none
 | _=>none
inductive Af where
 | val (v:Value) (h:au)
 | call (f:FuncId) (args:List Value)
def dm(ρ:Operand->Option Value):List Operand->Option (List Value)
 | []=>some []
 | x::xs=>match ρ x,dm ρ xs with
  | some v,some vs=>some (v::vs)
  | _,_=>none
def fC(ρ:Operand->Option Value):List (Nat×Operand)->Option (List (Nat×Value))
 | []=>some []
 | (i,x)::xs=>match ρ x,fC ρ xs with
  | some v,some vs=>some ((i,v)::vs)
  | _,_=>none
def mC(ρ:Operand->Option Value):Option Operand->Option (Option Value)
 | none=>some none
 | some x=>(ρ x).map some
def bR(C:Ctx)(h:au)(b:Builtin)(ts:List TypeId)(args:List Value):Option (Value×au):=
 match b,ts,args with
 | .len,t::_,[x]=>(G9 C h t x).map λv=>(v,h)
 | .cap,t::_,[x]=>(MZ C t x).map λv=>(v,h)
 | .append,t::ts,[s,x]=>gg C h t ts.head? s x
 | .copy,t::_,[d,x]=>E2 C h t d x
 | .clear,t::_,[x]=>(pI C h t x).map λh=>(bX,h)
 | .delete,t::_,[m,k]=>(kL C h t m k).map λh=>(bX,h)
 | .min,_,[.int k a,.int _ b]=>some (.int k (if b<a then b else a),h)
 | .max,_,[.int k a,.int _ b]=>some (.int k (if b > a then b else a),h)
 | .min,_,[.int k a,.int _ b,.int _ c]=>
  let m:=if b<a then b else a
  some (.int k (if c<m then c else m),h)
 | _,_,_=>none
def mf(C:Ctx)(f:Value)(args:List Value):Option Af:=
 match f with
 | .func (.func i) first captured=>match C.func i with
  | some fn=>bif fn.body.isSome then some (.call i (first.toList++args++captured.toList)) else none
  | none=>none
 | _=>none
def aW(C:Ctx)(ρ:Operand->Option Value)(h:au)(op:Op):Option Af:=
 let v (x:Option Value):Option Af:=x.map λv=>.val v h;let w (x:Option (Value×au)):Option Af:=x.map λr=>.val r.1 r.2;let u (x:Option au):Option Af:=x.map λh=>.val bX h
 match op with
 | .move x=>v (ρ x)
 | .assign x=>v (ρ x)
 | .pick c a b=>match ρ c with
  | some (.bool true)=>v (ρ a)
  | some (.bool false)=>v (ρ b)
  | _=>none
 | .alloc e=>match C.zero e with
  | some z=>some (.val (.pointer (some ⟨h.next,0,none⟩)) (h.alloc (.cells false z.cells.toList)))
  | none=>none
 | .box _ x=>match ρ x with
  | some y=>some (.val (.pointer (some ⟨h.next,0,none⟩)) (h.alloc (.cells false y.cells.toList)))
  | none=>none
 | .build t ps=>match fC ρ ps.toList with
  | some ps=>v (uY C t ps)
  | none=>none
 | .buildSlice t n ps=>match fC ρ ps.toList with
  | some ps=>w (iI C h t n ps)
  | none=>none
 | .load t a=>match ρ a with
  | some a=>v (nq C h t a)
  | none=>none
 | .store t a x=>match ρ a,ρ x with
  | some a,some x=>u (vd C h t a x)
  | _,_=>none
 | .nilCheck x=>match ρ x with
  | some (.pointer (some a))=>v (some (.pointer (some a)))
  | some (.func (.func f) xs ys)=>v (some (.func (.func f) xs ys))
  | _=>none
 | .binOp op t x y _=>match ρ x,ρ y with
  | some a,some b=>v (mw C h op t x y a b)
  | _,_=>none
 | .unOp op _ x=>match ρ x with
  | some a=>v (Q4 op a)
  | none=>none
 | .convert s d x=>match ρ x with
  | some a=>v (Ay C s d a)
  | none=>none
 | .makeInterface t x=>match ρ x,C.iL t with
  | some a,some d=>match d with
   | .interface _=>none
   | _=>v (some (.iface t a))
  | _,_=>none
 | .makeFunc fn xs ys=>match dm ρ xs.toList,dm ρ ys.toList with
  | some a,some b=>v (some (.func fn ⟨a⟩ ⟨b⟩))
  | _,_=>none
 | .makeMap _ none=>some (.val (.map (some h.next)) (h.alloc (.map [])))
 | .makeSlice t l c=>match ρ l,ρ c with
  | some l,some c=>w (jM C h t l c)
  | _,_=>none
 | .slice t x lo hi g=>match ρ x,mC ρ lo,mC ρ hi,mC ρ g with
  | some x,some lo,some hi,some g=>v (ik C h t x lo hi g)
  | _,_,_,_=>none
 | .fieldAddr t x f=>match ρ x with
  | some x=>v (lp C t x f)
  | none=>none
 | .field t x f=>match ρ x with
  | some x=>v (yX C t x f)
  | none=>none
 | .indexAddr t x i=>match ρ x,ρ i with
  | some x,some i=>v (jC C t x i)
  | _,_=>none
 | .index t x i=>match ρ x,ρ i with
  | some x,some i=>v (He C t x i)
  | _,_=>none
 | .lookup t x k ok=>match ρ x,ρ k with
  | some x,some k=>v (gZ C h t x k ok)
  | _,_=>none
 | .mapUpdate t m k x=>match ρ m,ρ k,ρ x with
  | some m,some k,some x=>u (cO C h t m k x)
  | _,_,_=>none
 | .insert t m k x=>match ρ m,ρ k,ρ x with
  | some m,some k,some x=>u (cO C h t m k x)
  | _,_,_=>none
 | .mapEntry t m k=>match ρ m,ρ k with
  | some m,some k=>w (eX C h t m k)
  | _,_=>none
 | .entryStore _ m s x=>match ρ m,ρ s,ρ x with
  | some m,some s,some x=>u (eG h m s x)
  | _,_,_=>none
 | .extract x i=>match ρ x with
  | some (.tuple vs)=>v (vs.toList[i]?)
  | _=>none
 | .typeAssert x _ t ok=>match ρ x with
  | some x=>v (ke C x t ok)
  | none=>none
 | .call c=>match c.callee with
  | .builtin b=>match dm ρ c.args.toList with
   | some as=>w (bR C h b c.argTypes.toList as)
   | none=>none
  | .value f=>match ρ f,dm ρ c.args.toList with
   | some f,some as=>mf C f as
   | _,_=>none
  | .invoke r name=>match ρ r,dm ρ c.args.toList with
   | some x,some as=>match jS C h x name with
    | some (f,recv)=>match C.func f with
     | some fn=>bif fn.body.isSome then some (.call f (recv::as)) else none
     | none=>none
    | none=>none
   | _,_=>none
 | _=>none
structure Env where
 n:Nat
 t:T Value
def Env.get(e:Env)(i:Nat):Option Value:=e.t.get i
def Env.put(e:Env)(d:Option Tmp)(v:Value):Env:=
 match d with
 | none=>e
 | some d=>bif Nat.blt d e.n then { n:=e.n,t:=e.t.set d (some v) } else e
def Env.eval(C:Ctx)(e:Env):Operand->Option Value
 | .tmp i=>e.get i
 | .const v=>bif plain v then some v else none
 | .global g=>bif Nat.blt g C.cA then some (.pointer (some ⟨g,0,none⟩)) else none
 | .func f=>some (.func (.func f) #[] #[])
def lI(ops:List Oper)(e:Env)(o:Oper):Option Bool:=
 match o.guard with
 | none=>some true
 | some (j,want)=>match (ops[j]?).bind (·.dst) with
  | none=>some false
  | some d=>match e.get d with
   | some (.bool b)=>some (b==want)
   | some (.tuple ⟨[]⟩)=>some false
   | _=>none
abbrev oM:=FuncId->List Value->au->Option (Value×au)
def cq(C:Ctx)(cal:oM)(ops:List Oper)(o:Oper)(e:Env)(h:au):Option (Env×au):=
 match lI ops e o with
 | none=>none
 | some false=>some (e.put o.dst bX,h)
 | some true=>match aW C (e.eval C) h o.op with
  | none=>none
  | some (.val v h)=>some (e.put o.dst v,h)
  | some (.call f args)=>match cal f args h with
   | none=>none
   | some (v,h)=>some (e.put o.dst v,h)
def Jp(C:Ctx)(cal:oM)(ops:List Oper):List Oper->Env->au->Option (Env×au)
 | [],e,h=>some (e,h)
 | o::rest,e,h=>match cq C cal ops o e h with
  | none=>none
  | some (e,h)=>Jp C cal ops rest e h
def bB(g:List Nat)(o:Oper):Nat:=
 o.after.toList.foldl (λs x=>bif Region.binds .any x then s ||| 2 ^ x.on ||| (g[x.on]?).getD 0 else s) 0
def bH(g:List Nat):List Oper->List Nat
 | []=>g
 | o::os=>bH (g++[bB g o]) os
def tW:Op->Bool
 | .alloc _=>true
 | .box _ _=>true
 | .buildSlice _ _ _=>true
 | .makeMap _ _=>true
 | .makeSlice _ _ _=>true
 | _=>false
def cy:Op->Bool
 | .move _=>true
 | .assign _=>true
 | .pick _ _ _=>true
 | .build _ _=>true
 | .load _ _=>true
 | .nilCheck _=>true
 | .binOp _ _ _ _ _=>true
 | .unOp _ _ _=>true
 | .convert _ _ _=>true
 | .makeInterface _ _=>true
 | .makeFunc _ _ _=>true
 | .slice _ _ _ _ _=>true
 | .fieldAddr _ _ _=>true
 | .field _ _ _=>true
 | .indexAddr _ _ _=>true
 | .index _ _ _=>true
 | .lookup _ _ _ _=>true
 | .extract _ _=>true
 | .typeAssert _ _ _ _=>true
 | .call c=>match c.callee with
  | .builtin .len=>true
  | .builtin .cap=>true
  | .builtin .min=>true
  | .builtin .max=>true
  | _=>false
 | _=>false
def hZ:Op->Bool
 | .store _ _ _=>true
 | _=>false
def fY(o:Op):Bool:=!tW o&&!cy o&&!hZ o
def tmpsOf(ops:List Oper)(o:Oper):List Tmp:=
 (o.op.operands.toList.filterMap λx=>match x with | .tmp t=>some t | _=>none)++
  (match o.guard with
   | some (j,_)=>(match (ops[j]?).bind (·.dst) with | some d=>[d] | none=>[])
   | none=>[])
def lH(ops:List Oper)(a b:Oper):Bool:=
 (match a.dst with
  | some d=>!(tmpsOf ops b).contains d&&!(b.dst==some d)
  | none=>true) &&
 (match b.dst with
  | some d=>!(tmpsOf ops a).contains d
  | none=>true) &&
 !(fY b.op&&!cy a.op)&&!(fY a.op&&hZ b.op)
def ql(ops:List Oper)(g:List Nat):List Oper->Nat->Bool
 | [],_=>true
 | b::rest,j=>
  (let m:=(g[j]?).getD 0
   let rec inner:List Oper->Nat->Bool
     | [],_=>true
     | a::as,i=>bif Nat.ble j i then true else (m.testBit i||lH ops a b)&&inner as (i+1)
   inner ops 0)&&ql ops g rest (j+1)
def lX:List Oper->Nat->Bool
 | [],_=>true
 | o::os,i=>(o.after.toList.all λx=>!Region.binds .any x||Nat.blt x.on i) &&
   (match o.guard with | some (j,_)=>(o.after.toList.any λx=>x.on==j&&Region.binds .any x) | none=>true)&&lX os (i+1)
def oW(ops:List Oper):Bool:=lX ops 0&&ql ops (bH [] ops) ops 0
def bJ(ρ:Operand->Option Value):Op->List Nat
 | .load _ a=>match ρ a with
  | some (.pointer (some a))=>[a.block]
  | _=>[]
 | .store _ a _=>match ρ a with
  | some (.pointer (some a))=>[a.block]
  | _=>[]
 | .slice _ a _ _ _=>match ρ a with
  | some (.pointer (some a))=>[a.block]
  | _=>[]
 | .lookup _ m _ _=>match ρ m with
  | some (.map (some r))=>[r]
  | _=>[]
 | .binOp _ _ x y _=>(match ρ x with | some (.pointer (some a))=>[a.block] | _=>[])++(match ρ y with | some (.pointer (some a))=>[a.block] | _=>[])
 | .call c=>match c.callee with
  | .builtin .len=>match c.args.toList with
   | x::_=>match ρ x with
    | some (.map (some r))=>[r]
    | _=>[]
   | _=>[]
  | _=>[]
 | _=>[]
def oS:List (Value×Value)->List (Value×Value)->Bool
 | [],[]=>true
 | (a,b)::x,(c,d)::y=>cg a c&&cg b d&&oS x y
 | _,_=>false
def lW:Option aJ->Option aJ->Bool
 | none,none=>true
 | some (.cells r xs),some (.cells s ys)=>r==s&&jg xs ys
 | some (.map xs),some (.map ys)=>oS xs ys
 | _,_=>false
def jt(C:Ctx)(ρ:Operand->Option Value)(h:au)(op:Op)(g:au):Bool:=
 match op with
 | .lookup _ _ _ _=>(match aW C ρ h op,aW C ρ g op with
  | some (.val v _),some (.val v2 _)=>cg v v2
  | _,_=>false)
 | _=>false
abbrev su:=au×au×List Nat×(au->Bool)
def cG(C:Ctx)(cal:oM)(ops:List Oper):List Oper->Env->au->Option (Env×au×List su)
 | [],e,h=>some (e,h,[])
 | o::rest,e,h=>match cq C cal ops o e h with
  | none=>none
  | some (g,h1)=>match cG C cal ops rest g h1 with
   | none=>none
   | some (i,j,l)=>some (i,j,(h,h1,bJ (e.eval C) o.op,jt C (e.eval C) h o.op)::l)
def eR(ops:List Oper)(g:List Nat)(tr:List su):Bool:=
 let rec outer:List su->Nat->Bool
  | [],_=>true
  | (_,_,look,l)::rest,i=>
   (match look with
    | []=>true
    | look=>
      let mi:=(g[i]?).getD 0;let rec inner:List Oper->List su->Nat->Bool
        | o::os,(h,h1,_,_)::tr,j=>
          (cy o.op||i==j||mi.testBit j||((g[j]?).getD 0).testBit i||(look.all λx=>lW (h.get x) (h1.get x))||(Nat.blt i j&&l h1))&&inner os tr (j+1)
        | _,_,_=>true
      inner ops tr 0)&&outer rest (i+1)
 outer tr 0
def kN(C:Ctx)(cal:oM)(ops:List Oper)(draw:Bool)(e:Env)(h:au):Option (Env×au):=
 bif draw then
  match cG C cal ops ops e h with
  | none=>none
  | some (g,i,tr)=>bif oW ops&&eR ops (bH [] ops) tr then some (g,i) else none
 else Jp C cal ops ops e h
inductive Ex where
 | normal
 | exit (id:Nat)
 | ret
 | jN
abbrev Ba:=FuncId->List Value->au->Option au
def ux:Op->Option Operand
 | .panic x=>some x
 | _=>none
def vS(C:Ctx)(xA:Ba)(ops:List Oper)(o:Oper)(e:Env)(h:au):Option au:=
 match lI ops e o with
 | some true=>match ux o.op with
  | some x=>match e.eval C x with
   | some (.iface t (.agg ⟨[]⟩))=>bif Nat.beq t C.jN then some h else none
   | _=>none
  | none=>match aW C (e.eval C) h o.op with
   | some (.call f args)=>xA f args h
   | _=>none
 | _=>none
def lD(C:Ctx)(cal:oM)(xA:Ba)(ops:List Oper):List Oper->Env->au->Option (Bool×Env×au)
 | [],e,h=>some (false,e,h)
 | o::rest,e,h=>match cq C cal ops o e h with
  | some (i,g)=>lD C cal xA ops rest i g
  | none=>match vS C xA ops o e h with
   | some g=>some (true,e,g)
   | none=>none
def nO(C:Ctx)(cal:oM)(xA:Ba)(ops:List Oper):List Oper->Env->au->Option (au×au×List su)
 | [],_,_=>none
 | o::rest,e,h=>match cq C cal ops o e h with
  | some (i,h1)=>match nO C cal xA ops rest i h1 with
   | some (hp,g,l)=>some (hp,g,(h,h1,bJ (e.eval C) o.op,jt C (e.eval C) h o.op)::l)
   | none=>none
  | none=>match vS C xA ops o e h with
   | none=>none
   | some h1=>match cG C cal ops rest (e.put o.dst C.Ej) h1 with
    | some (_,g,l)=>some (h1,g,(h,h1,bJ (e.eval C) o.op,jt C (e.eval C) h o.op)::l)
    | none=>none
def Env.forget(e:Env)(ops:List Oper):Env:={ n:=e.n,t:=ops.foldl (λt o=>match o.dst with | some d=>t.set d none | none=>t) e.t }
def Ii(ops:List Oper):Bool:=ops.any λo=>(ux o.op).isSome
def oC(C:Ctx)(cal:oM)(xA:Ba)(ops:List Oper)(e:Env)(h:au):Option (Env×au):=
 match nO C cal xA ops ops e h with
 | none=>none
 | some (hp,g,tr)=>bif oW ops&&eR ops (bH [] ops) tr&&!Ii ops then some (e.forget ops,{ next:=max hp.next g.next,t:=hp.t }) else none
def uE(C:Ctx)(e:Env)(h:au):ResultVar->Option Value
 | .tmp t=>e.get t
 | .cell a t=>match e.get a with
  | some v=>nq C h t v
  | none=>none
def gW(C:Ctx)(e:Env)(h:au):List ResultVar->Option (List Value)
 | []=>some []
 | r::rs=>match uE C e h r,gW C e h rs with
  | some v,some vs=>some (v::vs)
  | _,_=>none
def ff:List Value->Value
 | [v]=>v
 | vs=>.tuple ⟨vs⟩
def iO(n:Nat)(args:List Value):Env:=
 let rec go:List Value->Nat->T Value->T Value
  | [],_,t=>t
  | v::vs,i,t=>go vs (i+1) (t.set i (some v))
 {n:=max n args.length,t:=go args 0 .e }
abbrev HJ:=Code->Env->au->Option (Ex×Env×au)
def xE(C:Ctx):Value:=.iface C.jN (.agg ⟨[]⟩)
def vQ(o:Oper):Bool:=match o.guard,o.op with
 | none,.call ⟨.builtin .recover,_,_⟩=>true
 | _,_=>false
def lN(C:Ctx)(g:HJ)(j:Value)(f:FuncId)(args:List Value)(h:au):Option au:=
 match C.func f with
 | none=>none
 | some fn=>match fn.body with
  | some (.seq (.region _ ⟨o::os⟩ false) rest)=>bif vQ o&&fn.results.toList.isEmpty then
    (match lD C (λ_ _ _=>none) (λ_ _ _=>none) (o::os) os ((iO fn.ntmps args).put o.dst j) h with
    | some (false,l,h1)=>match g rest l h1 with
     | some (.normal,_,i)=>some i
     | some (.ret,_,i)=>some i
     | _=>none
    | _=>none)
   else none
  | _=>none
def xQ(o:Oper):Option Operand:=match o.guard,o.op with
 | none,.defer ⟨.value f,⟨[]⟩,_⟩=>some f
 | _,_=>none
def lg:List Oper->Option (List Oper×Oper×Operand)
 | []=>none
 | [o]=>(xQ o).map λf=>([],o,f)
 | o::os=>(lg os).map λr=>(o::r.1,r.2)
def pt:Code->Option (List Oper×List Oper×Oper×Operand)
 | .region _ ops false=>(lg ops.toList).map λr=>(ops.toList,r)
 | _=>none
def ix(C:Ctx)(g:HJ):Code->Env->au->Option (Env×au)
 | .seq a rest,e,h=>match pt a with
  | some (ops,pre,o,fo)=>match lD C (λ_ _ _=>none) (λ_ _ _=>none) ops pre e h with
   | some (false,i,h1)=>match i.eval C fo with
    | some (.func (.func f) ⟨[]⟩ ⟨ys⟩)=>match g rest (i.put o.dst bX) h1 with
     | some (.exit _,_,_)=>none
     | some (.jN,j,l)=>(lN C g (xE C) f ys l).map λp=>(j,p)
     | some (_,j,l)=>(lN C g .nilIface f ys l).map λp=>(j,p)
     | none=>none
    | _=>none
   | _=>none
  | none=>match g a e h with
   | some (.normal,i,h1)=>ix C g rest i h1
   | some (.ret,i,h1)=>some (i,h1)
   | _=>none
 | _,_,_=>none
def cC(C:Ctx)(g:HJ):oM:=λf args h=>
 match C.fact f with
 | some i=>i args h
 | none=>match C.func f with
  | none=>none
  | some fn=>match fn.body with
   | none=>none
   | some c=>bif C.DE f then (match ix C g c (iO fn.ntmps args) h with
    | some (e,h)=>match gW C e h fn.results.toList with
     | some vs=>some (ff vs,h)
     | none=>none
    | none=>none)
    else match g c (iO fn.ntmps args) h with
    | some (.exit _,_,_)=>none
    | some (.jN,_,_)=>none
    | some (_,e,h)=>match gW C e h fn.results.toList with
     | some vs=>some (ff vs,h)
     | none=>none
    | none=>none
def gH(C:Ctx)(g:HJ):Ba:=λf args h=>
 match C.fact f with
 | some _=>none
 | none=>match C.func f with
  | none=>none
  | some fn=>match fn.body with
   | none=>none
   | some c=>bif C.DE f then none else match g c (iO fn.ntmps args) h with
    | some (.jN,_,h)=>some h
    | _=>none
def bq(C:Ctx)(g:HJ):HJ:=λc e h=>
 match c with
 | .skip=>some (.normal,e,h)
 | .region _ ops draw=>bif draw then (match kN C (cC C g) ops.toList true e h with
   | some (e,h)=>some (.normal,e,h)
   | none=>match oC C (cC C g) (gH C g) ops.toList e h with
    | some (e,h)=>some (.jN,e,h)
    | none=>none)
  else match lD C (cC C g) (gH C g) ops.toList ops.toList e h with
   | some (b,e,h)=>some (bif b then .jN else .normal,e,h)
   | none=>none
 | .seq a b=>match g a e h with
  | some (.normal,e,h)=>g b e h
  | r=>r
 | .cond x a b=>match (e.eval C) x with
  | some (.bool true)=>g a e h
  | some (.bool false)=>g b e h
  | _=>none
 | .block id a=>match g a e h with
  | some (.exit i,e,h)=>some (bif i==id then .normal else .exit i,e,h)
  | r=>r
 | .loop a=>match g a e h with
  | some (.normal,e,h)=>g (.loop a) e h
  | r=>r
 | .exit id=>some (.exit id,e,h)
 | .ret=>some (.ret,e,h)
 | _=>none
def exec(C:Ctx):Nat->HJ
 | 0=>λ_ _ _=>none
 | n+1=>bq C (exec C n)
def call(C:Ctx)(n:Nat):oM:=cC C (exec C n)
def xA(C:Ctx)(n:Nat):Ba:=gH C (exec C n)
end Go.Abs