/-
  An abstract machine for code that draws nothing and prints nothing: values, blocks, the evaluator.
-/
import Derived.Orders
import Derived.RowKit3
/-
 Tries,abstract blocks,abstract heaps,and how an abstract value stands for a value of the model.
-/
namespace Go.Abs
abbrev ma:=@List.mem_cons_of_mem
abbrev mb:=@if_neg
abbrev mc:=@Nat.le_refl
abbrev mm:=@Option.some.inj
abbrev nw:=@if_pos
abbrev n0:=@List.mem_singleton
abbrev pf:=@List.take_of_length_le
abbrev pr:=@Option.some.injEq
abbrev qs:=@List.getD_eq_getElem?_getD
abbrev q0:=@List.length_append
abbrev ri:=@List.Perm.refl
abbrev sh:=@List.length_map
abbrev sj:=@List.getElem?_set_self
abbrev ti:=@Bool.and_eq_true
abbrev tj:=@List.getElem?_set_ne
abbrev tx:=@List.mem_map
abbrev xf:=@cond_true
abbrev yf:=@List.take_add_one
abbrev yo:=@Nat.zero_add
abbrev y2:=@List.map_cons
abbrev zm:=@List.getElem?_map
abbrev zy:=@cond_false
abbrev AI:=@List.mem_append
abbrev AS:=@List.append_assoc
abbrev AT:=@Nat.lt_or_ge
abbrev By:=@List.getElem?_append_left
abbrev BY:=@Nat.zero_le
abbrev D1:=@List.eq_nil_of_length_eq_zero
abbrev D2:=@List.getElem?_eq_none
abbrev If:=@List.length_cons
abbrev IN:=@List.mem_cons
abbrev IT:=@List.mem_append_left
abbrev LN:=@Nat.le_trans
abbrev No:=@List.getElem?_eq_some_iff
abbrev OF:=@List.drop_eq_getElem_cons
abbrev RZ:=@Nat.ble_eq_true_of_le
abbrev R0:=@List.getElem?_append_right
abbrev R1:=@List.map_append
abbrev R2:=@List.mem_cons_self
abbrev R3:=@List.append_nil
abbrev R4:=@Nat.pow_le_pow_right
abbrev R5:=@List.length_take
abbrev R6:=@Nat.eq_of_beq_eq_true
abbrev R7:=@Prod.mk.injEq
abbrev R8:=@List.mem_append_right
abbrev R9:=@Nat.mul_one
abbrev Sa:=@List.Sublist.refl
abbrev Sb:=@List.ext_getElem?
abbrev Sc:=@Array.getElem?_eq_some_iff
abbrev Sd:=@Nat.eq_zero_or_pos
abbrev Se:=@List.drop_of_length_le
abbrev Sf:=@Nat.mul_le_mul_right
abbrev Sg:=@List.getElem?_take
abbrev Si:=@Option.map_some
abbrev Sj:=@List.getElem?_drop
abbrev Sk:=@Nat.lt_of_lt_of_le
abbrev Sl:=@Array.getD_eq_getD_getElem?
abbrev Sm:=@Nat.le_of_lt
abbrev Sn:=@List.getElem?_eq_getElem
abbrev So:=@List.flatten_cons
abbrev Sp:=@Nat.lt_succ_self
abbrev Sq:=@Nat.add_mul
abbrev Sr:=@List.mem_range
abbrev Ss:=@List.nodup_cons
abbrev Su:=@List.length_set
abbrev Sv:=@List.sum_cons
abbrev Sw:=@List.nodup_iff_pairwise_ne
abbrev Sx:=@Array.getElem?_toList
abbrev Sy:=@List.mem_or_eq_of_mem_set
abbrev Sz:=@List.pairwise_iff_getElem
abbrev SA:=@Option.map_eq_some_iff
abbrev SC:=@decide_eq_true_eq
abbrev SD:=@Bool.false_eq_true
abbrev SE:=@List.length_replicate
abbrev SF:=@List.length_singleton
abbrev SG:=@List.head_eq_of_cons_eq
abbrev SH:=@List.mem_singleton_self
abbrev SI:=@List.getElem?_replicate
abbrev SJ:=@Nat.not_lt_zero
abbrev SK:=@List.all_eq_true
abbrev SL:=@List.mem_of_getElem?
abbrev SM:=@Array.getElem?_setIfInBounds_ne
abbrev SN:=@if_true
abbrev SO:=@Bool.or_eq_true
abbrev SP:=@Nat.min_eq_left
abbrev SQ:=@List.getElem?_range
abbrev SR:=@List.cons_append
abbrev SS:=@List.take_length
abbrev SU:=@of_decide_eq_true
abbrev SV:=@Nat.two_pow_pos
abbrev SW:=@List.map_set
abbrev SX:=@List.eq_of_mem_replicate
abbrev SY:=@List.map_congr_left
abbrev SZ:=@List.mem_map_of_mem
abbrev S0:=@List.take_append_drop
abbrev S1:=@List.nodup_append
abbrev S2:=@Nat.one_mul
abbrev S3:=@Bool.eq_false_iff
abbrev S4:=@List.getElem?_cons_succ
abbrev S5:=@Nat.testBit_or
abbrev S6:=@beq_iff_eq
abbrev S7:=@List.set_cons_succ
abbrev S8:=@if_false
abbrev S9:=@List.mem_flatMap
abbrev Ta:=@List.take_append_of_le_length
abbrev Tb:=@List.length_range
abbrev Tc:=@Nat.add_zero
abbrev Td:=@Bool.eq_iff_iff
abbrev Te:=@List.cons.injEq
abbrev Tf:=@List.sum_append
abbrev Tg:=@Array.mem_toList_iff
abbrev Th:=@List.getElem?_of_mem
abbrev Ti:=@Bool.not_true
abbrev Tj:=@List.map_map
abbrev Tk:=@Bool.and_self
abbrev Tl:=@Nat.testBit_lt_two_pow
abbrev Tm:=@List.sublist_cons_self
abbrev Tn:=@List.getElem?_set
abbrev To:=@List.getElem?_eq_none_iff
abbrev Tp:=@List.range_succ
abbrev Tq:=@Nat.le_of_ble_eq_true
abbrev Tr:=@Nat.sub_self
abbrev Ts:=@Nat.add_assoc
abbrev Tt:=@Nat.lt_irrefl
abbrev Tu:=@List.nodup_nil
abbrev Tv:=@List.getElem?_cons_zero
abbrev Tw:=@Bool.not_eq_true'
abbrev Tx:=@Nat.or_lt_two_pow
abbrev Tz:=@List.Perm.of_eq
abbrev TA:=@Array.getElem?_setIfInBounds_self
abbrev TC:=@List.zipWith_cons_cons
abbrev TD:=@Bool.not_false
abbrev TE:=@List.drop_zero
abbrev TF:=@Int.natCast_nonneg
abbrev TG:=@List.set_cons_zero
abbrev TH:=@Nat.lt_of_le_of_lt
abbrev TI:=@Array.ext'
abbrev TJ:=@Nat.eq_of_testBit_eq
abbrev TK:=@Nat.pow_lt_pow_right
abbrev TL:=@List.mem_of_mem_drop
abbrev TN:=@Int.toNat_natCast
abbrev TO:=@List.pairwise_map
abbrev TP:=@List.drop_append_of_le_length
abbrev TQ:=@List.pairwise_singleton
abbrev TR:=@List.reverse_append
abbrev TS:=@List.getElem_mem
abbrev TT:=@Nat.min_eq_right
abbrev TU:=@Nat.mul_le_mul
abbrev TV:=@List.map_replicate
abbrev TW:=@Nat.add_sub_cancel
abbrev TX:=@List.idxOf_lt_length_of_mem
abbrev TY:=@decide_eq_false
abbrev TZ:=@List.mem_iff_getElem?
abbrev T0:=@List.perm_append_comm
abbrev T1:=@Nat.ble_eq
abbrev T2:=@List.mem_of_find?_eq_some
abbrev T3:=@List.take_zero
abbrev T4:=@List.perm_middle
abbrev T5:=@List.mem_flatten
abbrev T6:=@List.length_filterMap_le
abbrev T7:=@Array.length_toList
abbrev T8:=@Nat.testBit_two_pow
abbrev T9:=@List.filterMap_cons
abbrev Ua:=@List.tail_eq_of_cons_eq
abbrev Ub:=@List.length_eq_zero_iff
abbrev Uc:=@Bool.and_true
abbrev Ud:=@Int.natCast_mul
abbrev Ue:=@List.mem_filterMap
abbrev Uf:=@List.nil_append
abbrev Ug:=@Nat.div_le_self
abbrev Uh:=@List.eq_nil_iff_forall_not_mem
abbrev Ui:=@Option.toList_some
abbrev Uj:=@List.singleton_inj
abbrev Uk:=@true_and
abbrev Ul:=@Int.emod_eq_of_lt
abbrev Um:=@List.Perm.flatten
abbrev Un:=@List.reverse_cons
abbrev Uo:=@Nat.beq_refl
abbrev Up:=@List.drop_drop
abbrev Uq:=@Bool.false_and
abbrev Ur:=@Nat.pow_succ
abbrev Us:=@decide_eq_true
abbrev Ut:=@List.filterMap_append
abbrev Uu:=@List.Perm.append_left
abbrev Uv:=@List.length_drop
abbrev Uw:=@and_true
abbrev Ux:=@List.mem_of_mem_take
abbrev Uy:=@Nat.min_le_right
abbrev Uz:=@List.reverse_reverse
abbrev UA:=@List.take_succ_cons
abbrev UC:=@List.drop_succ_cons
abbrev UD:=@List.flatMap_append
abbrev UE:=@List.getElem_of_mem
abbrev UF:=@List.length_nil
abbrev UG:=@Nat.zero_mul
abbrev UH:=@List.getElem_range
abbrev UI:=@Nat.le_mul_of_pos_right
abbrev UJ:=@Int.eq_ofNat_of_zero_le
abbrev UK:=@Array.toList_push
abbrev UL:=@Nat.lt_trichotomy
abbrev UM:=@List.length_pos_of_mem
abbrev UN:=@List.getElem_cons_zero
abbrev UO:=@List.pairwise_lt_range
abbrev UP:=@List.any_eq_true
abbrev UQ:=@decide_eq_decide
abbrev UR:=@List.ext_getElem
abbrev UT:=@List.set_append_right
abbrev UU:=@Nat.div_lt_iff_lt_mul
abbrev UW:=@List.singleton_append
abbrev UX:=@Nat.testBit_and
abbrev UY:=@List.find?_some
abbrev UZ:=@Nat.succ_mul
abbrev U0:=@Nat.mul_comm
abbrev U1:=@Nat.add_comm
abbrev U2:=@List.map_nil
inductive T(α:Type) where
 | e:T α
 | n:T α->Option α->T α->T α
def T.get{α:Type}:T α->Nat->Option α
 | .e,_=>none
 | .n l v r,k=>match k with
  | 0=>v
  | k+1=>bif k % 2==0 then l.get (k / 2) else r.get (k / 2)
def T.sB{α:Type}:Nat->T α->Nat->Option α->T α
 | 0,t,_,_=>t
 | f+1,.e,k,v=>match k with
  | 0=>.n .e v .e
  | k+1=>bif k % 2==0 then .n (T.sB f .e (k / 2) v) none .e else .n .e none (T.sB f .e (k / 2) v)
 | f+1,.n l x r,k,v=>match k with
  | 0=>.n l v r
  | k+1=>bif k % 2==0 then .n (T.sB f l (k / 2) v) x r else .n l x (T.sB f r (k / 2) v)
def T.set{α:Type}(t:T α)(k:Nat)(v:Option α):T α:=T.sB (k+1) t k v
theorem T.Px{α:Type}(k:Nat):(T.e:T α).get k=none:=rfl
theorem HS{α:Type}{j k m:Nat}{x y:α}(h:k % 2=m)(g:j % 2=m):(if j / 2=k / 2 then x else y)=if j=k then x else y:=by by_cases f:j=k;{subst f;simp};{rw[mb f,mb (by omega)]}
theorem T.sP{α:Type}:∀(f:Nat) (t:T α) (k j:Nat) (v:Option α),k<f->
  (T.sB f t k v).get j=if j=k then v else t.get j
 | 0,_,_,_,_,h=>absurd h (SJ _)
 | f+1,.e,0,j,v,_=>by{cases j with| zero=>{simp[T.sB,T.get]}| succ j=>{simp[T.sB,T.get]}}
 | f+1,.e,k+1,0,v,_=>by{cases h:(k % 2==0)<;>simp[T.sB,T.get,h]}
 | f+1,.e,k+1,j+1,v,hk=>by{have p:=T.sP f (.e:T α) (k / 2) (j / 2) v (by omega);rw[T.Px] at p;cases h:(k % 2==0)<;>cases g:(j % 2==0)<;>simp at h g<;>simp[T.sB,T.get,h,g,p]<;> (first | omega | exact HS h g)}
 | f+1,.n l x r,0,j,v,_=>by{cases j with| zero=>{simp[T.sB,T.get]}| succ j=>{simp[T.sB,T.get]}}
 | f+1,.n l x r,k+1,0,v,_=>by{cases h:(k % 2==0)<;>simp[T.sB,T.get,h]}
 | f+1,.n l x r,k+1,j+1,v,hk=>by{have i:=T.sP f l (k / 2) (j / 2) v (by omega);have o:=T.sP f r (k / 2) (j / 2) v (by omega);cases h:(k % 2==0)<;>cases g:(j % 2==0)<;>simp at h g<;>simp[T.sB,T.get,h,g,i,o]<;> (first | omega | exact HS h g)}
theorem T.lz{α:Type}(t:T α)(k j:Nat)(v:Option α):(t.set k v).get j=if j=k then v else t.get j:=
 T.sP _ t k j v (Sp k)
theorem T.rM{α:Type}(t:T α)(k:Nat)(v:Option α):(t.set k v).get k=v:=by rw[T.lz,nw rfl]
theorem T.xI{α:Type}(t:T α)(k j:Nat)(v:Option α)(h:j≠k):(t.set k v).get j=t.get j:=by rw[T.lz,mb h]
inductive aC where
 | cells (ro:Bool) (cs:List Value)
 | map (es:List (Value×Value))
def aC.ro:aC->Bool
 | .cells ro _=>ro
 | .map _=>false
structure au where
 next:Nat
 t:T aC
def au.get(h:au)(i:Nat):Option aC:=h.t.get i
def au.put(h:au)(i:Nat)(b:Option aC):au:={ next:=h.next,t:=h.t.set i b }
def au.alloc(h:au)(b:aC):au:={ next:=h.next+1,t:=h.t.set h.next (some b) }
theorem au.dL(h:au)(i j:Nat)(b:Option aC):(h.put i b).get j=if j=i then b else h.get j:=T.lz _ _ _ _
theorem au.dH(h:au)(j:Nat)(b:aC):(h.alloc b).get j=if j=h.next then some b else h.get j:=T.lz _ _ _ _
@[simp] theorem au.tM (h:au) (i:Nat) (b:Option aC):(h.put i b).next=h.next:=rfl
@[simp] theorem au.ny (h:au) (b:aC):(h.alloc b).next=h.next+1:=rfl
structure Loc where
 cf:Nat
 off:Nat
 size:Nat
abbrev bG:=Nat->Option Loc
mutual
def aV(σ:bG):Value->Value->Prop
 | .bool b,v'=>v'=.bool b
 | .int k n,v'=>v'=.int k n
 | .float k n,v'=>v'=.float k n
 | .complex k a b,v'=>v'=.complex k a b
 | .string s,v'=>v'=.string s
 | .pointer none,v'=>v'=.pointer none
 | .pointer (some a),v'=>∃l,σ a.block=some l/\a.spot=none/\v'=.pointer (some ⟨l.cf,l.off+a.off,none⟩)
 | .slice none len c,v'=>len=0/\c=0/\v'=.slice none 0 0
 | .slice (some a) len c,v'=>∃l j cap,σ a.block=some l/\a.spot=none/\v'=.slice (some j) len cap/\len<=cap/\(c=0->cap=0)/\
   (cap≠0->j=⟨l.cf,l.off+a.off,none⟩/\l.off+a.off+cap*c<=l.size)
 | .map none,v'=>v'=.map none
 | .map (some r),v'=>∃l,σ r=some l/\v'=.map (some l.cf)
 | .chan _,_=>False
 | .func fn ⟨xs⟩ ⟨ys⟩,v'=>∃g i,v'=.func fn ⟨g⟩ ⟨i⟩/\aZ σ xs g/\aZ σ ys i
 | .nilFunc,v'=>v'=.nilFunc
 | .iface t v,v'=>∃u,v'=.iface t u/\aV σ v u
 | .nilIface,v'=>v'=.nilIface
 | .agg ⟨cs⟩,v'=>∃f,v'=.agg ⟨f⟩/\aZ σ cs f
 | .tuple ⟨cs⟩,v'=>∃f,v'=.tuple ⟨f⟩/\aZ σ cs f
def aZ(σ:bG):List Value->List Value->Prop
 | [],l=>l=[]
 | v::vs,l=>∃v' f,l=v'::f/\aV σ v v'/\aZ σ vs f
end
end Go.Abs
namespace Go.Abs
def bG.le(σ τ:bG):Prop:=∀i l,σ i=some l->τ i=some l
theorem bG.le_refl(σ:bG):bG.le σ σ:=λ_ _ h=>h
mutual
theorem aV.mono{σ τ:bG}(h:bG.le σ τ):∀{v v':Value},aV σ v v'->aV τ v v'
 | .bool _,_,r=>r
 | .int _ _,_,r=>r
 | .float _ _,_,r=>r
 | .complex _ _ _,_,r=>r
 | .string _,_,r=>r
 | .pointer none,_,r=>r
 | .pointer (some _),_,⟨l,a,r⟩=>⟨l,h _ _ a,r⟩
 | .slice none _ _,_,r=>r
 | .slice (some _) _ _,_,⟨l,f,c,e,r⟩=>⟨l,f,c,h _ _ e,r⟩
 | .map none,_,r=>r
 | .map (some _),_,⟨l,a,r⟩=>⟨l,h _ _ a,r⟩
 | .chan _,_,r=>r
 | .func _ ⟨_⟩ ⟨_⟩,_,⟨a,b,e,r,s⟩=>⟨a,b,e,aZ.mono h r,aZ.mono h s⟩
 | .nilFunc,_,r=>r
 | .iface _ _,_,⟨u,e,r⟩=>⟨u,e,aV.mono h r⟩
 | .nilIface,_,r=>r
 | .agg ⟨_⟩,_,⟨c,e,r⟩=>⟨c,e,aZ.mono h r⟩
 | .tuple ⟨_⟩,_,⟨c,e,r⟩=>⟨c,e,aZ.mono h r⟩
theorem aZ.mono{σ τ:bG}(h:bG.le σ τ):∀{vs f:List Value},aZ σ vs f->aZ τ vs f
 | [],_,r=>r
 | _::_,_,⟨a,b,e,r,s⟩=>⟨a,b,e,aV.mono h r,aZ.mono h s⟩
end
theorem aZ.length{σ:bG}:∀{vs f:List Value},aZ σ vs f->f.length=vs.length
 | [],_,r=>by rw[show _=[] from r]
 | _::_,_,⟨_,_,e,_,s⟩=>by rw[e,If,If,aZ.length s]
theorem aZ.get{σ:bG}:∀{vs f:List Value},aZ σ vs f->∀(i:Nat) (v:Value),vs[i]?=some v->∃v',f[i]?=some v'/\aV σ v v'
 | [],_,_,i,v,h=>by simp at h
 | x::_,_,⟨a,b,e,r,s⟩,i,v,h=>by{subst e;cases i with| zero=>{simp at h;subst h;exact⟨a,rfl,r⟩}| succ i=>{exact aZ.get s i v (by simpa using h)}}
theorem aZ.app{σ:bG}:∀{xs f ys g:List Value},aZ σ xs f->aZ σ ys g->aZ σ (xs++ys) (f++g)
 | [],_,_,_,h,k=>by rw[show _=[] from h];exact k
 | _::_,_,_,_,⟨a,b,e,r,s⟩,k=>by subst e;exact⟨a,b++_,rfl,r,aZ.app s k⟩
theorem aZ.take{σ:bG}:∀{xs f:List Value} (n:Nat),aZ σ xs f->aZ σ (xs.take n) (f.take n)
 | _,_,0,_=>by simp[aZ]
 | [],_,_+1,h=>by rw[show _=[] from h];simp[aZ]
 | _::_,_,n+1,⟨a,b,e,r,s⟩=>by subst e;exact⟨a,b.take n,rfl,r,aZ.take n s⟩
theorem aZ.drop{σ:bG}:∀{xs f:List Value} (n:Nat),aZ σ xs f->aZ σ (xs.drop n) (f.drop n)
 | _,_,0,h=>by simpa using h
 | [],_,_+1,h=>by rw[show _=[] from h];simp[aZ]
 | _::_,_,n+1,⟨a,b,e,r,s⟩=>by subst e;simpa using aZ.drop n s
mutual
def plain:Value->Bool
 | .bool _=>true
 | .int _ _=>true
 | .float _ _=>true
 | .complex _ _ _=>true
 | .string _=>true
 | .pointer a=>a.isNone
 | .slice a n c=>a.isNone&&n==0&&c==0
 | .map r=>r.isNone
 | .chan _=>false
 | .func _ ⟨xs⟩ ⟨ys⟩=>gh xs&&gh ys
 | .nilFunc=>true
 | .iface _ v=>plain v
 | .nilIface=>true
 | .agg ⟨cs⟩=>gh cs
 | .tuple ⟨cs⟩=>gh cs
def gh:List Value->Bool
 | []=>true
 | v::vs=>plain v&&gh vs
end
mutual
theorem gz(σ:bG):∀(v:Value),plain v=true->aV σ v v
 | .bool _,_=>rfl
 | .int _ _,_=>rfl
 | .float _ _,_=>rfl
 | .complex _ _ _,_=>rfl
 | .string _,_=>rfl
 | .pointer none,_=>rfl
 | .pointer (some _),h=>by simp[plain] at h
 | .slice none n c,h=>by{simp[plain] at h;obtain⟨rfl,rfl⟩:=h;exact⟨rfl,rfl,rfl⟩}
 | .slice (some _) _ _,h=>by simp[plain] at h
 | .map none,_=>rfl
 | .map (some _),h=>by simp[plain] at h
 | .chan _,h=>by simp[plain] at h
 | .func _ ⟨xs⟩ ⟨ys⟩,h=>by{simp[plain] at h;exact⟨xs,ys,rfl,dn σ xs h.1,dn σ ys h.2⟩}
 | .nilFunc,_=>rfl
 | .iface _ v,h=>⟨v,rfl,gz σ v (by simpa [plain] using h)⟩
 | .nilIface,_=>rfl
 | .agg ⟨cs⟩,h=>⟨cs,rfl,dn σ cs (by simpa [plain] using h)⟩
 | .tuple ⟨cs⟩,h=>⟨cs,rfl,dn σ cs (by simpa [plain] using h)⟩
theorem dn(σ:bG):∀(vs:List Value),gh vs=true->aZ σ vs vs
 | [],_=>rfl
 | v::vs,h=>by{simp[gh] at h;exact⟨v,vs,rfl,gz σ v h.1,dn σ vs h.2⟩}
end
theorem aV.cells{σ:bG}:∀{v v':Value},aV σ v v'->aZ σ v.cells.toList v'.cells.toList
 | .bool _,_,h=>by have e:=h;rw[show _=_ from e];exact⟨_,[],rfl,rfl,rfl⟩
 | .int _ _,_,h=>by have e:=h;rw[show _=_ from e];exact⟨_,[],rfl,rfl,rfl⟩
 | .float _ _,_,h=>by have e:=h;rw[show _=_ from e];exact⟨_,[],rfl,rfl,rfl⟩
 | .complex _ _ _,_,h=>by have e:=h;rw[show _=_ from e];exact⟨_,[],rfl,rfl,rfl⟩
 | .string _,_,h=>by have e:=h;rw[show _=_ from e];exact⟨_,[],rfl,rfl,rfl⟩
 | .pointer none,_,h=>by have e:=h;rw[show _=_ from e];exact⟨_,[],rfl,rfl,rfl⟩
 | .pointer (some _),_,⟨l,a,b,e⟩=>by subst e;exact⟨_,[],rfl,⟨l,a,b,rfl⟩,rfl⟩
 | .slice none _ _,_,⟨a,b,e⟩=>by subst e;exact⟨_,[],rfl,⟨a,b,rfl⟩,rfl⟩
 | .slice (some _) _ _,_,⟨l,j,c,a,b,e,r⟩=>by subst e;exact⟨_,[],rfl,⟨l,j,c,a,b,rfl,r⟩,rfl⟩
 | .map none,_,h=>by have e:=h;rw[show _=_ from e];exact⟨_,[],rfl,rfl,rfl⟩
 | .map (some _),_,⟨l,a,e⟩=>by subst e;exact⟨_,[],rfl,⟨l,a,rfl⟩,rfl⟩
 | .func _ ⟨_⟩ ⟨_⟩,_,⟨g,i,e,r,s⟩=>by subst e;exact⟨_,[],rfl,⟨g,i,rfl,r,s⟩,rfl⟩
 | .nilFunc,_,h=>by have e:=h;rw[show _=_ from e];exact⟨_,[],rfl,rfl,rfl⟩
 | .iface _ _,_,⟨u,e,r⟩=>by subst e;exact⟨_,[],rfl,⟨u,rfl,r⟩,rfl⟩
 | .nilIface,_,h=>by have e:=h;rw[show _=_ from e];exact⟨_,[],rfl,rfl,rfl⟩
 | .agg ⟨_⟩,_,⟨f,e,r⟩=>by subst e;exact r
 | .tuple ⟨_⟩,_,⟨f,e,r⟩=>by subst e;exact⟨_,[],rfl,⟨f,rfl,r⟩,rfl⟩
def one:Value->Bool
 | .agg _=>false
 | .tuple _=>false
 | _=>true
theorem aV.one{σ:bG}:∀{v v':Value},aV σ v v'->one v=true->v'.oneCell'=true
 | .bool _,_,h,_=>by rw[show _=_ from h];rfl
 | .int _ _,_,h,_=>by rw[show _=_ from h];rfl
 | .float _ _,_,h,_=>by rw[show _=_ from h];rfl
 | .complex _ _ _,_,h,_=>by rw[show _=_ from h];rfl
 | .string _,_,h,_=>by rw[show _=_ from h];rfl
 | .pointer none,_,h,_=>by rw[show _=_ from h];rfl
 | .pointer (some _),_,⟨l,a,b,e⟩,_=>by subst e;rfl
 | .slice none _ _,_,⟨a,b,e⟩,_=>by subst e;rfl
 | .slice (some _) _ _,_,⟨l,i,c,a,b,e,r⟩,_=>by subst e;rfl
 | .map none,_,h,_=>by rw[show _=_ from h];rfl
 | .map (some _),_,⟨l,a,e⟩,_=>by subst e;rfl
 | .func _ ⟨_⟩ ⟨_⟩,_,⟨f,g,e,r,s⟩,_=>by subst e;rfl
 | .nilFunc,_,h,_=>by rw[show _=_ from h];rfl
 | .iface _ _,_,⟨u,e,r⟩,_=>by subst e;rfl
 | .nilIface,_,h,_=>by rw[show _=_ from h];rfl
 | .agg _,_,_,h=>by cases h
 | .tuple _,_,_,h=>by cases h
end Go.Abs
/-
 The abstract machine: a deterministic evaluator of the model's code,without tape,capacities and orders.
-/
namespace Go.Abs
structure Ctx where
 info:TypeId->Option TypeInfo
 func:FuncId->Option Func
 /-- how many package variables are known to lie where the model lays them -/
 cM:Nat
 /-- struct types that are compared field by field -/
 flat:TypeId->Bool
 /-- functions without parameters that are known to return true, and the blocks that must stand -/
 fact:FuncId->Option (List (Nat×aC)):=λ_=>none
def Ctx.g9(C:Ctx)(t:TypeId):Option TypeDesc:=
 match C.info t with
 | some i=>match i.desc with
  | .named _ u=>(C.info u).map (·.desc)
  | d=>some d
 | none=>none
def Ctx.size(C:Ctx)(t:TypeId):Option Nat:=(C.info t).map (·.size)
def Ctx.bytes(C:Ctx)(t:TypeId):Option Nat:=(C.info t).map (·.bytes)
def Ctx.zero(C:Ctx)(t:TypeId):Option Value:=
 match C.info t with
 | some i=>match i.zero with
  | some z=>bif plain z&&z.cells.size==i.size then some z else none
  | none=>none
 | none=>none
def uX:TypeDesc->Bool
 | .struct _=>true
 | .array _ _=>true
 | _=>false
def bp(cs:List Value)(off:Nat)(vs:List Value):List Value:=cs.take off++(vs++cs.drop (off+vs.length))
def bE(cs:List Value)(off n:Nat):Option (List Value):=
 let l:=(cs.drop off).take n
 bif l.length==n then some l else none
def eW(h:au)(b:Nat):Option (List Value):=
 match h.get b with
 | some (.cells _ cs)=>some cs
 | _=>none
def fL(C:Ctx)(cs:List Value)(t:TypeId)(off:Nat):Option Value:=
 match C.g9 t with
 | none=>none
 | some d=>bif uX d then
   match C.size t with
   | some n=>(bE cs off n).map λl=>.agg ⟨l⟩
   | none=>none
  else cs[off]?
def jU(C:Ctx)(h:au)(t:TypeId):Value->Option Value
 | .pointer (some ⟨b,off,none⟩)=>match eW h b with
  | some cs=>fL C cs t off
  | none=>none
 | _=>none
def mW(C:Ctx)(h:au)(t:TypeId)(p v:Value):Option au:=
 match p with
 | .pointer (some ⟨b,off,none⟩)=>
  match h.get b,C.size t with
  | some (.cells false cs),some n=>
   let vs:=v.cells.toList
   bif vs.length==n&&vs.all one&&Nat.ble (off+n) cs.length then some (h.put b (some (.cells false (bp cs off vs)))) else none
  | _,_=>none
 | _=>none
def lZ(place:Nat->Option (Nat×Nat)):List Value->List (Nat×Value)->Option (List Value)
 | cs,[]=>some cs
 | cs,(i,v)::rest=>
  match place i with
  | none=>none
  | some (off,size)=>
   let vs:=v.cells.toList
   bif vs.length==size&&Nat.ble (off+size) cs.length then lZ place (bp cs off vs) rest else none
def dy(z:List Value):Nat->List Value
 | 0=>[]
 | n+1=>z++dy z n
def places(C:Ctx):List Field->Option (List (Nat×Nat))
 | []=>some []
 | f::g=>match C.size f.type,places C g with
  | some n,some r=>some ((f.offset,n)::r)
  | _,_=>none
def tV(C:Ctx)(t:TypeId)(parts:List (Nat×Value)):Option Value:=
 match C.zero t,C.g9 t with
 | some z,some (.struct fields)=>match places C fields.toList with
  | some ps=>(lZ (λi=>ps[i]?) z.cells.toList parts).map λcs=>.agg ⟨cs⟩
  | none=>none
 | some z,some (.array _ e)=>match C.size e with
  | some n=>(lZ (λi=>some (i*n,n)) z.cells.toList parts).map λcs=>.agg ⟨cs⟩
  | none=>none
 | _,_=>none
def eI(C:Ctx)(h:au)(t:TypeId)(len:Nat)(parts:List (Nat×Value)):Option (Value×au):=
 match C.g9 t with
 | some (.slice e)=>match C.size e,C.zero e with
  | some n,some z=>
   bif Nat.ble (len*n) 16777216&&Nat.blt 0 n then
    match lZ (λi=>some (i*n,n)) (dy z.cells.toList len) parts with
    | some cs=>some (.slice (some ⟨h.next,0,none⟩) len (bif len==0 then 0 else n),h.alloc (.cells false cs))
    | none=>none
   else none
  | _,_=>none
 | _=>none
def dO(op:BinOp)(k:IntKind)(a b:Int):Option Value:=
 match op with
 | .add=>some (.int k (k.wrap (a+b)))
 | .sub=>some (.int k (k.wrap (a-b)))
 | .mul=>some (.int k (k.wrap (a*b)))
 | .quo=>if b=0 then none else some (.int k (k.wrap (a.tdiv b)))
 | .rem=>if b=0 then none else some (.int k (a.tmod b))
 | .and=>some (.int k (k.wrap (BitVec.ofInt k.bits a &&& BitVec.ofInt k.bits b).toNat))
 | .or=>some (.int k (k.wrap (BitVec.ofInt k.bits a ||| BitVec.ofInt k.bits b).toNat))
 | .xor=>some (.int k (k.wrap (BitVec.ofInt k.bits a ^^^ BitVec.ofInt k.bits b).toNat))
 | .andNot=>some (.int k (k.wrap (BitVec.ofInt k.bits a &&& ~~~BitVec.ofInt k.bits b).toNat))
 | .eql=>some (.bool (a==b))
 | .neq=>some (.bool (a != b))
 | .lss=>some (.bool (decide (a<b)))
 | .leq=>some (.bool (decide (a<=b)))
 | .gtr=>some (.bool (decide (a > b)))
 | .geq=>some (.bool (decide (a≥b)))
 | _=>none
def jO(op:BinOp)(k:IntKind)(x y:Int):Option Value:=
 if y<0 then none else
 match op with
 | .shl=>some (.int k (k.wrap (x*2 ^ (min y.toNat k.bits))))
 | .shr=>some (.int k (x.fdiv (2 ^ (min y.toNat k.bits))))
 | _=>none
def rk:TypeDesc->Bool
 | .bool=>true
 | .int _=>true
 | .string=>true
 | .pointer _=>true
 | _=>false
def fH(d:TypeDesc)(x y:Value):Option Bool:=
 match d,x,y with
 | .bool,.bool a,.bool b=>some (a==b)
 | .int _,.int k a,.int k' b=>if k=k' then some (a==b) else none
 | .string,.string a,.string b=>some (a==b)
 | .pointer _,.pointer none,.pointer none=>some true
 | _,_,_=>none
def eqFields(C:Ctx)(eq:TypeId->Value->Value->Option Bool):List Field->List Value->List Value->Option Bool
 | [],_,_=>some true
 | f::g,xs,ys=>
  match fL C xs f.type f.offset,fL C ys f.type f.offset with
  | some a,some b=>match eq f.type a b with
   | some true=>eqFields C eq g xs ys
   | r=>r
  | _,_=>none
def ng(C:Ctx)(eq:Value->Value->Option Bool)(e s:Nat)(xs ys:List Value):List Nat->Option Bool
 | []=>some true
 | i::is=>
  match fL C xs e (i*s),fL C ys e (i*s) with
  | some a,some b=>match eq a b with
   | some true=>ng C eq e s xs ys is
   | r=>r
  | _,_=>none
def qv(C:Ctx):Nat->TypeId->Value->Value->Option Bool
 | 0,_,_,_=>none
 | n+1,t,x,y=>
  match C.g9 t,x,y with
  | some (.struct f),.agg xs,.agg ys=>bif C.flat t then eqFields C (qv C n) f.toList xs.toList ys.toList else none
  | some (.array len e),.agg xs,.agg ys=>match C.size e with
   | some s=>ng C (qv C n e) e s xs.toList ys.toList (List.range len)
   | none=>none
  | some d,x,y=>fH d x y
  | none,_,_=>none
def live(h:au)(i:Nat):Bool:=
 match h.get i with
 | some (.cells false _)=>true
 | _=>false
def equalA(C:Ctx)(h:au)(t:TypeId)(x y:Value):Option Bool:=
 match C.g9 t,x,y with
 | some (.pointer _),.pointer none,.pointer b=>some b.isNone
 | some (.pointer _),.pointer (some _),.pointer none=>some false
 | some (.pointer e),.pointer (some ⟨a,i,none⟩),.pointer (some ⟨b,j,none⟩)=>
  match C.size e with
  | some n=>bif n==0 then none else bif a==b then some (i==j) else bif live h a&&live h b then some false else none
  | none=>none
 | some (.interface _),.nilIface,.nilIface=>some true
 | some (.interface _),.nilIface,.iface _ _=>some false
 | some (.interface _),.iface _ _,.nilIface=>some false
 | some (.slice _),.slice none _ _,.slice b _ _=>some b.isNone
 | some (.slice _),.slice (some _) _ _,.slice none _ _=>some false
 | some (.map _ _),.map none,.map b=>some b.isNone
 | some (.map _ _),.map (some _),.map none=>some false
 | some (.func _ _ _),.nilFunc,.nilFunc=>some true
 | some (.func _ _ _),.nilFunc,.func _ _ _=>some false
 | some (.func _ _ _),.func _ _ _,.nilFunc=>some false
 | _,_,_=>qv C 8 t x y
def mR(op:BinOp)(a b:ByteArray):Option Value:=
 match op with
 | .add=>bif Nat.ble (a.size+b.size) 9223372036854775807 then some (.string (a++b)) else none
 | .eql=>some (.bool (a.toList==b.toList))
 | .neq=>some (.bool !(a.toList==b.toList))
 | _=>none
def iT(C:Ctx)(t:TypeId)(x y:Operand)(a b:Value):Bool:=
 match a,b with
 | .nilIface,.nilIface=>(match x with | .const _=>true | _=>match y with | .const _=>true | _=>false)
 | .agg _,.agg _=>C.flat t
 | _,_=>true
def jL(C:Ctx)(h:au)(op:BinOp)(t:TypeId)(f g:Operand)(x y:Value):Option Value:=
 match op,x,y with
 | .shl,.int k a,.int _ b=>jO .shl k a b
 | .shr,.int k a,.int _ b=>jO .shr k a b
 | op,.int k a,.int k' b=>if k=k' then dO op k a b else none
 | op,.string a,.string b=>mR op a b
 | .eql,x,y=>bif iT C t f g x y then (equalA C h t x y).map λb=>.bool b else none
 | .neq,x,y=>bif iT C t f g x y then (equalA C h t x y).map λb=>.bool !b else none
 | _,_,_=>none
def Qf(op:UnOp)(x:Value):Option Value:=
 match op,x with
 | .neg,.int k n=>some (.int k (k.wrap (0-n)))
 | .xor,.int k n=>some (.int k (k.wrap (BitVec.ofInt k.bits (if k.signed then -1 else k.max) ^^^ BitVec.ofInt k.bits n).toNat))
 | .not,.bool b=>some (.bool !b)
 | _,_=>none
def yX(C:Ctx)(src dst:TypeId)(x:Value):Option Value:=
 match C.g9 src,C.g9 dst,x with
 | some _,some (.int k),.int _ n=>some (.int k (k.wrap n))
 | _,_,_=>none
def jh(C:Ctx)(t:TypeId)(x i:Value):Option Value:=
 match C.g9 t,x,i with
 | some (.slice e),.slice (some ⟨b,off,none⟩) len _,.int _ n=>
  match C.size e with
  | some s=>if 0<=n/\n<len then some (.pointer (some ⟨b,off+n.toNat*s,none⟩)) else none
  | none=>none
 | some (.array len e),.pointer (some ⟨b,off,none⟩),.int _ n=>
  match C.size e with
  | some s=>if 0<=n/\n<len then some (.pointer (some ⟨b,off+n.toNat*s,none⟩)) else none
  | none=>none
 | _,_,_=>none
def kE(C:Ctx)(t:TypeId)(x:Value)(f:Nat):Option Value:=
 match C.g9 t,x with
 | some (.struct g),.pointer (some ⟨b,off,none⟩)=>match g.toList[f]? with
  | some fd=>match C.size fd.type with
   | some n=>bif n==0 then none else some (.pointer (some ⟨b,off+fd.offset,none⟩))
   | none=>none
  | none=>none
 | _,_=>none
def xD(C:Ctx)(t:TypeId)(x:Value)(f:Nat):Option Value:=
 match C.g9 t,x with
 | some (.struct g),.agg cs=>match g.toList[f]? with
  | some fd=>fL C cs.toList fd.type fd.offset
  | none=>none
 | _,_=>none
def Cb(C:Ctx)(t:TypeId)(x i:Value):Option Value:=
 match C.g9 t,x,i with
 | some (.array len e),.agg cs,.int _ n=>match C.size e with
  | some s=>if 0<=n/\n<len then fL C cs.toList e (n.toNat*s) else none
  | none=>none
 | some .string,.string s,.int _ n=>if 0<=n then (s.data.toList[n.toNat]?).map λb=>.int .u8 b.toNat else none
 | _,_,_=>none
def dc(v:Option Value)(f:Nat):Option Nat:=
 match v with
 | none=>some f
 | some (.int _ n)=>if 0<=n then some n.toNat else none
 | _=>none
def gO(C:Ctx)(h:au)(t:TypeId)(x:Value)(lo hi f:Option Value):Option Value:=
 match C.g9 t,x with
 | some (.slice e),.slice none _ _=>
  match C.size e,dc lo 0,dc hi 0,dc f 0 with
  | some _,some 0,some 0,some 0=>bif f.isSome&&hi.isNone then none else some (.slice none 0 0)
  | _,_,_,_=>none
 | some (.slice e),.slice (some ⟨b,off,none⟩) len c=>
  match C.size e,dc lo 0,dc hi len,f with
  | some s,some l,some u,none=>
   bif Nat.ble l u&&Nat.ble u len&&(c==0||c==s) then some (.slice (some ⟨b,off+l*s,none⟩) (u-l) c) else none
  | some s,some l,some u,some _=>match dc f 0 with
   | some m=>bif hi.isSome&&Nat.ble l u&&Nat.ble u m&&Nat.ble m len&&(c==0||c==s) then
     some (.slice (some ⟨b,off+l*s,none⟩) (u-l) (bif m==l then 0 else c)) else none
   | none=>none
  | _,_,_,_=>none
 | some (.array n e),.pointer (some ⟨b,off,none⟩)=>
  match C.size e,dc lo 0,dc hi n,f,eW h b with
  | some s,some l,some u,none,some cs=>
   bif Nat.ble l u&&Nat.ble u n&&Nat.blt 0 s&&Nat.ble (off+n*s) cs.length then some (.slice (some ⟨b,off+l*s,none⟩) (u-l) (bif n==l then 0 else s)) else none
  | _,_,_,_,_=>none
 | some .string,.string s=>
  match dc lo 0,dc hi s.size,f with
  | some l,some u,none=>bif Nat.ble l u&&Nat.ble u s.size then some (.string (s.extract l u)) else none
  | _,_,_=>none
 | _,_=>none
def bX:Value->Bool
 | .tuple _=>true
 | _=>false
def alive:List (Value×Value)->List (Value×Value)
 | []=>[]
 | (k,v)::es=>bif bX k then alive es else (k,v)::alive es
def stamps:Nat->List (Value×Value)->List Nat
 | _,[]=>[]
 | n,(k,_)::es=>bif bX k then stamps (n+1) es else n::stamps (n+1) es
def aJ(x:Value×Value):List (Value×Value)->Nat->List (Value×Value)
 | [],_=>[]
 | (k,v)::es,0=>bif bX k then (k,v)::aJ x es 0 else x::es
 | (k,v)::es,j+1=>bif bX k then (k,v)::aJ x es (j+1) else (k,v)::aJ x es j
def zX(C:Ctx)(h:au)(t:TypeId)(x:Value):Option Value:=
 match C.g9 t,x with
 | some .string,.string s=>some (.int .i64 s.size)
 | some (.array n _),_=>some (.int .i64 n)
 | some (.slice _),.slice _ n _=>some (.int .i64 n)
 | some (.map _ _),.map none=>some (.int .i64 0)
 | some (.map _ _),.map (some r)=>match h.get r with
  | some (.map es)=>some (.int .i64 (alive es).length)
  | _=>none
 | _,_=>none
def MC(C:Ctx)(t:TypeId)(x:Value):Option Value:=
 match C.g9 t,x with
 | some (.array n _),_=>some (.int .i64 n)
 | some (.slice _),.slice none _ _=>some (.int .i64 0)
 | some (.slice _),.slice (some _) _ 0=>some (.int .i64 0)
 | _,_=>none
def eg(h:au)(s n:Nat):Value->Option (List Value)
 | .slice none _ _=>some []
 | .slice (some ⟨b,off,none⟩) _ _=>bif n==0 then some [] else match eW h b with
  | some cs=>bE cs off (n*s)
  | none=>none
 | .string x=>some ((x.extract 0 n).data.toList.map λb=>.int .u8 b.toNat)
 | _=>none
def gP:Value->Option Nat
 | .slice _ n _=>some n
 | .string s=>some s.size
 | _=>none
def cS(h:au)(s:Nat)(x:Value):Option (Nat×List Value):=
 match gP x with
 | some n=>(eg h s n x).map λl=>(n,l)
 | none=>none
def fV(C:Ctx)(h:au)(e:TypeId)(s:Nat)(f:Option TypeId)(x:Value):Option (Nat×List Value):=
 match f with
 | none=>cS h s x
 | some t=>match C.g9 t with
  | none=>none
  | some (.int _)=>match x,C.zero e with
   | .int _ n,some z=>if 0<=n/\n<1000000 then some (n.toNat,dy z.cells.toList n.toNat) else none
   | _,_=>none
  | some _=>cS h s x
def dP(C:Ctx)(h:au)(t:TypeId)(g:Option TypeId)(s x:Value):Option (Value×au):=
 match C.g9 t,s with
 | some (.slice e),.slice base len c=>match C.size e,C.zero e,C.bytes e with
  | some f,some _,some by_=>match fV C h e f g x with
   | some (n,new)=>
    bif !(new.length==n*f&&new.all one&&Nat.blt 0 f&&Nat.blt 0 by_&&Nat.ble ((len+n)*by_) 140737488355328) then none else
    bif n==0 then some (s,h) else
    match base with
    | none=>some (.slice (some ⟨h.next,0,none⟩) n f,h.alloc (.cells false new))
    | some ⟨b,off,none⟩=>
     bif c==0 then (bif len==0 then some (.slice (some ⟨h.next,0,none⟩) n f,h.alloc (.cells false new)) else none) else
     bif !(c==f) then none else
     match h.get b with
     | some (.cells false cs)=>match bE cs off (len*f) with
      | some cU=>some (.slice (some ⟨h.next,0,none⟩) (len+n) f,(h.put b none).alloc (.cells false (cU++new)))
      | none=>none
     | _=>none
    | _=>none
   | none=>none
  | _,_,_=>none
 | _,_=>none
def vw(C:Ctx)(h:au)(t:TypeId)(d x:Value):Option (Value×au):=
 match C.g9 t,d,gP x with
 | some (.slice e),.slice base dl _,some n=>match C.size e with
  | some s=>match eg h s (Nat.min n dl) x with
   | some new=>bif !(new.all one) then none else
    match base with
    | none=>some (.int .i64 (Nat.min n dl),h)
    | some ⟨b,off,none⟩=>bif new.isEmpty then some (.int .i64 (Nat.min n dl),h) else match h.get b with
     | some (.cells false cs)=>bif Nat.ble (off+new.length) cs.length then
       some (.int .i64 (Nat.min n dl),h.put b (some (.cells false (bp cs off new)))) else none
     | _=>none
    | _=>none
   | none=>none
  | none=>none
 | _,_,_=>none
def kQ(C:Ctx)(h:au)(t:TypeId)(x:Value):Option au:=
 match C.g9 t,x with
 | some (.slice _),.slice none _ _=>some h
 | some (.slice _),.slice _ 0 _=>some h
 | some (.slice e),.slice (some ⟨b,off,none⟩) n _=>match C.zero e,h.get b with
  | some z,some (.cells false cs)=>
   let new:=dy z.cells.toList n
   bif new.all one&&Nat.ble (off+new.length) cs.length then some (h.put b (some (.cells false (bp cs off new)))) else none
  | _,_=>none
 | _,_=>none
def fI(C:Ctx)(h:au)(t:TypeId)(len cap:Value):Option (Value×au):=
 match C.g9 t,len,cap with
 | some (.slice e),.int _ l,.int _ c=>match C.size e,C.zero e,C.bytes e with
  | some s,some z,some by_=>
   if 0<=l/\l=c/\c<=281474976710656/\by_*c<=281474976710656/\0<s then
    some (.slice (some ⟨h.next,0,none⟩) l.toNat (bif l.toNat==0 then 0 else s),h.alloc (.cells false (dy z.cells.toList l.toNat)))
   else none
  | _,_,_=>none
 | _,_,_=>none
def km(C:Ctx)(ok:TypeId->Value->Bool):List Field->List Value->Bool
 | [],_=>true
 | f::g,cs=>(match fL C cs f.type f.offset with
  | some a=>ok f.type a
  | none=>false)&&km C ok g cs
def mj(C:Ctx)(ok:Value->Bool)(e s:Nat)(xs:List Value):List Nat->Bool
 | []=>true
 | i::is=>(match fL C xs e (i*s) with
  | some a=>ok a
  | none=>false)&&mj C ok e s xs is
def eA(C:Ctx):Nat->TypeId->Value->Bool
 | 0,_,_=>false
 | n+1,t,v=>
  match C.g9 t,v with
  | some (.struct f),.agg cs=>km C (eA C n) f.toList cs.toList
  | some (.array len e),.agg xs=>(match C.size e with
   | some s=>mj C (eA C n e) e s xs.toList (List.range len)
   | none=>false)
  | some d,v=>rk d&&!bX v
  | none,_=>false
def eZ(C:Ctx)(t:TypeId)(k:Value):List (Value×Value)->Nat->Option (Option (Nat×Value))
 | [],_=>some none
 | (k',v)::es,i=>match qv C 8 t k k' with
  | some true=>some (some (i,v))
  | some false=>eZ C t k es (i+1)
  | none=>none
def ed(h:au):Value->Option (List (Value×Value))
 | .map none=>some []
 | .map (some r)=>match h.get r with
  | some (.map es)=>some (alive es)
  | _=>none
 | _=>none
def fC(C:Ctx)(h:au)(t:TypeId)(x k:Value)(ok:Bool):Option Value:=
 match C.g9 t,ed h x with
 | some (.map f g),some es=>bif !eA C 8 f k then none else
  match eZ C f k es 0 with
  | some (some (_,v))=>some (bif ok then .tuple ⟨[v,.bool true]⟩ else v)
  | some none=>match C.zero g with
   | some z=>some (bif ok then .tuple ⟨[z,.bool false]⟩ else z)
   | none=>none
  | none=>none
 | _,_=>none
mutual
def bU:Value->Value->Bool
 | .bool a,.bool b=>a==b
 | .int k a,.int k' b=>k==k'&&a==b
 | .float k a,.float k' b=>k==k'&&a==b
 | .complex k a b,.complex k' i b'=>k==k'&&a==i&&b==b'
 | .string a,.string b=>a.data.toList==b.data.toList
 | .chan a,.chan b=>a==b
 | .pointer a,.pointer b=>a==b
 | .slice a n c,.slice i o p=>a==i&&n==o&&c==p
 | .map a,.map b=>a==b
 | .func f ⟨xs⟩ ⟨ys⟩,.func g ⟨j⟩ ⟨l⟩=>f==g&&iz xs j&&iz ys l
 | .nilFunc,.nilFunc=>true
 | .iface t v,.iface u w=>t==u&&bU v w
 | .nilIface,.nilIface=>true
 | .agg ⟨xs⟩,.agg ⟨ys⟩=>iz xs ys
 | .tuple ⟨xs⟩,.tuple ⟨ys⟩=>iz xs ys
 | _,_=>false
def iz:List Value->List Value->Bool
 | [],[]=>true
 | a::as,b::bs=>bU a b&&iz as bs
 | _,_=>false
end
def bW(C:Ctx)(h:au)(t:TypeId)(m k v:Value):Option au:=
 match C.g9 t,m with
 | some (.map f _),.map (some r)=>match h.get r with
  | some (.map es)=>bif !eA C 8 f k then none else
   match eZ C f k (alive es) 0 with
   | some (some (i,_))=>match (alive es)[i]? with
    | some (k2,_)=>bif bU k2 k then some (h.put r (some (.map (aJ (k,v) es i)))) else none
    | none=>none
   | some none=>some (h.put r (some (.map (es++[(k,v)]))))
   | none=>none
  | _=>none
 | _,_=>none
def cl:Value:=.tuple ⟨[]⟩
def hZ(C:Ctx)(h:au)(t:TypeId)(m k:Value):Option au:=
 match C.g9 t,m with
 | some (.map f _),.map (some r)=>match h.get r with
  | some (.map es)=>bif !eA C 8 f k then none else
   match eZ C f k (alive es) 0 with
   | some (some (i,_))=>some (h.put r (some (.map (aJ (cl,cl) es i))))
   | some none=>some (h.put r (some (.map es)))
   | none=>none
  | _=>none
 | _,_=>none
def dI(C:Ctx)(h:au)(t:TypeId)(m k:Value):Option (Value×au):=
 match C.g9 t,m with
 | some (.map f g),.map (some r)=>match h.get r with
  | some (.map es)=>bif !eA C 8 f k then none else
   match eZ C f k (alive es) 0 with
   | some (some (i,v))=>match (alive es)[i]?,(stamps 0 es)[i]? with
    | some (k2,_),some n=>bif bU k2 k then some (.tuple ⟨[v,.int .i64 n]⟩,h) else none
    | _,_=>none
   | some none=>match C.zero g with
    | some z=>some (.tuple ⟨[z,.int .i64 es.length]⟩,h.put r (some (.map (es++[(k,z)]))))
    | none=>none
   | none=>none
  | _=>none
 | _,_=>none
def dg(h:au)(m s v:Value):Option au:=
 match m,s with
 | .map (some r),.int _ n=>match h.get r with
  | some (.map es)=>match (stamps 0 es).findIdx? (λ(b:Nat)=>decide ((b:Int)=n)) with
   | some j=>match (alive es)[j]? with
    | some (k,_)=>some (h.put r (some (.map (aJ (k,v) es j))))
    | none=>none
   | none=>none
  | _=>none
 | _,_=>none
def yw:TypeDesc->Bool
 | .interface _=>true
 | _=>false
def lG(C:Ctx)(x:Value)(t:TypeId)(ok:Bool):Option Value:=
 match C.g9 t with
 | none=>none
 | some d=>bif yw d then none else
  match x with
  | .iface f v=>bif Nat.beq f t then some (bif ok then .tuple ⟨[v,.bool true]⟩ else v) else
    bif ok then (C.zero t).map λz=>.tuple ⟨[z,.bool false]⟩ else none
  | .nilIface=>bif ok then (C.zero t).map λz=>.tuple ⟨[z,.bool false]⟩ else none
  | _=>none
def gI(C:Ctx)(h:au)(x:Value)(name:String):Option (FuncId×Value):=
 match x with
 | .iface t v=>match C.info t,C.g9 t with
  | some i,some d=>match i.methods.find? (·.name==name) with
   | some m=>bif m.path.isEmpty then
     match m.func,d with
     | some (f,true),.pointer _=>some (f,v)
     | some (f,false),.pointer e=>(jU C h e v).map λx=>(f,x)
     | _,_=>none
    else none
   | none=>none
  | _,_=>none
 | _=>none
inductive qy where
 | val (v:Value) (h:au)
 | call (f:FuncId) (args:List Value)
def cZ(ρ:Operand->Option Value):List Operand->Option (List Value)
 | []=>some []
 | x::xs=>match ρ x,cZ ρ xs with
  | some v,some vs=>some (v::vs)
  | _,_=>none
def fw(ρ:Operand->Option Value):List (Nat×Operand)->Option (List (Nat×Value))
 | []=>some []
 | (i,x)::xs=>match ρ x,fw ρ xs with
  | some v,some vs=>some ((i,v)::vs)
  | _,_=>none
def lO(ρ:Operand->Option Value):Option Operand->Option (Option Value)
 | none=>some none
 | some x=>(ρ x).map some
def bD(C:Ctx)(h:au)(b:Builtin)(ts:List TypeId)(args:List Value):Option (Value×au):=
 match b,ts,args with
 | .len,t::_,[x]=>(zX C h t x).map λv=>(v,h)
 | .cap,t::_,[x]=>(MC C t x).map λv=>(v,h)
 | .append,t::ts,[s,x]=>dP C h t ts.head? s x
 | .copy,t::_,[d,x]=>vw C h t d x
 | .clear,t::_,[x]=>(kQ C h t x).map λh=>(cl,h)
 | .delete,t::_,[m,k]=>(hZ C h t m k).map λh=>(cl,h)
 | .min,_,[.int k a,.int _ b]=>some (.int k (if b<a then b else a),h)
 | .max,_,[.int k a,.int _ b]=>some (.int k (if b > a then b else a),h)
 | .min,_,[.int k a,.int _ b,.int _ c]=>
  let m:=if b<a then b else a
  some (.int k (if c<m then c else m),h)
 | _,_,_=>none
def kO(C:Ctx)(f:Value)(args:List Value):Option qy:=
 match f with
 | .func (.func i) first captured=>match C.func i with
  | some fn=>bif fn.body.isSome then some (.call i (first.toList++args++captured.toList)) else none
  | none=>none
 | _=>none
def aQ(C:Ctx)(ρ:Operand->Option Value)(h:au)(op:Op):Option qy:=
 let v (x:Option Value):Option qy:=x.map λv=>.val v h;let w (x:Option (Value×au)):Option qy:=x.map λr=>.val r.1 r.2;let u (x:Option au):Option qy:=x.map λh=>.val cl h
 match op with
 | .move x=>v (ρ x)
 | .assign x=>v (ρ x)
 | .pick c a b=>match ρ c with
  | some (.bool true)=>v (ρ a)
  | some (.bool false)=>v (ρ b)
  | _=>none
 | .alloc e=>match C.zero e with
  | some z=>some (.val (.pointer (some ⟨h.next,0,none⟩)) (h.alloc (.cells false z.cells.toList)))
  | none=>none
 | .box _ x=>match ρ x with
  | some y=>some (.val (.pointer (some ⟨h.next,0,none⟩)) (h.alloc (.cells false y.cells.toList)))
  | none=>none
 | .build t ps=>match fw ρ ps.toList with
  | some ps=>v (tV C t ps)
  | none=>none
 | .buildSlice t n ps=>match fw ρ ps.toList with
  | some ps=>w (eI C h t n ps)
  | none=>none
 | .load t a=>match ρ a with
  | some a=>v (jU C h t a)
  | none=>none
 | .store t a x=>match ρ a,ρ x with
  | some a,some x=>u (mW C h t a x)
  | _,_=>none
 | .nilCheck x=>match ρ x with
  | some (.pointer (some a))=>v (some (.pointer (some a)))
  | some (.func (.func f) xs ys)=>v (some (.func (.func f) xs ys))
  | _=>none
 | .binOp op t x y _=>match ρ x,ρ y with
  | some a,some b=>v (jL C h op t x y a b)
  | _,_=>none
 | .unOp op _ x=>match ρ x with
  | some a=>v (Qf op a)
  | none=>none
 | .convert s d x=>match ρ x with
  | some a=>v (yX C s d a)
  | none=>none
 | .makeInterface t x=>match ρ x,C.g9 t with
  | some a,some d=>match d with
   | .interface _=>none
   | _=>v (some (.iface t a))
  | _,_=>none
 | .makeFunc fn xs ys=>match cZ ρ xs.toList,cZ ρ ys.toList with
  | some a,some b=>v (some (.func fn ⟨a⟩ ⟨b⟩))
  | _,_=>none
 | .makeMap _ none=>some (.val (.map (some h.next)) (h.alloc (.map [])))
 | .makeSlice t l c=>match ρ l,ρ c with
  | some l,some c=>w (fI C h t l c)
  | _,_=>none
 | .slice t x lo hi g=>match ρ x,lO ρ lo,lO ρ hi,lO ρ g with
  | some x,some lo,some hi,some g=>v (gO C h t x lo hi g)
  | _,_,_,_=>none
 | .fieldAddr t x f=>match ρ x with
  | some x=>v (kE C t x f)
  | none=>none
 | .field t x f=>match ρ x with
  | some x=>v (xD C t x f)
  | none=>none
 | .indexAddr t x i=>match ρ x,ρ i with
  | some x,some i=>v (jh C t x i)
  | _,_=>none
 | .index t x i=>match ρ x,ρ i with
  | some x,some i=>v (Cb C t x i)
  | _,_=>none
 | .lookup t x k ok=>match ρ x,ρ k with
  | some x,some k=>v (fC C h t x k ok)
  | _,_=>none
 | .mapUpdate t m k x=>match ρ m,ρ k,ρ x with
  | some m,some k,some x=>u (bW C h t m k x)
  | _,_,_=>none
 | .insert t m k x=>match ρ m,ρ k,ρ x with
  | some m,some k,some x=>u (bW C h t m k x)
  | _,_,_=>none
 | .mapEntry t m k=>match ρ m,ρ k with
  | some m,some k=>w (dI C h t m k)
  | _,_=>none
 | .entryStore _ m s x=>match ρ m,ρ s,ρ x with
  | some m,some s,some x=>u (dg h m s x)
  | _,_,_=>none
 | .extract x i=>match ρ x with
  | some (.tuple vs)=>v (vs.toList[i]?)
  | _=>none
 | .typeAssert x _ t ok=>match ρ x with
  | some x=>v (lG C x t ok)
  | none=>none
 | .call c=>match c.callee with
  | .builtin b=>match cZ ρ c.args.toList with
   | some as=>w (bD C h b c.argTypes.toList as)
   | none=>none
  | .value f=>match ρ f,cZ ρ c.args.toList with
   | some f,some as=>kO C f as
   | _,_=>none
  | .invoke r name=>match ρ r,cZ ρ c.args.toList with
   | some x,some as=>match gI C h x name with
    | some (f,recv)=>match C.func f with
     | some fn=>bif fn.body.isSome then some (.call f (recv::as)) else none
     | none=>none
    | none=>none
   | _,_=>none
 | _=>none
structure Env where
 n:Nat
 t:T Value
def Env.get(e:Env)(i:Nat):Option Value:=e.t.get i
def Env.put(e:Env)(d:Option Tmp)(v:Value):Env:=
 match d with
 | none=>e
 | some d=>bif Nat.blt d e.n then { n:=e.n,t:=e.t.set d (some v) } else e
def Env.eval(C:Ctx)(e:Env):Operand->Option Value
 | .tmp i=>e.get i
 | .const v=>bif plain v then some v else none
 | .global g=>bif Nat.blt g C.cM then some (.pointer (some ⟨g,0,none⟩)) else none
 | .func f=>some (.func (.func f) #[] #[])
def qA(ops:List Oper)(e:Env)(o:Oper):Option Bool:=
 match o.guard with
 | none=>some true
 | some (j,want)=>match (ops[j]?).bind (·.dst) with
  | none=>some false
  | some d=>match e.get d with
   | some (.bool b)=>some (b==want)
   | some (.tuple ⟨[]⟩)=>some false
   | _=>none
abbrev rJ:=FuncId->List Value->au->Option (Value×au)
def dj(C:Ctx)(cal:rJ)(ops:List Oper)(o:Oper)(e:Env)(h:au):Option (Env×au):=
 match qA ops e o with
 | none=>none
 | some false=>some (e.put o.dst cl,h)
 | some true=>match aQ C (e.eval C) h o.op with
  | none=>none
  | some (.val v h)=>some (e.put o.dst v,h)
  | some (.call f args)=>match cal f args h with
   | none=>none
   | some (v,h)=>some (e.put o.dst v,h)
def uh(C:Ctx)(cal:rJ)(ops:List Oper):List Oper->Env->au->Option (Env×au)
 | [],e,h=>some (e,h)
 | o::rest,e,h=>match dj C cal ops o e h with
  | none=>none
  | some (e,h)=>uh C cal ops rest e h
def bB(f:List Nat)(o:Oper):Nat:=
 o.after.toList.foldl (λs x=>bif Region.binds .any x then s ||| 2 ^ x.on ||| (f[x.on]?).getD 0 else s) 0
def bA(f:List Nat):List Oper->List Nat
 | []=>f
 | o::os=>bA (f++[bB f o]) os
def sQ:Op->Bool
 | .alloc _=>true
 | .box _ _=>true
 | .buildSlice _ _ _=>true
 | .makeMap _ _=>true
 | .makeSlice _ _ _=>true
 | _=>false
def cd:Op->Bool
 | .move _=>true
 | .assign _=>true
 | .pick _ _ _=>true
 | .build _ _=>true
 | .load _ _=>true
 | .nilCheck _=>true
 | .binOp _ _ _ _ _=>true
 | .unOp _ _ _=>true
 | .convert _ _ _=>true
 | .makeInterface _ _=>true
 | .makeFunc _ _ _=>true
 | .slice _ _ _ _ _=>true
 | .fieldAddr _ _ _=>true
 | .field _ _ _=>true
 | .indexAddr _ _ _=>true
 | .index _ _ _=>true
 | .lookup _ _ _ _=>true
 | .extract _ _=>true
 | .typeAssert _ _ _ _=>true
 | .call c=>match c.callee with
  | .builtin .len=>true
  | .builtin .cap=>true
  | .builtin .min=>true
  | .builtin .max=>true
  | _=>false
 | _=>false
def ia:Op->Bool
 | .store _ _ _=>true
 | _=>false
def fU(o:Op):Bool:=!sQ o&&!cd o&&!ia o
def tmpsOf(ops:List Oper)(o:Oper):List Tmp:=
 (o.op.operands.toList.filterMap λx=>match x with | .tmp t=>some t | _=>none)++
  (match o.guard with
   | some (j,_)=>(match (ops[j]?).bind (·.dst) with | some d=>[d] | none=>[])
   | none=>[])
def kS(ops:List Oper)(a b:Oper):Bool:=
 (match a.dst with
  | some d=>!(tmpsOf ops b).contains d&&!(b.dst==some d)
  | none=>true) &&
 (match b.dst with
  | some d=>!(tmpsOf ops a).contains d
  | none=>true) &&
 !(fU b.op&&!cd a.op)&&!(fU a.op&&ia b.op)
def o6(ops:List Oper)(f:List Nat):List Oper->Nat->Bool
 | [],_=>true
 | b::rest,j=>
  (let m:=(f[j]?).getD 0
   let rec inner:List Oper->Nat->Bool
     | [],_=>true
     | a::as,i=>bif Nat.ble j i then true else (m.testBit i||kS ops a b)&&inner as (i+1)
   inner ops 0)&&o6 ops f rest (j+1)
def lp:List Oper->Nat->Bool
 | [],_=>true
 | o::os,i=>(o.after.toList.all λx=>!Region.binds .any x||Nat.blt x.on i) &&
   (match o.guard with | some (j,_)=>(o.after.toList.any λx=>x.on==j&&Region.binds .any x) | none=>true)&&lp os (i+1)
def n6(ops:List Oper):Bool:=lp ops 0&&o6 ops (bA [] ops) ops 0
def bL(ρ:Operand->Option Value):Op->List Nat
 | .load _ a=>match ρ a with
  | some (.pointer (some a))=>[a.block]
  | _=>[]
 | .store _ a _=>match ρ a with
  | some (.pointer (some a))=>[a.block]
  | _=>[]
 | .slice _ a _ _ _=>match ρ a with
  | some (.pointer (some a))=>[a.block]
  | _=>[]
 | .lookup _ m _ _=>match ρ m with
  | some (.map (some r))=>[r]
  | _=>[]
 | .binOp _ _ x y _=>(match ρ x with | some (.pointer (some a))=>[a.block] | _=>[])++(match ρ y with | some (.pointer (some a))=>[a.block] | _=>[])
 | .call c=>match c.callee with
  | .builtin .len=>match c.args.toList with
   | x::_=>match ρ x with
    | some (.map (some r))=>[r]
    | _=>[]
   | _=>[]
  | _=>[]
 | _=>[]
def nY:List (Value×Value)->List (Value×Value)->Bool
 | [],[]=>true
 | (a,b)::x,(c,d)::y=>bU a c&&bU b d&&nY x y
 | _,_=>false
def kL:Option aC->Option aC->Bool
 | none,none=>true
 | some (.cells r xs),some (.cells s ys)=>r==s&&iz xs ys
 | some (.map xs),some (.map ys)=>nY xs ys
 | _,_=>false
def jV(C:Ctx)(ρ:Operand->Option Value)(h:au)(op:Op)(f:au):Bool:=
 match op with
 | .lookup _ _ _ _=>(match aQ C ρ h op,aQ C ρ f op with
  | some (.val v _),some (.val v2 _)=>bU v v2
  | _,_=>false)
 | _=>false
abbrev qt:=au×au×List Nat×(au->Bool)
def fz(C:Ctx)(cal:rJ)(ops:List Oper):List Oper->Env->au->Option (Env×au×List qt)
 | [],e,h=>some (e,h,[])
 | o::rest,e,h=>match dj C cal ops o e h with
  | none=>none
  | some (g,f)=>match fz C cal ops rest g f with
   | none=>none
   | some (i,j,l)=>some (i,j,(h,f,bL (e.eval C) o.op,jV C (e.eval C) h o.op)::l)
def cX(ops:List Oper)(f:List Nat)(tr:List qt):Bool:=
 let rec outer:List qt->Nat->Bool
  | [],_=>true
  | (_,_,look,l)::rest,i=>
   (match look with
    | []=>true
    | look=>
      let mi:=(f[i]?).getD 0;let rec inner:List Oper->List qt->Nat->Bool
        | o::os,(h,g,_,_)::tr,j=>
          (cd o.op||i==j||mi.testBit j||((f[j]?).getD 0).testBit i||(look.all λx=>kL (h.get x) (g.get x))||(Nat.blt i j&&l g))&&inner os tr (j+1)
        | _,_,_=>true
      inner ops tr 0)&&outer rest (i+1)
 outer tr 0
def jv(C:Ctx)(cal:rJ)(ops:List Oper)(draw:Bool)(e:Env)(h:au):Option (Env×au):=
 bif draw then
  match fz C cal ops ops e h with
  | none=>none
  | some (f,g,tr)=>bif n6 ops&&cX ops (bA [] ops) tr then some (f,g) else none
 else uh C cal ops ops e h
inductive Ex where
 | normal
 | exit (id:Nat)
 | ret
def lC(C:Ctx)(e:Env)(h:au):ResultVar->Option Value
 | .tmp t=>e.get t
 | .cell a t=>match e.get a with
  | some v=>jU C h t v
  | none=>none
def fQ(C:Ctx)(e:Env)(h:au):List ResultVar->Option (List Value)
 | []=>some []
 | r::rs=>match lC C e h r,fQ C e h rs with
  | some v,some vs=>some (v::vs)
  | _,_=>none
def fg:List Value->Value
 | [v]=>v
 | vs=>.tuple ⟨vs⟩
def nH(n:Nat)(args:List Value):Env:=
 let rec go:List Value->Nat->T Value->T Value
  | [],_,t=>t
  | v::vs,i,t=>go vs (i+1) (t.set i (some v))
 {n:=max n args.length,t:=go args 0 .e }
abbrev Jo:=Code->Env->au->Option (Ex×Env×au)
def eC(C:Ctx)(g:Jo):rJ:=λf args h=>
 match C.fact f with
 | some eN=>bif args.isEmpty&&eN.all (λp=>kL (h.get p.1) (some p.2)) then some (.bool true,h) else none
 | none=>match C.func f with
  | none=>none
  | some fn=>match fn.body with
   | none=>none
   | some c=>match g c (nH fn.ntmps args) h with
    | some (.exit _,_,_)=>none
    | some (_,e,h)=>match fQ C e h fn.results.toList with
     | some vs=>some (fg vs,h)
     | none=>none
    | none=>none
def aU(C:Ctx)(f:Jo):Jo:=λc e h=>
 match c with
 | .skip=>some (.normal,e,h)
 | .region _ ops draw=>match jv C (eC C f) ops.toList draw e h with
  | some (e,h)=>some (.normal,e,h)
  | none=>none
 | .seq a b=>match f a e h with
  | some (.normal,e,h)=>f b e h
  | r=>r
 | .cond x a b=>match (e.eval C) x with
  | some (.bool true)=>f a e h
  | some (.bool false)=>f b e h
  | _=>none
 | .block id a=>match f a e h with
  | some (.exit i,e,h)=>some (bif i==id then .normal else .exit i,e,h)
  | r=>r
 | .loop a=>match f a e h with
  | some (.normal,e,h)=>f (.loop a) e h
  | r=>r
 | .exit id=>some (.exit id,e,h)
 | .ret=>some (.ret,e,h)
 | _=>none
def exec(C:Ctx):Nat->Jo
 | 0=>λ_ _ _=>none
 | n+1=>aU C (exec C n)
def call(C:Ctx)(n:Nat):rJ:=eC C (exec C n)
end Go.Abs