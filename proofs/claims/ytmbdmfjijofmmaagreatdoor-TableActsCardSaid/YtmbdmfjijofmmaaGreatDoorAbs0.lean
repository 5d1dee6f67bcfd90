/-
  An abstract machine for code that draws nothing and prints nothing: values, blocks, the evaluator.
-/
import Derived.Orders
import Derived.RowKit3
/-
 Tries,abstract blocks,abstract heaps,and how an abstract value stands for a value of the model.
-/
namespace Go.Abs
inductive T(α:Type) where
 | e:T α
 | n:T α→Option α→T α→T α
def T.get{α:Type}:T α→Nat→Option α
 | .e,_=>none
 | .n l v r,k=>match k with
  | 0=>v
  | k+1=>bif k % 2==0 then l.get (k / 2) else r.get (k / 2)
def T.setF{α:Type}:Nat→T α→Nat→Option α→T α
 | 0,t,_,_=>t
 | f+1,.e,k,v=>match k with
  | 0=>.n .e v .e
  | k+1=>bif k % 2==0 then .n (T.setF f .e (k / 2) v) none .e else .n .e none (T.setF f .e (k / 2) v)
 | f+1,.n l x r,k,v=>match k with
  | 0=>.n l v r
  | k+1=>bif k % 2==0 then .n (T.setF f l (k / 2) v) x r else .n l x (T.setF f r (k / 2) v)
def T.set{α:Type}(t:T α)(k:Nat)(v:Option α):T α:=T.setF (k+1) t k v
theorem T.get_e{α:Type}(k:Nat):(T.e:T α).get k=none:=rfl
theorem half_if{α:Type}{j k m:Nat}{x y:α}(h:k % 2=m)(h2:j % 2=m):(if j / 2=k / 2 then x else y)=if j=k then x else y:=by
 by_cases hj:j=k
 ·subst hj;simp
 ·rw[if_neg hj,if_neg (by omega)]
theorem T.get_setF{α:Type}:∀(f:Nat) (t:T α) (k j:Nat) (v:Option α),k<f→
  (T.setF f t k v).get j=if j=k then v else t.get j
 | 0,_,_,_,_,h=>absurd h (Nat.not_lt_zero _)
 | f+1,.e,0,j,v,_=>by
  cases j with
  | zero=>simp[T.setF,T.get]
  | succ j=>simp[T.setF,T.get]
 | f+1,.e,k+1,0,v,_=>by
  cases h:(k % 2==0)<;>simp[T.setF,T.get,h]
 | f+1,.e,k+1,j+1,v,hk=>by
  have ih:=T.get_setF f (.e:T α) (k / 2) (j / 2) v (by omega);rw[T.get_e] at ih
  cases h:(k % 2==0)<;>cases h2:(j % 2==0)<;>simp at h h2<;>simp[T.setF,T.get,h,h2,ih]<;>
   (first | omega | exact half_if h h2)
 | f+1,.n l x r,0,j,v,_=>by
  cases j with
  | zero=>simp[T.setF,T.get]
  | succ j=>simp[T.setF,T.get]
 | f+1,.n l x r,k+1,0,v,_=>by
  cases h:(k % 2==0)<;>simp[T.setF,T.get,h]
 | f+1,.n l x r,k+1,j+1,v,hk=>by
  have ihl:=T.get_setF f l (k / 2) (j / 2) v (by omega);have ihr:=T.get_setF f r (k / 2) (j / 2) v (by omega)
  cases h:(k % 2==0)<;>cases h2:(j % 2==0)<;>simp at h h2<;>simp[T.setF,T.get,h,h2,ihl,ihr]<;>
   (first | omega | exact half_if h h2)
theorem T.get_set{α:Type}(t:T α)(k j:Nat)(v:Option α):(t.set k v).get j=if j=k then v else t.get j:=
 T.get_setF _ t k j v (Nat.lt_succ_self k)
theorem T.get_set_same{α:Type}(t:T α)(k:Nat)(v:Option α):(t.set k v).get k=v:=by rw[T.get_set,if_pos rfl]
theorem T.get_set_ne{α:Type}(t:T α)(k j:Nat)(v:Option α)(h:j≠k):(t.set k v).get j=t.get j:=by rw[T.get_set,if_neg h]
inductive Blk where
 | cells (ro:Bool) (cs:List Value)
 | map (es:List (Value×Value))
def Blk.ro:Blk→Bool
 | .cells ro _=>ro
 | .map _=>false
structure Heap where
 next:Nat
 t:T Blk
def Heap.get(h:Heap)(i:Nat):Option Blk:=h.t.get i
def Heap.put(h:Heap)(i:Nat)(b:Option Blk):Heap:={ next:=h.next,t:=h.t.set i b }
def Heap.alloc(h:Heap)(b:Blk):Heap:={ next:=h.next+1,t:=h.t.set h.next (some b) }
theorem Heap.get_put(h:Heap)(i j:Nat)(b:Option Blk):(h.put i b).get j=if j=i then b else h.get j:=T.get_set _ _ _ _
theorem Heap.get_alloc(h:Heap)(j:Nat)(b:Blk):(h.alloc b).get j=if j=h.next then some b else h.get j:=T.get_set _ _ _ _
@[simp] theorem Heap.next_put (h:Heap) (i:Nat) (b:Option Blk):(h.put i b).next=h.next:=rfl
@[simp] theorem Heap.next_alloc (h:Heap) (b:Blk):(h.alloc b).next=h.next+1:=rfl
structure Loc where
 blk:Nat
 off:Nat
 size:Nat
abbrev Sig:=Nat→Option Loc
mutual
def VRel(σ:Sig):Value→Value→Prop
 | .bool b,v'=>v'=.bool b
 | .int k n,v'=>v'=.int k n
 | .float k n,v'=>v'=.float k n
 | .complex k a b,v'=>v'=.complex k a b
 | .string s,v'=>v'=.string s
 | .pointer none,v'=>v'=.pointer none
 | .pointer (some a),v'=>∃l,σ a.block=some l∧a.spot=none∧v'=.pointer (some ⟨l.blk,l.off+a.off,none⟩)
 | .slice none len c,v'=>len=0∧c=0∧v'=.slice none 0 0
 | .slice (some a) len c,v'=>∃l a' cap,σ a.block=some l∧a.spot=none∧v'=.slice (some a') len cap∧len≤cap∧(c=0→cap=0)∧
   (cap≠0→a'=⟨l.blk,l.off+a.off,none⟩∧l.off+a.off+cap*c≤l.size)
 | .map none,v'=>v'=.map none
 | .map (some r),v'=>∃l,σ r=some l∧v'=.map (some l.blk)
 | .chan _,_=>False
 | .func fn ⟨xs⟩ ⟨ys⟩,v'=>∃xs' ys',v'=.func fn ⟨xs'⟩ ⟨ys'⟩∧VRels σ xs xs'∧VRels σ ys ys'
 | .nilFunc,v'=>v'=.nilFunc
 | .iface t v,v'=>∃u,v'=.iface t u∧VRel σ v u
 | .nilIface,v'=>v'=.nilIface
 | .agg ⟨cs⟩,v'=>∃cs',v'=.agg ⟨cs'⟩∧VRels σ cs cs'
 | .tuple ⟨cs⟩,v'=>∃cs',v'=.tuple ⟨cs'⟩∧VRels σ cs cs'
def VRels(σ:Sig):List Value→List Value→Prop
 | [],l=>l=[]
 | v::vs,l=>∃v' vs',l=v'::vs'∧VRel σ v v'∧VRels σ vs vs'
end
end Go.Abs
namespace Go.Abs
def Sig.le(σ τ:Sig):Prop:=∀i l,σ i=some l→τ i=some l
theorem Sig.le_refl(σ:Sig):Sig.le σ σ:=fun _ _ h=>h
mutual
theorem VRel.mono{σ τ:Sig}(h:Sig.le σ τ):∀{v v':Value},VRel σ v v'→VRel τ v v'
 | .bool _,_,r=>r
 | .int _ _,_,r=>r
 | .float _ _,_,r=>r
 | .complex _ _ _,_,r=>r
 | .string _,_,r=>r
 | .pointer none,_,r=>r
 | .pointer (some _),_,⟨l,a,r⟩=>⟨l,h _ _ a,r⟩
 | .slice none _ _,_,r=>r
 | .slice (some _) _ _,_,⟨l,a',c,e,r⟩=>⟨l,a',c,h _ _ e,r⟩
 | .map none,_,r=>r
 | .map (some _),_,⟨l,a,r⟩=>⟨l,h _ _ a,r⟩
 | .chan _,_,r=>r
 | .func _ ⟨_⟩ ⟨_⟩,_,⟨a,b,e,r,s⟩=>⟨a,b,e,VRels.mono h r,VRels.mono h s⟩
 | .nilFunc,_,r=>r
 | .iface _ _,_,⟨u,e,r⟩=>⟨u,e,VRel.mono h r⟩
 | .nilIface,_,r=>r
 | .agg ⟨_⟩,_,⟨c,e,r⟩=>⟨c,e,VRels.mono h r⟩
 | .tuple ⟨_⟩,_,⟨c,e,r⟩=>⟨c,e,VRels.mono h r⟩
theorem VRels.mono{σ τ:Sig}(h:Sig.le σ τ):∀{vs vs':List Value},VRels σ vs vs'→VRels τ vs vs'
 | [],_,r=>r
 | _::_,_,⟨a,b,e,r,s⟩=>⟨a,b,e,VRel.mono h r,VRels.mono h s⟩
end
theorem VRels.length{σ:Sig}:∀{vs vs':List Value},VRels σ vs vs'→vs'.length=vs.length
 | [],_,r=>by rw[show _=[] from r]
 | _::_,_,⟨_,_,e,_,s⟩=>by rw[e,List.length_cons,List.length_cons,VRels.length s]
theorem VRels.get{σ:Sig}:∀{vs vs':List Value},VRels σ vs vs'→∀(i:Nat) (v:Value),vs[i]?=some v→∃v',vs'[i]?=some v'∧VRel σ v v'
 | [],_,_,i,v,h=>by simp at h
 | x::_,_,⟨a,b,e,r,s⟩,i,v,h=>by
  subst e;cases i with
  | zero=>simp at h;subst h;exact⟨a,rfl,r⟩
  | succ i=>exact VRels.get s i v (by simpa using h)
theorem VRels.app{σ:Sig}:∀{xs xs' ys ys':List Value},VRels σ xs xs'→VRels σ ys ys'→VRels σ (xs++ys) (xs'++ys')
 | [],_,_,_,h,k=>by rw[show _=[] from h];exact k
 | _::_,_,_,_,⟨a,b,e,r,s⟩,k=>by subst e;exact⟨a,b++_,rfl,r,VRels.app s k⟩
theorem VRels.take{σ:Sig}:∀{xs xs':List Value} (n:Nat),VRels σ xs xs'→VRels σ (xs.take n) (xs'.take n)
 | _,_,0,_=>by simp[VRels]
 | [],_,_+1,h=>by rw[show _=[] from h];simp[VRels]
 | _::_,_,n+1,⟨a,b,e,r,s⟩=>by subst e;exact⟨a,b.take n,rfl,r,VRels.take n s⟩
theorem VRels.drop{σ:Sig}:∀{xs xs':List Value} (n:Nat),VRels σ xs xs'→VRels σ (xs.drop n) (xs'.drop n)
 | _,_,0,h=>by simpa using h
 | [],_,_+1,h=>by rw[show _=[] from h];simp[VRels]
 | _::_,_,n+1,⟨a,b,e,r,s⟩=>by subst e;simpa using VRels.drop n s
mutual
def plain:Value→Bool
 | .bool _=>true
 | .int _ _=>true
 | .float _ _=>true
 | .complex _ _ _=>true
 | .string _=>true
 | .pointer a=>a.isNone
 | .slice a n c=>a.isNone&&n==0&&c==0
 | .map r=>r.isNone
 | .chan _=>false
 | .func _ ⟨xs⟩ ⟨ys⟩=>plains xs&&plains ys
 | .nilFunc=>true
 | .iface _ v=>plain v
 | .nilIface=>true
 | .agg ⟨cs⟩=>plains cs
 | .tuple ⟨cs⟩=>plains cs
def plains:List Value→Bool
 | []=>true
 | v::vs=>plain v&&plains vs
end
mutual
theorem plain_rel(σ:Sig):∀(v:Value),plain v=true→VRel σ v v
 | .bool _,_=>rfl
 | .int _ _,_=>rfl
 | .float _ _,_=>rfl
 | .complex _ _ _,_=>rfl
 | .string _,_=>rfl
 | .pointer none,_=>rfl
 | .pointer (some _),h=>by simp[plain] at h
 | .slice none n c,h=>by
  simp[plain] at h;obtain⟨rfl,rfl⟩:=h;exact⟨rfl,rfl,rfl⟩
 | .slice (some _) _ _,h=>by simp[plain] at h
 | .map none,_=>rfl
 | .map (some _),h=>by simp[plain] at h
 | .chan _,h=>by simp[plain] at h
 | .func _ ⟨xs⟩ ⟨ys⟩,h=>by
  simp[plain] at h;exact⟨xs,ys,rfl,plains_rel σ xs h.1,plains_rel σ ys h.2⟩
 | .nilFunc,_=>rfl
 | .iface _ v,h=>⟨v,rfl,plain_rel σ v (by simpa [plain] using h)⟩
 | .nilIface,_=>rfl
 | .agg ⟨cs⟩,h=>⟨cs,rfl,plains_rel σ cs (by simpa [plain] using h)⟩
 | .tuple ⟨cs⟩,h=>⟨cs,rfl,plains_rel σ cs (by simpa [plain] using h)⟩
theorem plains_rel(σ:Sig):∀(vs:List Value),plains vs=true→VRels σ vs vs
 | [],_=>rfl
 | v::vs,h=>by
  simp[plains] at h;exact⟨v,vs,rfl,plain_rel σ v h.1,plains_rel σ vs h.2⟩
end
theorem VRel.cells{σ:Sig}:∀{v v':Value},VRel σ v v'→VRels σ v.cells.toList v'.cells.toList
 | .bool _,_,h=>by have e:=h;rw[show _=_ from e];exact⟨_,[],rfl,rfl,rfl⟩
 | .int _ _,_,h=>by have e:=h;rw[show _=_ from e];exact⟨_,[],rfl,rfl,rfl⟩
 | .float _ _,_,h=>by have e:=h;rw[show _=_ from e];exact⟨_,[],rfl,rfl,rfl⟩
 | .complex _ _ _,_,h=>by have e:=h;rw[show _=_ from e];exact⟨_,[],rfl,rfl,rfl⟩
 | .string _,_,h=>by have e:=h;rw[show _=_ from e];exact⟨_,[],rfl,rfl,rfl⟩
 | .pointer none,_,h=>by have e:=h;rw[show _=_ from e];exact⟨_,[],rfl,rfl,rfl⟩
 | .pointer (some _),_,⟨l,a,b,e⟩=>by subst e;exact⟨_,[],rfl,⟨l,a,b,rfl⟩,rfl⟩
 | .slice none _ _,_,⟨a,b,e⟩=>by subst e;exact⟨_,[],rfl,⟨a,b,rfl⟩,rfl⟩
 | .slice (some _) _ _,_,⟨l,a',c,a,b,e,r⟩=>by subst e;exact⟨_,[],rfl,⟨l,a',c,a,b,rfl,r⟩,rfl⟩
 | .map none,_,h=>by have e:=h;rw[show _=_ from e];exact⟨_,[],rfl,rfl,rfl⟩
 | .map (some _),_,⟨l,a,e⟩=>by subst e;exact⟨_,[],rfl,⟨l,a,rfl⟩,rfl⟩
 | .func _ ⟨_⟩ ⟨_⟩,_,⟨xs',ys',e,r,s⟩=>by subst e;exact⟨_,[],rfl,⟨xs',ys',rfl,r,s⟩,rfl⟩
 | .nilFunc,_,h=>by have e:=h;rw[show _=_ from e];exact⟨_,[],rfl,rfl,rfl⟩
 | .iface _ _,_,⟨u,e,r⟩=>by subst e;exact⟨_,[],rfl,⟨u,rfl,r⟩,rfl⟩
 | .nilIface,_,h=>by have e:=h;rw[show _=_ from e];exact⟨_,[],rfl,rfl,rfl⟩
 | .agg ⟨_⟩,_,⟨cs',e,r⟩=>by subst e;exact r
 | .tuple ⟨_⟩,_,⟨cs',e,r⟩=>by subst e;exact⟨_,[],rfl,⟨cs',rfl,r⟩,rfl⟩
def one:Value→Bool
 | .agg _=>false
 | .tuple _=>false
 | _=>true
theorem VRel.one{σ:Sig}:∀{v v':Value},VRel σ v v'→one v=true→v'.oneCell'=true
 | .bool _,_,h,_=>by rw[show _=_ from h];rfl
 | .int _ _,_,h,_=>by rw[show _=_ from h];rfl
 | .float _ _,_,h,_=>by rw[show _=_ from h];rfl
 | .complex _ _ _,_,h,_=>by rw[show _=_ from h];rfl
 | .string _,_,h,_=>by rw[show _=_ from h];rfl
 | .pointer none,_,h,_=>by rw[show _=_ from h];rfl
 | .pointer (some _),_,⟨l,a,b,e⟩,_=>by subst e;rfl
 | .slice none _ _,_,⟨a,b,e⟩,_=>by subst e;rfl
 | .slice (some _) _ _,_,⟨l,a',c,a,b,e,r⟩,_=>by subst e;rfl
 | .map none,_,h,_=>by rw[show _=_ from h];rfl
 | .map (some _),_,⟨l,a,e⟩,_=>by subst e;rfl
 | .func _ ⟨_⟩ ⟨_⟩,_,⟨xs',ys',e,r,s⟩,_=>by subst e;rfl
 | .nilFunc,_,h,_=>by rw[show _=_ from h];rfl
 | .iface _ _,_,⟨u,e,r⟩,_=>by subst e;rfl
 | .nilIface,_,h,_=>by rw[show _=_ from h];rfl
 | .agg _,_,_,h=>by cases h
 | .tuple _,_,_,h=>by cases h
end Go.Abs
/-
 The abstract machine: a deterministic evaluator of the model's code,without tape,capacities and orders.
-/
namespace Go.Abs
structure Ctx where
 info:TypeId→Option TypeInfo
 func:FuncId→Option Func
 /-- how many package variables are known to lie where the model lays them -/
 globs:Nat
 /-- struct types that are compared field by field -/
 flat:TypeId→Bool
 /-- functions without parameters that are known to return true, and the blocks that must stand -/
 fact:FuncId→Option (List (Nat×Blk)):=fun _=>none
def Ctx.und(C:Ctx)(t:TypeId):Option TypeDesc:=
 match C.info t with
 | some i=>match i.desc with
  | .named _ u=>(C.info u).map (·.desc)
  | d=>some d
 | none=>none
def Ctx.size(C:Ctx)(t:TypeId):Option Nat:=(C.info t).map (·.size)
def Ctx.bytes(C:Ctx)(t:TypeId):Option Nat:=(C.info t).map (·.bytes)
def Ctx.zero(C:Ctx)(t:TypeId):Option Value:=
 match C.info t with
 | some i=>match i.zero with
  | some z=>bif plain z&&z.cells.size==i.size then some z else none
  | none=>none
 | none=>none
def isAggD:TypeDesc→Bool
 | .struct _=>true
 | .array _ _=>true
 | _=>false
def spliceL(cs:List Value)(off:Nat)(vs:List Value):List Value:=cs.take off++(vs++cs.drop (off+vs.length))
def partL(cs:List Value)(off n:Nat):Option (List Value):=
 let l:=(cs.drop off).take n
 bif l.length==n then some l else none
def cellsAt(h:Heap)(b:Nat):Option (List Value):=
 match h.get b with
 | some (.cells _ cs)=>some cs
 | _=>none
def readA(C:Ctx)(cs:List Value)(t:TypeId)(off:Nat):Option Value:=
 match C.und t with
 | none=>none
 | some d=>bif isAggD d then
   match C.size t with
   | some n=>(partL cs off n).map fun l=>.agg ⟨l⟩
   | none=>none
  else cs[off]?
def loadA(C:Ctx)(h:Heap)(t:TypeId):Value→Option Value
 | .pointer (some ⟨b,off,none⟩)=>match cellsAt h b with
  | some cs=>readA C cs t off
  | none=>none
 | _=>none
def storeA(C:Ctx)(h:Heap)(t:TypeId)(p v:Value):Option Heap:=
 match p with
 | .pointer (some ⟨b,off,none⟩)=>
  match h.get b,C.size t with
  | some (.cells false cs),some n=>
   let vs:=v.cells.toList
   bif vs.length==n&&vs.all one&&Nat.ble (off+n) cs.length then some (h.put b (some (.cells false (spliceL cs off vs)))) else none
  | _,_=>none
 | _=>none
def fillL(place:Nat→Option (Nat×Nat)):List Value→List (Nat×Value)→Option (List Value)
 | cs,[]=>some cs
 | cs,(i,v)::rest=>
  match place i with
  | none=>none
  | some (off,size)=>
   let vs:=v.cells.toList
   bif vs.length==size&&Nat.ble (off+size) cs.length then fillL place (spliceL cs off vs) rest else none
def rowsL(z:List Value):Nat→List Value
 | 0=>[]
 | n+1=>z++rowsL z n
def places(C:Ctx):List Field→Option (List (Nat×Nat))
 | []=>some []
 | f::fs=>match C.size f.type,places C fs with
  | some n,some r=>some ((f.offset,n)::r)
  | _,_=>none
def buildA(C:Ctx)(t:TypeId)(parts:List (Nat×Value)):Option Value:=
 match C.zero t,C.und t with
 | some z,some (.struct fields)=>match places C fields.toList with
  | some ps=>(fillL (fun i=>ps[i]?) z.cells.toList parts).map fun cs=>.agg ⟨cs⟩
  | none=>none
 | some z,some (.array _ e)=>match C.size e with
  | some n=>(fillL (fun i=>some (i*n,n)) z.cells.toList parts).map fun cs=>.agg ⟨cs⟩
  | none=>none
 | _,_=>none
def buildSliceA(C:Ctx)(h:Heap)(t:TypeId)(len:Nat)(parts:List (Nat×Value)):Option (Value×Heap):=
 match C.und t with
 | some (.slice e)=>match C.size e,C.zero e with
  | some n,some z=>
   bif Nat.ble (len*n) 16777216&&Nat.blt 0 n then
    match fillL (fun i=>some (i*n,n)) (rowsL z.cells.toList len) parts with
    | some cs=>some (.slice (some ⟨h.next,0,none⟩) len (bif len==0 then 0 else n),h.alloc (.cells false cs))
    | none=>none
   else none
  | _,_=>none
 | _=>none
def intBinA(op:BinOp)(k:IntKind)(a b:Int):Option Value:=
 match op with
 | .add=>some (.int k (k.wrap (a+b)))
 | .sub=>some (.int k (k.wrap (a-b)))
 | .mul=>some (.int k (k.wrap (a*b)))
 | .quo=>if b=0 then none else some (.int k (k.wrap (a.tdiv b)))
 | .rem=>if b=0 then none else some (.int k (a.tmod b))
 | .and=>some (.int k (k.wrap (BitVec.ofInt k.bits a &&& BitVec.ofInt k.bits b).toNat))
 | .or=>some (.int k (k.wrap (BitVec.ofInt k.bits a ||| BitVec.ofInt k.bits b).toNat))
 | .xor=>some (.int k (k.wrap (BitVec.ofInt k.bits a ^^^ BitVec.ofInt k.bits b).toNat))
 | .andNot=>some (.int k (k.wrap (BitVec.ofInt k.bits a &&& ~~~BitVec.ofInt k.bits b).toNat))
 | .eql=>some (.bool (a==b))
 | .neq=>some (.bool (a != b))
 | .lss=>some (.bool (decide (a<b)))
 | .leq=>some (.bool (decide (a≤b)))
 | .gtr=>some (.bool (decide (a > b)))
 | .geq=>some (.bool (decide (a≥b)))
 | _=>none
def shiftA(op:BinOp)(k:IntKind)(x y:Int):Option Value:=
 if y<0 then none else
 match op with
 | .shl=>some (.int k (k.wrap (x*2 ^ (min y.toNat k.bits))))
 | .shr=>some (.int k (x.fdiv (2 ^ (min y.toNat k.bits))))
 | _=>none
def basicD:TypeDesc→Bool
 | .bool=>true
 | .int _=>true
 | .string=>true
 | .pointer _=>true
 | _=>false
def eqBasic(d:TypeDesc)(x y:Value):Option Bool:=
 match d,x,y with
 | .bool,.bool a,.bool b=>some (a==b)
 | .int _,.int k a,.int k' b=>if k=k' then some (a==b) else none
 | .string,.string a,.string b=>some (a==b)
 | .pointer _,.pointer none,.pointer none=>some true
 | _,_,_=>none
def eqFields(C:Ctx)(eq:TypeId→Value→Value→Option Bool):List Field→List Value→List Value→Option Bool
 | [],_,_=>some true
 | f::fs,xs,ys=>
  match readA C xs f.type f.offset,readA C ys f.type f.offset with
  | some a,some b=>match eq f.type a b with
   | some true=>eqFields C eq fs xs ys
   | r=>r
  | _,_=>none
def eqElems(C:Ctx)(eq:Value→Value→Option Bool)(e s:Nat)(xs ys:List Value):List Nat→Option Bool
 | []=>some true
 | i::is=>
  match readA C xs e (i*s),readA C ys e (i*s) with
  | some a,some b=>match eq a b with
   | some true=>eqElems C eq e s xs ys is
   | r=>r
  | _,_=>none
def eqA(C:Ctx):Nat→TypeId→Value→Value→Option Bool
 | 0,_,_,_=>none
 | n+1,t,x,y=>
  match C.und t,x,y with
  | some (.struct fs),.agg xs,.agg ys=>bif C.flat t then eqFields C (eqA C n) fs.toList xs.toList ys.toList else none
  | some (.array len e),.agg xs,.agg ys=>match C.size e with
   | some s=>eqElems C (eqA C n e) e s xs.toList ys.toList (List.range len)
   | none=>none
  | some d,x,y=>eqBasic d x y
  | none,_,_=>none
def live(h:Heap)(i:Nat):Bool:=
 match h.get i with
 | some (.cells false _)=>true
 | _=>false
def equalA(C:Ctx)(h:Heap)(t:TypeId)(x y:Value):Option Bool:=
 match C.und t,x,y with
 | some (.pointer _),.pointer none,.pointer b=>some b.isNone
 | some (.pointer _),.pointer (some _),.pointer none=>some false
 | some (.pointer e),.pointer (some ⟨a,i,none⟩),.pointer (some ⟨b,j,none⟩)=>
  match C.size e with
  | some n=>bif n==0 then none else bif a==b then some (i==j) else bif live h a&&live h b then some false else none
  | none=>none
 | some (.interface _),.nilIface,.nilIface=>some true
 | some (.interface _),.nilIface,.iface _ _=>some false
 | some (.interface _),.iface _ _,.nilIface=>some false
 | some (.slice _),.slice none _ _,.slice b _ _=>some b.isNone
 | some (.slice _),.slice (some _) _ _,.slice none _ _=>some false
 | some (.map _ _),.map none,.map b=>some b.isNone
 | some (.map _ _),.map (some _),.map none=>some false
 | some (.func _ _ _),.nilFunc,.nilFunc=>some true
 | some (.func _ _ _),.nilFunc,.func _ _ _=>some false
 | some (.func _ _ _),.func _ _ _,.nilFunc=>some false
 | _,_,_=>eqA C 8 t x y
def stringBinA(op:BinOp)(a b:ByteArray):Option Value:=
 match op with
 | .add=>bif Nat.ble (a.size+b.size) 9223372036854775807 then some (.string (a++b)) else none
 | .eql=>some (.bool (a.toList==b.toList))
 | .neq=>some (.bool !(a.toList==b.toList))
 | _=>none
def eqLets(C:Ctx)(t:TypeId)(x y:Operand)(a b:Value):Bool:=
 match a,b with
 | .nilIface,.nilIface=>(match x with | .const _=>true | _=>match y with | .const _=>true | _=>false)
 | .agg _,.agg _=>C.flat t
 | _,_=>true
def binA(C:Ctx)(h:Heap)(op:BinOp)(t:TypeId)(xo yo:Operand)(x y:Value):Option Value:=
 match op,x,y with
 | .shl,.int k a,.int _ b=>shiftA .shl k a b
 | .shr,.int k a,.int _ b=>shiftA .shr k a b
 | op,.int k a,.int k' b=>if k=k' then intBinA op k a b else none
 | op,.string a,.string b=>stringBinA op a b
 | .eql,x,y=>bif eqLets C t xo yo x y then (equalA C h t x y).map fun b=>.bool b else none
 | .neq,x,y=>bif eqLets C t xo yo x y then (equalA C h t x y).map fun b=>.bool !b else none
 | _,_,_=>none
def unA(op:UnOp)(x:Value):Option Value:=
 match op,x with
 | .neg,.int k n=>some (.int k (k.wrap (0-n)))
 | .xor,.int k n=>some (.int k (k.wrap (BitVec.ofInt k.bits (if k.signed then -1 else k.max) ^^^ BitVec.ofInt k.bits n).toNat))
 | .not,.bool b=>some (.bool !b)
 | _,_=>none
def convertA(C:Ctx)(src dst:TypeId)(x:Value):Option Value:=
 match C.und src,C.und dst,x with
 | some _,some (.int k),.int _ n=>some (.int k (k.wrap n))
 | _,_,_=>none
def indexAddrA(C:Ctx)(t:TypeId)(x i:Value):Option Value:=
 match C.und t,x,i with
 | some (.slice e),.slice (some ⟨b,off,none⟩) len _,.int _ n=>
  match C.size e with
  | some s=>if 0≤n∧n<len then some (.pointer (some ⟨b,off+n.toNat*s,none⟩)) else none
  | none=>none
 | some (.array len e),.pointer (some ⟨b,off,none⟩),.int _ n=>
  match C.size e with
  | some s=>if 0≤n∧n<len then some (.pointer (some ⟨b,off+n.toNat*s,none⟩)) else none
  | none=>none
 | _,_,_=>none
def fieldAddrA(C:Ctx)(t:TypeId)(x:Value)(f:Nat):Option Value:=
 match C.und t,x with
 | some (.struct fs),.pointer (some ⟨b,off,none⟩)=>match fs.toList[f]? with
  | some fd=>match C.size fd.type with
   | some n=>bif n==0 then none else some (.pointer (some ⟨b,off+fd.offset,none⟩))
   | none=>none
  | none=>none
 | _,_=>none
def fieldA(C:Ctx)(t:TypeId)(x:Value)(f:Nat):Option Value:=
 match C.und t,x with
 | some (.struct fs),.agg cs=>match fs.toList[f]? with
  | some fd=>readA C cs.toList fd.type fd.offset
  | none=>none
 | _,_=>none
def indexA(C:Ctx)(t:TypeId)(x i:Value):Option Value:=
 match C.und t,x,i with
 | some (.array len e),.agg cs,.int _ n=>match C.size e with
  | some s=>if 0≤n∧n<len then readA C cs.toList e (n.toNat*s) else none
  | none=>none
 | some .string,.string s,.int _ n=>if 0≤n then (s.data.toList[n.toNat]?).map fun b=>.int .u8 b.toNat else none
 | _,_,_=>none
def boundA(v:Option Value)(dflt:Nat):Option Nat:=
 match v with
 | none=>some dflt
 | some (.int _ n)=>if 0≤n then some n.toNat else none
 | _=>none
def sliceA(C:Ctx)(h:Heap)(t:TypeId)(x:Value)(lo hi mx:Option Value):Option Value:=
 match C.und t,x with
 | some (.slice e),.slice none _ _=>
  match C.size e,boundA lo 0,boundA hi 0,boundA mx 0 with
  | some _,some 0,some 0,some 0=>bif mx.isSome&&hi.isNone then none else some (.slice none 0 0)
  | _,_,_,_=>none
 | some (.slice e),.slice (some ⟨b,off,none⟩) len c=>
  match C.size e,boundA lo 0,boundA hi len,mx with
  | some s,some l,some u,none=>
   bif Nat.ble l u&&Nat.ble u len&&(c==0||c==s) then some (.slice (some ⟨b,off+l*s,none⟩) (u-l) c) else none
  | some s,some l,some u,some _=>match boundA mx 0 with
   | some m=>bif hi.isSome&&Nat.ble l u&&Nat.ble u m&&Nat.ble m len&&(c==0||c==s) then
     some (.slice (some ⟨b,off+l*s,none⟩) (u-l) (bif m==l then 0 else c)) else none
   | none=>none
  | _,_,_,_=>none
 | some (.array n e),.pointer (some ⟨b,off,none⟩)=>
  match C.size e,boundA lo 0,boundA hi n,mx,cellsAt h b with
  | some s,some l,some u,none,some cs=>
   bif Nat.ble l u&&Nat.ble u n&&Nat.blt 0 s&&Nat.ble (off+n*s) cs.length then some (.slice (some ⟨b,off+l*s,none⟩) (u-l) (bif n==l then 0 else s)) else none
  | _,_,_,_,_=>none
 | some .string,.string s=>
  match boundA lo 0,boundA hi s.size,mx with
  | some l,some u,none=>bif Nat.ble l u&&Nat.ble u s.size then some (.string (s.extract l u)) else none
  | _,_,_=>none
 | _,_=>none
def isTomb:Value→Bool
 | .tuple _=>true
 | _=>false
def alive:List (Value×Value)→List (Value×Value)
 | []=>[]
 | (k,v)::es=>bif isTomb k then alive es else (k,v)::alive es
def stamps:Nat→List (Value×Value)→List Nat
 | _,[]=>[]
 | n,(k,_)::es=>bif isTomb k then stamps (n+1) es else n::stamps (n+1) es
def setAlive(x:Value×Value):List (Value×Value)→Nat→List (Value×Value)
 | [],_=>[]
 | (k,v)::es,0=>bif isTomb k then (k,v)::setAlive x es 0 else x::es
 | (k,v)::es,j+1=>bif isTomb k then (k,v)::setAlive x es (j+1) else (k,v)::setAlive x es j
def lenA(C:Ctx)(h:Heap)(t:TypeId)(x:Value):Option Value:=
 match C.und t,x with
 | some .string,.string s=>some (.int .i64 s.size)
 | some (.array n _),_=>some (.int .i64 n)
 | some (.slice _),.slice _ n _=>some (.int .i64 n)
 | some (.map _ _),.map none=>some (.int .i64 0)
 | some (.map _ _),.map (some r)=>match h.get r with
  | some (.map es)=>some (.int .i64 (alive es).length)
  | _=>none
 | _,_=>none
def capA(C:Ctx)(t:TypeId)(x:Value):Option Value:=
 match C.und t,x with
 | some (.array n _),_=>some (.int .i64 n)
 | some (.slice _),.slice none _ _=>some (.int .i64 0)
 | some (.slice _),.slice (some _) _ 0=>some (.int .i64 0)
 | _,_=>none
def firstA(h:Heap)(s n:Nat):Value→Option (List Value)
 | .slice none _ _=>some []
 | .slice (some ⟨b,off,none⟩) _ _=>bif n==0 then some [] else match cellsAt h b with
  | some cs=>partL cs off (n*s)
  | none=>none
 | .string x=>some ((x.extract 0 n).data.toList.map fun b=>.int .u8 b.toNat)
 | _=>none
def lenOfA:Value→Option Nat
 | .slice _ n _=>some n
 | .string s=>some s.size
 | _=>none
def plainNewsA(h:Heap)(s:Nat)(x:Value):Option (Nat×List Value):=
 match lenOfA x with
 | some n=>(firstA h s n x).map fun l=>(n,l)
 | none=>none
def newsA(C:Ctx)(h:Heap)(e:TypeId)(s:Nat)(xt:Option TypeId)(x:Value):Option (Nat×List Value):=
 match xt with
 | none=>plainNewsA h s x
 | some t=>match C.und t with
  | none=>none
  | some (.int _)=>match x,C.zero e with
   | .int _ n,some z=>if 0≤n∧n<1000000 then some (n.toNat,rowsL z.cells.toList n.toNat) else none
   | _,_=>none
  | some _=>plainNewsA h s x
def appendA(C:Ctx)(h:Heap)(t:TypeId)(xt:Option TypeId)(s x:Value):Option (Value×Heap):=
 match C.und t,s with
 | some (.slice e),.slice base len c=>match C.size e,C.zero e,C.bytes e with
  | some sz,some _,some by_=>match newsA C h e sz xt x with
   | some (n,new)=>
    bif !(new.length==n*sz&&new.all one&&Nat.blt 0 sz&&Nat.blt 0 by_&&Nat.ble ((len+n)*by_) 140737488355328) then none else
    bif n==0 then some (s,h) else
    match base with
    | none=>some (.slice (some ⟨h.next,0,none⟩) n sz,h.alloc (.cells false new))
    | some ⟨b,off,none⟩=>
     bif c==0 then (bif len==0 then some (.slice (some ⟨h.next,0,none⟩) n sz,h.alloc (.cells false new)) else none) else
     bif !(c==sz) then none else
     match h.get b with
     | some (.cells false cs)=>match partL cs off (len*sz) with
      | some old=>some (.slice (some ⟨h.next,0,none⟩) (len+n) sz,(h.put b none).alloc (.cells false (old++new)))
      | none=>none
     | _=>none
    | _=>none
   | none=>none
  | _,_,_=>none
 | _,_=>none
def copyA(C:Ctx)(h:Heap)(t:TypeId)(d x:Value):Option (Value×Heap):=
 match C.und t,d,lenOfA x with
 | some (.slice e),.slice base dl _,some n=>match C.size e with
  | some s=>match firstA h s (Nat.min n dl) x with
   | some new=>bif !(new.all one) then none else
    match base with
    | none=>some (.int .i64 (Nat.min n dl),h)
    | some ⟨b,off,none⟩=>bif new.isEmpty then some (.int .i64 (Nat.min n dl),h) else match h.get b with
     | some (.cells false cs)=>bif Nat.ble (off+new.length) cs.length then
       some (.int .i64 (Nat.min n dl),h.put b (some (.cells false (spliceL cs off new)))) else none
     | _=>none
    | _=>none
   | none=>none
  | none=>none
 | _,_,_=>none
def clearA(C:Ctx)(h:Heap)(t:TypeId)(x:Value):Option Heap:=
 match C.und t,x with
 | some (.slice _),.slice none _ _=>some h
 | some (.slice _),.slice _ 0 _=>some h
 | some (.slice e),.slice (some ⟨b,off,none⟩) n _=>match C.zero e,h.get b with
  | some z,some (.cells false cs)=>
   let new:=rowsL z.cells.toList n
   bif new.all one&&Nat.ble (off+new.length) cs.length then some (h.put b (some (.cells false (spliceL cs off new)))) else none
  | _,_=>none
 | _,_=>none
def makeSliceA(C:Ctx)(h:Heap)(t:TypeId)(len cap:Value):Option (Value×Heap):=
 match C.und t,len,cap with
 | some (.slice e),.int _ l,.int _ c=>match C.size e,C.zero e,C.bytes e with
  | some s,some z,some by_=>
   if 0≤l∧l=c∧c≤281474976710656∧by_*c≤281474976710656∧0<s then
    some (.slice (some ⟨h.next,0,none⟩) l.toNat (bif l.toNat==0 then 0 else s),h.alloc (.cells false (rowsL z.cells.toList l.toNat)))
   else none
  | _,_,_=>none
 | _,_,_=>none
def keyFields(C:Ctx)(ok:TypeId→Value→Bool):List Field→List Value→Bool
 | [],_=>true
 | f::fs,cs=>(match readA C cs f.type f.offset with
  | some a=>ok f.type a
  | none=>false)&&keyFields C ok fs cs
def keyElems(C:Ctx)(ok:Value→Bool)(e s:Nat)(xs:List Value):List Nat→Bool
 | []=>true
 | i::is=>(match readA C xs e (i*s) with
  | some a=>ok a
  | none=>false)&&keyElems C ok e s xs is
def keyOk(C:Ctx):Nat→TypeId→Value→Bool
 | 0,_,_=>false
 | n+1,t,v=>
  match C.und t,v with
  | some (.struct fs),.agg cs=>keyFields C (keyOk C n) fs.toList cs.toList
  | some (.array len e),.agg xs=>(match C.size e with
   | some s=>keyElems C (keyOk C n e) e s xs.toList (List.range len)
   | none=>false)
  | some d,v=>basicD d&&!isTomb v
  | none,_=>false
def findA(C:Ctx)(t:TypeId)(k:Value):List (Value×Value)→Nat→Option (Option (Nat×Value))
 | [],_=>some none
 | (k',v)::es,i=>match eqA C 8 t k k' with
  | some true=>some (some (i,v))
  | some false=>findA C t k es (i+1)
  | none=>none
def entriesA(h:Heap):Value→Option (List (Value×Value))
 | .map none=>some []
 | .map (some r)=>match h.get r with
  | some (.map es)=>some (alive es)
  | _=>none
 | _=>none
def lookupA(C:Ctx)(h:Heap)(t:TypeId)(x k:Value)(ok:Bool):Option Value:=
 match C.und t,entriesA h x with
 | some (.map kt et),some es=>bif !keyOk C 8 kt k then none else
  match findA C kt k es 0 with
  | some (some (_,v))=>some (bif ok then .tuple ⟨[v,.bool true]⟩ else v)
  | some none=>match C.zero et with
   | some z=>some (bif ok then .tuple ⟨[z,.bool false]⟩ else z)
   | none=>none
  | none=>none
 | _,_=>none
mutual
def sameV:Value→Value→Bool
 | .bool a,.bool b=>a==b
 | .int k a,.int k' b=>k==k'&&a==b
 | .float k a,.float k' b=>k==k'&&a==b
 | .complex k a b,.complex k' a' b'=>k==k'&&a==a'&&b==b'
 | .string a,.string b=>a.data.toList==b.data.toList
 | .chan a,.chan b=>a==b
 | .pointer a,.pointer b=>a==b
 | .slice a n c,.slice a' n' c'=>a==a'&&n==n'&&c==c'
 | .map a,.map b=>a==b
 | .func f ⟨xs⟩ ⟨ys⟩,.func g ⟨xs'⟩ ⟨ys'⟩=>f==g&&sameVs xs xs'&&sameVs ys ys'
 | .nilFunc,.nilFunc=>true
 | .iface t v,.iface u w=>t==u&&sameV v w
 | .nilIface,.nilIface=>true
 | .agg ⟨xs⟩,.agg ⟨ys⟩=>sameVs xs ys
 | .tuple ⟨xs⟩,.tuple ⟨ys⟩=>sameVs xs ys
 | _,_=>false
def sameVs:List Value→List Value→Bool
 | [],[]=>true
 | a::as,b::bs=>sameV a b&&sameVs as bs
 | _,_=>false
end
def mapUpdateA(C:Ctx)(h:Heap)(t:TypeId)(m k v:Value):Option Heap:=
 match C.und t,m with
 | some (.map kt _),.map (some r)=>match h.get r with
  | some (.map es)=>bif !keyOk C 8 kt k then none else
   match findA C kt k (alive es) 0 with
   | some (some (i,_))=>match (alive es)[i]? with
    | some (k2,_)=>bif sameV k2 k then some (h.put r (some (.map (setAlive (k,v) es i)))) else none
    | none=>none
   | some none=>some (h.put r (some (.map (es++[(k,v)]))))
   | none=>none
  | _=>none
 | _,_=>none
def undefA:Value:=.tuple ⟨[]⟩
def deleteA(C:Ctx)(h:Heap)(t:TypeId)(m k:Value):Option Heap:=
 match C.und t,m with
 | some (.map kt _),.map (some r)=>match h.get r with
  | some (.map es)=>bif !keyOk C 8 kt k then none else
   match findA C kt k (alive es) 0 with
   | some (some (i,_))=>some (h.put r (some (.map (setAlive (undefA,undefA) es i))))
   | some none=>some (h.put r (some (.map es)))
   | none=>none
  | _=>none
 | _,_=>none
def mapEntryA(C:Ctx)(h:Heap)(t:TypeId)(m k:Value):Option (Value×Heap):=
 match C.und t,m with
 | some (.map kt et),.map (some r)=>match h.get r with
  | some (.map es)=>bif !keyOk C 8 kt k then none else
   match findA C kt k (alive es) 0 with
   | some (some (i,v))=>match (alive es)[i]?,(stamps 0 es)[i]? with
    | some (k2,_),some n=>bif sameV k2 k then some (.tuple ⟨[v,.int .i64 n]⟩,h) else none
    | _,_=>none
   | some none=>match C.zero et with
    | some z=>some (.tuple ⟨[z,.int .i64 es.length]⟩,h.put r (some (.map (es++[(k,z)]))))
    | none=>none
   | none=>none
  | _=>none
 | _,_=>none
def entryStoreA(h:Heap)(m s v:Value):Option Heap:=
 match m,s with
 | .map (some r),.int _ n=>match h.get r with
  | some (.map es)=>match (stamps 0 es).findIdx? (fun (b:Nat)=>decide ((b:Int)=n)) with
   | some j=>match (alive es)[j]? with
    | some (k,_)=>some (h.put r (some (.map (setAlive (k,v) es j))))
    | none=>none
   | none=>none
  | _=>none
 | _,_=>none
def isIfaceD:TypeDesc→Bool
 | .interface _=>true
 | _=>false
def typeAssertA(C:Ctx)(x:Value)(t:TypeId)(ok:Bool):Option Value:=
 match C.und t with
 | none=>none
 | some d=>bif isIfaceD d then none else
  match x with
  | .iface t' v=>bif Nat.beq t' t then some (bif ok then .tuple ⟨[v,.bool true]⟩ else v) else
    bif ok then (C.zero t).map fun z=>.tuple ⟨[z,.bool false]⟩ else none
  | .nilIface=>bif ok then (C.zero t).map fun z=>.tuple ⟨[z,.bool false]⟩ else none
  | _=>none
def methodA(C:Ctx)(h:Heap)(x:Value)(name:String):Option (FuncId×Value):=
 match x with
 | .iface t v=>match C.info t,C.und t with
  | some i,some d=>match i.methods.find? (·.name==name) with
   | some m=>bif m.path.isEmpty then
     match m.func,d with
     | some (f,true),.pointer _=>some (f,v)
     | some (f,false),.pointer e=>(loadA C h e v).map fun x=>(f,x)
     | _,_=>none
    else none
   | none=>none
  | _,_=>none
 | _=>none
inductive OpR where
 | val (v:Value) (h:Heap)
 | call (f:FuncId) (args:List Value)
def vals(ρ:Operand→Option Value):List Operand→Option (List Value)
 | []=>some []
 | x::xs=>match ρ x,vals ρ xs with
  | some v,some vs=>some (v::vs)
  | _,_=>none
def partsA(ρ:Operand→Option Value):List (Nat×Operand)→Option (List (Nat×Value))
 | []=>some []
 | (i,x)::xs=>match ρ x,partsA ρ xs with
  | some v,some vs=>some ((i,v)::vs)
  | _,_=>none
def optA(ρ:Operand→Option Value):Option Operand→Option (Option Value)
 | none=>some none
 | some x=>(ρ x).map some
def builtinA(C:Ctx)(h:Heap)(b:Builtin)(ts:List TypeId)(args:List Value):Option (Value×Heap):=
 match b,ts,args with
 | .len,t::_,[x]=>(lenA C h t x).map fun v=>(v,h)
 | .cap,t::_,[x]=>(capA C t x).map fun v=>(v,h)
 | .append,t::ts,[s,x]=>appendA C h t ts.head? s x
 | .copy,t::_,[d,x]=>copyA C h t d x
 | .clear,t::_,[x]=>(clearA C h t x).map fun h=>(undefA,h)
 | .delete,t::_,[m,k]=>(deleteA C h t m k).map fun h=>(undefA,h)
 | .min,_,[.int k a,.int _ b]=>some (.int k (if b<a then b else a),h)
 | .max,_,[.int k a,.int _ b]=>some (.int k (if b > a then b else a),h)
 | .min,_,[.int k a,.int _ b,.int _ c]=>
  let m:=if b<a then b else a
  some (.int k (if c<m then c else m),h)
 | _,_,_=>none
def callA(C:Ctx)(f:Value)(args:List Value):Option OpR:=
 match f with
 | .func (.func i) first captured=>match C.func i with
  | some fn=>bif fn.body.isSome then some (.call i (first.toList++args++captured.toList)) else none
  | none=>none
 | _=>none
def opA(C:Ctx)(ρ:Operand→Option Value)(h:Heap)(op:Op):Option OpR:=
 let v (x:Option Value):Option OpR:=x.map fun v=>.val v h;let w (x:Option (Value×Heap)):Option OpR:=x.map fun r=>.val r.1 r.2;let u (x:Option Heap):Option OpR:=x.map fun h=>.val undefA h
 match op with
 | .move x=>v (ρ x)
 | .assign x=>v (ρ x)
 | .pick c a b=>match ρ c with
  | some (.bool true)=>v (ρ a)
  | some (.bool false)=>v (ρ b)
  | _=>none
 | .alloc e=>match C.zero e with
  | some z=>some (.val (.pointer (some ⟨h.next,0,none⟩)) (h.alloc (.cells false z.cells.toList)))
  | none=>none
 | .box _ x=>match ρ x with
  | some y=>some (.val (.pointer (some ⟨h.next,0,none⟩)) (h.alloc (.cells false y.cells.toList)))
  | none=>none
 | .build t ps=>match partsA ρ ps.toList with
  | some ps=>v (buildA C t ps)
  | none=>none
 | .buildSlice t n ps=>match partsA ρ ps.toList with
  | some ps=>w (buildSliceA C h t n ps)
  | none=>none
 | .load t a=>match ρ a with
  | some a=>v (loadA C h t a)
  | none=>none
 | .store t a x=>match ρ a,ρ x with
  | some a,some x=>u (storeA C h t a x)
  | _,_=>none
 | .nilCheck x=>match ρ x with
  | some (.pointer (some a))=>v (some (.pointer (some a)))
  | some (.func (.func f) xs ys)=>v (some (.func (.func f) xs ys))
  | _=>none
 | .binOp op t x y _=>match ρ x,ρ y with
  | some a,some b=>v (binA C h op t x y a b)
  | _,_=>none
 | .unOp op _ x=>match ρ x with
  | some a=>v (unA op a)
  | none=>none
 | .convert s d x=>match ρ x with
  | some a=>v (convertA C s d a)
  | none=>none
 | .makeInterface t x=>match ρ x,C.und t with
  | some a,some d=>match d with
   | .interface _=>none
   | _=>v (some (.iface t a))
  | _,_=>none
 | .makeFunc fn xs ys=>match vals ρ xs.toList,vals ρ ys.toList with
  | some a,some b=>v (some (.func fn ⟨a⟩ ⟨b⟩))
  | _,_=>none
 | .makeMap _ none=>some (.val (.map (some h.next)) (h.alloc (.map [])))
 | .makeSlice t l c=>match ρ l,ρ c with
  | some l,some c=>w (makeSliceA C h t l c)
  | _,_=>none
 | .slice t x lo hi mx=>match ρ x,optA ρ lo,optA ρ hi,optA ρ mx with
  | some x,some lo,some hi,some mx=>v (sliceA C h t x lo hi mx)
  | _,_,_,_=>none
 | .fieldAddr t x f=>match ρ x with
  | some x=>v (fieldAddrA C t x f)
  | none=>none
 | .field t x f=>match ρ x with
  | some x=>v (fieldA C t x f)
  | none=>none
 | .indexAddr t x i=>match ρ x,ρ i with
  | some x,some i=>v (indexAddrA C t x i)
  | _,_=>none
 | .index t x i=>match ρ x,ρ i with
  | some x,some i=>v (indexA C t x i)
  | _,_=>none
 | .lookup t x k ok=>match ρ x,ρ k with
  | some x,some k=>v (lookupA C h t x k ok)
  | _,_=>none
 | .mapUpdate t m k x=>match ρ m,ρ k,ρ x with
  | some m,some k,some x=>u (mapUpdateA C h t m k x)
  | _,_,_=>none
 | .insert t m k x=>match ρ m,ρ k,ρ x with
  | some m,some k,some x=>u (mapUpdateA C h t m k x)
  | _,_,_=>none
 | .mapEntry t m k=>match ρ m,ρ k with
  | some m,some k=>w (mapEntryA C h t m k)
  | _,_=>none
 | .entryStore _ m s x=>match ρ m,ρ s,ρ x with
  | some m,some s,some x=>u (entryStoreA h m s x)
  | _,_,_=>none
 | .extract x i=>match ρ x with
  | some (.tuple vs)=>v (vs.toList[i]?)
  | _=>none
 | .typeAssert x _ t ok=>match ρ x with
  | some x=>v (typeAssertA C x t ok)
  | none=>none
 | .call c=>match c.callee with
  | .builtin b=>match vals ρ c.args.toList with
   | some as=>w (builtinA C h b c.argTypes.toList as)
   | none=>none
  | .value f=>match ρ f,vals ρ c.args.toList with
   | some f,some as=>callA C f as
   | _,_=>none
  | .invoke r name=>match ρ r,vals ρ c.args.toList with
   | some x,some as=>match methodA C h x name with
    | some (f,recv)=>match C.func f with
     | some fn=>bif fn.body.isSome then some (.call f (recv::as)) else none
     | none=>none
    | none=>none
   | _,_=>none
 | _=>none
structure Env where
 n:Nat
 t:T Value
def Env.get(e:Env)(i:Nat):Option Value:=e.t.get i
def Env.put(e:Env)(d:Option Tmp)(v:Value):Env:=
 match d with
 | none=>e
 | some d=>bif Nat.blt d e.n then { n:=e.n,t:=e.t.set d (some v) } else e
def Env.eval(C:Ctx)(e:Env):Operand→Option Value
 | .tmp i=>e.get i
 | .const v=>bif plain v then some v else none
 | .global g=>bif Nat.blt g C.globs then some (.pointer (some ⟨g,0,none⟩)) else none
 | .func f=>some (.func (.func f) #[] #[])
def wantA(ops:List Oper)(e:Env)(o:Oper):Option Bool:=
 match o.guard with
 | none=>some true
 | some (j,want)=>match (ops[j]?).bind (·.dst) with
  | none=>some false
  | some d=>match e.get d with
   | some (.bool b)=>some (b==want)
   | some (.tuple ⟨[]⟩)=>some false
   | _=>none
abbrev Cal:=FuncId→List Value→Heap→Option (Value×Heap)
def stepA(C:Ctx)(cal:Cal)(ops:List Oper)(o:Oper)(e:Env)(h:Heap):Option (Env×Heap):=
 match wantA ops e o with
 | none=>none
 | some false=>some (e.put o.dst undefA,h)
 | some true=>match opA C (e.eval C) h o.op with
  | none=>none
  | some (.val v h)=>some (e.put o.dst v,h)
  | some (.call f args)=>match cal f args h with
   | none=>none
   | some (v,h)=>some (e.put o.dst v,h)
def seqA(C:Ctx)(cal:Cal)(ops:List Oper):List Oper→Env→Heap→Option (Env×Heap)
 | [],e,h=>some (e,h)
 | o::rest,e,h=>match stepA C cal ops o e h with
  | none=>none
  | some (e,h)=>seqA C cal ops rest e h
def maskOf(masks:List Nat)(o:Oper):Nat:=
 o.after.toList.foldl (fun s x=>bif Region.binds .any x then s ||| 2 ^ x.on ||| (masks[x.on]?).getD 0 else s) 0
def masksFrom(masks:List Nat):List Oper→List Nat
 | []=>masks
 | o::os=>masksFrom (masks++[maskOf masks o]) os
def isNew:Op→Bool
 | .alloc _=>true
 | .box _ _=>true
 | .buildSlice _ _ _=>true
 | .makeMap _ _=>true
 | .makeSlice _ _ _=>true
 | _=>false
def isStill:Op→Bool
 | .move _=>true
 | .assign _=>true
 | .pick _ _ _=>true
 | .build _ _=>true
 | .load _ _=>true
 | .nilCheck _=>true
 | .binOp _ _ _ _ _=>true
 | .unOp _ _ _=>true
 | .convert _ _ _=>true
 | .makeInterface _ _=>true
 | .makeFunc _ _ _=>true
 | .slice _ _ _ _ _=>true
 | .fieldAddr _ _ _=>true
 | .field _ _ _=>true
 | .indexAddr _ _ _=>true
 | .index _ _ _=>true
 | .lookup _ _ _ _=>true
 | .extract _ _=>true
 | .typeAssert _ _ _ _=>true
 | .call c=>match c.callee with
  | .builtin .len=>true
  | .builtin .cap=>true
  | .builtin .min=>true
  | .builtin .max=>true
  | _=>false
 | _=>false
def isStore:Op→Bool
 | .store _ _ _=>true
 | _=>false
def isCall(o:Op):Bool:=!isNew o&&!isStill o&&!isStore o
def tmpsOf(ops:List Oper)(o:Oper):List Tmp:=
 (o.op.operands.toList.filterMap fun x=>match x with | .tmp t=>some t | _=>none)++
  (match o.guard with
   | some (j,_)=>(match (ops[j]?).bind (·.dst) with | some d=>[d] | none=>[])
   | none=>[])
def apartA(ops:List Oper)(a b:Oper):Bool:=
 (match a.dst with
  | some d=>!(tmpsOf ops b).contains d&&!(b.dst==some d)
  | none=>true) &&
 (match b.dst with
  | some d=>!(tmpsOf ops a).contains d
  | none=>true) &&
 !(isCall b.op&&!isStill a.op)&&!(isCall a.op&&isStore b.op)
def pairsOk(ops:List Oper)(masks:List Nat):List Oper→Nat→Bool
 | [],_=>true
 | b::rest,j=>
  (let m:=(masks[j]?).getD 0
   let rec inner:List Oper→Nat→Bool
     | [],_=>true
     | a::as,i=>bif Nat.ble j i then true else (m.testBit i||apartA ops a b)&&inner as (i+1)
   inner ops 0)&&pairsOk ops masks rest (j+1)
def edgesOk:List Oper→Nat→Bool
 | [],_=>true
 | o::os,i=>(o.after.toList.all fun x=>!Region.binds .any x||Nat.blt x.on i) &&
   (match o.guard with | some (j,_)=>(o.after.toList.any fun x=>x.on==j&&Region.binds .any x) | none=>true)&&edgesOk os (i+1)
def drawOk(ops:List Oper):Bool:=edgesOk ops 0&&pairsOk ops (masksFrom [] ops) ops 0
def looksA(ρ:Operand→Option Value):Op→List Nat
 | .load _ a=>match ρ a with
  | some (.pointer (some a))=>[a.block]
  | _=>[]
 | .store _ a _=>match ρ a with
  | some (.pointer (some a))=>[a.block]
  | _=>[]
 | .slice _ a _ _ _=>match ρ a with
  | some (.pointer (some a))=>[a.block]
  | _=>[]
 | .lookup _ m _ _=>match ρ m with
  | some (.map (some r))=>[r]
  | _=>[]
 | .binOp _ _ x y _=>(match ρ x with | some (.pointer (some a))=>[a.block] | _=>[])++(match ρ y with | some (.pointer (some a))=>[a.block] | _=>[])
 | .call c=>match c.callee with
  | .builtin .len=>match c.args.toList with
   | x::_=>match ρ x with
    | some (.map (some r))=>[r]
    | _=>[]
   | _=>[]
  | _=>[]
 | _=>[]
def sameEs:List (Value×Value)→List (Value×Value)→Bool
 | [],[]=>true
 | (a,b)::x,(c,d)::y=>sameV a c&&sameV b d&&sameEs x y
 | _,_=>false
def sameB:Option Blk→Option Blk→Bool
 | none,none=>true
 | some (.cells r xs),some (.cells s ys)=>r==s&&sameVs xs ys
 | some (.map xs),some (.map ys)=>sameEs xs ys
 | _,_=>false
def flexA(C:Ctx)(ρ:Operand→Option Value)(h:Heap)(op:Op)(h2:Heap):Bool:=
 match op with
 | .lookup _ _ _ _=>(match opA C ρ h op,opA C ρ h2 op with
  | some (.val v _),some (.val v2 _)=>sameV v v2
  | _,_=>false)
 | _=>false
abbrev Trc:=Heap×Heap×List Nat×(Heap→Bool)
def traceA(C:Ctx)(cal:Cal)(ops:List Oper):List Oper→Env→Heap→Option (Env×Heap×List Trc)
 | [],e,h=>some (e,h,[])
 | o::rest,e,h=>match stepA C cal ops o e h with
  | none=>none
  | some (e1,h1)=>match traceA C cal ops rest e1 h1 with
   | none=>none
   | some (e2,h2,l)=>some (e2,h2,(h,h1,looksA (e.eval C) o.op,flexA C (e.eval C) h o.op)::l)
def clashOk(ops:List Oper)(masks:List Nat)(tr:List Trc):Bool:=
 let rec outer:List Trc→Nat→Bool
  | [],_=>true
  | (_,_,look,fl)::rest,i=>
   (match look with
    | []=>true
    | look=>
      let mi:=(masks[i]?).getD 0;let rec inner:List Oper→List Trc→Nat→Bool
        | o::os,(h,h1,_,_)::tr,j=>
          (isStill o.op||i==j||mi.testBit j||((masks[j]?).getD 0).testBit i||(look.all fun x=>sameB (h.get x) (h1.get x))||(Nat.blt i j&&fl h1))&&inner os tr (j+1)
        | _,_,_=>true
      inner ops tr 0)&&outer rest (i+1)
 outer tr 0
def regionA(C:Ctx)(cal:Cal)(ops:List Oper)(draw:Bool)(e:Env)(h:Heap):Option (Env×Heap):=
 bif draw then
  match traceA C cal ops ops e h with
  | none=>none
  | some (e',h',tr)=>bif drawOk ops&&clashOk ops (masksFrom [] ops) tr then some (e',h') else none
 else seqA C cal ops ops e h
inductive Ex where
 | normal
 | exit (id:Nat)
 | ret
def resultA(C:Ctx)(e:Env)(h:Heap):ResultVar→Option Value
 | .tmp t=>e.get t
 | .cell a t=>match e.get a with
  | some v=>loadA C h t v
  | none=>none
def resultsA(C:Ctx)(e:Env)(h:Heap):List ResultVar→Option (List Value)
 | []=>some []
 | r::rs=>match resultA C e h r,resultsA C e h rs with
  | some v,some vs=>some (v::vs)
  | _,_=>none
def tupleA:List Value→Value
 | [v]=>v
 | vs=>.tuple ⟨vs⟩
def envOf(n:Nat)(args:List Value):Env:=
 let rec go:List Value→Nat→T Value→T Value
  | [],_,t=>t
  | v::vs,i,t=>go vs (i+1) (t.set i (some v))
 {n:=max n args.length,t:=go args 0 .e }
abbrev Exe:=Code→Env→Heap→Option (Ex×Env×Heap)
def callBody(C:Ctx)(exe:Exe):Cal:=fun f args h=>
 match C.fact f with
 | some tabs=>bif args.isEmpty&&tabs.all (fun p=>sameB (h.get p.1) (some p.2)) then some (.bool true,h) else none
 | none=>match C.func f with
  | none=>none
  | some fn=>match fn.body with
   | none=>none
   | some c=>match exe c (envOf fn.ntmps args) h with
    | some (.exit _,_,_)=>none
    | some (_,e,h)=>match resultsA C e h fn.results.toList with
     | some vs=>some (tupleA vs,h)
     | none=>none
    | none=>none
def codeBody(C:Ctx)(exe:Exe):Exe:=fun c e h=>
 match c with
 | .skip=>some (.normal,e,h)
 | .region _ ops draw=>match regionA C (callBody C exe) ops.toList draw e h with
  | some (e,h)=>some (.normal,e,h)
  | none=>none
 | .seq a b=>match exe a e h with
  | some (.normal,e,h)=>exe b e h
  | r=>r
 | .cond x a b=>match (e.eval C) x with
  | some (.bool true)=>exe a e h
  | some (.bool false)=>exe b e h
  | _=>none
 | .block id a=>match exe a e h with
  | some (.exit i,e,h)=>some (bif i==id then .normal else .exit i,e,h)
  | r=>r
 | .loop a=>match exe a e h with
  | some (.normal,e,h)=>exe (.loop a) e h
  | r=>r
 | .exit id=>some (.exit id,e,h)
 | .ret=>some (.ret,e,h)
 | _=>none
def exec(C:Ctx):Nat→Exe
 | 0=>fun _ _ _=>none
 | n+1=>codeBody C (exec C n)
def call(C:Ctx)(n:Nat):Cal:=callBody C (exec C n)
end Go.Abs