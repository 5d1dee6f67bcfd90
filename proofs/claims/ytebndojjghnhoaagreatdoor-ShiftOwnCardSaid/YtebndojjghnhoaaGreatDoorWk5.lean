/-
  Walks: what functions of the program do, over the abstract machine.
-/
import Derived.Test.YtebndojjghnhoaaGreatDoorWk4
set_option linter.unusedVariables false
set_option maxRecDepth 20000
set_option maxHeartbeats 0
open Go Go.Abs Go.Proofs Go.Proofs.D
namespace Go.Proofs.D
def LS(s:CSt):Nat→List Item:=fun j=>if j=s.k then s.last else s.old.getD j []
structure CI where
 s:CSt
 n:Int
structure CJ where
 s:CSt
 i:Nat
structure NB where
 xs:List Bool
 B:List (Nat×Blk)
def QI(g:Gram):Nat→Item→Prop:=fun k x=>ItemOk g.rules k x
structure FSt where
 fi:Nat
 ga:Option Addr
 gm:Nat
 gc:Nat
 q:ChP
 s:CSt
 wa:Option Addr
 wn:Nat
 wc:Nat
 BW:List (Nat×Blk)
 w:List Nat
 E:List Bool
structure FdOk(g:Gram)(F:Frz)(f:FSt):Prop where
 rules:Arr tRule F f.ga f.gm f.gc g.rules
 ends:EndsIn g f.E
 chart:COk (trimmed f.E g) (QI (trimmed f.E g)) f.q F f.s
 k:f.s.k=f.w.length
 sets:Sets (trimmed f.E g) f.w (LS f.s)
 word:Bld tNat F f.wa f.wn f.wc f.BW f.w
 ok:∀t∈f.w,t<g.terms
theorem FdOk.mono{g:Gram}{F G:Frz}{f:FSt}(h:FdOk g F f)(hF:Frz.le F G):FdOk g G f:=⟨h.rules.mono hF,h.ends,h.chart.mono hF,h.k,h.sets,h.word.mono hF,h.ok⟩
structure NextOk(g:Gram)(f:FSt)(xs:List Bool):Prop where
 len:xs.length=g.terms+1
 term:∀t,t<g.terms→(xs[t]?=some true↔∃x∈f.s.last,nextOf (trimmed f.E g).rules x=some ⟨true,t⟩)
 done:xs[g.terms]?=some (derives g f.w g.start 0 f.w.length)
structure SSt where
 k:Nat
 lists:List (List Item)
 sa:Option Addr
 sc:Nat
 BS:List (Nat×Blk)
 vs:List Value
 la:Option Addr
 lc:Nat
 BL:List (Nat×Blk)
 us:List Value
structure SOk(g:Gram)(Q:Nat→Item→Prop)(q:ChP)(F:Frz)(s:SSt):Prop where
 rules:Arr tRule F q.ra q.rm q.rc g.rules
 sets:GB tRaw F s.sa (s.k+1) s.sc s.BS s.vs
 list:GB tRaw F s.la (s.k+1) s.lc s.BL s.us
 len:s.lists.length=s.k+1
 olds:∀(j:Nat) (l:List Item),s.lists[j]?=some l→∃a n c,s.us[j]?=some (.slice a n c)∧Arr tItem F a n c l
 all:∀(j:Nat) (l:List Item),s.lists[j]?=some l→∀x∈l,Q j x
 small:s.k≤20
 olen:∀(j:Nat) (l:List Item),s.lists[j]?=some l→l.length≤3360
 nd:∀(j:Nat) (l:List Item),s.lists[j]?=some l→l.Nodup
theorem SOk.mono{g:Gram}{Q:Nat→Item→Prop}{q:ChP}{F G:Frz}{s:SSt}(h:SOk g Q q F s)(hF:Frz.le F G):SOk g Q q G s:=
 ⟨h.rules.mono hF,h.sets.mono hF,h.list.mono hF,h.len,fun j l hj=>by obtain⟨a,n,c,h1,h2⟩:=h.olds j l hj;exact⟨a,n,c,h1,h2.mono hF⟩,h.all,h.small,h.olen,h.nd⟩
def LZ(s:SSt):Nat→List Item:=fun j=>s.lists.getD j []
def QP(g:Gram)(w:List Nat):Nat→Item→Prop:=fun k x=>ItemOk g.rules k x∧(k≤w.length→∀L,Sets g (w.take k) L→x∈L k)
structure FZ where
 fi:Nat
 ga:Option Addr
 gm:Nat
 gc:Nat
 q:ChP
 s:SSt
 wa:Option Addr
 wn:Nat
 wc:Nat
 BW:List (Nat×Blk)
 w:List Nat
 E:List Bool
structure ZOk(g:Gram)(F:Frz)(f:FZ):Prop where
 rules:Arr tRule F f.ga f.gm f.gc g.rules
 ends:EndsIn g f.E
 chart:SOk (trimmed f.E g) (QP (trimmed f.E g) f.w) f.q F f.s
 k:f.s.k=f.w.length
 sets:Sets (trimmed f.E g) f.w (LZ f.s)
 word:GB tNat F f.wa f.wn f.wc f.BW f.w
 ok:∀t∈f.w,t<g.terms
theorem ZOk.mono{g:Gram}{F G:Frz}{f:FZ}(h:ZOk g F f)(hF:Frz.le F G):ZOk g G f:=⟨h.rules.mono hF,h.ends,h.chart.mono hF,h.k,h.sets,h.word.mono hF,h.ok⟩
structure NextZ(g:Gram)(f:FZ)(xs:List Bool):Prop where
 len:xs.length=g.terms+1
 term:∀t,t<g.terms→(xs[t]?=some true↔∃x∈LZ f.s f.s.k,nextOf (trimmed f.E g).rules x=some ⟨true,t⟩)
 done:xs[g.terms]?=some (derives g f.w g.start 0 f.w.length)
theorem ders_append{g:Gram}{w:List Nat}{l2:List Sym}:∀{l:List Sym} {i m j:Nat},Ders g w l i m→Ders g w l2 m j→Ders g w (l++l2) i j
 | [],i,m,j,h1,h2=>by rw[ders_nil.1 h1];exact h2
 | a::l,i,m,j,h1,h2=>by
  obtain⟨p,h3,h4⟩:=ders_cons.1 h1;exact .cons h3 (ders_append h4 h2)
def DW(g:Gram)(y:List Nat)(l:List Sym):Prop:=Ders g y l 0 y.length
theorem DW.app{g:Gram}{y z:List Nat}{l m:List Sym}(h1:DW g y l)(h2:DW g z m):DW g (y++z) (l++m):=by
 have h3:=ders_wrap (u:=[]) (v:=z) h1;have h4:=ders_wrap (u:=y) (v:=[]) h2;simp only[List.nil_append,List.append_nil,List.length_nil,Nat.zero_add,Nat.add_zero] at h3 h4;unfold DW;rw[List.length_append];exact ders_append h3 h4
theorem DW.one{g:Gram}{y:List Nat}{s:Sym}(h:Der g y s 0 y.length):DW g y [s]:=.cons h .nil
theorem Der.tree{g:Gram}{w:List Nat}{s:Sym}{i j:Nat}(h:Der g w s i j):∃T,TreeOf g w s T i j:=by
 refine Der.rec (motive_1:=fun s i j _=>∃T,TreeOf g w s T i j) (motive_2:=fun l i j _=>∃ts,TreesOf g w l ts i j) ?_ ?_ ?_ ?_ h
 ·intro t i h;exact⟨_,.leaf h⟩
 ·intro r i j hr _ ⟨ts,h2⟩;obtain⟨k,hk⟩:=List.getElem?_of_mem hr;exact⟨_,.node hk h2⟩
 ·intro i;exact⟨[],.nil⟩
 ·intro s l i m j _ _ ⟨T,h1⟩ ⟨ts,h2⟩;exact⟨_,.cons h1 h2⟩
def GoodI(g:Gram)(u:List Nat)(i:Nat)(x:Lr):Prop:=∃z,∀y,DW g y ((rightL g x.rule).drop x.dot)→Der g (u.take i++(y++z)) ⟨false,g.start⟩ 0 (u.take i++(y++z)).length
theorem word_list{g:Gram}(hg:Valid g)(hP:∀n,n<g.nons→HasWord g n)(k d:Nat):∃v,DW g v ((rightL g k).drop d):=
 hasWord_list _ fun y hy=>by
  have:=rightL_ok hg k y (List.mem_of_mem_drop hy);obtain⟨b,n⟩:=y;cases b with
  | true=>exact .inl rfl
  | false=>exact .inr (hP n this)
theorem drop_at{α:Type}{l:List α}{d:Nat}{a:α}(h:l[d]?=some a):l.drop d=a::l.drop (d+1):=List.drop_eq_getElem?_toList_append.trans (by rw[h];rfl)
theorem clos_good{g:Gram}(hg:Valid g)(hP:∀n,n<g.nons→HasWord g n){u:List Nat}{i:Nat}{l:List Lr}(hl:∀x∈l,GoodI g u i x){x:Lr}(h:Clos g l x):GoodI g u i x:=by
 induction h with
 | base h=>exact hl _ h
 | @more x n k r h1 ha hr hn ih=>
  obtain⟨z,hz⟩:=ih;rw[afterL_right] at ha;obtain⟨v,hv⟩:=word_list hg hP x.rule (x.dot+1);refine⟨v++z,fun y hy=>?_⟩;have hy:DW g y ((rightL g k).drop 0):=hy;rw[List.drop_zero,rightL_rule hr] at hy;have:=hz (y++v) (by
   rw[drop_at ha];exact DW.app (l:=[⟨false,n⟩]) (.one (by rw[←hn];exact .non (gM hr) hy)) hv)
  rw[List.append_assoc] at this;exact this
theorem part_glue{u y z:List Nat}{i j:Nat}(h:i≤j):u.take i++((u.take j).drop i++y++z)=u.take j++(y++z):=by
 rw[List.append_assoc,←List.append_assoc];congr 1;have:u.take i=(u.take j).take i:=by rw[List.take_take,Nat.min_eq_left h]
 rw[this,List.take_append_drop]
theorem LStk.good{g:Gram}{I:List (List Lr)}{rows:List (List Int)}(hg:Valid g)(hA:AutoC g I rows)(hP:∀n,n<g.nons→HasWord g n){u:List Nat}{σ:List Nat}{τ:List Tree}{i:Nat}(h:LStk g (goR g rows) u σ τ i) :
  i≤u.length→∀x,itI I (topS σ) x→GoodI g u i x:=by
 induction h with
 | nil=>
  intro _ x ⟨st,hst,hx⟩;obtain⟨st0,hst0,hz⟩:=hA.zero;rw[show topS [0]=0 from rfl,hst0] at hst;obtain rfl:=Option.some.inj hst;refine clos_good hg hP (fun x hx=>?_) ((hz _).1 hx);rw[List.mem_singleton.1 hx];refine⟨[],fun y hy=>?_⟩;have hy:DW g y ((rightL g g.rules.length).drop 0):=hy;rw[rightL_start] at hy;obtain⟨m,h1,h2⟩:=ders_cons.1 (show Ders g y (⟨false,g.start⟩::[]) 0 y.length from hy);rw[ders_nil.1 h2] at h1;rw[List.take_zero,List.nil_append,List.append_nil];exact h1
 | @snoc σ τ i j s s' y T h1 h2 h3 ih=>
  intro hj x ⟨st1,hst1,hx⟩;rw[topS_snoc] at hst1;obtain⟨st,st',e1,e2,_,e4⟩:=hA.goes hg h2;rw[e2] at hst1;obtain rfl:=Option.some.inj hst1;have hij:=(TreeOf.le h3).1;refine clos_good hg hP (fun x hx=>?_) ((e4 _).1 hx);obtain⟨x0,f1,f2,rfl⟩:=mem_kern.1 hx;obtain⟨z,hz⟩:=ih zo x0 ⟨st,by rw[topS_snoc];exact e1,f1⟩;rw[afterL_right] at f2;refine⟨z,fun y2 hy2=>?_⟩;have hp:=part_der (a:=i) (b:=j) hj (TreeOf.toDer h3) (Nat.le_refl _) (Nat.le_refl _);have hlen:((u.take j).drop i).length=j-i:=by simp;omega
  have:=hz ((u.take j).drop i++y2) (by
   rw[drop_at f2];refine DW.app (l:=[y]) (.one ?_) hy2;rw[hlen,Nat.sub_self] at *;exact hp)
  rw[part_glue hij] at this;exact this
theorem LStk.viable{g:Gram}{I:List (List Lr)}{rows:List (List Int)}(hg:Valid g)(hA:AutoC g I rows)(hP:∀n,n<g.nons→HasWord g n){u:List Nat}{σ:List Nat}{τ:List Tree}{i:Nat}(h:LStk g (goR g rows) u σ τ i)(hi:i≤u.length) :
  ∃v,Der g (u.take i++v) ⟨false,g.start⟩ 0 (u.take i++v).length:=by
 obtain⟨x,hx⟩:∃x,itI I (topS σ) x:=by
  cases h with
  | nil=>
   obtain⟨st0,hst0,hz⟩:=hA.zero;exact⟨_,st0,hst0,(hz _).2 (.base (List.mem_singleton.2 rfl))⟩
  | snoc h1 h2 h3=>
   obtain⟨st,st',e1,e2,e3,e4⟩:=hA.goes hg h2;obtain⟨z,hz⟩:=List.exists_mem_of_ne_nil _ e3;exact⟨z,st',by rw[topS_snoc];exact e2,(e4 _).2 (.base hz)⟩
 obtain⟨z,hz⟩:=h.good hg hA hP hi x hx;obtain⟨v,hv⟩:=word_list hg hP x.rule x.dot;exact⟨v++z,hz v hv⟩
inductive Spine(g:Gram)(w:List Nat)(p c:Nat):Sym→Nat→Nat→Prop
 | leaf:Spine g w p c ⟨true,c⟩ p 0
 | node {k:Nat} {r:Rule} {pre post:List Sym} {s:Sym} {ts:List Tree} {i m n:Nat}:g.rules[k]?=some r→r.right=pre++s::post→TreesOf g w pre ts i m→Spine g w p c s m n→Spine g w p c ⟨false,r.left⟩ i (n+(preL ts).length+1)
mutual
theorem TreeOf.spine{g:Gram}{w:List Nat}{p c:Nat}(hc:w[p]?=some c):∀{T:Tree} {X:Sym} {i j:Nat},TreeOf g w X T i j→i≤p→p<j→∃n,Spine g w p c X i n
 | .mk _ _ _,_,i,_,.leaf h,h1,h2=>by
  obtain rfl:i=p:=by omega
  rw[hc] at h;obtain rfl:=Option.some.inj h;exact⟨0,.leaf⟩
 | .mk _ _ ks,_,i,j,.node h h2,h3,h4=>by
  obtain⟨pre,s,post,ts,m,n,e1,e2,e3⟩:=TreesOf.spine hc h2 h3 h4;exact⟨_,.node h e1 e2 e3⟩
theorem TreesOf.spine{g:Gram}{w:List Nat}{p c:Nat}(hc:w[p]?=some c):∀{ts:List Tree} {l:List Sym} {i j:Nat},TreesOf g w l ts i j→i≤p→p<j→∃pre s post ts1 m n,l=pre++s::post∧TreesOf g w pre ts1 i m∧Spine g w p c s m n
 | [],_,i,_,.nil,h1,h2=>by omega
 | T::ts,_,i,j,.cons (s:=s) (l:=l) (m:=m) h1 h2,h3,h4=>by
  rcases Nat.lt_or_ge p m with h5 | h5
  ·obtain⟨n,hn⟩:=TreeOf.spine hc h1 h3 h5;exact⟨[],s,l,[],i,n,rfl,.nil,hn⟩
  ·obtain⟨pre,s',post,ts1,m',n,e1,e2,e3⟩:=TreesOf.spine hc h2 h5 h4;exact⟨s::pre,s',post,T::ts1,m',n,by rw[e1];rfl,.cons h1 e2,e3⟩
end
section
variable {g:Gram}{it:Nat→Lr→Prop}{la:Nat→Lr→Nat→Prop}{go:Nat→Sym→Option Nat}{act:Nat→Nat→Act}{w:List Nat}
end
def tAt{α:Type}(R:Ty α)(H:Frz):Ty α where
 size:=R.size
 rel:=fun _ l x=>R.rel H l x
 len:=fun _ _ _ h=>R.len _ _ _ h
 one:=fun _ _ _ h=>R.one _ _ _ h
 mono:=fun _ _ _ _ _ h=>h
section
variable {α:Type}{R:Ty α}{F G H:Frz}{a:Option Addr}{n c:Nat}{B:List (Nat×Blk)}{xs:List α}
theorem cells_at{cs:List Value}(h:Cells R F cs xs):Cells (tAt R F) G cs xs:=by
 induction h with
 | nil=>exact .nil
 | cons h _ ih=>exact .cons h ih
theorem cells_of{cs:List Value}(h:Cells (tAt R H) G cs xs)(hH:Frz.le H F):Cells R F cs xs:=by
 induction h with
 | nil=>exact .nil
 | cons h _ ih=>exact .cons (R.mono _ _ _ _ hH h) ih
theorem gbAt(h:GB R F a n c B xs):GB (tAt R F) G a n c B xs:=
 ⟨h.len,h.at_.imp id fun ⟨i,cs,rest,h1,h2,h3,h4,h5⟩=>⟨i,cs,rest,h1,h2,h3,cells_at h4,h5⟩⟩
theorem vecOf(h:Vec (tAt R H) G a n c B xs)(hH:Frz.le H F):Vec R F a n c B xs:=
 ⟨h.len,h.cap,h.zero,h.nil,h.spot,h.el.imp id fun ⟨i,cs,h1,h2,h3,h4⟩=>⟨i,cs,h1,h2,cells_of h3 hH,h4⟩⟩
theorem arrAt(h:Arr R F a n c xs):Arr (tAt R F) F a n c xs:=⟨h.len,h.cap,h.zero,h.nil,h.spot,h.el⟩
theorem gbTail{C:Ctx}{T:RT}(h:GB R F a n c B xs){lo:Nat}(hlo:lo≤n)(hT:rowsOk C T=true){t e:Nat}{r:Row}(hr:rowOf T t=some r)(hd:r.d=.slice e)(hs:sizeT T e=some R.size) :
  ∃a' c',(∀h0,sliceA C h0 t (.slice a n c) (some (.int .i64 (lo:Nat))) none none=some (.slice a' (n-lo) c'))∧∀G,Frz.le F G→(∀i b,(i,b)∈B→G i=some b)→Arr R G a' (n-lo) c' (xs.drop lo):=by
 have hn:=h.len;have key:∀{S:Ty α} {G:Frz},S.size=R.size→Arr S G a n c xs→∃a' c',(∀h0,sliceA C h0 t (.slice a n c) (some (.int .i64 (lo:Nat))) none none=some (.slice a' (n-lo) c'))∧Arr S G a' (n-lo) c' (xs.drop lo):=fun {S G} hS hA=>by
  obtain⟨a',c',h1,h2⟩:=hA.slice (C:=C) (lo:=lo) (hi:=n) hlo (Nat.le_refl _) hT hr hd (by rw[hS];exact hs) (some (.int .i64 (lo:Nat))) none (by simp[boundA]) rfl;rw[List.take_of_length_le zo] at h2;exact⟨a',c',h1,h2⟩
 have hE:∃H:Frz,∀i b,(i,b)∈B→H i=some b:=by
  rcases h.at_ with ⟨_,_,_,rfl⟩ | ⟨i,cs,rest,_,_,rfl,_,_⟩
  ·exact⟨fun _=>none,fun i b hm=>by cases hm⟩
  ·exact⟨fun _=>some (.cells false (cs++rest)),fun j b hm=>by cases List.mem_singleton.1 hm;rfl⟩
 obtain⟨H,hH⟩:=hE;obtain⟨a',c',h1,_⟩:=key (S:=tAt R F) (G:=H) rfl ((gbAt (G:=fun _=>none) h).arr (fun _ _ h=>by cases h) hH);refine⟨a',c',h1,fun G hF hB=>?_⟩;obtain⟨a2,c2,g1,g2⟩:=key rfl (h.arr hF hB);have e:=(g1 ⟨0,.e⟩).symm.trans (h1 ⟨0,.e⟩);simp only[Option.some.injEq,Value.slice.injEq,true_and] at e;obtain⟨rfl,rfl⟩:=e;exact g2
end
theorem natClone2_spec(F:Frz){a:Option Addr}{m c:Nat}{xs:List Nat}(hx:Arr tNat F a m c xs)(hm:m≤10000000) :
  Abs.Spec CC 66 [.slice a m c] F [] fun F' v o=>∃B',o=[B']∧∃a' c',v=.slice a' m c'∧Vec tNat F' a' m c' B' xs∧(a=none→GB tNat F' a' m c' B' xs):=by
 refine Abs.Spec.fn (n:=8) Tryz.func66 rfl rfl fun own=>?_;refine zB4 ?_;refine WT.sliceNil hT Z Z Z Z Z Z Z Z ?_;refine zB4 ?_;refine AW.cond Z (fun h=>?_) (fun h=>?_)
 ·obtain rfl:a=none:=by simpa using h
  obtain⟨rfl,rfl⟩:=hx.nil rfl;obtain rfl:xs=[]:=List.eq_nil_of_length_eq_zero hx.len.symm;refine zB4 ?_;refine AW.le (own2:=[]::own) (OwnLe.flat (List.Perm.refl _)) ?_;exact AW.ret ⟨_,[[]],⟨_,_,rfl,rfl,rfl⟩,zsb,_,rfl,_,_,rfl,(Bld.nil_ _ _).vec,fun _=>(Bld.nil_ _ _).gb⟩
 ·have hne:a≠none:=fun e=>by rw[e] at h;cases h
  refine zB4 ?_;refine WT.buildT hT Z Z Z Z Z Z Z Z Z Z Z Z Z Z (fun i5 hi5=>?_);refine zB4 ?_;obtain⟨ds,hds,hcs⟩:=news_arr hT hx (t:=22) rfl rfl 3;refine WT.appendE hT Z Z Z Z Z Z Z Z Z Z Z Z (fun h0 s0=>hds _ h0 s0) hcs hx.len (by decide) zom (fun a' c' B' hB' _=>?_);refine zB4 ?_;refine AW.le (OwnLe.cons _ (OwnLe.skip _ oR)) ?_;exact AW.ret ⟨_,[_],⟨_,_,rfl,rfl,rfl⟩,zsb,_,rfl,_,_,rfl,hB',fun h=>absurd h hne⟩
theorem treeHClone2_spec(F:Frz)(H:Frz){a:Option Addr}{m c:Nat}{xs:List Tree}(hx:Arr (tAt tTree H) F a m c xs)(hm:m≤10000000) :
  Abs.Spec CC 92 [.slice a m c] F [] fun F' v o=>∃B',o=[B']∧∃a' c',v=.slice a' m c'∧Vec (tAt tTree H) F' a' m c' B' xs∧(a=none→GB (tAt tTree H) F' a' m c' B' xs):=by
 refine Abs.Spec.fn (n:=8) Tryz.func92 rfl rfl fun own=>?_;refine zB4 ?_;refine WT.sliceNil hT Z Z Z Z Z Z Z Z ?_;refine zB4 ?_;refine AW.cond Z (fun h=>?_) (fun h=>?_)
 ·obtain rfl:a=none:=by simpa using h
  obtain⟨rfl,rfl⟩:=hx.nil rfl;obtain rfl:xs=[]:=List.eq_nil_of_length_eq_zero hx.len.symm;refine zB4 ?_;refine AW.le (own2:=[]::own) (OwnLe.flat (List.Perm.refl _)) ?_;exact AW.ret ⟨_,[[]],⟨_,_,rfl,rfl,rfl⟩,zsb,_,rfl,_,_,rfl,(Bld.nil_ _ _).vec,fun _=>(Bld.nil_ _ _).gb⟩
 ·have hne:a≠none:=fun e=>by rw[e] at h;cases h
  refine zB4 ?_;refine WT.buildT hT Z Z Z Z Z Z Z Z Z Z Z Z Z Z (fun i5 hi5=>?_);refine zB4 ?_;obtain⟨ds,hds,hcs⟩:=news_arr hT hx (t:=57) rfl rfl 59;refine WT.appendE hT Z Z Z Z Z Z Z Z Z Z Z Z (fun h0 s0=>hds _ h0 s0) hcs hx.len ⟨Nat.succ_pos 2,by decide⟩ zom (fun a' c' B' hB' _=>?_);refine zB4 ?_;refine AW.le (OwnLe.cons _ (OwnLe.skip _ oR)) ?_;exact AW.ret ⟨_,[_],⟨_,_,rfl,rfl,rfl⟩,zsb,_,rfl,_,_,rfl,hB',fun h=>absurd h hne⟩
structure LRT(g:Gram)(T:Tab)(I:List (List Lr))(rows:List (List Int))(la:Nat→Lr→Nat→Prop):Prop where
 auto:AutoC g I rows
 lr:LRok g (itI I) la (goR g rows)
 only:Only g (itI I) la (goR g rows) (actT T)
 alen:T.act.length=I.length
 few:T.act.length≤400
 arow:∀r∈T.act,r.length=g.terms+1
 go:T.go=rows.map (·.drop g.terms)
theorem laK_le{g:Gram}{S:List (List Look)}(h:∀st∈S,∀x∈st,x.set<2 ^ (g.terms+1)){s:Nat}{x:Lr}{t:Nat}(hl:laK S s x t):t≤g.terms:=by
 obtain⟨st,m,h1,h2,h3⟩:=hl;have h4:=h st (gM h1) _ h2;rcases Nat.lt_or_ge g.terms t with h5 | h5
 ·have h6:m<2 ^ t:=Nat.lt_of_lt_of_le h4 (Nat.pow_le_pow_right (by decide) h5);rw[Nat.testBit_lt_two_pow h6] at h3;cases h3
 ·exact h5
theorem lrt_of{g:Gram}(hg:Valid g)(ht5:g.terms≤5){method:Nat}{T:Tab}(h:tableF g method=some T)(hc:T.conf=[]):∃I rows la,LRT g T I rows la:=by
 have hsm:=tableF_sm hg ht5 h;unfold tableF at h;cases hst:statesF g method with
 | none=>rw[hst] at h;cases h
 | some a=>
  obtain⟨S,rows⟩:=a;rw[hst] at h;obtain rfl:=Option.some.inj h;obtain⟨h1,h2⟩:=statesF_ok hg hst;have hPK:=statesF_PK hg hst;refine⟨S.map itemsK,rows,laK S,h1,h2,only_ok hg h1 (fun s x t hl=>laK_le (fun st hst x hx=>((hPK st hst).2 x hx).2) hl) hc,?_,hsm.2.1,hsm.2.2.2.1,rfl⟩;show ((allF g S rows).map _).length=_;unfold allF;simp
section
variable {g:Gram}{T:Tab}{I:List (List Lr)}{rows:List (List Int)}{la:Nat→Lr→Nat→Prop}
theorem LRT.goes(hg:Valid g)(h:LRT g T I rows la){s s':Nat}{y:Sym}(hgo:goR g rows s y=some s'):s'<T.act.length:=by
 obtain⟨st,st',_,e,_⟩:=h.auto.goes hg hgo;rw[h.alen];exact(gS e).1
theorem LRT.pos(h:LRT g T I rows la):0<T.act.length:=by
 obtain⟨st,hst,_⟩:=h.auto.zero;rw[h.alen];exact(gS hst).1
theorem LRT.act(h:LRT g T I rows la){s t:Nat}(hs:s<T.act.length)(ht:t≤g.terms):∃row p,T.act[s]?=some row∧row[t]?=some p∧actT T s t=decA p:=by
 have h1:=gE hs;have hr:=h.arow T.act[s] (List.getElem_mem hs);have h2:=gE (show t<(T.act[s]).length by omega);refine⟨_,_,h1,h2,?_⟩;unfold actT;rw[getD_some h1,getD_some h2]
theorem LRT.goAt(h:LRT g T I rows la){s s' n:Nat}(hgo:goR g rows s ⟨false,n⟩=some s'):∃row,T.go[s]?=some row∧row[n]?=some (s':Int):=by
 unfold goR at hgo;split at hgo
 ·rw[h.go];cases hr:rows[s]? with
  | none=>rw[hr] at hgo;cases hgo
  | some row=>
   rw[hr] at hgo;dsimp only at hgo;have e:idxS g ⟨false,n⟩=n+g.terms:=rfl;rw[e] at hgo;cases hx:row[n+g.terms]? with
   | none=>rw[hx] at hgo;cases hgo
   | some j=>
    rw[hx] at hgo;dsimp only at hgo;split at hgo
    ·have:=Option.some.inj hgo;refine⟨row.drop g.terms,by rw[List.getElem?_map,hr];rfl,?_⟩;rw[List.getElem?_drop,Nat.add_comm,hx];congr 1;omega
    ·cases hgo
 ·cases hgo
theorem LStk.top(hg:Valid g)(h:LRT g T I rows la){w:List Nat}{σ:List Nat}{τ:List Tree}{i:Nat}(hs:LStk g (goR g rows) w σ τ i):topS σ<T.act.length:=by
 cases hs with
 | nil=>exact h.pos
 | snoc h1 h2 h3=>rw[topS_snoc];exact h.goes hg h2
theorem LStk.redAt(hg:Valid g)(h:LRT g T I rows la){w:List Nat}{σ:List Nat}{τ:List Tree}{i t k:Nat}(hs:LStk g (goR g rows) w σ τ i)(hk:actT T (topS σ) t=.red k) :
  ∃r s0 s',g.rules[k]?=some r∧r.right.length<σ.length∧r.right.length≤τ.length∧σ[σ.length-r.right.length-1]?=some s0∧goR g rows s0 ⟨false,r.left⟩=some s'∧
   redS g (goR g rows) (actT T) t (σ,τ)=(σ.take (σ.length-r.right.length)++[s'],τ.take (τ.length-r.right.length)++[.mk k 0 (τ.drop (τ.length-r.right.length))]):=by
 have h1:=h.only.one (s:=topS σ) (t:=t) (by rw[hk];exact Act.noConfusion);rw[hk] at h1;cases h1 with
 | red hr hit hla=>
  rename_i r;have hrl:=rightL_rule hr;obtain⟨σ0,s0,τ0,τ1,i0,e1,e2,e3,e4,e5,e6⟩:=LStk.under h.lr r.right.length hs hit (by rw[hrl];exact Nat.le_refl _);obtain⟨s',hs'⟩:=h.lr.fill e5 hr;have hl:=congrArg List.length e1;rw[List.length_take,List.length_append,List.length_singleton] at hl;have hl2:=hs.len.1;have hτ:τ.length=τ0.length+r.right.length:=by rw[e2,List.length_append,e3]
  refine⟨r,s0,s',hr,by omega,by omega,?_,hs',?_⟩
  ·have:(σ.take (σ.length-r.right.length))[σ0.length]?=some s0:=by rw[e1];simp
   rw[List.getElem?_take_of_lt zo] at this;rw[←this];congr 1;omega
  ·unfold redS;dsimp only;rw[hk];dsimp only;rw[hr];dsimp only;rw[topS_take e1,hs'];rfl
end
structure PP where
 method:Nat
 a1:Option Addr
 n1:Nat
 c1:Nat
 a2:Option Addr
 n2:Nat
 c2:Nat
 a3:Option Addr
 n3:Nat
 c3:Nat
 ga:Option Addr
 gm:Nat
 gc:Nat
 sa:Option Addr
 sn:Nat
 sc:Nat
 ta:Option Addr
 tn:Nat
 tc:Nat
 read:Nat
def ppCells(g:Gram)(p:PP):List Value:=[.int .i64 p.method,.slice p.a1 p.n1 p.c1,.slice p.a2 p.n2 p.c2,.slice p.a3 p.n3 p.c3,.int .i64 g.terms,.int .i64 g.nons,.int .i64 g.start,.slice p.ga p.gm p.gc,.slice p.sa p.sn p.sc,.slice p.ta p.tn p.tc,.int .i64 p.read]
structure PPOk(g:Gram)(T:Tab)(F:Frz)(p:PP)(σ:List Nat)(τ:List Tree):Prop where
 act:Arr (tList tAct) F p.a1 p.n1 p.c1 T.act
 go:Arr (tList tInt) F p.a2 p.n2 p.c2 T.go
 rules:Arr tRule F p.ga p.gm p.gc g.rules
 states:Arr tNat F p.sa p.sn p.sc σ
 trees:Arr tTree F p.ta p.tn p.tc τ
 first:τ=[]→p.ta=none
theorem PPOk.mono{g:Gram}{T:Tab}{F G:Frz}{p:PP}{σ:List Nat}{τ:List Tree}(h:PPOk g T F p σ τ)(hF:Frz.le F G):PPOk g T G p σ τ:=
 ⟨h.act.mono hF,h.go.mono hF,h.rules.mono hF,h.states.mono hF,h.trees.mono hF,h.first⟩
def actOut:Act→Act
 | .red _=>.no
 | a=>a
structure RdS where
 j:Nat
 xa:Option Addr
 xn:Nat
 xc:Nat
 B1:List (Nat×Blk)
 ya:Option Addr
 yn:Nat
 yc:Nat
 B2:List (Nat×Blk)
theorem top_at{l:List Nat}(h:l≠[]):l[l.length-1]?=some (topS l):=by
 rcases List.eq_nil_or_concat l with rfl | ⟨l',a,rfl⟩
 ·exact absurd rfl h
 ·rw[List.concat_eq_append,topS_snoc];simp
theorem vecGB2{α:Type}{R:Ty α}{F:Frz}{a:Option Addr}{n c:Nat}{B:List (Nat×Blk)}{xs:List α}(h:Vec R F a n c B xs)(hne:xs≠[]):GB R F a n c B xs:=(h.bld hne).gb
theorem own_ret{α:Type}(A B1 B2 C D:List α)(l:List (List α)):(B2::B1::C::D::l).Perm (C::D::B1::B2::l):=
 ((List.perm_append_comm (l₁:=[B2,B1]) (l₂:=[C,D])).append_right l).trans (List.Perm.cons _ (List.Perm.cons _ (List.Perm.swap _ _ _)))
theorem redS_len{g:Gram}{go:Nat→Sym→Option Nat}{act:Nat→Nat→Act}(t:Nat)(c:Conf):(redS g go act t c).1.length≤c.1.length+1∧(redS g go act t c).2.length≤c.2.length+1:=by
 unfold redS;split
 ·split
  ·dsimp only;rw[List.length_append,List.length_append,List.length_take,List.length_take,List.length_singleton,List.length_singleton];omega
  ·omega
 ·omega
theorem redN_len{g:Gram}{go:Nat→Sym→Option Nat}{act:Nat→Nat→Act}(t:Nat):∀(n:Nat) (c:Conf),(redN g go act t n c).1.length≤c.1.length+n∧(redN g go act t n c).2.length≤c.2.length+n
 | 0,c=>⟨Nat.le_refl _,Nat.le_refl _⟩
 | n+1,c=>by
  have h1:=redN_len (g:=g) (go:=go) (act:=act) t n (redS g go act t c);have h2:=redS_len (g:=g) (go:=go) (act:=act) t c;show (redN g go act t n (redS g go act t c)).1.length≤_∧(redN g go act t n (redS g go act t c)).2.length≤_;omega
theorem decA_red{p:Nat×Nat}{k:Nat}:decA p=.red k↔p=(2,k):=by
 unfold decA;split<;>simp_all
theorem decA_other{a b:Nat}(h:a≠2):actOut (decA (a,b))=decA (a,b)∧∀k,decA (a,b)≠.red k:=by
 refine⟨?_,fun k e=>?_⟩
 ·unfold actOut;split
  ·rename_i k e;have:=decA_red.1 e;simp at this;exact absurd this.1 h
  ·rfl
 ·have:=decA_red.1 e;simp at this;exact absurd this.1 h
theorem reduce_spec(F:Frz)(g:Gram)(hg:Valid g){T:Tab}{I:List (List Lr)}{rows:List (List Int)}{la:Nat→Lr→Nat→Prop}(hL:LRT g T I rows la){p:PP}{pi:Nat}{σ:List Nat}{τ:List Tree}(hp:PPOk g T F p σ τ){w:List Nat}{i:Nat}(hs:LStk g (goR g rows) w σ τ i)(hσ:σ.length≤2000000)(hw:w.length≤1000){t:Nat}(ht:t≤g.terms) :
  Abs.Spec CC 48 [.pointer (some ⟨pi,0,none⟩),.int .i64 t] F [[(pi,.cells false (ppCells g p))]] fun F' v o=>∃B1 B2,o=[[(pi,.cells false (ppCells g p))],B1,B2]∧∃xa xn xc ya yn yc a b,v=.tuple ⟨[.slice xa xn xc,.slice ya yn yc,.agg ⟨[.int .i64 (a:Nat),.int .i64 (b:Nat)]⟩]⟩∧
   GB tNat F' xa xn xc B1 (redN g (goR g rows) (actT T) t 100000 (σ,τ)).1∧GB tTree F' ya yn yc B2 (redN g (goR g rows) (actT T) t 100000 (σ,τ)).2∧decA (a,b)=actOut (actT T (topS (redN g (goR g rows) (actT T) t 100000 (σ,τ)).1) t):=by
 have hsl:=hp.states.len;have htl:=hp.trees.len;have hal:=hp.act.len;have hgl:=hp.go.len;have hrl:=hp.rules.len;have hfew:=hL.few;have hgr:=hg.range.rules;have hgt:=hg.range.terms;have hst:=hs.len;have hgl2:T.go.length=T.act.length:=by rw[hL.go,List.length_map,hL.auto.len,hL.alen]
 unfold ppCells;refine Abs.Spec.fn (n:=128) Tryz.func48 rfl rfl fun own=>?_;refine zC5 ?_;refine WT.allocT hT Z Z Z Z Z Z (fun i6 hi6=>?_);refine zC5 ?_;refine AW.draw (ps:=[(8,4)]) Z Z ?_;refine zC5 ?_;refine WT.callN Tryz.func66 Z Z Z Z Z Z (natClone2_spec F hp.states zo) (fun F1 v B1 hF1 hv=>?_);obtain⟨xa,xc,rfl,hx,_⟩:=hv;have hp1:=hp.mono hF1;refine zC5 ?_;refine WT.callN Tryz.func92 Z Z Z Z Z Z (treeHClone2_spec F1 F1 (arrAt hp1.trees) zo) (fun F2 v B2 hF2 hv=>?_);obtain⟨ya,yc,rfl,hy,hy0⟩:=hv;have hp2:=hp1.mono hF2;have hσne:σ≠[]:=fun e=>by rw[e] at hst;simp at hst
 have hx:=vecGB2 (hx.mono hF2) hσne;have hy:GB tTree F2 ya p.tn yc B2 τ:=by
  by_cases e:τ=[]
  ·have h1:=hy0 (hp.first e)
   exact⟨h1.len,h1.at_.imp id fun ⟨i,cs,rest,g1,g2,g3,g4,g5⟩=>⟨i,cs,rest,g1,g2,g3,cells_of g4 hF2,g5⟩⟩
  ·exact vecGB2 (vecOf hy hF2) e
 refine zC5 ?_;refine⟨zrC,?_⟩;refine zC5 ?_;refine AW.block ?_;refine AW.loopR (S:=RdS) (fun s=>[(25,.int .i64 (s.j:Nat)),(7,.slice s.xa s.xn s.xc),(8,.slice s.ya s.yn s.yc)]) (fun s=>s.B2::s.B1::[(i6,.cells false [.int .i64 0,.int .i64 0])]::[(pi,.cells false (ppCells g p))]::own)
  (fun s G=>s.j≤100000∧GB tNat G s.xa s.xn s.xc s.B1 (redN g (goR g rows) (actT T) t s.j (σ,τ)).1∧GB tTree G s.ya s.yn s.yc s.B2 (redN g (goR g rows) (actT T) t s.j (σ,τ)).2) (fun s=>100000-s.j) ⟨0,xa,p.sn,xc,B1,ya,p.tn,yc,B2⟩ sM oR ⟨Nat.zero_le _,hx,hy⟩ ?_
 intro s F3 hF3 hP;obtain⟨j,xa,xn,xc,B1,ya,yn,yc,B2⟩:=s;obtain⟨hj,hx,hy⟩:=hP;dsimp only at hj hx hy;have hp3:=hp2.mono hF3;have hs3:=LStk.redN hL.lr hL.only (t:=t) j (c:=(σ,τ)) hs;have hln:=redN_len (g:=g) (go:=goR g rows) (act:=actT T) t j (σ,τ);have hend:∀k,j=k→(∀q,actT T (topS (redN g (goR g rows) (actT T) t k (σ,τ)).1) t≠.red q)→redN g (goR g rows) (actT T) t 100000 (σ,τ)=redN g (goR g rows) (actT T) t k (σ,τ):=fun k hk h=>redN_end rfl zo h;have hsuc:redN g (goR g rows) (actT T) t (j+1) (σ,τ)=redS g (goR g rows) (actT T) t (redN g (goR g rows) (actT T) t j (σ,τ)):=redN_last t j (σ,τ)
 have hlast:j=100000→redN g (goR g rows) (actT T) t 100000 (σ,τ)=redN g (goR g rows) (actT T) t j (σ,τ):=fun h=>by rw[h]
 have hend:=hend j rfl;generalize redN g (goR g rows) (actT T) t j (σ,τ)=cj at hx hy hs3 hln hend hsuc hlast;obtain⟨σj,τj⟩:=cj;have hxl:=hx.len;have hyl:=hy.len;have hs3l:=hs3.len;have htop:=hs3.top hg hL;have hne:σj≠[]:=fun e=>by rw[e] at hs3l;simp at hs3l
 have htat:=top_at hne;dsimp only at hx hy hxl hyl hs3l hln htop htat hend hsuc hlast hs3;obtain⟨ib,csb,rsb,rfl,rfl,rfl,hxc,_⟩:=hx.at_pos htat;obtain⟨row,⟨a,b⟩,hra,hrb,hact⟩:=hL.act htop ht;have hrow:=hL.arow row (gM hra);unfold ppCells;dsimp only;refine zC5 ?_;refine AW.cond Z (fun hk=>?_) (fun hk=>?_)
 ·have hk:j<100000:=by simp at hk;omega
  refine zC5 ?_;refine AW.block ?_;refine zC5 ?_;refine AW.draw (ps:=[(4,16),(7,16),(8,16),(10,16),(12,16),(15,16)]) Z Z ?_;refine zC5 ?_;refine WT.gidx (j:=xn-1) hT hx Z Z Z Z Z Z Z Z Z zo (fun b1 hb1=>?_);refine WT.gld1 (x:=topS σj) hT 1 hx hb1 (by rw[hxl];exact htat) Z Z Z Z Z Z (fun z hz=>hz) Z Z Z (fun v hv=>?_);obtain rfl:b1=ib:=by cases hb1;rfl
  obtain rfl:v=_:=(List.singleton_inj.1 hv);refine WT.idxL hT hp3.act Z Z Z Z Z Z Z Z Z zo (fun row' hr1 b2 off2 ro2 cs2 lx2 hb2 hp2' hrel2=>?_);obtain rfl:row'=row:=by rw[hra] at hr1;exact(Option.some.inj hr1).symm
  obtain⟨ra,rn,rc,rfl,hrow3⟩:=hrel2;have hrow3l:=hrow3.len;refine zC5 ?_;refine WT.idxL hT hrow3 Z Z Z Z Z Z Z Z Z zo (fun q hr2 b3 off3 ro3 cs3 lx3 hb3 hp3' hrel3=>?_);obtain rfl:q=(a,b):=by rw[hrb] at hr2;exact(Option.some.inj hr2).symm
  obtain rfl:lx3=_:=hrel3;refine zC5 ?_;refine WT.allocT hT Z Z Z Z Z Z (fun i9 hi9=>?_);refine zC5 ?_;refine⟨(by repeat (first | exact trivial | refine recs_pair rfl rfl (by first | exact keep0 | exact kp 3 4 me me | exact kp 1 2 me me | exact keep1 (keeps_frz hb2) | exact keep1 (keeps_frz hb3)) ?_)),?_⟩
  refine zC5 ?_;refine AW.cond Z (fun h2=>?_) (fun h2=>?_)
  ·have h2:a≠2:=by intro e;subst e;simp at h2
   obtain⟨ho,hn⟩:=decA_other (b:=b) h2;rw[←hact] at ho hn;refine zC5 ?_;refine AW.le (OwnLe.skip _ (OwnLe.perm (own_ret [] _ _ _ _ _))) ?_;have he:=hend hn;refine AW.ret ⟨_,[[(pi,.cells false (ppCells g p))],[(b1,.cells false (csb++rsb))],B2],⟨_,_,rfl,⟨_,_,rfl,⟨_,_,⟨_,rfl,fun G h0 s0=>loadA_cells (s0.has (p:=0) Z me) (readT_ok hT rfl)⟩,rfl,rfl⟩,rfl⟩,rfl⟩,zsb,_,_,rfl,_,_,_,_,_,_,_,_,rfl,?_,?_,?_⟩
   ·rw[he];exact hx
   ·rw[he];exact hy
   ·rw[he];exact hact.symm.trans ho.symm
  ·have h2:a=2:=by simp at h2;omega
   subst h2;have hact:actT T (topS σj) t=.red b:=hact;obtain⟨r,s0,s',hr1,hr2,hr3,hr4,hr5,hr6⟩:=hs3.redAt hg hL hact;rw[hr6] at hsuc;have hbl:=(gS hr1).1;have hrr:=hg.right r (gM hr1);refine zC5 ?_;refine AW.draw (ps:=[(4,9),(6,9),(8,9)]) Z Z ?_;refine zC5 ?_;refine WT.idxL hT hp3.rules Z Z Z Z Z Z Z Z Z zo (fun r' hq1 b4 off4 ro4 cs4 lx4 hb4 hp4' hrel4=>?_);obtain rfl:r'=r:=by rw[hr1] at hq1;exact(Option.some.inj hq1).symm
   obtain⟨qa,qn,qc,rfl,hright⟩:=hrel4;have hqn:=hright.len;refine zC5 ?_;refine WT.allocT hT Z Z Z Z Z Z (fun i10 hi10=>?_);refine zC5 ?_;refine⟨(by repeat (first | exact trivial | refine recs_pair rfl rfl (by first | exact keep0 | exact kp 4 5 me me | exact kp 0 1 me me | exact keep1 (keeps_frz hb4)) ?_)),?_⟩
   refine zC6 ?_;refine AW.draw (ps:=[(1,5),(1,7),(4,7)]) Z Z ?_;refine zC6 ?_;obtain⟨ka,kc,hks,hka⟩:=gbTail (C:=CC) (gbAt (G:=F3) hy) (lo:=yn-qn) zo hT (t:=57) Z Z Z;refine WT.slice Z Z Z Z Z Z Z Z hks ?_;refine WT.callLendN (P:=fun v B'=>∃a2 c2,v=.slice a2 (yn-(yn-qn)) c2∧Vec tTree F3 a2 (yn-(yn-qn)) c2 B' (τj.drop (yn-qn))) 2 Tryz.func92 Z Z Z Z Z Z Z (fun G hG hBG=>Spec.mono (treeHClone2_spec G F3 (hka G hG hBG) zo) (fun F' v o hF' ⟨B',e1,a',c',e2,hV,_⟩=>⟨B',e1,a',c',e2,vecOf hV (Frz.le.refl F3)⟩)) (fun v BK hv=>?_);obtain⟨ka2,kc2,rfl,hkv⟩:=hv;refine WT.freezeAll 0 Z Z (fun F4 hF4 hB4=>?_)
   have hkids:=hkv.arr hF4 hB4;have hkl:=hkids.len;refine zC6 ?_;refine WT.allocT hT Z Z Z Z Z Z (fun i13 hi13=>?_);refine zC6 ?_;refine⟨(by repeat (first | exact trivial | refine recs_pair rfl rfl (by first | exact keep0 | exact kp 1 2 me me | exact kp 2 3 me me) ?_)),?_⟩
   refine zC8 ?_;refine AW.draw (ps:=[(2,19)]) Z Z ?_;refine zC8 ?_;have hx4:=hx.mono hF4;have hy4:=hy.mono hF4;have hp4:=hp3.mono hF4;refine WT.sliceG hT hx4 Z Z Z Z Z Z Z Z Z (show xn-qn≤xn by omega) ?_;refine zC8 ?_;refine WT.gidx (j:=xn-qn-1) hT hx4 Z Z Z Z Z Z Z Z Z zo (fun b5 hb5=>?_);refine WT.gld1 (x:=s0) hT 5 hx4 hb5 (by rw[hxl,hqn];exact hr4) Z Z Z Z Z Z (fun z hz=>hz) Z Z Z (fun v hv=>?_);obtain rfl:v=_:=(List.singleton_inj.1 hv);obtain⟨grow,hg1,hg2⟩:=hL.goAt hr5;have hgb:=(gS hg1).1;have hgb2:=(gS hg2).1
   refine WT.idxL hT hp4.go Z Z Z Z Z Z Z Z Z zo (fun grow' hg3 b6 off6 ro6 cs6 lx6 hb6 hp6' hrel6=>?_);obtain rfl:grow'=grow:=by rw[hg1] at hg3;exact(Option.some.inj hg3).symm
   obtain⟨za,zn,zc,rfl,hgrow⟩:=hrel6;have hgrl:=hgrow.len;refine zC8 ?_;refine WT.idxL hT hgrow Z Z Z Z Z Z Z Z Z zo (fun z hg4 b7 off7 ro7 cs7 lx7 hb7 hp7' hrel7=>?_);obtain rfl:z=(s':Int):=by rw[hg2] at hg4;exact(Option.some.inj hg4).symm
   obtain rfl:lx7=_:=hrel7;refine zC8 ?_;refine WT.buildT hT Z Z Z Z Z Z Z Z Z Z Z Z Z Z (fun i33 hi33=>?_);refine WT.appendG (R:=tNat) (ys:=[s']) hT 6 (hx4.take (show xn-qn≤xn by omega)) Z (fun _=>rfl) Z Z Z Z Z Z Z Z Z Z Z (fun h0 s0=>news_own hT s0 0 Z Z Z Z) (Cells.single (R:=tNat) (x:=s') rfl) Z (by decide) zom (fun a8 c8 B8 hB8=>?_);refine zC8 ?_;refine⟨(by repeat (first | exact trivial | refine recs_pair rfl rfl (by first | exact keep0) ?_)),?_⟩
   refine AW.draw (ps:=[(2,4)]) Z Z ?_;refine zC8 ?_;refine WT.sliceG hT hy4 Z Z Z Z Z Z Z Z Z (show yn-qn≤yn by omega) ?_;refine zC8 ?_;refine WT.buildT hT Z Z Z Z Z Z Z Z Z Z Z Z Z Z (fun i34 hi34=>?_);refine WT.appendG (R:=tTree) (ys:=[.mk b 0 (τj.drop (yn-qn))]) hT 6 (hy4.take (show yn-qn≤yn by omega)) Z (fun _=>rfl) Z Z Z Z Z Z Z Z Z Z Z (fun h0 s0=>news_own hT s0 0 Z Z Z Z) (Cells.single (R:=tTree) (x:=.mk b 0 (τj.drop (yn-qn))) (tTree_mk hkids (by rw[List.length_drop];omega))) Z (by decide) zom (fun a9 c9 B9 hB9=>?_);refine zC8 ?_
   refine⟨(by repeat (first | exact trivial | refine recs_pair rfl rfl (by first | exact keep0) ?_)),?_⟩
   refine zC8 ?_;have ex:xn-qn=σj.length-r'.right.length:=by omega
   have ey:yn-qn=τj.length-r'.right.length:=by omega
   refine⟨⟨j+1,a8,xn-qn+1,c8,B8,a9,yn-qn+1,c9,B9⟩,by show 100000-(j+1)<100000-j;omega,sM,zow,?_,?_,?_⟩
   ·show j+1≤100000;omega
   ·show GB tNat _ a8 (xn-qn+1) c8 B8 (redN g (goR g rows) (actT T) t (j+1) (σ,τ)).1;rw[hsuc,←ex];exact hB8.gb
   ·show GB tTree _ a9 (yn-qn+1) c9 B9 (redN g (goR g rows) (actT T) t (j+1) (σ,τ)).2;rw[hsuc,←ey];exact hB9.gb
 ·have hk:j=100000:=by simp at hk;omega
  have he:=hlast hk;refine AW.exit ?_;refine zC5 ?_;refine AW.draw (ps:=[(4,16),(7,16),(8,16),(10,16),(12,16),(15,16)]) Z Z ?_;refine zC5 ?_;refine WT.gidx (j:=xn-1) hT hx Z Z Z Z Z Z Z Z Z zo (fun b1 hb1=>?_);refine WT.gld1 (x:=topS σj) hT 1 hx hb1 (by rw[hxl];exact htat) Z Z Z Z Z Z (fun z hz=>hz) Z Z Z (fun v hv=>?_);obtain rfl:b1=ib:=by cases hb1;rfl
  obtain rfl:v=_:=(List.singleton_inj.1 hv);refine WT.idxL hT hp3.act Z Z Z Z Z Z Z Z Z zo (fun row' hr1 b2 off2 ro2 cs2 lx2 hb2 hp2' hrel2=>?_);obtain rfl:row'=row:=by rw[hra] at hr1;exact(Option.some.inj hr1).symm
  obtain⟨ra,rn,rc,rfl,hrow3⟩:=hrel2;have hrow3l:=hrow3.len;refine zC5 ?_;refine WT.idxL hT hrow3 Z Z Z Z Z Z Z Z Z zo (fun q hr2 b3 off3 ro3 cs3 lx3 hb3 hp3' hrel3=>?_);obtain rfl:q=(a,b):=by rw[hrb] at hr2;exact(Option.some.inj hr2).symm
  obtain rfl:lx3=_:=hrel3;refine zC5 ?_;refine WT.allocT hT Z Z Z Z Z Z (fun i9 hi9=>?_);refine zC5 ?_;refine⟨(by repeat (first | exact trivial | refine recs_pair rfl rfl (by first | exact keep0 | exact kp 3 4 me me | exact kp 1 2 me me | exact keep1 (keeps_frz hb2) | exact keep1 (keeps_frz hb3)) ?_)),?_⟩
  refine zC5 ?_;refine AW.cond Z (fun h2=>?_) (fun h2=>?_)
  ·have h2:a=2:=by simp at h2;omega
   subst h2;have hact:actT T (topS σj) t=.red b:=hact;refine zC5 ?_;refine AW.le (OwnLe.skip _ (OwnLe.perm (own_ret [] _ _ _ _ _))) ?_;refine AW.ret ⟨_,[[(pi,.cells false (ppCells g p))],[(b1,.cells false (csb++rsb))],B2],⟨_,_,rfl,⟨_,_,rfl,⟨_,_,⟨_,rfl,fun G h0 s0=>loadA_cells (s0.has (p:=0) Z me) (readT_ok hT rfl)⟩,rfl,rfl⟩,rfl⟩,rfl⟩,zsb,_,_,rfl,_,_,_,_,_,_,(0:Nat),(0:Nat),rfl,?_,?_,?_⟩
   ·rw[he];exact hx
   ·rw[he];exact hy
   ·rw[he];show decA (0,0)=actOut (actT T (topS σj) t);rw[hact];rfl
  ·have h2:a≠2:=by intro e;subst e;simp at h2
   obtain⟨ho,hn⟩:=decA_other (b:=b) h2;rw[←hact] at ho hn;refine zC5 ?_;refine AW.le (OwnLe.skip _ (OwnLe.perm (own_ret [] _ _ _ _ _))) ?_;refine AW.ret ⟨_,[[(pi,.cells false (ppCells g p))],[(b1,.cells false (csb++rsb))],B2],⟨_,_,rfl,⟨_,_,rfl,⟨_,_,⟨_,rfl,fun G h0 s0=>loadA_cells (s0.has (p:=0) Z me) (readT_ok hT rfl)⟩,rfl,rfl⟩,rfl⟩,rfl⟩,zsb,_,_,rfl,_,_,_,_,_,_,_,_,rfl,?_,?_,?_⟩
   ·rw[he];exact hx
   ·rw[he];exact hy
   ·rw[he];exact hact.symm.trans ho.symm
def closStep(g:Gram)(L:List Lr):List Lr:=(List.range g.rules.length).filterMap fun k=>match g.rules[k]? with
 | some r=>if L.any (fun x=>decide (afterL g x=some ⟨false,r.left⟩)) then some ⟨k,0⟩ else none
 | none=>none
def closIt(g:Gram):Nat→List Lr→List Lr
 | 0,L=>L
 | n+1,L=>closIt g n (L++(closStep g L).filter fun z=>!decide (z∈L))
def closC(g:Gram)(l:List Lr):Option (List Lr):=
 if (closStep g (closIt g (g.rules.length+1) l)).all fun z=>decide (z∈closIt g (g.rules.length+1) l) then some ((allLr g).filter fun z=>decide (z∈closIt g (g.rules.length+1) l)) else none
theorem mem_closStep{g:Gram}{L:List Lr}{z:Lr}:z∈closStep g L↔∃k r x,z=⟨k,0⟩∧g.rules[k]?=some r∧x∈L∧afterL g x=some ⟨false,r.left⟩:=by
 unfold closStep;rw[List.mem_filterMap];constructor
 ·rintro⟨k,hk,h⟩;split at h
  ·rename_i r hr;split at h
   ·rename_i ha;obtain⟨x,hx,hd⟩:=List.any_eq_true.1 ha;exact⟨k,r,x,(Option.some.inj h).symm,hr,hx,of_decide_eq_true hd⟩
   ·cases h
  ·cases h
 ·rintro⟨k,r,x,rfl,hr,hx,ha⟩;refine⟨k,List.mem_range.2 (gS hr).1,?_⟩;rw[hr];dsimp only;rw[if_pos (List.any_eq_true.2 ⟨x,hx,decide_eq_true ha⟩)]
theorem closIt_sound{g:Gram}{l:List Lr}:∀(n:Nat) {L:List Lr},(∀x∈L,Clos g l x)→∀x∈closIt g n L,Clos g l x
 | 0,_,h=>h
 | n+1,L,h=>closIt_sound n (L:=L++(closStep g L).filter fun z=>!decide (z∈L)) fun x hx=>by
  rcases List.mem_append.1 hx with hx | hx
  ·exact h x hx
  ·obtain⟨k,r,y,rfl,hr,hy,ha⟩:=mem_closStep.1 (List.mem_filter.1 hx).1;exact .more (h y hy) ha hr rfl
theorem closIt_more{g:Gram}:∀(n:Nat) {L:List Lr} {x:Lr},x∈L→x∈closIt g n L
 | 0,_,_,h=>h
 | n+1,L,x,h=>closIt_more n (List.mem_append_left _ h)
theorem closC_ok{g:Gram}{l m:List Lr}(h:closC g l=some m):closL g l=m:=by
 unfold closC at h;split at h
 ·rename_i hc;obtain rfl:=Option.some.inj h;unfold closL;refine List.filter_congr fun z hz0=>?_;clear hz0;rw[Bool.eq_iff_iff,@decide_eq_true_iff _ (Classical.propDecidable _),decide_eq_true_iff];constructor
  ·intro hz
   induction hz with
   | base h=>exact closIt_more _ h
   | more h1 h2 h3 h4 ih=>
    subst h4;exact of_decide_eq_true (List.all_eq_true.1 hc _ (mem_closStep.2 ⟨_,_,_,rfl,h3,ih,h2⟩))
  ·exact closIt_sound _ (fun x hx=>.base hx) z
 ·cases h
def stepC(g:Gram)(st:List Lr):List Sym→Option (List (Option (List Lr)))
 | []=>some []
 | y::ys=>match stepC g st ys with
  | none=>none
  | some os=>if kern g st y=[] then some (none::os) else match closC g (kern g st y) with
   | none=>none
   | some s=>some (some s::os)
theorem stepC_ok{g:Gram}{st:List Lr}:∀{ys:List Sym} {os:List (Option (List Lr))},stepC g st ys=some os→(ys.map fun y=>if kern g st y=[] then none else some (closL g (kern g st y)))=os
 | [],os,h=>by cases h;rfl
 | y::ys,os,h=>by
  unfold stepC at h;cases h1:stepC g st ys with
  | none=>rw[h1] at h;cases h
  | some os1=>
   rw[h1] at h;dsimp only at h;rw[List.map_cons,stepC_ok h1];split at h
   ·rename_i hk;cases h;rw[if_pos hk]
   ·rename_i hk;cases h2:closC g (kern g st y) with
    | none=>rw[h2] at h;cases h
    | some s=>
     rw[h2] at h;cases h;rw[if_neg hk,closC_ok h2]
def numC(g:Gram):Nat→Nat→List (List Lr)→List (List Int)→Option (List (List Lr)×List (List Int))
 | 0,_,_,_=>none
 | f+1,i,sts,rows=>match sts[i]? with
  | none=>some (sts,rows)
  | some st=>match stepC g st (symsL g) with
   | none=>none
   | some os=>if (addAll sts os).1.length≤400 then numC g f (i+1) (addAll sts os).1 (rows++[(addAll sts os).2]) else none
theorem numC_ok{g:Gram}:∀(f f' i:Nat) {sts:List (List Lr)} {rows:List (List Int)} {r},f≤f'→numC g f i sts rows=some r→numF 400 (stepI g) f' i sts rows=some r
 | 0,_,_,_,_,_,_,h=>by cases h
 | f+1,0,_,_,_,_,hf,_=>by omega
 | f+1,f'+1,i,sts,rows,r,hf,h=>by
  unfold numC at h;unfold numF;cases hs:sts[i]? with
  | none=>rw[hs] at h;exact h
  | some st=>
   rw[hs] at h;dsimp only at h ⊢;cases h1:stepC g st (symsL g) with
   | none=>rw[h1] at h;cases h
   | some os=>
    rw[h1] at h;dsimp only at h;have e:stepI g st=os:=stepC_ok h1;rw[e];split at h
    ·rename_i hl;rw[if_pos hl];exact numC_ok f f' (i+1) zo h
    ·cases h
def autoC(g:Gram):Option (List (List Lr)×List (List Int)):=match closC g [⟨g.rules.length,0⟩] with
 | none=>none
 | some s=>numC g 40 0 [s] []
theorem autoC_ok{g:Gram}{r}(h:autoC g=some r):autoI g=some r:=by
 unfold autoC at h;cases h1:closC g [⟨g.rules.length,0⟩] with
 | none=>rw[h1] at h;cases h
 | some s=>
  rw[h1] at h;unfold autoI firstI;rw[closC_ok h1];exact numC_ok 40 401 0 (by decide) h
def plainB(g:Gram)(a:List (List Lr)×List (List Int)):Bool:=(List.range a.1.length).all fun s=>(List.range (g.terms+1)).all fun t=>
 decide ((if t<g.terms then (match ((a.2.getD s [])[t]?) with | some j=>if 0≤j then 1 else 0 | none=>0) else 0)+((a.1.getD s []).filter fun x=>decide (afterL g x=none)).length≤1)
theorem filterMap_le{α β:Type}(f:α→Option β)(p:α→Bool)(h:∀a b,f a=some b→p a=true):∀l:List α,(l.filterMap f).length≤(l.filter p).length
 | []=>Nat.le_refl _
 | a::l=>by
  have ih:=filterMap_le f p h l;rw[List.filterMap_cons];cases hf:f a with
  | none=>
   dsimp only;rw[List.filter_cons];split
   ·rw[List.length_cons];omega
   ·exact ih
  | some b=>
   dsimp only;rw[List.filter_cons,if_pos (h a b hf),List.length_cons,List.length_cons];omega
theorem plain_conf{g:Gram}{I:List (List Lr)}{rows:List (List Int)}(h:plainB g (I,rows)=true)(la:Nat→Lr→Nat→Prop):(tabF (allF g (lookS g I la) rows) (rows.map (·.drop g.terms))).conf=[]:=by
 have hconf:(tabF (allF g (lookS g I la) rows) (rows.map (·.drop g.terms))).conf=confsTo (allF g (lookS g I la) rows) (allF g (lookS g I la) rows).length:=rfl;rw[hconf];unfold confsTo;rw[List.flatten_eq_nil_iff];intro l hl;obtain⟨s,hs,rfl⟩:=List.mem_map.1 hl;have hs:=List.mem_range.1 hs;have hlen:(allF g (lookS g I la) rows).length=I.length:=by
  unfold allF;rw[List.length_map,List.length_range];have:=congrArg List.length (lookS_items (g:=g) (I:=I) (la:=la))
  rwa [List.length_map] at this
 have hsl:(lookS g I la).length=I.length:=by
  have:=congrArg List.length (lookS_items (g:=g) (I:=I) (la:=la))
  rwa [List.length_map] at this
 rw[hlen] at hs;unfold confRow;rw[List.filterMap_eq_nil_iff];intro t ht;have ht:=List.mem_range.1 ht;have hr:(allF g (lookS g I la) rows).getD s []=(List.range (g.terms+1)).map fun t=>actsF g ((lookS g I la).getD s []) (rows.getD s []) t:=getD_some (map_at (List.getElem?_range zo));rw[hr] at ht ⊢;rw[List.length_map,List.length_range] at ht;rw[getD_some (map_at (List.getElem?_range ht))];rw[if_neg];have h1:=List.all_eq_true.1 h s (List.mem_range.2 hs);have h2:=of_decide_eq_true (List.all_eq_true.1 h1 t (List.mem_range.2 ht));have hst:=gE hs;generalize I[s]=st at hst
 have e:(lookS g I la).getD s []=st.map fun x=>⟨x,maskOf (la s x) (g.terms+1)⟩:=getD_some (by rw[lookS_at,hst];rfl);rw[getD_some hst] at h2;rw[e];rw[actsF_eq,List.length_append];have h3:(actPre g (rows.getD s []) t).length=(if t<g.terms then (match (rows.getD s [])[t]? with | some j=>if 0≤j then 1 else 0 | none=>0) else 0):=by
  unfold actPre;split
  ·cases (rows.getD s [])[t]? with
   | none=>rfl
   | some j=>
    dsimp only;split<;>rfl
  ·rfl
 have h4:=filterMap_le (actOne g t) (fun lk:Look=>decide (afterL g lk.item=none)) (fun a b hb=>by
  unfold actOne at hb;split at hb
  ·rename_i hc;exact decide_eq_true hc.1
  ·cases hb) (st.map fun x=>⟨x,maskOf (la s x) (g.terms+1)⟩)
 rw[List.filter_map,List.length_map] at h4;have h5:(fun lk:Look=>decide (afterL g lk.item=none)) ∘ (fun x=>(⟨x,maskOf (la s x) (g.terms+1)⟩:Look))=fun x=>decide (afterL g x=none):=rfl;rw[h5] at h4;rw[h3];dsimp only at h2;omega
def chainG:Gram:=⟨2,1,0,[⟨0,[⟨true,0⟩,⟨false,0⟩]⟩,⟨0,[⟨true,1⟩]⟩]⟩
theorem chain_small:Small chainG where
 terms:=by decide
 nons:=by decide
 start:=by decide
 rules:=by decide
 nodup:=by decide
 ok:=by
  intro r hr;simp only[chainG,List.mem_cons,List.not_mem_nil,or_false] at hr;rcases hr with rfl | rfl
  ·refine⟨by decide,by decide,fun y hy=>?_⟩;simp only[List.mem_cons,List.not_mem_nil,or_false] at hy;rcases hy with rfl | rfl<;>simp[SymOk,chainG]
  ·refine⟨by decide,by decide,fun y hy=>?_⟩;simp only[List.mem_cons,List.not_mem_nil,or_false] at hy;subst hy;simp[SymOk,chainG]
theorem chain_auto:∃a,autoC chainG=some a∧plainB chainG a=true:=by
 have h:(match autoC chainG with | some a=>plainB chainG a | none=>false)=true:=by decide +kernel
 cases ha:autoC chainG with
 | none=>rw[ha] at h;cases h
 | some a=>rw[ha] at h;exact⟨a,rfl,h⟩
theorem chain_tab:∃T,tableF chainG 2=some T∧T.conf=[]:=by
 obtain⟨⟨I,rows⟩,h1,h2⟩:=chain_auto;have h3:=autoC_ok h1;refine⟨_,?_,plain_conf h2 (LalA chainG I rows)⟩;unfold tableF statesF;rw[if_neg (by decide),h3];rfl
theorem chain_word{n:Nat}(h:n<chainG.nons):HasWord chainG n:=by
 have h:n<1:=h;obtain rfl:n=0:=by omega
 exact⟨[1],.non (r:=⟨0,[⟨true,1⟩]⟩) (by simp[chainG]) (.cons (.term rfl) .nil)⟩
theorem chain_tree:TreeOf chainG [0,1] ⟨false,0⟩ (.mk 0 0 [.mk (-1) 0 [],.mk 1 0 [.mk (-1) 1 []]]) 0 2:=
 .node (k:=0) (r:=⟨0,[⟨true,0⟩,⟨false,0⟩]⟩) rfl (.cons (.leaf rfl) (.cons (.node (k:=1) (r:=⟨0,[⟨true,1⟩]⟩) rfl (.cons (.leaf rfl) .nil)) .nil))
theorem chain_one:TreeOf chainG [1] ⟨false,0⟩ (.mk 1 0 [.mk (-1) 1 []]) 0 1:=.node (k:=1) (r:=⟨0,[⟨true,1⟩]⟩) rfl (.cons (.leaf rfl) .nil)
theorem chain_ends{w:List Nat}{j:Nat}(h:Der chainG w ⟨false,0⟩ 0 j)(h0:w[0]?=some 1):j=1:=by
 obtain⟨T,hT⟩:=Der.tree h;generalize hs:(⟨false,0⟩:Sym)=s at hT;cases hT with
 | leaf _=>cases hs
 | @node k r ks _ _ hr hk=>
  have hr:=gM hr;simp only[chainG,List.mem_cons,List.not_mem_nil,or_false] at hr;rcases hr with rfl | rfl
  ·cases hk with
   | cons h1 _=>
    cases h1 with
    | leaf h=>rw[h0] at h;cases h
  ·cases hk with
   | cons h1 h2=>
    cases h1 with
    | leaf h=>cases h2;rfl
theorem actOut_shift{x:Act}{s:Nat}:actOut x=.shift s↔x=.shift s:=by cases x<;>simp[actOut]
theorem actOut_acc{x:Act}:actOut x=.acc↔x=.acc:=by cases x<;>simp[actOut]
theorem decA_shift{a b s:Nat}:decA (a,b)=.shift s↔a=1∧b=s:=by
 unfold decA;split<;>simp_all
theorem decA_acc{a b:Nat}:decA (a,b)=.acc↔a=3:=by
 unfold decA;split<;>simp_all
theorem own_tr(A B C D:List (Nat×Blk))(l:Own):OwnLe (D::A::l) (A::B::C::D::l):=
 (OwnLe.perm (List.Perm.swap _ _ _)).trans (OwnLe.sub (List.Sublist.cons_cons _ (List.Sublist.cons _ (List.Sublist.cons _ (List.Sublist.refl _)))))
def PP.next(p:PP)(sa:Option Addr)(sn sc:Nat)(ta:Option Addr)(tn tc:Nat):PP:={ p with sa:=sa,sn:=sn,sc:=sc,ta:=ta,tn:=tn,tc:=tc,read:=p.read+1 }
theorem put_spec(F:Frz)(g:Gram)(hg:Valid g){T:Tab}{I:List (List Lr)}{rows:List (List Int)}{la:Nat→Lr→Nat→Prop}(hL:LRT g T I rows la){p:PP}{pi:Nat}{σ:List Nat}{τ:List Tree}(hp:PPOk g T F p σ τ){w:List Nat}{i:Nat}(hs:LStk g (goR g rows) w σ τ i)(hσ:σ.length≤2000000)(hw:w.length≤1000){t:Nat}(ht:t<g.terms)(hrd:p.read<2000) :
  Abs.Spec CC 20 [.pointer (some ⟨pi,0,none⟩),.int .i64 t] F [[(pi,.cells false (ppCells g p))]] fun F' v o=>∃p',o=[[(pi,.cells false (ppCells g p'))]]∧
   ((v=.int .i64 0∧p'.read=p.read+1∧∃s',actT T (topS (redN g (goR g rows) (actT T) t 100000 (σ,τ)).1) t=.shift s'∧PPOk g T F' p' ((redN g (goR g rows) (actT T) t 100000 (σ,τ)).1++[s']) ((redN g (goR g rows) (actT T) t 100000 (σ,τ)).2++[.mk (-1) t []]))∨
    (v=.int .i64 10∧p'=p∧∀s',actT T (topS (redN g (goR g rows) (actT T) t 100000 (σ,τ)).1) t≠.shift s')):=by
 have hgt:=hg.range.terms;have hst:=hs.len;unfold ppCells;refine Abs.Spec.fn (n:=57) Tryz.func20 rfl rfl fun own=>?_;refine zC5 ?_;refine AW.cond Z (fun h=>(by exfalso;simp at h;omega)) (fun _=>?_);refine zC5 ?_;refine AW.cond Z (fun h=>(by exfalso;simp at h;omega)) (fun _=>?_);refine zC5 ?_;have hrs:=reduce_spec F g hg hL hp hs hσ hw (pi:=pi) (t:=t) zo;have hln:=redN_len (g:=g) (go:=goR g rows) (act:=actT T) t 100000 (σ,τ);generalize redN g (goR g rows) (actT T) t 100000 (σ,τ)=cN at hrs hln;obtain⟨σN,τN⟩:=cN;dsimp only at hrs hln ⊢;unfold ppCells at hrs
 refine WT.callF (oin:=[[(pi,.cells false (ppCells g p))]]) Tryz.func48 Z Z Z Z Z Z hrs (List.Perm.refl _) (fun F1 v oout hF1 hv=>?_);obtain⟨B1,B2,rfl,xa,xn,xc,ya,yn,yc,a,b,rfl,hx,hy,hact⟩:=hv;have hxl:=hx.len;have hyl:=hy.len;have hp1:=hp.mono hF1;refine zC5 ?_;refine WT.allocT hT Z Z Z Z Z Z (fun i7 hi7=>?_);refine zC5 ?_;refine AW.cond Z (fun h=>?_) (fun h=>?_)
 ·have h:a≠1:=by intro e;subst e;simp at h
  refine zC5 ?_;refine AW.ret ⟨_,[[(pi,.cells false (ppCells g p))]],⟨_,_,rfl,rfl,rfl⟩,?_,p,rfl,.inr ⟨rfl,rfl,fun s' e=>?_⟩⟩
  ·exact List.Sublist.cons _ (List.Sublist.cons_cons _ (List.Sublist.cons _ (List.Sublist.cons _ (List.Sublist.refl _))))
  ·rw[e] at hact;exact h (decA_shift.1 hact).1
 ·have h:a=1:=by simp at h;omega
  subst h;have hsh:actT T (topS σN) t=.shift b:=actOut_shift.1 (hact.symm.trans rfl);refine zC6 ?_;refine WT.buildT hT Z Z Z Z Z Z Z Z Z Z Z Z Z Z (fun i33 hi33=>?_);refine WT.appendG (R:=tNat) (ys:=[b]) hT 3 hx Z (fun _=>rfl) Z Z Z Z Z Z Z Z Z Z Z (fun h0 s0=>news_own hT s0 0 Z Z Z Z) (Cells.single (R:=tNat) (x:=b) rfl) Z (by decide) zom (fun a8 c8 B8 hB8=>?_);refine zC6 ?_;refine WT.callF0 Tryz.func49 Z Z Z Z Z Z (leaf_spec _ t) (fun F2 v hF2 hv=>?_);obtain⟨cs,rfl,hlf⟩:=hv;obtain⟨za,zn,zc,rfl,hza,hzb⟩:=tTree_cases hlf;refine WT.buildT hT Z Z Z Z Z Z Z Z Z Z Z Z Z Z (fun i34 hi34=>?_)
  refine WT.appendG (R:=tTree) (ys:=[.mk (-1) t []]) hT 5 (hy.mono hF2) Z (fun _=>rfl) Z Z Z Z Z Z Z Z Z Z Z (fun h0 s0=>news_own hT s0 0 Z Z Z Z) (Cells.single (R:=tTree) (x:=.mk (-1) t []) hlf) Z (by decide) zom (fun a9 c9 B9 hB9=>?_);refine zC7 ?_;refine AW.freezeAll 4 Z Z (fun F3 hF3 hB3=>?_);have hS:=(hB8.mono hF2).frozen hF3 hB3;refine AW.freezeAll 5 Z Z (fun F4 hF4 hB4=>?_);have hTr:=(hB9.mono hF3).frozen hF4 hB4;have hp4:=((hp1.mono hF2).mono hF3).mono hF4
  refine AW.ret ⟨_,[[(pi,.cells false (ppCells g (p.next a8 (xn+1) c8 a9 (yn+1) c9)))]],⟨_,_,rfl,rfl,rfl⟩,List.Sublist.cons _ (List.Sublist.cons _ (List.Sublist.cons _ (List.Sublist.cons_cons _ (List.Sublist.cons _ (List.Sublist.cons _ (List.Sublist.refl _)))))),_,rfl,.inl ⟨rfl,rfl,b,hsh,⟨hp4.act,hp4.go,hp4.rules,hS.mono hF4,hTr,fun e=>(by simp at e)⟩⟩⟩
theorem tree_spec(F:Frz)(g:Gram)(hg:Valid g){T:Tab}{I:List (List Lr)}{rows:List (List Int)}{la:Nat→Lr→Nat→Prop}(hL:LRT g T I rows la){p:PP}{pi:Nat}{σ:List Nat}{τ:List Tree}(hp:PPOk g T F p σ τ){w:List Nat}{i:Nat}(hs:LStk g (goR g rows) w σ τ i)(hσ:σ.length≤2000000)(hw:w.length≤1000) :
  Abs.Spec CC 21 [.pointer (some ⟨pi,0,none⟩)] F [[(pi,.cells false (ppCells g p))]] fun F' v o=>o=[[(pi,.cells false (ppCells g p))]]∧∃ly e,v=.tuple ⟨[.agg ⟨ly⟩,.int .i64 (e:Nat)]⟩∧
   ((e=0∧∃X,actT T (topS (redN g (goR g rows) (actT T) g.terms 100000 (σ,τ)).1) g.terms=.acc∧(redN g (goR g rows) (actT T) g.terms 100000 (σ,τ)).2=[X]∧TreeOf g w ⟨false,g.start⟩ X 0 i∧tTree.rel F' ly X)∨
    (e=10∧ly=[.int .i64 0,.int .i64 0,.slice none 0 0]∧actT T (topS (redN g (goR g rows) (actT T) g.terms 100000 (σ,τ)).1) g.terms≠.acc)):=by
 have hgt:=hg.range.terms;have hst:=hs.len;unfold ppCells;refine Abs.Spec.fn (n:=26) Tryz.func21 rfl rfl fun own=>?_;refine zC5 ?_;refine WT.allocT hT Z Z Z Z Z Z (fun i2 hi2=>?_);refine zC5 ?_;have hrs:=reduce_spec F g hg hL hp hs hσ hw (pi:=pi) (t:=g.terms) (Nat.le_refl _);have hln:=redN_len (g:=g) (go:=goR g rows) (act:=actT T) g.terms 100000 (σ,τ);have hsN:=hs.redN hL.lr hL.only (t:=g.terms) 100000 (c:=(σ,τ));generalize redN g (goR g rows) (actT T) g.terms 100000 (σ,τ)=cN at hrs hln hsN;obtain⟨σN,τN⟩:=cN;dsimp only at hrs hln hsN ⊢;unfold ppCells at hrs
 refine WT.callF (oin:=[[(pi,.cells false (ppCells g p))]]) Tryz.func48 Z Z Z Z Z Z hrs (List.Perm.swap _ _ _) (fun F1 v oout hF1 hv=>?_);obtain⟨B1,B2,rfl,xa,xn,xc,ya,yn,yc,a,b,rfl,hx,hy,hact⟩:=hv;have hxl:=hx.len;have hyl:=hy.len;have hp1:=hp.mono hF1;refine zC5 ?_;refine WT.allocT hT Z Z Z Z Z Z (fun i7 hi7=>?_);refine zC5 ?_;refine AW.cond Z (fun h=>?_) (fun h=>?_)
 ·have h:a≠3:=by intro e;subst e;simp at h
  refine zC5 ?_;refine AW.le ((own_tr _ _ _ _ _).trans (OwnLe.skip _ oR)) ?_;refine AW.ret ⟨_,[[(pi,.cells false (ppCells g p))]],⟨_,_,⟨_,rfl,fun G h0 s0=>loadA_cells (s0.has (p:=0) Z me) (readT_ok hT rfl)⟩,⟨_,_,rfl,rfl,rfl⟩,rfl⟩,zsb,rfl,_,10,rfl,.inr ⟨rfl,rfl,fun e=>?_⟩⟩;rw[e] at hact;exact h (decA_acc.1 hact)
 ·have h:a=3:=by simp at h;omega
  subst h;have hacc:actT T (topS σN) g.terms=.acc:=actOut_acc.1 (hact.symm.trans rfl);obtain⟨X,rfl,hX⟩:=hsN.acc hL.lr hL.only hacc;refine zC6 ?_;refine WT.gidx (j:=0) hT hy Z Z Z Z Z Z Z Z Z (by rw[hyl];exact Nat.zero_lt_one) (fun b1 hb1=>?_);refine WT.gldS (x:=X) hT 3 hy hb1 Z Z Z Z Z Z Z (fun z hz=>hz) Z Z Z (fun l hl=>?_);obtain⟨r,u,ks⟩:=X;obtain⟨dd,hdd⟩:=id hl;refine WT.callF0 Tryz.func50 Z Z Z Z Z Z (copyTree_spec dd F1 _ _ hdd) (fun F2 v hF2 hv=>?_);obtain⟨cs,rfl,hcs⟩:=hv;obtain⟨za,zn,zc,rfl,hza,hzb⟩:=tTree_cases hcs;refine zC6 ?_
  refine AW.le ((own_tr _ _ _ _ _).trans (OwnLe.skip _ oR)) ?_;exact AW.ret ⟨_,[[(pi,.cells false (ppCells g p))]],⟨_,_,⟨_,rfl,fun G h0 s0=>loadA_cells (s0.has (p:=0) rfl me) (readT_ok hT rfl)⟩,⟨_,_,rfl,rfl,rfl⟩,rfl⟩,zsb,rfl,_,0,rfl,.inl ⟨rfl,_,hacc,rfl,hX,hcs⟩⟩
theorem confAt_step{g:Gram}{go:Nat→Sym→Option Nat}{act:Nat→Nat→Act}{M:Nat}{w:List Nat}{i t:Nat}{c:Conf}(h:confAt g go act M (w.take i).reverse=some c)(ht:w[i]?=some t) :
  (∀s',act (topS (redN g go act t M c).1) t=.shift s'→confAt g go act M (w.take (i+1)).reverse=some ((redN g go act t M c).1++[s'],(redN g go act t M c).2++[.mk (-1) t []]))∧
  ((∀s',act (topS (redN g go act t M c).1) t≠.shift s')→confAt g go act M (w.take (i+1)).reverse=none):=by
 rw[rev_take_succ ht];unfold confAt;rw[h];dsimp only;refine⟨fun s' e=>by rw[e],fun e=>?_⟩;cases ha:act (topS (redN g go act t M c).1) t with
 | shift s'=>exact absurd ha (e s')
 | _=>rfl
theorem chain_spec(F:Frz):Abs.Spec CC 42 [] F [] fun F' v o=>o=[]∧∃a c,v=.agg ⟨gramCells chainG a 2 c⟩∧Arr tRule F' a 2 c chainG.rules:=by
 refine Abs.Spec.fn (n:=10) Tryz.func42 rfl rfl fun own=>?_;refine AW.seq (AW.reg ?_);refine WT.allocT hT Z Z Z Z Z Z (fun i0 hi0=>?_);refine zB7 ?_;refine WT.buildT hT Z Z Z Z Z Z Z Z Z Z Z Z Z Z (fun i3 hi3=>?_);refine zB7 ?_;refine WT.buildT hT Z Z Z Z Z Z Z Z Z Z Z Z Z Z (fun i6 hi6=>?_);refine zB7 ?_;refine WT.buildT hT Z Z Z Z Z Z Z Z Z Z Z Z Z Z (fun i8 hi8=>?_);refine WT.freezeAll 2 Z Z (fun F1 hF1 hB1=>?_);refine WT.freezeAll 1 Z Z (fun F2 hF2 hB2=>?_);refine WT.freezeAll 0 Z Z (fun F3 hF3 hB3=>?_)
 have h5:Arr tSym F3 (some ⟨i3,0,none⟩) 2 2 [⟨true,0⟩,⟨false,0⟩]:=(Bld.frozen (F:=F) (B:=[(i3,.cells false [.bool true,.int .i64 0,.bool false,.int .i64 0])]) ⟨rfl,.inr ⟨i3,_,rfl,rfl,rfl,Cells.cons (R:=tSym) (x:=⟨true,0⟩) (l:=[_,_]) rfl (Cells.single (R:=tSym) (x:=⟨false,0⟩) rfl),by decide⟩⟩ hF1 hB1).mono (hF2.trans hF3);have h8:Arr tSym F3 (some ⟨i6,0,none⟩) 1 2 [⟨true,1⟩]:=(Bld.frozen (F:=F1) (B:=[(i6,.cells false [.bool true,.int .i64 1])]) ⟨rfl,.inr ⟨i6,_,rfl,rfl,rfl,Cells.single (R:=tSym) (x:=⟨true,1⟩) rfl,by decide⟩⟩ hF2 hB2).mono hF3
 have h10:Arr tRule F3 (some ⟨i8,0,none⟩) 2 2 chainG.rules:=Bld.frozen (F:=F3) (B:=[(i8,.cells false [.int .i64 0,.slice (some ⟨i3,0,none⟩) 2 2,.int .i64 0,.slice (some ⟨i6,0,none⟩) 1 2])]) ⟨rfl,.inr ⟨i8,_,rfl,rfl,rfl,Cells.cons (R:=tRule) (x:=⟨0,[⟨true,0⟩,⟨false,0⟩]⟩) (l:=[_,_]) ⟨_,_,_,rfl,h5⟩ (Cells.single (R:=tRule) (x:=⟨0,[⟨true,1⟩]⟩) ⟨_,_,_,rfl,h8⟩),by decide⟩⟩ (Frz.le.refl _) hB3;refine zB7 ?_;exact AW.ret ⟨_,[],⟨_,_,⟨_,rfl,fun G h0 s0=>loadA_cells (s0.has (p:=3) rfl me) (readT_ok hT rfl)⟩,rfl,rfl⟩,zsb,rfl,_,_,rfl,h10⟩
theorem new_spec(F:Frz)(g:Gram)(hg:Valid g)(ht5:g.terms≤5){method:Nat}(hm:method=1∨method=2∨method=3){T:Tab}(hT2:tableF g method=some T)(hc:T.conf=[]){v:Value}(hv:TabV F method T v){a:Option Addr}{m c:Nat}(hr:Arr tRule F a m c g.rules) :
  Abs.Spec CC 16 [v,.agg ⟨gramCells g a m c⟩] F [] fun F' v o=>∃pi p,o=[[(pi,.cells false (ppCells g p))]]∧v=.tuple ⟨[.pointer (some ⟨pi,0,none⟩),.int .i64 0]⟩∧PPOk g T F' p [0] []∧p.read=0:=by
 obtain⟨a1,n1,c1,a2,n2,c2,a3,n3,c3,rfl,h1,h2,h3⟩:=id hv;have hmb:method≤3:=by omega
 have hl3:=h3.len;rw[hc] at hl3;have hl3:n3=0:=hl3;subst hl3;have hrl:=hr.len;have hgr:=hg.range.rules;unfold gramCells;refine Abs.Spec.fn (n:=32) Tryz.func16 rfl rfl fun own=>?_;refine AW.seq (AW.reg ?_);refine WT.boxT Z Z Z Z Z Z (fun i2 hi2=>?_);refine WT.boxT Z Z Z Z Z Z (fun i3 hi3=>?_);refine zB4 ?_;have hck:=tcheck_spec F g hg ht5 hm hT2 hv hr;unfold gramCells at hck;refine WT.callV Tryz.func43 Z Z Z Z Z Z hck (fun v hv=>?_);subst hv;refine zB4 ?_;refine AW.cond Z (fun h=>(by cases h)) (fun _=>?_);refine zB4 ?_;refine AW.cond Z (fun h=>(by cases h)) (fun _=>?_);refine zB4 ?_
 have hof:=of_spec F g hg ht5 method hm hr;unfold gramCells at hof;refine WT.callF0 Tryz.func18 Z Z Z Z Z Z hof (fun F1 v hF1 hv1=>?_);rcases hv1 with ⟨hn,_⟩ | ⟨T',x,hx1,rfl,hx2⟩
 ·rw[hT2] at hn;cases hn
 rw[hT2] at hx1;obtain rfl:=Option.some.inj hx1;obtain⟨b1,m1,d1,b2,m2,d2,b3,m3,d3,rfl,g1,g2,g3⟩:=id hx2;refine zB4 ?_;refine WT.allocT hT Z Z Z Z Z Z (fun i7 hi7=>?_);refine zB4 ?_;refine AW.draw (ps:=[(0,2),(0,3),(1,3)]) Z Z ?_;refine zB4 ?_;have hcp:=copy_spec F1 g (hr.mono hF1) zo (fun r hr=>by have:=(hg.right r hr).2.1;omega);unfold gramCells at hcp;refine WT.callN Tryz.func44 Z Z Z Z Z Z hcp (fun F2 v BG hF2 hv=>?_);obtain⟨ga,gc,rfl,hG⟩:=hv;refine WT.freezeAll 0 Z Z (fun F3 hF3 hB3=>?_);have hG:=hG.frozen hF3 hB3;refine WT.buildT hT Z Z Z Z Z Z Z Z Z Z Z Z Z Z (fun i29 hi29=>?_)
 refine WT.freezeAll 0 Z Z (fun F4 hF4 hB4=>?_);have hS:Arr tNat F4 (some ⟨i29,0,none⟩) 1 1 [0]:=Bld.frozen (F:=F3) (B:=[(i29,.cells false [.int .i64 0])]) ⟨rfl,.inr ⟨i29,_,rfl,rfl,rfl,Cells.single (R:=tNat) (x:=0) rfl,by decide⟩⟩ hF4 hB4;have hF14:=(hF2.trans hF3).trans hF4;refine zB4 ?_;refine WT.boxT Z Z Z Z Z Z (fun i31 hi31=>?_);refine zB4 ?_;refine⟨zrC,?_⟩;refine AW.ret ⟨_,[_],⟨_,_,rfl,⟨_,_,rfl,rfl,rfl⟩,rfl⟩,?_,i31,⟨method,b1,m1,d1,b2,m2,d2,b3,m3,d3,ga,m,gc,some ⟨i29,0,none⟩,1,1,none,0,0,0⟩,rfl,rfl,⟨g1.mono hF14,g2.mono hF14,hG.mono hF4,hS,Arr.nil_ _ _,fun _=>rfl⟩,rfl⟩
 exact List.Sublist.cons_cons _ (by repeat (first | exact List.Sublist.refl _ | refine List.Sublist.cons _ ?_))
structure ShS where
 p:PP
 σ:List Nat
 τ:List Tree
theorem shParse_spec(F:Frz)(g:Gram)(hg:Valid g)(ht5:g.terms≤5){method:Nat}(hm:method=1∨method=2∨method=3){T:Tab}(hT2:tableF g method=some T)(hc:T.conf=[]){I:List (List Lr)}{rows:List (List Int)}{la:Nat→Lr→Nat→Prop}(hL:LRT g T I rows la){v:Value}(hv:TabV F method T v){a:Option Addr}{m c:Nat}(hr:Arr tRule F a m c g.rules)
  {b:Option Addr} {n d:Nat} {w:List Nat} (hw:Arr tNat F b n d w) (hw12:w.length≤12) (hw2:∀t∈w,t<g.terms) :
  Abs.Spec CC 19 [v,.agg ⟨gramCells g a m c⟩,.slice b n d] F [] fun F' v o=>o=[]∧∃ly at_ e,v=.tuple ⟨[.agg ⟨ly⟩,.int .i64 (at_:Nat),.int .i64 (e:Nat)]⟩∧
   ((e=0∧at_=0∧∃X c0,confAt g (goR g rows) (actT T) 100000 w.reverse=some c0∧actT T (topS (redN g (goR g rows) (actT T) g.terms 100000 c0).1) g.terms=.acc∧(redN g (goR g rows) (actT T) g.terms 100000 c0).2=[X]∧TreeOf g w ⟨false,g.start⟩ X 0 w.length∧tTree.rel F' ly X)∨
    (e=10∧ly=[.int .i64 0,.int .i64 0,.slice none 0 0]∧at_<w.length∧(∃c0,confAt g (goR g rows) (actT T) 100000 (w.take at_).reverse=some c0)∧confAt g (goR g rows) (actT T) 100000 (w.take (at_+1)).reverse=none)∨
    (e=10∧ly=[.int .i64 0,.int .i64 0,.slice none 0 0]∧at_=w.length∧∃c0,confAt g (goR g rows) (actT T) 100000 w.reverse=some c0∧actT T (topS (redN g (goR g rows) (actT T) g.terms 100000 c0).1) g.terms≠.acc)):=by
 obtain⟨a1,n1,c1,a2,n2,c2,a3,n3,c3,rfl,h1,h2,h3⟩:=id hv;have hmb:method≤3:=by omega
 have hrl:=hr.len;have hwl:=hw.len;have hgr:=hg.range.rules;unfold gramCells;refine Abs.Spec.fn (n:=61) Tryz.func19 rfl rfl fun own=>?_;refine AW.seq (AW.reg ?_);refine WT.boxT Z Z Z Z Z Z (fun i3 hi3=>?_);refine WT.boxT Z Z Z Z Z Z (fun i4 hi4=>?_);refine WT.allocT hT Z Z Z Z Z Z (fun i6 hi6=>?_);refine zB4 ?_;have hnw:=new_spec F g hg ht5 hm hT2 hc hv hr;unfold gramCells at hnw;refine WT.callF Tryz.func16 Z Z Z Z Z Z hnw (List.Perm.refl _) (fun F1 v oout hF1 hv=>?_);obtain⟨pi,p,rfl,rfl,hp,hp0⟩:=hv;refine zB4 ?_;refine AW.cond Z (fun h=>(by cases h)) (fun _=>?_);refine zB4 ?_
 have hgw:=gword_spec F1 g (a:=a) (m:=m) (c:=c) 2000 (by decide) (hw.mono hF1) zo;rw[wordErr_ok zo hw2] at hgw;unfold gramCells at hgw;refine WT.callV Tryz.func47 Z Z Z Z Z Z hgw (fun v hv=>?_);subst hv;refine zB4 ?_;refine AW.cond Z (fun h=>(by cases h)) (fun _=>?_);refine zB4 ?_;refine AW.range (S:=ShS) (fun _=>[]) (fun s=>[(pi,.cells false (ppCells g s.p))]::[(i6,.cells false [.int .i64 0,.int .i64 0,.slice none 0 0])]::own) (fun j s G=>PPOk g T G s.p s.σ s.τ∧s.p.read=j∧s.σ.length≤1+j*100001∧confAt g (goR g rows) (actT T) 100000 (w.take j).reverse=some (s.σ,s.τ)) n ⟨p,[0],[]⟩
  Z Z Z Z Z Z Z Z Z zo rfl rfl (fun _=>rfl) (fun _=>rfl) sM (OwnLe.cons _ (OwnLe.cons _ (OwnLe.skip _ (OwnLe.skip _ oR)))) ⟨hp,hp0,Nat.le_refl _,rfl⟩ ?_ ?_
 ·intro j s F2 hF2 hj hP;obtain⟨p,σ,τ⟩:=s;obtain⟨hp,hpr,hσ,hcf⟩:=hP;dsimp only at hp hpr hσ hcf ⊢;have hs:=confAt_stk hL.lr hL.only j (w:=w) zo hcf;dsimp only at hs;have hw3:=(hw.mono hF1).mono hF2;refine zB4 ?_;refine WT.idxL hT hw3 Z Z Z Z Z Z Z Z Z zo (fun t htj b1 off1 ro1 cs1 lx1 hb1 hp1 hrel1=>?_);obtain rfl:lx1=_:=hrel1;have htt:=hw2 t (gM htj);obtain⟨hst1,hst2⟩:=confAt_step hcf htj;have hln:=redN_len (g:=g) (go:=goR g rows) (act:=actT T) t 100000 (σ,τ);refine zB4 ?_;have hpt:=put_spec F2 g hg hL hp hs zo zo htt (pi:=pi) zo
  refine WT.callF (oin:=[[(pi,.cells false (ppCells g p))]]) Tryz.func20 Z Z Z Z Z Z hpt (List.Perm.refl _) (fun F3 v oout hF3 hv=>?_);obtain⟨p',rfl,hv⟩:=hv;rcases hv with ⟨rfl,hr1,s',hs1,hok⟩ | ⟨rfl,rfl,hno⟩
  ·refine zB4 ?_;refine AW.cond Z (fun h=>(by cases h)) (fun _=>?_);refine zB4 ?_;refine⟨⟨p',_,_⟩,sM,zow,hok,by dsimp only;omega,?_,hst1 s' hs1⟩;dsimp only;rw[List.length_append,List.length_singleton];dsimp only at hln;omega
  ·refine zB4 ?_;refine AW.cond Z (fun _=>?_) (fun h=>(by cases h));refine zB4 ?_;refine AW.ret ⟨_,[],⟨_,_,⟨_,rfl,fun G h0 s0=>loadA_cells (s0.has (p:=1) Z me) (readT_ok hT rfl)⟩,⟨_,_,rfl,⟨_,_,rfl,rfl,rfl⟩,rfl⟩,rfl⟩,zsb,rfl,_,j,10,rfl,.inr (.inl ⟨rfl,rfl,by omega,⟨_,hcf⟩,hst2 hno⟩)⟩
 ·intro s F2 hF2 hP;obtain⟨p,σ,τ⟩:=s;obtain⟨hp,hpr,hσ,hcf⟩:=hP;dsimp only at hp hpr hσ hcf ⊢;have hs:=confAt_stk hL.lr hL.only n (w:=w) zo hcf;dsimp only at hs;rw[List.take_of_length_le zo] at hcf;refine zB4 ?_;have htr:=tree_spec F2 g hg hL hp hs zo zo (pi:=pi);refine WT.callF (oin:=[[(pi,.cells false (ppCells g p))]]) Tryz.func21 Z Z Z Z Z Z htr (List.Perm.refl _) (fun F3 v oout hF3 hv=>?_);obtain⟨rfl,ly,e,rfl,hv⟩:=hv;rcases hv with ⟨rfl,X,hx1,hx2,hx3,hx4⟩ | ⟨rfl,rfl,hx1⟩
  ·obtain⟨r,u,ks⟩:=X;obtain⟨za,zn,zc,rfl,hza,hzb⟩:=tTree_cases hx4;refine zB4 ?_;refine WT.allocT hT Z Z Z Z Z Z (fun i15 hi15=>?_);refine zB4 ?_;refine AW.cond Z (fun h=>(by cases h)) (fun _=>?_);refine zB4 ?_;rw[hwl] at hx3;refine AW.ret ⟨_,[],⟨_,_,⟨_,rfl,fun G h0 s0=>loadA_cells (s0.has (p:=2) Z me) (readT_ok hT rfl)⟩,⟨_,_,rfl,⟨_,_,rfl,rfl,rfl⟩,rfl⟩,rfl⟩,zsb,rfl,_,0,0,rfl,.inl ⟨rfl,rfl,_,_,hcf,hx1,hx2,hx3,hx4⟩⟩
  ·refine zB4 ?_;refine WT.allocT hT Z Z Z Z Z Z (fun i15 hi15=>?_);refine zB4 ?_;refine AW.cond Z (fun _=>?_) (fun h=>(by cases h));refine zB4 ?_;refine AW.ret ⟨_,[],⟨_,_,⟨_,rfl,fun G h0 s0=>loadA_cells (s0.has (p:=2) Z me) (readT_ok hT rfl)⟩,⟨_,_,rfl,⟨_,_,rfl,rfl,rfl⟩,rfl⟩,rfl⟩,zsb,rfl,_,n,10,rfl,.inr (.inr ⟨rfl,rfl,hwl,_,hcf,hx1⟩)⟩
theorem confAt_less{g:Gram}{go:Nat→Sym→Option Nat}{act:Nat→Nat→Act}{M:Nat}{w:List Nat}:∀(k:Nat) {c:Conf},confAt g go act M w.reverse=some c→confAt g go act M (w.take k).reverse≠none:=by
 have key:∀(d i:Nat),i+d=w.length→confAt g go act M w.reverse≠none→confAt g go act M (w.take i).reverse≠none:=by
  intro d
  induction d with
  | zero=>
   intro i hi h;rw[List.take_of_length_le zo];exact h
  | succ d ih=>
   intro i hi h hn;have h1:=ih (i+1) zo h;have ht:=gE (show i<w.length by omega);rw[rev_take_succ ht] at h1;unfold confAt at h1;rw[hn] at h1;exact h1 rfl
 intro k c h;rcases Nat.lt_or_ge k w.length with hk | hk
 ·exact key (w.length-k) k zo (fun e=>by rw[h] at e;cases e)
 ·rw[List.take_of_length_le hk];intro e;rw[h] at e;cases e
theorem shifts_spec(F:Frz):Abs.Spec CC 15 [] F [] fun F' v o=>o=[]∧v=.bool true:=by
 have hgv:=chain_small.valid;obtain⟨T,hT2,hc⟩:=chain_tab;obtain⟨I,rows,la,hL⟩:=lrt_of hgv (by decide) hT2 hc;refine Abs.Spec.fn (n:=50) Tryz.func15 rfl rfl fun own=>?_;refine zB4 ?_;refine WT.callF0 Tryz.func42 Z Z Z Z Z Z (chain_spec F) (fun F1 v hF1 hv=>?_);obtain⟨ga,gc,rfl,hG⟩:=hv;have hof:=of_spec F1 chainG hgv (by decide) 2 (.inr (.inl rfl)) hG;refine WT.callF0 Tryz.func18 Z Z Z Z Z Z hof (fun F2 v hF2 hv1=>?_);rcases hv1 with ⟨hn,rfl⟩ | ⟨T',x,hx1,rfl,hx⟩
 ·rw[hT2] at hn;cases hn
 rw[hT2] at hx1;obtain rfl:=Option.some.inj hx1;obtain⟨a1,n1,c1,a2,n2,c2,a3,n3,c3,rfl,h1,h2,h3⟩:=id hx;refine zB4 ?_;refine WT.allocT hT Z Z Z Z Z Z (fun i1 hi1=>?_);refine zB4 ?_;refine AW.draw (ps:=[(0,1),(0,2),(0,8)]) Z Z ?_;refine zB4 ?_;refine WT.callF0 Tryz.func42 Z Z Z Z Z Z (chain_spec F2) (fun F3 v hF3 hv=>?_);obtain⟨ga2,gc2,rfl,hG2⟩:=hv;refine WT.buildT hT Z Z Z Z Z Z Z Z Z Z Z Z Z Z (fun i17 hi17=>?_);refine WT.freezeAll 0 Z Z (fun F4 hF4 hB4=>?_)
 have hW1:Arr tNat F4 (some ⟨i17,0,none⟩) 2 1 [0,1]:=Bld.frozen (F:=F3) (B:=[(i17,.cells false [.int .i64 0,.int .i64 1])]) ⟨rfl,.inr ⟨i17,_,rfl,rfl,rfl,Cells.cons (R:=tNat) (x:=0) (l:=[_]) rfl (Cells.single (R:=tNat) (x:=1) rfl),by decide⟩⟩ hF4 hB4;have hp1:=shParse_spec F4 chainG hgv (by decide) (.inr (.inl rfl)) hT2 hc hL (hx.mono (hF3.trans hF4)) (hG2.mono hF4) hW1 (by decide) (by decide);refine WT.callF0 Tryz.func19 Z Z Z Z Z Z hp1 (fun F5 v hF5 hv=>?_);obtain⟨ly,at1,e1,rfl,hv⟩:=hv;obtain⟨rfl,rfl,za,zc,rfl⟩:e1=0∧at1=0∧∃za zc,ly=[.int .i64 0,.int .i64 0,.slice za 2 zc]:=by
  obtain⟨c0,q1,q2,q3⟩:=parse_whole hL.lr hL.only (w:=[0,1]) (by decide) chain_tree (M:=100000) (by decide);rcases hv with ⟨rfl,rfl,X,c1,_,_,_,hX,hrel⟩ | ⟨_,_,h4,_,h5⟩ | ⟨_,_,_,c1,h4,h5⟩
  ·have:=lr_one hL.lr hL.only (w:=[0,1]) (by decide) hX chain_tree;subst this;obtain⟨za,zn,zc,rfl,hz,_⟩:=tTree_cases hrel;obtain rfl:zn=2:=hz.len;exact⟨rfl,rfl,za,zc,rfl⟩
  ·exfalso;have h6:∀k,k≤2→confAt chainG (goR chainG rows) (actT T) 100000 (List.take k [0,1]).reverse≠none:=fun k hk=>confAt_less k q1;exact h6 _ (by have:at1<2:=h4;omega) h5
  ·exfalso;rw[q1] at h4;obtain rfl:=Option.some.inj h4;exact h5 q3
 refine zB4 ?_;refine WT.allocT hT Z Z Z Z Z Z (fun i3 hi3=>?_);refine zB4 ?_;refine⟨zrC,?_⟩;refine zB4 ?_;refine AW.draw (ps:=[(0,1),(0,2),(0,8)]) Z Z ?_;refine zB4 ?_;refine WT.callF0 Tryz.func42 Z Z Z Z Z Z (chain_spec F5) (fun F6 v hF6 hv=>?_);obtain⟨ga3,gc3,rfl,hG3⟩:=hv;refine WT.buildT hT Z Z Z Z Z Z Z Z Z Z Z Z Z Z (fun i25 hi25=>?_);refine WT.freezeAll 0 Z Z (fun F7 hF7 hB7=>?_)
 have hW2:Arr tNat F7 (some ⟨i25,0,none⟩) 2 1 [1,0]:=Bld.frozen (F:=F6) (B:=[(i25,.cells false [.int .i64 1,.int .i64 0])]) ⟨rfl,.inr ⟨i25,_,rfl,rfl,rfl,Cells.cons (R:=tNat) (x:=1) (l:=[_]) rfl (Cells.single (R:=tNat) (x:=0) rfl),by decide⟩⟩ hF7 hB7;have hp2:=shParse_spec F7 chainG hgv (by decide) (.inr (.inl rfl)) hT2 hc hL (hx.mono ((hF3.trans hF4).trans (hF5.trans (hF6.trans hF7)))) (hG3.mono hF7) hW2 (by decide) (by decide);refine WT.callF0 Tryz.func19 Z Z Z Z Z Z hp2 (fun F8 v hF8 hv=>?_);obtain⟨ly2,at2,e2,rfl,hv⟩:=hv
 obtain⟨rfl,rfl,rfl⟩:e2=10∧at2=1∧ly2=[.int .i64 0,.int .i64 0,.slice none 0 0]:=by
  obtain⟨c0,q1,_⟩:=parse_whole hL.lr hL.only (w:=[1]) (by decide) chain_one (M:=100000) (by decide);have q2:confAt chainG (goR chainG rows) (actT T) 100000 (List.take 2 [1,0]).reverse=none:=by
   cases hcc:confAt chainG (goR chainG rows) (actT T) 100000 (List.take 2 [1,0]).reverse with
   | none=>rfl
   | some c=>
    exfalso;have hs:=confAt_stk hL.lr hL.only 2 (w:=[1,0]) (by decide) hcc;obtain⟨v,hv⟩:=hs.viable hgv hL.auto (fun n hn=>chain_word hn) (by decide);have:=chain_ends hv rfl;simp at this
  rcases hv with ⟨rfl,rfl,X,c1,h4,_⟩ | ⟨h3,h4,h5,_,h6⟩ | ⟨_,_,_,c1,h4,h5⟩
  ·exfalso;have h4:confAt chainG (goR chainG rows) (actT T) 100000 (List.take 2 [1,0]).reverse=some c1:=h4;rw[q2] at h4;cases h4
  ·refine⟨h3,?_,h4⟩;have h5:at2<2:=h5
   match at2,h5,h6 with
   | 0,_,h6=>
    have h6:confAt chainG (goR chainG rows) (actT T) 100000 (List.reverse [1])=none:=h6;rw[q1] at h6;cases h6
   | 1,_,_=>rfl
  ·exfalso;have h4:confAt chainG (goR chainG rows) (actT T) 100000 (List.take 2 [1,0]).reverse=some c1:=h4;rw[q2] at h4;cases h4
 refine zB4 ?_;refine WT.allocT hT Z Z Z Z Z Z (fun i6 hi6=>?_);refine zB4 ?_;refine⟨zrC,?_⟩;refine zB5 ?_;exact AW.ret ⟨_,[],⟨_,_,rfl,rfl,rfl⟩,zsb,rfl,rfl⟩
end Go.Proofs.D
set_option linter.unusedVariables false
set_option maxRecDepth 20000
set_option maxHeartbeats 0
open Go Go.Abs Go.Proofs Go.Proofs.D
namespace Go.Abs
theorem WT.freezeAllM{C:Ctx}{n:Nat}{k:Kno}{F:Frz}{own:Own}{ops rest:List Oper}{Q:Kno→Frz→Own→List Rec→Prop}(p:Nat){B:List (Nat×Blk)}{own':Own}(hp:own[p]?=some B)(ho:setO own p []=some own')
  (h:∀G,Frz.le F G→(∀i b,(i,b)∈B→G i=some b)→(∀i b,(i,b)∈B→F i=none)→WT C n ops rest k G own' Q):WT C n ops rest k F own Q:=by
 intro e h0 hk hs;have s1:St F (B::own.eraseIdx p) h0:=hs.perm (perm_pick hp);have s0:StF F (B++(own.eraseIdx p).flatten) h0:=by simpa [St] using s1
 exact WT.freezeAll p hp ho (fun G hG hB=>h G hG hB (fun i b hm=>s0.apart _ (List.mem_append_left _ hm))) e h0 hk hs
end Go.Abs
namespace Go.Proofs.D
def LessN(F0 F G:Frz):Prop:=∀i b,F i=some b→F0 i=none→G i=some b
def tNew{α:Type}(F0:Frz)(R:Ty α):Ty α where
 size:=R.size
 rel:=fun F l x=>∀G,LessN F0 F G→R.rel G l x
 len:=fun F l x h=>R.len F l x (h F fun i b h _=>h)
 one:=fun F l x h=>R.one F l x (h F fun i b h _=>h)
 mono:=fun F G l x hF h G' hG'=>h G' fun i b hi hn=>hG' i b (hF _ _ hi) hn
theorem none_of{F0 F:Frz}{i:Nat}(h:∀i b,F0 i=some b→F i=some b)(hn:F i=none):F0 i=none:=by
 cases hf:F0 i with
 | none=>rfl
 | some b=>rw[h i b hf] at hn;cases hn
theorem cells_new{α:Type}{R:Ty α}{F0 F G:Frz}{cs:List Value}{xs:List α}(h:Cells (tNew F0 R) F cs xs)(hl:LessN F0 F G):Cells R G cs xs:=by
 induction h with
 | nil=>exact .nil
 | cons h1 _ ih=>exact .cons (h1 G hl) ih
theorem bld_new{α:Type}{R:Ty α}{F0 F G:Frz}{a:Option Addr}{n c:Nat}{B:List (Nat×Blk)}{xs:List α}(h0:∀i b,F0 i=some b→F i=some b)(hb:Bld (tNew F0 R) F a n c B xs)(hFG:Frz.le F G)(hB:∀i b,(i,b)∈B→G i=some b)(hno:∀i b,(i,b)∈B→F i=none) :
  ∀G',LessN F0 G G'→Arr R G' a n c xs:=fun G' hG'=>by
 have h1:Bld R G' a n c B xs:=⟨hb.len,hb.at_.imp id fun ⟨i,cs,h1,h2,h3,h4,h5⟩=>⟨i,cs,h1,h2,h3,cells_new h4 fun i b hi hn=>hG' i b (hFG _ _ hi) hn,h5⟩⟩;exact h1.arr (Frz.le.refl G') fun i b hm=>hG' i b (hB i b hm) (none_of h0 (hno i b hm))
theorem cells_free{α:Type}{R:Ty α}{F G:Frz}(hR:∀F G l x,R.rel F l x→R.rel G l x){cs:List Value}{xs:List α}(h:Cells R F cs xs):Cells R G cs xs:=by
 induction h with
 | nil=>exact .nil
 | cons h1 _ ih=>exact .cons (hR _ _ _ _ h1) ih
theorem vec_any{α:Type}{R:Ty α}{F G:Frz}(hR:∀F G l x,R.rel F l x→R.rel G l x){a:Option Addr}{n c:Nat}{B:List (Nat×Blk)}{xs:List α}(h:Vec R F a n c B xs):Vec R G a n c B xs:=
 ⟨h.len,h.cap,h.zero,h.nil,h.spot,h.el.imp id fun ⟨i,cs,h1,h2,h3,h4⟩=>⟨i,cs,h1,h2,cells_free hR h3,h4⟩⟩
theorem allNew_spec(F:Frz)(g:Gram)(hg:Valid g)(ht5:g.terms≤5){a:Option Addr}{m c:Nat}(hr:Arr tRule F a m c g.rules) :
  Abs.Spec CC 46 [.agg ⟨gramCells g a m c⟩,.int .i64 2] F [] fun F' v o=>o=[]∧((statesF g 2=none∧v=.tuple ⟨[.slice none 0 0,.slice none 0 0,.int .i64 2]⟩)∨
   ∃S rows a1 n1 c1 a2 n2 c2,statesF g 2=some (S,rows)∧v=.tuple ⟨[.slice a1 n1 c1,.slice a2 n2 c2,.int .i64 0]⟩∧Arr (tList (tList tAct)) F' a1 n1 c1 (allF g S rows)∧∀G,LessN F F' G→Arr (tList tInt) G a2 n2 c2 (rows.map (·.drop g.terms))):=by
 have hgr:=hg.range.rules;have hgt:=hg.range.terms;have hgn:=hg.range.nons;have hrl:=hr.len;have hp:=pow_small hg.range.terms.2;have hp6:2 ^ (g.terms+1)≤64:=Nat.le_trans (Nat.pow_le_pow_right (by decide) (show g.terms+1≤6 by omega)) (by decide);have okK:∀{x:Look},(OkLr g x.item∧x.set<2 ^ (g.terms+1))→(x.item.rule<100∧x.item.dot<100)∧x.set<100:=fun h=>⟨okI hg h.1,by omega⟩;refine Abs.Spec.fn (n:=98) Tryz.func46 rfl rfl fun own=>?_;refine AW.seq (AW.reg ?_);refine WT.boxT Z Z Z Z Z Z (fun i2 hi2=>?_);refine WT.freezeAll 0 Z Z (fun F0 hF0 hB0=>?_);have hi2:=hB0 i2 _ me;have hr:=hr.mono hF0
 unfold gramCells at hi2 ⊢;refine zC4 ?_;have hck:=check_spec F0 g hg.range hr;unfold gramCells at hck;refine WT.callV Tryz.func35 Z Z Z Z Z Z hck (fun v hv=>?_);rw[hg.no_err] at hv;subst hv;refine zC4 ?_;refine AW.cond Z (fun h=>(by cases h)) (fun _=>?_);refine zC4 ?_;refine AW.cond Z (fun h=>(by cases h)) (fun _=>?_);refine zC4 ?_;have hmk:=newMaker_spec F0 g hg hr;unfold gramCells at hmk;refine WT.callF0 Tryz.func81 Z Z Z Z Z Z hmk (fun F1 v hF1 hv=>?_);obtain⟨im,E,Fi,is,eb,ee,rfl,hM⟩:=hv;have hr1:=hr.mono hF1;have hi21:=hF1 _ _ hi2;refine zC4 ?_
 refine AW.cond Z (fun h=>(by cases h)) (fun _=>?_);refine zC4 ?_;have hof:=itemsOf2_spec F1 g hg hr1;unfold gramCells at hof;refine WT.callF0 Tryz.func86 Z Z Z Z Z Z hof (fun F2 v hF2 hv=>?_);have hM2:=hM.mono hF2;rcases hv with ⟨hA,rfl⟩ | ⟨I,rows,b1,m1,d1,b2,m2,d2,hA,rfl,hI,hRw⟩
 ·have hst:statesF g 2=none:=by unfold statesF;rw[if_neg (by decide),hA];rfl
  refine zC4 ?_;refine WT.allocT hT Z Z Z Z Z Z (fun i12 hi12=>?_);refine zC4 ?_;refine AW.cond Z (fun _=>?_) (fun h=>(by cases h));refine zC4 ?_;exact AW.ret ⟨_,[],⟨_,_,rfl,⟨_,_,rfl,⟨_,_,rfl,rfl,rfl⟩,rfl⟩,rfl⟩,zsb,rfl,.inl ⟨hst,rfl⟩⟩
 ·refine zC4 ?_;refine WT.allocT hT Z Z Z Z Z Z (fun i12 hi12=>?_);refine zC4 ?_;refine AW.cond Z (fun h=>(by cases h)) (fun _=>?_);refine zC4 ?_;have hIf:=(autoI_ok hA).2.few;have hIl:=hI.len;refine WT.callF0 Tryz.func87 Z Z Z Z Z Z (slr_spec F2 g hg hM2 (a2:=b2) (n2:=m2) (c2:=d2) hI zo (autoI_PI hg hA)) (fun F3 v hF3 hv=>?_);obtain⟨a1,n1,c1,rfl,hS⟩:=hv;refine zC4 ?_;refine AW.cond Z (fun _=>?_) (fun h=>(by cases h));refine zC4 ?_;refine WT.callF0 Tryz.func88 Z Z Z Z Z Z (lalr_spec F3 g hg (hM2.mono hF3) hA (hI.mono hF3) (hRw.mono hF3)) (fun F4 v hF4 hv=>?_);clear hS
  obtain⟨a1,n1,c1,rfl,hS⟩:=hv;have hst:statesF g 2=some (lookS g I (LalA g I rows),rows):=by unfold statesF;rw[if_neg (by decide),hA];rfl
  generalize lookS g I (LalA g I rows)=S at hS hst;have hRw:=(hRw.mono hF3).mono hF4;have hrG:=((hr1.mono hF2).mono hF3).mono hF4;have hiG:=hF4 _ _ (hF3 _ _ (hF2 _ _ hi21));have hSR:=statesF_ok hg hst;have hSP:=statesF_PK hg hst;have hSf:=autoK_few hst;have hAC:=hSR.1;have hRl:=hRw.len;have hSl:=hS.len;have hrs:rows.length=S.length:=by have:=hAC.len;rwa [List.length_map] at this
  refine zC4 ?_;refine AW.range (S:=AlS) (fun s=>[(14,.slice s.a s.m s.c),(15,.slice s.a2 s.m2 s.c2)]) (fun s=>s.B::s.B2::[(i12,.cells false [.slice b1 m1 d1,.slice b2 m2 d2])]::[]::own) (fun j s G=>Bld (tList (tList tAct)) G s.a s.m s.c s.B ((allF g S rows).take j)∧Bld (tNew F (tList tInt)) G s.a2 s.m2 s.c2 s.B2 ((rows.map (·.drop g.terms)).take j)) n1 ⟨none,0,0,[],none,0,0,[]⟩
   Z Z Z Z Z Z Z Z Z zo rfl rfl (fun _=>rfl) (fun _=>rfl) sM (OwnLe.flat (List.Perm.refl _)) ⟨Bld.nil_ _ _,Bld.nil_ _ _⟩ ?_ ?_
  ·intro j s F8 hF8 hj hP;obtain⟨hb,hb2⟩:=hP;have hS8:=hS.mono hF8;have hRw8:=hRw.mono hF8;have hr8:=hrG.mono hF8;have hi8:=hF8 _ _ hiG;have hal:(allF g S rows).length=S.length:=by unfold allF;simp
   have hbl:=hb.len;have hbl2:=hb2.len;rw[List.length_take] at hbl;rw[List.length_take,List.length_map] at hbl2;refine zC4 ?_;refine WT.idxL hT hS8 Z Z Z Z Z Z Z Z Z zo (fun st hsj b1 off1 ro1 cs1 lx1 hb1 hp1 hrel1=>?_);obtain⟨sa,sn,sc,rfl,hsta⟩:=hrel1;have hsl:=hsta.len;obtain⟨hP1,hP2⟩:=hSP st (gM hsj);refine zC4 ?_;refine AW.draw (ps:=[(14,7),(14,8),(14,9),(16,7),(16,8),(16,9),(17,7),(17,8),(17,9)]) Z Z ?_;refine zC4 ?_;refine WT.idxL hT hRw8 Z Z Z Z Z Z Z Z Z zo (fun row hrj b3 off3 ro3 cs3 lx3 hb3 hp3 hrel3=>?_);obtain⟨ra,rn,rc,rfl,hrow⟩:=hrel3;have hrowl:=hrow.len
   have hrow2:row.length=g.terms+g.nons:=hAC.row j (itemsK st) row (by rw[List.getElem?_map,hsj];rfl) hrj;refine zC4 ?_;have hac:=actions_spec F8 g hg hr8 hsta zo hP2 hrow zo;unfold gramCells at hac;refine WT.callF0 Tryz.func89 Z Z Z Z Z Z hac (fun F9 v hF9 hv=>?_);obtain⟨xa,xn,xc,rfl,hx⟩:=hv;have hall:(allF g S rows).take (j+1)=(allF g S rows).take j++[(List.range (g.terms+1)).map fun t=>actsF g st row t]:=by
    have e:(allF g S rows)[j]?=some ((List.range (g.terms+1)).map fun t=>actsF g st row t):=by
     unfold allF;rw[map_at (List.getElem?_range (show j<S.length by omega)),getD_some hsj,getD_some hrj]
    rw[List.take_add_one,e];rfl
   have hrw:(rows.map (·.drop g.terms)).take (j+1)=(rows.map (·.drop g.terms)).take j++[row.drop g.terms]:=by
    rw[List.take_add_one,map_at hrj];rfl
   refine WT.buildT hT Z Z Z Z Z Z Z Z Z Z Z Z Z Z (fun i33 hi33=>?_);refine WT.appendT (R:=tList (tList tAct)) (ys:=[(List.range (g.terms+1)).map fun t=>actsF g st row t]) hT 1 (hb.mono hF9) Z (fun _=>rfl) Z Z Z Z Z Z Z Z Z Z Z (fun h0 s0=>news_own hT s0 0 Z Z Z Z) (Cells.single (R:=tList (tList tAct)) (x:=(List.range (g.terms+1)).map fun t=>actsF g st row t) ⟨_,_,_,rfl,hx⟩) Z (by decide) zom (fun a3 c3 B3 hB3=>?_);refine zC4 ?_;obtain⟨b4,off4,ro4,cs4,lx4,hba,hb4,hp4,hrel4⟩:=hRw8.el j row hrj;obtain⟨ra',rn',rc',rfl,hrow'⟩:=hrel4;have hrow':=hrow'.mono hF9;have hb49:=hF9 _ _ hb4;subst hba
   refine WT.idxA (j:=j) (s:=1) hT Z Z Z Z Z Z Z Z Z zo ?_;have hrowl':=hrow'.len;have hi9:=hF9 _ _ hi8;refine zC4 ?_;obtain⟨qa,qc,hrs2,hqa⟩:=hrow'.slice (C:=CC) (lo:=g.terms) (hi:=rn') zo (Nat.le_refl _) hT (t:=22) Z Z Z (some (.int .i64 ((g.terms:Nat):Int))) none (by simp[boundA]) rfl;refine WT.slice Z Z Z Z Z Z Z Z hrs2 ?_;rw[List.take_of_length_le zo] at hqa;refine WT.callN Tryz.func66 Z Z Z Z Z Z (intClone_spec F9 hqa zo) (fun F10 v B10 hF10 hv=>?_);obtain⟨ca,cc,rfl,hv⟩:=hv;refine WT.freezeAllM 0 Z Z (fun F11 hF11 hB11 hno11=>?_)
   have hcl:∀G,LessN F F11 G→Arr tInt G ca _ cc (row.drop g.terms):=fun G hG=>(vec_any (fun _ _ _ _ h=>h) hv).arr (Frz.le.refl G) fun i b hm=>hG i b (hB11 i b hm) (none_of (fun i b h=>hF10 _ _ (hF9 _ _ (hF8 _ _ (hF4 _ _ (hF3 _ _ (hF2 _ _ (hF1 _ _ (hF0 _ _ h)))))))) (hno11 i b hm));have hrl2:rows.length≤400:=by omega
   refine WT.buildT hT Z Z Z Z Z Z Z Z Z Z Z Z Z Z (fun i34 hi34=>?_);refine WT.appendT (R:=tNew F (tList tInt)) (ys:=[row.drop g.terms]) hT 4 (((hb2.mono hF9).mono hF10).mono hF11) Z (fun _=>rfl) Z Z Z Z Z Z Z Z Z Z Z (fun h0 s0=>news_own hT s0 0 Z Z Z Z) (Cells.single (R:=tNew F (tList tInt)) (x:=row.drop g.terms) (fun G hG=>⟨_,_,_,rfl,hcl G hG⟩)) Z (show 0<1∧0<1∧0<24 from by decide) zom (fun a5 c5 B5 hB5=>?_);refine zC4 ?_;refine⟨zrC,?_⟩;refine⟨⟨a3,s.m+1,c3,B3,a5,s.m2+1,c5,B5⟩,sM,zow,?_,?_⟩
   ·dsimp only;rw[hall];exact(hB3.mono hF10).mono hF11
   ·dsimp only;rw[hrw];exact hB5
  ·intro s F8 hF8 hP;obtain⟨hb,hb2⟩:=hP;have hal:(allF g S rows).length=S.length:=by unfold allF;simp
   rw[List.take_of_length_le zo] at hb;rw[List.take_of_length_le (by rw[List.length_map];omega)] at hb2;refine AW.freezeAll 0 Z Z (fun F9 hF9 hB9=>?_);have h1:=hb.frozen hF9 hB9;refine AW.freezeAllN 1 Z Z (fun F10 hF10 hB10 hno10 hnd10=>?_);have h2:=bld_new (F0:=F) (fun i b h=>hF9 _ _ (hF8 _ _ (hF4 _ _ (hF3 _ _ (hF2 _ _ (hF1 _ _ (hF0 _ _ h))))))) (hb2.mono hF9) hF10 hB10 hno10;refine zC4 ?_;exact AW.ret ⟨_,[],⟨_,_,rfl,⟨_,_,rfl,⟨_,_,rfl,rfl,rfl⟩,rfl⟩,rfl⟩,zsb,rfl,.inr ⟨S,rows,_,_,_,_,_,_,hst,rfl,h1.mono hF10,h2⟩⟩
def LessM(F0 F:Frz)(L:List (Nat×Blk))(G:Frz):Prop:=∀i b,F i=some b→F0 i=none→(∃c,(i,c)∈L)∨G i=some b
def TabN(F0 F:Frz)(T:Tab)(v:Value)(L:List (Nat×Blk)):Prop:=∃a1 n1 c1 a2 n2 c2 a3 n3 c3 vs,v=.agg ⟨[.int .i64 2,.slice a1 n1 c1,.slice a2 n2 c2,.slice a3 n3 c3]⟩∧
 ActR vs L T.act∧(∀G,LessM F0 F L G→Arr tRaw G a1 n1 c1 vs)∧(∀G,LessN F0 F G→Arr (tList tInt) G a2 n2 c2 T.go)∧Arr tConf F a3 n3 c3 T.conf
theorem arr_nil{α:Type}{R:Ty α}{F G:Frz}{a:Option Addr}{n c:Nat}(h:Arr R F a n c ([]:List α)):Arr R G a n c []:=
 ⟨h.len,h.cap,h.zero,h.nil,h.spot,fun j x hj=>by simp at hj⟩
theorem TabN.tabV{F0 F G:Frz}{T:Tab}{v:Value}{L:List (Nat×Blk)}(h:TabN F0 F T v L)(hc:T.conf=[])(hL:Fresh F0 F L)(hG:LessN F0 F G):TabV G 2 T v:=by
 obtain⟨a1,n1,c1,a2,n2,c2,a3,n3,c3,vs,e,h1,h2,h3,h4⟩:=h;rw[hc] at h4;exact⟨a1,n1,c1,a2,n2,c2,a3,n3,c3,e,h1.arr (h2 G fun i b h hn=>.inr (hG i b h hn)) (fun i b hm=>hG i b (hL.2.1 i b hm) (hL.1 i b hm)),h3 G hG,by rw[hc];exact arr_nil h4⟩
theorem ofNew_spec(F:Frz)(g:Gram)(hg:Valid g)(ht5:g.terms≤5){a:Option Addr}{m c:Nat}(hr:Arr tRule F a m c g.rules) :
  Abs.Spec CC 18 [.agg ⟨gramCells g a m c⟩,.int .i64 2] F [] fun F' v o=>o=[]∧∃L,Fresh F F' L∧((tableF g 2=none∧v=.tuple ⟨[.agg ⟨[.int .i64 0,.slice none 0 0,.slice none 0 0,.slice none 0 0]⟩,.int .i64 2]⟩)∨
   ∃T x,tableF g 2=some T∧v=.tuple ⟨[x,.int .i64 0]⟩∧TabN F F' T x L):=by
 have hrl:=hr.len;unfold gramCells;refine Abs.Spec.fn (n:=76) Tryz.func18 rfl rfl fun own=>?_;refine AW.seq (AW.reg ?_);refine WT.boxT Z Z Z Z Z Z (fun i2 hi2=>?_);refine WT.freezeAll 0 Z Z (fun F0 hF0 hB0=>?_);have hi2:=hB0 i2 _ me;have hr:=hr.mono hF0;refine WT.allocT hT Z Z Z Z Z Z (fun i4 hi4=>?_);refine zC4 ?_;have hal:=allNew_spec F0 g hg ht5 hr;unfold gramCells at hal;refine WT.callF0 Tryz.func46 Z Z Z Z Z Z hal (fun F1 v hF1 hv=>?_);rcases hv with ⟨hst,rfl⟩ | ⟨S,rows,a1,n1,c1,a2,n2,c2,hst,rfl,h1,h2⟩
 ·refine zC4 ?_;refine AW.cond Z (fun _=>?_) (fun h=>(by cases h));refine zC4 ?_;refine AW.ret ⟨_,[],⟨_,_,⟨_,rfl,fun G h0 s0=>loadA_cells (s0.has (p:=0) Z me) (readT_ok hT rfl)⟩,⟨_,_,rfl,rfl,rfl⟩,rfl⟩,zsb,rfl,[],Fresh.nil,.inl ⟨by unfold tableF;rw[hst];rfl,rfl⟩⟩
 ·refine zC4 ?_;refine AW.cond Z (fun h=>(by cases h)) (fun _=>?_);refine zC4 ?_;refine WT.allocT hT Z Z Z Z Z Z (fun i9 hi9=>?_);refine zC4 ?_;have hfew:=autoK_few hst;have hall6:∀r∈allF g S rows,r.length≤6:=fun r hr=>by
   unfold allF at hr;obtain⟨s,_,rfl⟩:=List.mem_map.1 hr;simp only[List.length_map,List.length_range];omega
  have hall1:∀r∈allF g S rows,0<r.length:=fun r hr=>by
   unfold allF at hr;obtain⟨s,_,rfl⟩:=List.mem_map.1 hr;simp only[List.length_map,List.length_range];omega
  have halen:(allF g S rows).length≤400:=by unfold allF;simpa using hfew
  have hsm:∀r∈allF g S rows,∀l∈r,l.length≤1001:=fun r hr l hl=>by
   unfold allF at hr;obtain⟨s,hs,rfl⟩:=List.mem_map.1 hr;obtain⟨t,_,rfl⟩:=List.mem_map.1 hl;have hs:=List.mem_range.1 hs;have h1:=(statesF_PK hg hst (S.getD s []) (by rw[getD_some (gE hs)];exact List.getElem_mem hs)).1;have h2:=actPre_len (g:=g) (row:=rows.getD s []) (t:=t);have h3:=List.length_filterMap_le (actOne g t) (S.getD s []);rw[actsF_eq,List.length_append];omega
  have hT2:tableF g 2=some (tabF (allF g S rows) (rows.map (·.drop g.terms))):=by unfold tableF;rw[hst];rfl
  generalize allF g S rows=all at h1 hall6 hall1 halen hsm hT2;have hn1:=h1.len;refine AW.range (S:=AlS) (fun s=>[]) (fun s=>[(i9,.cells false [.int .i64 2,.slice s.a s.m s.c,.slice a2 n2 c2,.slice s.a2 s.m2 s.c2])]::s.B::s.B2::[(i4,.cells false [.int .i64 0,.slice none 0 0,.slice none 0 0,.slice none 0 0])]::[]::own) (fun j s G=>∃vs L,Fresh F G L∧ActR vs L ((all.take j).map (·.map headA))∧Bld tRaw G s.a s.m s.c s.B vs∧Bld tConf G s.a2 s.m2 s.c2 s.B2 (confsTo all j)) n1 ⟨none,0,0,[],none,0,0,[]⟩
   Z Z Z Z Z Z Z Z Z zo rfl rfl (fun _=>rfl) (fun _=>rfl) sM (OwnLe.flat (List.Perm.refl _)) ⟨[],[],Fresh.nil,by rw[List.take_zero];exact .nil,Bld.nil_ _ _,Bld.nil_ _ _⟩ ?_ ?_
  ·intro j s F2 hF2 hj hP;obtain⟨vs,L,hFr,hAR,hb,hb2⟩:=hP;have h12:=h1.mono hF2;have hbl:=hb.len;have hvl:=hAR.len.1;rw[List.length_map,List.length_take] at hvl;refine zC4 ?_;refine WT.idxL hT h12 Z Z Z Z Z Z Z Z Z zo (fun row hrj b1 off1 ro1 cs1 lx1 hb1 hp1 hrel1=>?_);obtain⟨ra,rn,rc,rfl,hrow⟩:=hrel1;have hrl:=hrow.len;have hr6:=hall6 row (gM hrj);have hrs:=hsm row (gM hrj);have hcf:=confsTo_few all hall6 j;have hgd:all.getD j []=row:=getD_some hrj;refine zC4 ?_
   refine AW.range (S:=AlS) (fun u=>[(12,.slice u.a u.m u.c)]) (fun u=>u.B::[(i9,.cells false [.int .i64 2,.slice s.a s.m s.c,.slice a2 n2 c2,.slice u.a2 u.m2 u.c2])]::s.B::u.B2::[(i4,.cells false [.int .i64 0,.slice none 0 0,.slice none 0 0,.slice none 0 0])]::[]::own) (fun k u G=>Bld tAct G u.a u.m u.c u.B ((row.take k).map headA)∧Bld tConf G u.a2 u.m2 u.c2 u.B2 (confsTo all j++confRow j row k)) rn ⟨none,0,0,[],s.a2,s.m2,s.c2,s.B2⟩
    Z Z Z Z Z Z Z Z Z zo rfl rfl (fun _=>rfl) (fun _=>rfl) sM (OwnLe.flat (List.Perm.refl _)) ⟨Bld.nil_ _ _,by rw[show confRow j row 0=[] from rfl,List.append_nil];exact hb2⟩ ?_ ?_
   ·intro k u F3 hF3 hk hP;obtain⟨hu,hu2⟩:=hP;have hrow3:=hrow.mono hF3;have hul:=hu.len;have hul2:=hu2.len;have hcr:=confRow_few j row k;rw[List.length_map,List.length_take] at hul;rw[List.length_append] at hul2;refine zC4 ?_;refine WT.idxL hT hrow3 Z Z Z Z Z Z Z Z Z zo (fun l hlk b2 off2 ro2 cs2 lx2 hb2 hp2 hrel2=>?_);obtain⟨la,ln,lc,rfl,hl⟩:=hrel2;have hll:=hl.len;have hl1:=hrs l (gM hlk);have htk:(row.take (k+1)).map headA=(row.take k).map headA++[headA l]:=by rw[List.take_add_one,hlk,List.map_append];rfl
    have hgk:row.getD k []=l:=getD_some hlk;refine zC4 ?_;refine WT.allocT hT Z Z Z Z Z Z (fun i15 hi15=>?_);refine zC4 ?_;refine AW.jnT (S:=Unit) (fun _=>[]) (fun _=>[(i15,.cells false [.int .i64 (headA l).1,.int .i64 (headA l).2])]::u.B::[(i9,.cells false [.int .i64 2,.slice s.a s.m s.c,.slice a2 n2 c2,.slice u.a2 u.m2 u.c2])]::s.B::u.B2::[(i4,.cells false [.int .i64 0,.slice none 0 0,.slice none 0 0,.slice none 0 0])]::[]::own) (fun _ _=>True) ?_ (fun _ F4 hF4 _=>?_)
    ·exact shE12
    ·exact shE5
   ·intro u F3 hF3 hP;obtain⟨hu,hu2⟩:=hP;rw[List.take_of_length_le zo] at hu;have hul:=hu.len;have hu2l:=hu2.len;have hcr:=confRow_few j row rn;rw[List.length_append] at hu2l;have hrp:=hall1 row (gM hrj)
    obtain⟨id,cs,hia,hic,hiB,hcells,_⟩:=hu.at_.resolve_left (fun h=>by
     have:=congrArg List.length h.1;rw[List.length_map] at this;simp at this;rw[this] at hrp;exact absurd hrp (Nat.lt_irrefl _))
    have hcs:=cells_flatA hcells;refine AW.freezeAllN 0 Z Z (fun F4 hF4 hB4 hno4 hnd4=>?_);have hFr3:=hFr.mono hF3
    have hFr4:Fresh F F4 (L++u.B):=(hFr3.mono hF4).app (fun i b hm=>by
     refine⟨?_,hB4 i b hm⟩;cases hf:F i with
     | none=>rfl
     | some q=>
      have h1:=hno4 i b hm;rw[hF3 _ _ (hF2 _ _ (hF1 _ _ (hF0 _ _ hf)))] at h1;cases h1) hnd4 (fun i b c h1 h2=>by
     have h3:=hFr3.2.1 i b h1;rw[hno4 i c h2] at h3;cases h3)
    have hAR4:ActR (vs++[.slice u.a u.m u.c]) (L++u.B) ((all.take j).map (·.map headA)++[row.map headA]):=by
     rw[hia,hu.len,hic,hiB,hcs];exact .snoc hAR rfl (by rw[List.length_map];exact hrp)
    have htk:(all.take (j+1)).map (·.map headA)=(all.take j).map (·.map headA)++[row.map headA]:=by rw[List.take_add_one,hrj,List.map_append];rfl
    have hct:confsTo all (j+1)=confsTo all j++confRow j row rn:=by rw[confsTo_succ,hgd,hrl]
    refine zC8 ?_;refine WT.buildT hT Z Z Z Z Z Z Z Z Z Z Z Z Z Z (fun i35 hi35=>?_);refine WT.appendT (R:=tRaw) (ys:=[.slice u.a u.m u.c]) hT 3 ((hb.mono hF3).mono hF4) Z (fun _=>rfl) Z Z Z Z Z Z Z Z Z Z Z (fun h0 s0=>news_own hT s0 0 Z Z Z Z) (Cells.single (R:=tRaw) ⟨rfl,rfl⟩) Z (by decide) zom (fun a5 c5 B5 hB5=>?_);refine zC8 ?_;refine⟨⟨a5,s.m+1,c5,B5,u.a2,u.m2,u.c2,u.B2⟩,sM,zow,_,_,hFr4,?_,hB5,?_⟩
    ·rw[htk];exact hAR4
    ·dsimp only;rw[hct];exact hu2.mono hF4
  ·intro s F2 hF2 hP;obtain⟨vs,L,hFr,hAR,hb,hb2⟩:=hP;rw[List.take_of_length_le zo] at hAR;refine AW.freezeAllN 1 Z Z (fun F3 hF3 hB3 hno3 hnd3=>?_);have hF02:∀i b,F i=some b→F2 i=some b:=fun i b h=>hF2 _ _ (hF1 _ _ (hF0 _ _ h));have g0:∀G,LessM F F3 L G→Arr tRaw G s.a s.m s.c vs:=fun G hG=>(bld_any hb).arr (Frz.le.refl G) fun i b hm=>by
    rcases hG i b (hB3 i b hm) (none_of hF02 (hno3 i b hm)) with ⟨c,hc⟩ | h
    ·have h4:=hFr.2.1 i c hc;rw[hno3 i b hm] at h4;cases h4
    ·exact h
   refine AW.freezeAll 2 Z Z (fun F4 hF4 hB4=>?_);have g2:=(hb2.mono hF3).frozen hF4 hB4;refine zC8 ?_;refine AW.ret ⟨_,[],⟨_,_,⟨_,rfl,fun G h0 s0=>loadA_cells (s0.has (p:=3) Z me) (readT_ok hT rfl)⟩,⟨_,_,rfl,rfl,rfl⟩,rfl⟩,zsb,rfl,L,(hFr.mono hF3).mono hF4,.inr ⟨_,_,hT2,rfl,_,_,_,_,_,_,_,_,_,vs,rfl,hAR,fun G hG=>g0 G (fun i b h hn=>hG i b (hF4 i b h) hn),fun G hG=>h2 G (fun i b h hn=>hG i b (hF4 _ _ (hF3 _ _ (hF2 _ _ h))) (none_of (fun i b h=>hF0 _ _ h) hn)),?_⟩⟩;have e:n1=all.length:=hn1;rw[e] at g2;exact g2
structure NewRule(g:Gram)(r:Rule):Prop where
 left:r.left<g.nons
 len:r.right.length≤4
 ok:∀y∈r.right,SymOk g.terms g.nons y
theorem gcopyOwn_spec(F:Frz)(g:Gram){a:Option Addr}{m c:Nat}(hr:Arr tRule F a m c g.rules)(hm:m≤1000000)(hrr:∀r∈g.rules,r.right.length≤1000000) :
  Abs.Spec CC 44 [.agg ⟨gramCells g a m c⟩] F [] fun F' v o=>∃B',o=[B']∧∃B bs a' c' xs,B'=B++bs∧v=.agg ⟨gramCells g a' m c'⟩∧Bld tRuleC F' a' m c' B xs∧Rights F' xs bs g.rules:=by
 unfold gramCells;have hrl:=hr.len;refine Abs.Spec.fn (n:=28) Tryz.func44 rfl rfl fun own=>?_;exact shE2
theorem newN_spec(F:Frz)(g:Gram)(hg:Valid g)(ht5:g.terms≤5){T:Tab}(hT2:tableF g 2=some T)(hc:T.conf=[]){v:Value}(hv:TabV F 2 T v){a:Option Addr}{m c:Nat}(hr:Arr tRule F a m c g.rules) :
  Abs.Spec CC 16 [v,.agg ⟨gramCells g a m c⟩] F [] fun F' v o=>∃pi p,o=[[(pi,.cells false (ppCells g p))]]∧v=.tuple ⟨[.pointer (some ⟨pi,0,none⟩),.int .i64 0]⟩∧(∀G,LessN F F' G→PPOk g T G p [0] [])∧p.read=0:=by
 obtain⟨a1,n1,c1,a2,n2,c2,a3,n3,c3,rfl,h1,h2,h3⟩:=id hv;have hl3:=h3.len;rw[hc] at hl3;have hl3:n3=0:=hl3;subst hl3;have hrl:=hr.len;have hgr:=hg.range.rules;unfold gramCells;refine Abs.Spec.fn (n:=32) Tryz.func16 rfl rfl fun own=>?_;refine AW.seq (AW.reg ?_);refine WT.boxT Z Z Z Z Z Z (fun i2 hi2=>?_);refine WT.boxT Z Z Z Z Z Z (fun i3 hi3=>?_);refine zB4 ?_;have hck:=tcheck_spec F g hg ht5 (.inr (.inl rfl)) hT2 hv hr;unfold gramCells at hck;refine WT.callV Tryz.func43 Z Z Z Z Z Z hck (fun v hv=>?_);subst hv;refine zB4 ?_;refine AW.cond Z (fun h=>(by cases h)) (fun _=>?_);refine zB4 ?_
 refine AW.cond Z (fun h=>(by cases h)) (fun _=>?_);refine zB4 ?_;have hof:=ofNew_spec F g hg ht5 hr;unfold gramCells at hof;refine WT.callF0 Tryz.func18 Z Z Z Z Z Z hof (fun F1 v hF1 hv1=>?_);obtain⟨L,hFr,hv1⟩:=hv1;rcases hv1 with ⟨hn,_⟩ | ⟨T',x,hx1,rfl,hx2⟩
 ·rw[hT2] at hn;cases hn
 rw[hT2] at hx1;obtain rfl:=Option.some.inj hx1;obtain⟨b1,m1,d1,b2,m2,d2,b3,m3,d3,vs,rfl,_⟩:=id hx2;refine zB4 ?_;refine WT.allocT hT Z Z Z Z Z Z (fun i7 hi7=>?_);refine zB4 ?_;refine AW.draw (ps:=[(0,2),(0,3),(1,3)]) Z Z ?_;refine zB4 ?_;have hcp:=gcopyOwn_spec F1 g (hr.mono hF1) zo (fun r hr=>by have:=(hg.right r hr).2.1;omega);unfold gramCells at hcp;refine WT.callN Tryz.func44 Z Z Z Z Z Z hcp (fun F2 v BG hF2 hv=>?_);obtain⟨Bc,bsc,ga,gc,xs,rfl,rfl,hcb,hcR⟩:=hv;refine WT.freezeAllM 0 Z Z (fun F3 hF3 hB3 hno3=>?_);refine WT.buildT hT Z Z Z Z Z Z Z Z Z Z Z Z Z Z (fun i29 hi29=>?_)
 refine WT.freezeAllM 0 Z Z (fun F4 hF4 hB4 hno4=>?_);have hS:∀G,LessN F F4 G→Arr tNat G (some ⟨i29,0,none⟩) 1 1 [0]:=fun G hG=>Bld.frozen (F:=G) (B:=[(i29,.cells false [.int .i64 0])]) ⟨rfl,.inr ⟨i29,_,rfl,rfl,rfl,Cells.single (R:=tNat) (x:=0) rfl,by decide⟩⟩ (Frz.le.refl G) fun i b hm=>hG i b (hB4 i b hm) (none_of (fun i b h=>hF3 _ _ (hF2 _ _ (hF1 _ _ h))) (hno4 i b hm));have hGc:∀G,LessN F F4 G→Arr tRule G ga m gc g.rules:=fun G hG=>by
  have hin:∀i b,(i,b)∈Bc++bsc→G i=some b:=fun i b hm=>hG i b (hF4 _ _ (hB3 i b hm)) (none_of (fun i b h=>hF2 _ _ (hF1 _ _ h)) (hno3 i b hm));exact(bld_rules (Frz.le.refl G) (bld_c hcb) (rights_c hcR) fun i b hm=>hin i b (List.mem_append_right _ hm)).frozen (Frz.le.refl G) fun i b hm=>hin i b (List.mem_append_left _ hm)
 have hTV:∀G,LessN F F4 G→TabV G 2 T (.agg ⟨[.int .i64 2,.slice b1 m1 d1,.slice b2 m2 d2,.slice b3 m3 d3]⟩):=fun G hG=>hx2.tabV hc hFr fun i b h hn=>hG i b (hF4 _ _ (hF3 _ _ (hF2 _ _ h))) hn;refine zB4 ?_;refine WT.boxT Z Z Z Z Z Z (fun i31 hi31=>?_);refine zB4 ?_;refine⟨zrC,?_⟩;refine AW.ret ⟨_,[_],⟨_,_,rfl,⟨_,_,rfl,rfl,rfl⟩,rfl⟩,?_,i31,⟨2,b1,m1,d1,b2,m2,d2,b3,m3,d3,ga,m,gc,some ⟨i29,0,none⟩,1,1,none,0,0,0⟩,rfl,rfl,fun G hG=>?_,rfl⟩
 ·exact List.Sublist.cons_cons _ (by repeat (first | exact List.Sublist.refl _ | refine List.Sublist.cons _ ?_))
 ·obtain⟨x1,x2,x3,x4,x5,x6,x7,x8,x9,e,q1,q2,_⟩:=hTV G hG;injection e with e;injection e with e;injection e with _ e;injection e with e1 e;injection e with e2 e;cases e1;cases e2;exact⟨q1,q2,hGc G hG,hS G hG,Arr.nil_ _ _,fun _=>rfl⟩
theorem Spec.lendF{C:Ctx}{f:FuncId}{args:List Value}{F:Frz}{oin:Own}{P:Frz→Frz→Value→Own→Prop}{B:List (Nat×Blk)}
  (spec:∀G,Frz.le F G→(∀i b,(i,b)∈B→G i=some b)→Abs.Spec C f args G oin fun F' v o=>P G F' v o) :
  Abs.Spec C f args F (B::oin) fun F2 v o=>∃o' G F',o=B::o'∧Frz.le F G∧P G F' v o'∧LessN G F' F2:=by
 intro own h hs;have hs:St F (B::(oin++own)) h:=hs;obtain⟨s1,hle,hB⟩:=hs.freezeAll;obtain⟨v,h',F',oout,h1,h2,h3,h4⟩:=spec _ hle hB own h s1;have s0:StF F (B++(oin++own).flatten) h:=by simpa [St] using hs
 have hnd:=s0.nodup;rw[List.map_append,List.nodup_append] at hnd;have h3':StF F' (oout++own).flatten h':=h3;have hF':∀i b,(i,b)∈B→F' i=some b:=fun i b hm=>h2 i b (hB i b hm);refine⟨v,h',fun i=>if (B.map (·.1)).contains i=true then none else F' i,B::oout,h1,fun i b q=>?_,?_,oout,_,F',rfl,hle,h4,fun i b q hn=>?_⟩
 ·have hn:(B.map (·.1)).contains i=false:=by
   cases hc:(B.map (·.1)).contains i with
   | false=>rfl
   | true=>
    obtain⟨p,hp,rfl⟩:=List.mem_map.1 (List.contains_iff_mem.1 hc);have:=s0.apart p (List.mem_append_left _ hp);rw[q] at this;cases this
  simp only[hn,Bool.false_eq_true,if_false];exact h2 i b (hle i b q)
 ·show StF _ (B++(oout++own).flatten) h';refine⟨fun i b q=>?_,fun p hp=>?_,fun p hp=>?_,?_,h3'.wf⟩
  ·split at q
   ·cases q
   ·exact h3'.frz i b q
  ·rcases List.mem_append.1 hp with hp | hp
   ·exact h3'.frz _ _ (hF' p.1 p.2 hp)
   ·exact h3'.has p hp
  ·rcases List.mem_append.1 hp with hp | hp
   ·show (if _ then _ else _)=_;rw[if_pos (List.contains_iff_mem.2 (List.mem_map_of_mem hp))]
   ·show (if _ then _ else _)=_;split
    ·rfl
    ·exact h3'.apart p hp
  ·rw[List.map_append,List.nodup_append];refine⟨hnd.1,h3'.nodup,fun a ha b hb=>?_⟩;obtain⟨p,hp,rfl⟩:=List.mem_map.1 ha;obtain⟨q,hq,rfl⟩:=List.mem_map.1 hb;intro e;have h5:=h3'.apart q hq;rw[←e,hF' p.1 p.2 hp] at h5;cases h5
 ·show (if _ then _ else _)=_;have hc:¬(B.map (·.1)).contains i=true:=fun hc=>by
   obtain⟨p,hp,rfl⟩:=List.mem_map.1 (List.contains_iff_mem.1 hc);rw[hB p.1 p.2 hp] at hn;cases hn
  rw[if_neg hc];exact q
theorem cleanN0_spec(F:Frz)(g:Gram)(hg:Valid g)(ht5:g.terms≤5){a:Option Addr}{m c:Nat}(hr:Arr tRule F a m c g.rules) :
  Abs.Spec CC 14 [.agg ⟨gramCells g a m c⟩,.int .i64 2] F [] fun F' v o=>o=[]∧∃L,Fresh F F' L∧∃k a1 n1 c1 a2 n2 c2 a3 n3 c3 b,v=.tuple ⟨[.agg ⟨[.int .i64 (k:Nat),.slice a1 n1 c1,.slice a2 n2 c2,.slice a3 n3 c3]⟩,.bool b]⟩∧
   (b=true→∃T,tableF g 2=some T∧T.conf=[]∧TabN F F' T (.agg ⟨[.int .i64 (k:Nat),.slice a1 n1 c1,.slice a2 n2 c2,.slice a3 n3 c3]⟩) L):=by
 unfold gramCells;refine Abs.Spec.fn (n:=23) Tryz.func14 rfl rfl fun own=>?_;refine AW.seq (AW.reg ?_);refine WT.boxT Z Z Z Z Z Z (fun i2 hi2=>?_);refine WT.allocT hT Z Z Z Z Z Z (fun i4 hi4=>?_);refine zB4 ?_;have hof:=ofNew_spec F g hg ht5 hr;unfold gramCells at hof;refine WT.callF0 Tryz.func18 Z Z Z Z Z Z hof (fun F1 v hF1 hv1=>?_);obtain⟨L,hFr,hv1⟩:=hv1;rcases hv1 with ⟨hn,rfl⟩ | ⟨T,x,hT2,rfl,hx⟩
 ·refine zB4 ?_;refine WT.allocT hT Z Z Z Z Z Z (fun i6 hi6=>?_);refine zB4 ?_;refine AW.draw (ps:=[(5,9),(6,9),(7,9)]) Z Z ?_;refine zB4 ?_;refine⟨zrC,?_⟩;exact AW.ret ⟨_,[],⟨_,_,⟨_,rfl,fun G h0 s0=>loadA_cells (s0.has (p:=1) rfl me) (readT_ok hT rfl)⟩,⟨_,_,rfl,rfl,rfl⟩,rfl⟩,zsb,rfl,L,hFr,0,_,_,_,_,_,_,_,_,_,_,rfl,fun h=>(by cases h)⟩
 ·obtain⟨a1,n1,c1,a2,n2,c2,a3,n3,c3,vs,rfl,h1,_,_,h3⟩:=id hx;have hl3:=h3.len;refine zB4 ?_;refine WT.allocT hT Z Z Z Z Z Z (fun i6 hi6=>?_);refine zB4 ?_;refine AW.draw (ps:=[(5,9),(6,9),(7,9)]) Z Z ?_;refine zB4 ?_;refine⟨zrC,?_⟩;refine AW.ret ⟨_,[],⟨_,_,⟨_,rfl,fun G h0 s0=>loadA_cells (s0.has (p:=1) Z me) (readT_ok hT rfl)⟩,⟨_,_,rfl,rfl,rfl⟩,rfl⟩,zsb,rfl,L,hFr,2,_,_,_,_,_,_,_,_,_,_,rfl,fun h=>⟨T,hT2,?_,hx⟩⟩;have h:n3=0:=by simp at h;omega
  exact List.eq_nil_of_length_eq_zero zo
def CleanN(g:Gram)(G F':Frz)(v:Value)(L:List (Nat×Blk)):Prop:=∃k a1 n1 c1 a2 n2 c2 a3 n3 c3 b,v=.tuple ⟨[.agg ⟨[.int .i64 (k:Nat),.slice a1 n1 c1,.slice a2 n2 c2,.slice a3 n3 c3]⟩,.bool b]⟩∧
 (b=true→∃T,tableF g 2=some T∧T.conf=[]∧TabN G F' T (.agg ⟨[.int .i64 (k:Nat),.slice a1 n1 c1,.slice a2 n2 c2,.slice a3 n3 c3]⟩) L)
theorem cleanN_spec(F:Frz)(g:Gram)(hg:Valid g)(ht5:g.terms≤5){a:Option Addr}{m c:Nat}{B:List (Nat×Blk)}(hr:∀G:Frz,(∀i b,(i,b)∈B→G i=some b)→Arr tRule G a m c g.rules) :
  Abs.Spec CC 14 [.agg ⟨gramCells g a m c⟩,.int .i64 2] F [B] fun F2 v o=>∃L G F',o=[B,L]∧Frz.le F G∧Fresh G F' L∧CleanN g G F' v L∧LessM G F' L F2:=by
 refine(Spec.lendF (oin:=[]) (P:=fun G G2 v o=>∃L F',o=[L]∧LessF F' G2 L∧Fresh G F' L∧CleanN g G F' v L) fun G hG hB=>?_).mono fun F2 v o _ h=>?_
 ·exact(Spec.thaw (Q:=fun F' v L=>Fresh G F' L∧CleanN g G F' v L) ((cleanN0_spec G g hg ht5 (hr G hB)).mono fun F' v o _ h=>by
   obtain⟨ho,L,hL,h⟩:=h;exact⟨ho,L,hL,hL,h⟩)).mono fun G2 v o _ h=>by
   obtain⟨L,F',h1,h2,h3,h4⟩:=h;exact⟨L,F',h1,h2,h3,h4⟩
 ·obtain⟨o',G,G2,rfl,hle,⟨L,F',rfl,h2,h3,h4⟩,h5⟩:=h;exact⟨L,G,F',rfl,hle,h3,h4,fun i b hi hn=>(h2 i b hi).imp id fun h=>h5 i b h hn⟩
theorem newL_spec(F:Frz)(g:Gram)(hg:Valid g)(ht5:g.terms≤5){T:Tab}(hT2:tableF g 2=some T)(hc:T.conf=[]){v:Value}{a:Option Addr}{m c:Nat}{B L:List (Nat×Blk)}
  (hv:∀G:Frz,Frz.le F G→(∀i b,(i,b)∈L→G i=some b)→TabV G 2 T v) (hr:∀G:Frz,(∀i b,(i,b)∈B→G i=some b)→Arr tRule G a m c g.rules) :
  Abs.Spec CC 16 [v,.agg ⟨gramCells g a m c⟩] F [B,L] fun F2 v o=>∃pi p,o=[B,L,[(pi,.cells false (ppCells g p))]]∧v=.tuple ⟨[.pointer (some ⟨pi,0,none⟩),.int .i64 0]⟩∧PPOk g T F2 p [0] []∧p.read=0:=by
 refine(Spec.lendF (oin:=[L]) (P:=fun G1 F2 v o=>∃pi p,o=[L,[(pi,.cells false (ppCells g p))]]∧v=.tuple ⟨[.pointer (some ⟨pi,0,none⟩),.int .i64 0]⟩∧(∀H,LessN G1 F2 H→PPOk g T H p [0] [])∧p.read=0) fun G1 hG1 hB=>?_).mono fun F2 v o _ h=>?_
 ·refine(Spec.lendF (oin:=[]) (P:=fun G2 F2 v o=>∃pi p,o=[[(pi,.cells false (ppCells g p))]]∧v=.tuple ⟨[.pointer (some ⟨pi,0,none⟩),.int .i64 0]⟩∧(∀H,LessN G2 F2 H→PPOk g T H p [0] [])∧p.read=0) fun G2 hG2 hL=>?_).mono fun F2 v o _ h=>?_
  ·exact newN_spec G2 g hg ht5 hT2 hc (hv G2 (hG1.trans hG2) hL) (hr G2 fun i b hm=>hG2 _ _ (hB i b hm))
  ·obtain⟨o',G2,F',rfl,hle,⟨pi,p,rfl,h1,h2,h3⟩,h5⟩:=h;exact⟨pi,p,rfl,h1,fun H hH=>h2 H fun i b hi hn=>hH i b (h5 i b hi hn) (none_of (fun i b h=>hle _ _ h) hn),h3⟩
 ·obtain⟨o',G,F',rfl,hle,⟨pi,p,rfl,h1,h2,h3⟩,h5⟩:=h;exact⟨pi,p,rfl,h1,h2 F2 h5,h3⟩
end Go.Proofs.D