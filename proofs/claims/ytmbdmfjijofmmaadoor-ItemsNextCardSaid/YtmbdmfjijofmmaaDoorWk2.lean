/-
  Walks: what functions of the program do, over the abstract machine.
-/
import Derived.Test.YtmbdmfjijofmmaaDoorWk1
set_option linter.unusedVariables false
set_option maxRecDepth 20000
set_option maxHeartbeats 0
open Go Go.Abs Go.Proofs Go.Proofs.D
set_option linter.unusedVariables false
namespace Bd
def mn(a b:Nat):Nat:=bif Nat.ble a b then a else b
def mx(a b:Nat):Nat:=bif Nat.ble a b then b else a
def bP4(k:Nat):Nat:=2 ^ mn 4 k
def E4(k:Nat):Nat:=bP4 k-1
def fA(n lump D1 D2 gs g1 g2 d0 d B lz:Nat):Nat:=
 mn (E4 B*bP4 (mn lz d)) (1+lump+(E4 (mn B d)*bP4 (mn (mn lz d0) (n+gs))+E4 (mn B D1)*bP4 (mn (mn lz d0) (n+g1))+E4 (mn B D2)*bP4 (mn (mn lz d0) (n+g2))))
def fT(n l d0 bx Bz lz Dx gx t:Nat):Nat:=
 mn (E4 t*bP4 (mn Bz Dx)*bP4 (mn (mn lz d0) (n+gx))) ((bP4 bx-2 ^ (mn 4 bx-mn 4 t))*bP4 (mn l Dx))
def mx2(f g:Nat→Nat)(k:Nat):Nat→Nat
 | 0=>f 0+g k
 | i+1=>mx (f (i+1)+g (k-(i+1))) (mx2 f g k i)
def fV(l Vl bs b1 b2 d D1 D2:Nat):Nat:=E4 l+Vl+(E4 bs*bP4 (mn l d)+E4 b1*bP4 (mn l D1)+E4 b2*bP4 (mn l D2))
def fC(bs b1 b2 o1 o2 n l l1 l2 D1 D2 lump Vl kap gs g1 g2 ts t1 t2 d0 d W:Nat):Nat:=
 mn (fA n lump D1 D2 gs g1 g2 d0 d bs l+(fT n l d0 bs bs l d gs ts+fT n l d0 b1 bs l D1 g1 t1+fT n l d0 b2 bs l D2 g2 t2)) (fV l Vl bs b1 b2 d D1 D2)
 + (fA n lump D1 D2 gs g1 g2 d0 d o1 l1+fA n lump D1 D2 gs g1 g2 d0 d o2 l2)
 + (mx2 (fT n l d0 bs o1 l1 d gs) (fT n l d0 bs o2 l2 d gs) ts ts+mx2 (fT n l d0 b1 o1 l1 D1 g1) (fT n l d0 b1 o2 l2 D1 g1) t1 t1+mx2 (fT n l d0 b2 o1 l1 D2 g2) (fT n l d0 b2 o2 l2 D2 g2) t2 t2)
 + W*kap
def fW(n G:Nat):Nat→Nat
 | 0=>0
 | e+1=>2 ^ (mn n (4*(e+1))+G-e)+e-1
def mxU(f:Nat→Nat):Nat→Nat
 | 0=>f 0
 | i+1=>mx (f (i+1)) (mxU f i)
def fQ(bs b1 b2 o1 o2 n l l1 l2 D1 D2 lump Vl kap r:Nat):Nat:=
 fC bs b1 b2 o1 o2 n l l1 l2 D1 D2 lump Vl kap bs b1 b2 bs b1 b2 (mn 4 (n+(bs+b1+b2))) (mn 4 (mn 4 (n+(bs+b1+b2))+r)) (mxU (fW n (bs+b1+b2)) (mn 4 (n+(bs+b1+b2))))
def fF(bs b1 b2 o1 o2 n l l1 l2 D1 D2 lump Vl kap r:Nat):Nat:=
 mxU (fun gs=>mxU (fun g1=>mxU (fun g2=>mxU (fun d0=>
  fC bs b1 b2 o1 o2 n l l1 l2 D1 D2 lump Vl kap gs g1 g2 (bs-gs) (b1-g1) (b2-g2) d0 (mn 4 (d0+r)) (fW n (gs+g1+g2) d0))
  (mn 4 (n+(gs+g1+g2)))) b2) b1) bs
def fEta(n:Nat):Nat:=n*2 ^ (mn 4 n-1)
def fS(F:Nat→Nat→Nat→Nat→Nat→Nat→Nat→Nat→Nat→Nat→Nat→Nat→Nat→Nat→Nat→Nat)(b00 b01 b02 n0 b10 b11 b12 n1 b20 b21 b22 n2 r:Nat):Nat:=
 let l0:=b00+b01+b02+n0;let l1:=b10+b11+b12+n1;let l2:=b20+b21+b22+n2;let D0:=mn 4 (n0+(b00+b10+b20)+r);let D1:=mn 4 (n1+(b11+b01+b21)+r);let D2:=mn 4 (n2+(b22+b02+b12)+r);let nn:=n0+n1+n2;let lump:=2 ^ (nn+2*r)-1;let Vl:=bif Nat.beq r 0 then 0 else mn (2 ^ (nn+r-1)) (16*r);let kap:=bif Nat.beq r 0 then 1 else 2
 F b00 b10 b20 b01 b02 n0 l0 l1 l2 D1 D2 (lump*2 ^ n0) Vl kap r+F b11 b01 b21 b10 b12 n1 l1 l0 l2 D0 D2 (lump*2 ^ n1) Vl kap r+F b22 b02 b12 b20 b21 n2 l2 l0 l1 D0 D1 (lump*2 ^ n2) Vl kap r
def fO(b00 b01 b02 n0 b10 b11 b12 n1 b20 b21 b22 n2 r:Nat):Nat:=
 let nn:=n0+n1+n2;let kap:=bif Nat.beq r 0 then 1 else 2
 E4 (b00+b01+b02+n0)+E4 (b10+b11+b12+n1)+E4 (b20+b21+b22+n2)+r+(fEta n0+fEta n1+fEta n2)*kap
 + (bif Nat.beq r 0 then 0 else mn (2 ^ (nn+r)) (32*r)+4*r)
def okS(b00 b01 b02 n0 b10 b11 b12 n1 b20 b21 b22 n2 r:Nat):Bool:=
 Nat.ble (fO b00 b01 b02 n0 b10 b11 b12 n1 b20 b21 b22 n2 r+fS fQ b00 b01 b02 n0 b10 b11 b12 n1 b20 b21 b22 n2 r) 398 ||
 Nat.ble (fO b00 b01 b02 n0 b10 b11 b12 n1 b20 b21 b22 n2 r+fS fF b00 b01 b02 n0 b10 b11 b12 n1 b20 b21 b22 n2 r) 398
def allU(f:Nat→Bool):Nat→Bool
 | 0=>f 0
 | i+1=>f (i+1)&&allU f i
def all4(s:Nat)(f:Nat→Nat→Nat→Nat→Bool):Bool:=allU (fun a=>allU (fun b=>allU (fun c=>f a b c (s-a-b-c)) (s-a-b)) (s-a)) s
def okT(s0 s1 s2:Nat):Bool:=all4 s0 fun b00 b01 b02 n0=>all4 s1 fun b10 b11 b12 n1=>all4 s2 fun b20 b21 b22 n2=>
 Nat.beq (n0+n1+n2+(8-s0-s1-s2)) 0||okS b00 b01 b02 n0 b10 b11 b12 n1 b20 b21 b22 n2 (8-s0-s1-s2)
end Bd
set_option linter.unusedVariables false
namespace Bd
def u3(f:Nat→Nat):Nat:=f 0+f 1+f 2
def u4(f:Nat→Nat):Nat:=f 0+f 1+f 2+f 3
theorem sm34(f:Nat→Nat):sm f=u3 f+u4 fun M=>f (3+M):=by simp only[sm,u3,u4,Nat.reduceAdd];omega
theorem u3_le{f g:Nat→Nat}(h:∀i,i<3→f i≤g i):u3 f≤u3 g:=by
 have h0:=h 0 zo;have h1:=h 1 zo;have h2:=h 2 zo;simp only[u3];omega
theorem u4_le{f g:Nat→Nat}(h:∀i,i<4→f i≤g i):u4 f≤u4 g:=by
 have h0:=h 0 zo;have h1:=h 1 zo;have h2:=h 2 zo;have h3:=h 3 zo;simp only[u4];omega
theorem u3_add(f g:Nat→Nat):u3 (fun i=>f i+g i)=u3 f+u3 g:=by simp only[u3];omega
theorem u4_add(f g:Nat→Nat):u4 (fun i=>f i+g i)=u4 f+u4 g:=by simp only[u4];omega
theorem u3_mul(f:Nat→Nat)(c:Nat):u3 (fun i=>f i*c)=u3 f*c:=by simp only[u3,Nat.add_mul]
theorem u4_mul(f:Nat→Nat)(c:Nat):u4 (fun i=>f i*c)=u4 f*c:=by simp only[u4,Nat.add_mul]
theorem u43(f:Nat→Nat→Nat):u4 (fun M=>u3 fun x=>f x M)=u3 fun x=>u4 fun M=>f x M:=by simp only[u3,u4];omega
theorem u44(f:Nat→Nat→Nat):u4 (fun M=>u4 fun x=>f x M)=u4 fun x=>u4 fun M=>f x M:=by simp only[u4];omega
theorem u3_get(f:Nat→Nat){i:Nat}(h:i<3):f i≤u3 f:=by
 have:i=0∨i=1∨i=2:=by omega
 rcases this with rfl | rfl | rfl<;>simp only[u3]<;>omega
theorem u4_get(f:Nat→Nat){i:Nat}(h:i<4):f i≤u4 f:=by
 have:i=0∨i=1∨i=2∨i=3:=by omega
 rcases this with rfl | rfl | rfl | rfl<;>simp only[u4]<;>omega
theorem sm_gt(f:Nat→Nat){i:Nat}(h:i<7):f i≤sm f:=by
 have:i=0∨i=1∨i=2∨i=3∨i=4∨i=5∨i=6:=by omega
 rcases this with rfl | rfl | rfl | rfl | rfl | rfl | rfl<;>simp only[sm]<;>omega
theorem sm_u4(f:Nat→Nat→Nat):sm (fun v=>u4 fun M=>f v M)=u4 fun M=>sm fun v=>f v M:=by simp only[sm,u4];omega
theorem mn_eq(a b:Nat):mn a b=min a b:=by
 unfold mn;cases h:Nat.ble a b with
 | true=>have:=Nat.le_of_ble_eq_true h;simp only[cond_true];omega
 | false=>
  have:¬a≤b:=fun h2=>by rw[←Nat.ble_eq] at h2;rw[h2] at h;cases h
  simp only[cond_false];omega
theorem mx_eq(a b:Nat):mx a b=max a b:=by
 unfold mx;cases h:Nat.ble a b with
 | true=>have:=Nat.le_of_ble_eq_true h;simp only[cond_true];omega
 | false=>
  have:¬a≤b:=fun h2=>by rw[←Nat.ble_eq] at h2;rw[h2] at h;cases h
  simp only[cond_false];omega
theorem pow_le{a b:Nat}(h:a≤b):2 ^ a≤2 ^ b:=Nat.pow_le_pow_right zo h
theorem pow_P4{a b:Nat}(h:a≤b)(h4:a≤4):2 ^ a≤bP4 b:=by
 unfold bP4;rw[mn_eq];exact pow_le zo
theorem pow_E4{a b:Nat}(h:a≤b)(h4:a≤4):2 ^ a-1≤E4 b:=by
 unfold E4;have:=pow_P4 h h4;omega
theorem P4_mono{a b:Nat}(h:a≤b):bP4 a≤bP4 b:=by unfold bP4;rw[mn_eq,mn_eq];exact pow_le zo
theorem E4_mono{a b:Nat}(h:a≤b):E4 a≤E4 b:=by unfold E4;have:=P4_mono h;omega
theorem pow_pos2(a:Nat):1≤2 ^ a:=Nat.pow_pos zo
theorem pow_two_le{a b:Nat}:2 ^ (a+1)+2 ^ (b+1)≤2 ^ (a+b+1)+2:=by
 have h1:=pow_pos2 a;have h2:=pow_pos2 b;rw[Nat.pow_succ,Nat.pow_succ,Nat.pow_succ,Nat.pow_add];obtain⟨A,hA⟩:∃A,2 ^ a=A+1:=⟨2 ^ a-1,by omega⟩;obtain⟨B,hB⟩:∃B,2 ^ b=B+1:=⟨2 ^ b-1,by omega⟩;have:(A+1)*(B+1)=A*B+A+B+1:=by rw[Nat.add_mul,Nat.mul_add];omega
 rw[hA,hB,this];omega
theorem pow_sup{a b:Nat}:(2 ^ a-1)+(2 ^ b-1)≤2 ^ (a+b)-1:=by
 have h1:=pow_pos2 a;have h2:=pow_pos2 b;rw[Nat.pow_add];obtain⟨A,hA⟩:∃A,2 ^ a=A+1:=⟨2 ^ a-1,by omega⟩;obtain⟨B,hB⟩:∃B,2 ^ b=B+1:=⟨2 ^ b-1,by omega⟩;rw[hA,hB,Nat.add_mul,Nat.mul_add,Nat.mul_one,Nat.one_mul];omega
theorem pow_left{a g:Nat}:(2 ^ a-1)*2 ^ g≤2 ^ (a+g)-1:=by
 have h1:=pow_pos2 g;rw[Nat.sub_mul,Nat.one_mul,Nat.pow_add];omega
theorem u4_pow(a:Nat→Nat):u4 (fun X=>2 ^ a X-1)≤2 ^ u4 a-1:=by
 simp only[u4];have h1:=pow_sup (a:=a 0) (b:=a 1);have h2:=pow_sup (a:=a 0+a 1) (b:=a 2);have h3:=pow_sup (a:=a 0+a 1+a 2) (b:=a 3);omega
theorem pow_many:∀(l:List Nat),(l.map fun s=>2 ^ s-1).sum+(if (l.countP fun s=>0<s)=0 then 0 else 2)≤
  (if (l.countP fun s=>0<s)=0 then 0 else 2 ^ (l.sum+1-l.countP fun s=>0<s)+l.countP fun s=>0<s)∧(l.countP fun s=>0<s)≤l.sum:=by
 intro l
 induction l with
 | nil=>simp
 | cons s l ih=>
  obtain⟨ih,hc⟩:=ih;simp only[List.map_cons,List.sum_cons,List.countP_cons];cases s with
  | zero=>
   have hp:(if decide (0<0)=true then 1 else 0)=0:=by simp
   rw[hp];simp only[Nat.pow_zero,Nat.sub_self,Nat.zero_add,Nat.add_zero];exact⟨ih,hc⟩
  | succ s=>
   have hp:(if decide (0<s+1)=true then 1 else 0)=1:=by simp
   rw[hp];refine⟨?_,by omega⟩;rw[if_neg zo,if_neg zo];generalize hd:(l.countP fun s=>decide (0<s))=d at ih hc ⊢;generalize hk:l.sum=k at ih hc ⊢;cases d with
   | zero=>
    rw[if_pos rfl,if_pos rfl] at ih;have:2 ^ (s+1)≤2 ^ (s+1+k+1-(0+1)):=pow_le zo;have:=pow_pos2 (s+1);omega
   | succ d=>
    rw[if_neg zo,if_neg zo] at ih;have h2:=pow_two_le (a:=s) (b:=k-d-1);have e1:k+1-(d+1)=k-d-1+1:=by omega
    have e2:s+1+k+1-(d+1+1)=s+(k-d-1)+1:=by omega
    rw[e1] at ih;rw[e2];have:=pow_pos2 (s+1);omega
variable {R:List Ru}
theorem filt_u4(q:Nat→List Nat)(p:Ru→Bool)(h:∀r:Ru,(∀s∈r.2,s<7)→p r=true→∃M,M<4∧(q M).isPrefixOf r.2=true) :
  ∀R:List Ru,(∀r∈R,∀s∈r.2,s<7)→(R.filter p).length≤u4 fun M=>cn R (q M):=by
 intro R
 induction R with
 | nil=>intro _;simp[cn,u4]
 | cons r R ih=>
  intro hs;have ih:=ih fun r hr=>hs r (List.mem_cons_of_mem _ hr);have e:∀M,cn (r::R) (q M)=cn R (q M)+if (q M).isPrefixOf r.2 then 1 else 0:=fun M=>by
   unfold cn;rw[List.countP_cons]
  simp only[e,u4_add,List.filter_cons];by_cases hp:p r=true
  ·rw[if_pos hp,List.length_cons];obtain⟨M,hM,h1⟩:=h r (hs r me) hp;have:=u4_get (fun M=>if (q M).isPrefixOf r.2 then 1 else 0) hM;simp only[h1,if_true] at this;omega
  ·rw[if_neg hp];omega
theorem nt_ex{b:Nat}(h:bnt b=true)(h7:b<7):∃M,M<4∧b=3+M:=by
 unfold bnt at h;have:=Nat.le_of_ble_eq_true h;exact⟨b-3,by omega,by omega⟩
theorem FS_len(ok:Okr R)(y:Nat):(bFS R y).length≤u4 fun M=>cn R [y,3+M]:=by
 refine filt_u4 _ _ (fun r hs h=>?_) R ok.sym;rcases hr:r.2 with _ | ⟨a,_ | ⟨b,l⟩⟩<;>simp only[hr] at h<;>try cases h
 simp only[Bool.and_eq_true,beq_iff_eq] at h;obtain⟨rfl,h⟩:=h;obtain⟨M,h1,rfl⟩:=nt_ex h (hs b (by rw[hr];simp));exact⟨M,h1,by simp⟩
theorem GS_len(ok:Okr R)(x y:Nat):(bGS R x y).length≤u4 fun M=>cn R [x,y,3+M]:=by
 refine filt_u4 _ _ (fun r hs h=>?_) R ok.sym;rcases hr:r.2 with _ | ⟨a,_ | ⟨b,_ | ⟨c,l⟩⟩⟩<;>simp only[hr] at h<;>try cases h
 simp only[Bool.and_eq_true,beq_iff_eq] at h;obtain⟨rfl,rfl,h⟩:=h;obtain⟨M,h1,rfl⟩:=nt_ex h (hs c (by rw[hr];simp));exact⟨M,h1,by simp⟩
theorem GC_len(ok:Okr R)(y:Nat):(GC R y).length≤sm fun v=>cn R [v,y]:=by
 refine Nat.le_trans ?_ (col_len ok y);unfold GC colR;rw[←List.countP_eq_length_filter,←List.countP_eq_length_filter];apply List.countP_mono_left;intro r _ h;rcases hr:r.2 with _ | ⟨a,_ | ⟨b,_ | ⟨c,l⟩⟩⟩<;>simp only[hr] at h<;>try cases h
 simp only[Bool.and_eq_true,beq_iff_eq] at h;obtain⟨rfl,_⟩:=h;simp
theorem rf4(p:Nat→Bool):((List.range 4).filter p).length=u4 fun M=>if p M then 1 else 0:=by
 have:List.range 4=[0,1,2,3]:=rfl;rw[this];simp only[List.filter_cons,List.filter_nil,u4];cases p 0<;>cases p 1<;>cases p 2<;>cases p 3<;>rfl
theorem cn_pos{p l:List Nat}{r:Ru}(hr:r∈R)(e:r.2=p++l):1≤cn R p:=by
 unfold cn;rw[Nat.succ_le_iff,List.countP_pos_iff];exact⟨r,hr,by rw[e];simp⟩
theorem Sd_le4(R:List Ru)(y:Nat):(Sd R y).length≤4:=by
 have:=List.length_filter_le (fun M=>R.any fun r=>isF y M r||isG y M r) (List.range 4)
 rw[List.length_range] at this;exact this
theorem Sd0_le4(R:List Ru)(y:Nat):(Sd0 R y).length≤4:=by
 have:=List.length_filter_le (fun M=>R.any fun r=>isF y M r||isG0 y M r) (List.range 4)
 rw[List.length_range] at this;exact this
theorem isF_ex{y M:Nat}{r:Ru}(h:isF y M r=true):∃l,r.2=[y,3+M]++l:=by
 unfold isF at h;rcases hr:r.2 with _ | ⟨a,_ | ⟨b,l⟩⟩<;>simp only[hr] at h<;>try cases h
 simp only[Bool.and_eq_true,beq_iff_eq] at h;obtain⟨rfl,rfl⟩:=h;exact⟨l,rfl⟩
theorem isG_ex{y M:Nat}{r:Ru}(h:isG y M r=true):∃a l,r.2=[a,y,3+M]++l:=by
 unfold isG at h;rcases hr:r.2 with _ | ⟨a,_ | ⟨b,_ | ⟨c,l⟩⟩⟩<;>simp only[hr] at h<;>try cases h
 simp only[Bool.and_eq_true,beq_iff_eq] at h;obtain⟨rfl,rfl⟩:=h;exact⟨a,l,rfl⟩
theorem isG0_ex{y M:Nat}{r:Ru}(h:isG0 y M r=true):∃a l,a<3∧r.2=[a,y,3+M]++l:=by
 unfold isG0 at h;rcases hr:r.2 with _ | ⟨a,_ | ⟨b,_ | ⟨c,l⟩⟩⟩<;>simp only[hr] at h<;>try cases h
 simp only[Bool.and_eq_true,beq_iff_eq,Bool.not_eq_true'] at h;obtain⟨h0,rfl,rfl⟩:=h;refine⟨a,l,?_,rfl⟩;have:¬3≤a:=fun h=>by unfold bnt at h0;rw[←Nat.ble_eq] at h;rw[h] at h0;cases h0
 omega
theorem Sd_cn(ok:Okr R){y M:Nat}(h:R.any (fun r=>isF y M r||isG y M r)=true):1≤cn R [y,3+M]+sm fun v=>cn R [v,y,3+M]:=by
 rw[List.any_eq_true] at h;obtain⟨r,hr,h⟩:=h;rw[Bool.or_eq_true] at h;rcases h with h | h
 ·obtain⟨l,e⟩:=isF_ex h;have:=cn_pos hr e;omega
 ·obtain⟨a,l,e⟩:=isG_ex h;have:=cn_pos hr e;have h7:=ok.sym r hr a (by rw[e];simp);have:=sm_gt (fun v=>cn R [v,y,3+M]) h7;omega
theorem Sd_len(ok:Okr R)(y:Nat):(Sd R y).length≤u4 (fun M=>cn R [y,3+M])+sm fun v=>u4 fun M=>cn R [v,y,3+M]:=by
 unfold Sd;rw[rf4,sm_u4,←u4_add];refine u4_le fun M _=>?_;split
 ·rename_i h;exact Sd_cn ok h
 ·omega
theorem Sd_len0(ok:Okr R)(y:Nat):(Sd R y).length≤(Sd0 R y).length+u4 fun X=>u4 fun M=>cn R [3+X,y,3+M]:=by
 unfold Sd Sd0;rw[rf4,rf4,←u44,←u4_add];refine u4_le fun M _=>?_;split
 ·rename_i h;rw[List.any_eq_true] at h;obtain⟨r,hr,h⟩:=h;rw[Bool.or_eq_true] at h;by_cases h0:R.any (fun r=>isF y M r||isG0 y M r)=true
  ·rw[if_pos h0];omega
  ·have h0':∀r∈R,(isF y M r||isG0 y M r)=false:=by
    intro r hr;cases h:(isF y M r||isG0 y M r) with
    | false=>rfl
    | true=>exact absurd (List.any_eq_true.2 ⟨r,hr,h⟩) h0
   have h1:=h0' r hr;rw[Bool.or_eq_false_iff] at h1;rcases h with h | h
   ·rw[h1.1] at h;cases h
   ·obtain⟨a,l,e⟩:=isG_ex h;have hg:=h1.2;have h7:=ok.sym r hr a (by rw[e];simp);have h3:3≤a:=by
     apply Classical.byContradiction;intro h3;have:bnt a=false:=by
      unfold bnt;rw[Bool.eq_false_iff];intro k;rw[Nat.ble_eq] at k;omega
     unfold isG0 at hg;rw[e] at hg;simp[this] at hg
    have ea:a=3+(a-3):=by omega
    rw[ea] at e;have:=cn_pos hr e;have h5:=u4_get (fun X=>cn R [3+X,y,3+M]) (show a-3<4 by omega);omega
 ·omega
theorem Sd0_len(ok:Okr R)(y:Nat):(Sd0 R y).length≤u4 (fun M=>cn R [y,3+M])+u3 fun v=>u4 fun M=>cn R [v,y,3+M]:=by
 unfold Sd0;rw[rf4,←u43,←u4_add];refine u4_le fun M _=>?_;split
 ·rename_i h;rw[List.any_eq_true] at h;obtain⟨r,hr,h⟩:=h;rw[Bool.or_eq_true] at h;rcases h with h | h
  ·obtain⟨l,e⟩:=isF_ex h;have:=cn_pos hr e;omega
  ·obtain⟨a,l,h3,e⟩:=isG0_ex h;have:=cn_pos hr e;have:=u3_get (fun v=>cn R [v,y,3+M]) h3;omega
 ·omega
end Bd
set_option linter.unusedVariables false
namespace Bd
section
variable {R:List Ru}
def nT(R:List Ru)(i:Nat):Nat:=cn R [i]-u3 fun j=>cn R [i,j]
def gT(R:List Ru)(x y:Nat):Nat:=u4 fun M=>cn R [x,y,3+M]
def rT(R:List Ru):Nat:=8-u3 fun i=>cn R [i]
def nnT(R:List Ru):Nat:=u3 (nT R)
def DT(R:List Ru)(v:Nat):Nat:=mn 4 (nT R v+u3 (fun x=>cn R [x,v])+rT R)
def aT(R:List Ru):Nat:=u4 fun X=>u3 fun j=>cn R [3+X,j]
def bT(R:List Ru):Nat:=u4 fun X=>u4 fun M=>cn R [3+X,3+M]
theorem sum2(R:List Ru)(i:Nat):u3 (fun j=>cn R [i,j])+u4 (fun M=>cn R [i,3+M])≤cn R [i]:=by
 have h:=cn_sum R [i];rw[sm34] at h;exact h
theorem sum3(R:List Ru)(x y:Nat):u3 (fun z=>cn R [x,y,z])+gT R x y≤cn R [x,y]:=by
 have h:=cn_sum R [x,y];rw[sm34] at h;exact h
theorem sum1(ok:Okr R):u3 (fun j=>cn R [j])+u4 (fun M=>cn R [3+M])≤8:=by
 have h:=Nat.le_trans (cn_sum R []) (cn_le ok []);rw[sm34] at h;exact h
theorem nT_eq(R:List Ru)(i:Nat):u3 (fun j=>cn R [i,j])+nT R i=cn R [i]:=by
 have:=sum2 R i;unfold nT;omega
theorem nT_le(R:List Ru)(i:Nat):u4 (fun M=>cn R [i,3+M])≤nT R i:=by
 have:=sum2 R i;unfold nT;omega
theorem rT_eq(ok:Okr R):u3 (fun i=>cn R [i])+rT R=8:=by
 have:=sum1 ok;unfold rT;omega
theorem rT_le(ok:Okr R):u4 (fun M=>cn R [3+M])≤rT R:=by
 have:=sum1 ok;unfold rT;omega
theorem ab_le(ok:Okr R):aT R+bT R≤rT R:=by
 refine Nat.le_trans ?_ (rT_le ok);unfold aT bT;rw[←u4_add];exact u4_le fun X _=>sum2 R (3+X)
theorem gT_le(R:List Ru)(x y:Nat):gT R x y≤cn R [x,y]:=by have:=sum3 R x y;omega
theorem col_r(ok:Okr R)(v:Nat)(hv:v<7):u4 (fun X=>cn R [3+X,v])≤rT R:=by
 refine Nat.le_trans (u4_le fun X _=>?_) (rT_le ok);have h:=cn_sum R [3+X];exact Nat.le_trans (sm_gt (fun v=>cn R [3+X,v]) hv) h
theorem Sd_D(ok:Okr R){v:Nat}(hv:v<7):(Sd R v).length≤DT R v:=by
 have h1:=Sd_len ok v;have h4:=Sd_le4 R v;have e:sm (fun x=>u4 fun M=>cn R [x,v,3+M])≤u3 (fun x=>cn R [x,v])+u4 fun X=>cn R [3+X,v]:=by
  rw[sm34];exact Nat.add_le_add (u3_le fun x _=>gT_le R x v) (u4_le fun X _=>gT_le R (3+X) v)
 have e2:=col_r ok v hv;have e3:=nT_le R v;unfold DT;rw[mn_eq];omega
theorem Sd_d(ok:Okr R){y:Nat}(hy:y<7):(Sd R y).length≤mn 4 ((Sd0 R y).length+rT R):=by
 have h1:=Sd_len0 ok y;have h4:=Sd_le4 R y;have e:u4 (fun X=>u4 fun M=>cn R [3+X,y,3+M])≤u4 fun X=>cn R [3+X,y]:=u4_le fun X _=>gT_le R (3+X) y;have e2:=col_r ok y hy;rw[mn_eq];omega
theorem Sd0_d(ok:Okr R)(y:Nat):(Sd0 R y).length≤min 4 (nT R y+u3 fun x=>gT R x y):=by
 have h1:=Sd0_len ok y;have h4:=Sd0_le4 R y;have e3:=nT_le R y;unfold gT;omega
theorem lump_le(ok:Okr R){y:Nat}(hy:y<3):u4 (fun X=>(Sd R (3+X)).length+(bGS R (3+X) y).length)≤nnT R+2*rT R:=by
 have h1:u4 (fun X=>(Sd R (3+X)).length)≤bT R+(nnT R+bT R):=by
  refine Nat.le_trans (u4_le fun X _=>Sd_len ok (3+X)) ?_;rw[u4_add];refine Nat.add_le_add (Nat.le_refl _) ?_;have e:u4 (fun X=>sm fun v=>u4 fun M=>cn R [v,3+X,3+M])≤u4 (fun X=>u3 (fun v=>cn R [v,3+X])+u4 fun v=>cn R [3+v,3+X]):=by
   refine u4_le fun X _=>?_;rw[sm34];exact Nat.add_le_add (u3_le fun x _=>gT_le R x (3+X)) (u4_le fun x _=>gT_le R (3+x) (3+X))
  refine Nat.le_trans e ?_;rw[u4_add];refine Nat.add_le_add ?_ ?_
  ·rw[u43];exact u3_le fun x _=>nT_le R x
  ·rw[u44];exact Nat.le_refl _
 have h2:u4 (fun X=>(bGS R (3+X) y).length)≤aT R:=by
  unfold aT;refine u4_le fun X _=>Nat.le_trans (GS_len ok (3+X) y) (Nat.le_trans (gT_le R (3+X) y) ?_);exact u3_get (fun j=>cn R [3+X,j]) hy
 have h3:=ab_le ok;rw[u4_add];omega
theorem GC_le(ok:Okr R){X:Nat}(hX:X<4):(GC R (3+X)).length≤nnT R+bT R:=by
 refine Nat.le_trans (GC_len ok (3+X)) ?_;rw[sm34];unfold nnT bT;refine Nat.add_le_add (u3_le fun v _=>?_) (u4_le fun v _=>?_)
 ·exact Nat.le_trans (u4_get (fun M=>cn R [v,3+M]) hX) (nT_le R v)
 ·exact u4_get (fun M=>cn R [3+v,3+M]) hX
theorem lumpV{a b n r:Nat}(h:a+b≤r):a*bP4 (n+b)≤(bif Nat.beq r 0 then 0 else mn (2 ^ (n+r-1)) (16*r)):=by
 cases r with
 | zero=>
  have:a=0:=by omega
  subst this;simp
 | succ r=>
  have e:Nat.beq (r+1) 0=false:=rfl;rw[e,cond_false,mn_eq];refine Nat.le_min.2 ⟨?_,?_⟩
  ·cases a with
   | zero=>rw[Nat.zero_mul];exact Nat.zero_le _
   | succ a=>
    have h1:bP4 (n+b)≤2 ^ (n+b):=by unfold bP4;rw[mn_eq];exact pow_le zo
    have h2:a+1≤2 ^ a:=Nat.lt_two_pow_self;have h3:2 ^ a*2 ^ (n+b)≤2 ^ (n+(r+1)-1):=by rw[←Nat.pow_add];exact pow_le zo
    exact Nat.le_trans (Nat.mul_le_mul h2 h1) h3
  ·have h1:bP4 (n+b)≤16:=by
    have:bP4 (n+b)≤2 ^ 4:=by unfold bP4;rw[mn_eq];exact pow_le zo
    simpa using this
   refine Nat.le_trans (Nat.mul_le_mul (show a≤r+1 by omega) h1) zo
end
end Bd
set_option linter.unusedVariables false
namespace Bd
theorem two_P4{a b l d:Nat}(h1:a≤l)(h2:b≤d)(h4:a≤4):min (2 ^ a) (2 ^ b)≤bP4 (mn l d):=by
 rcases Nat.le_total a b with h | h
 ·rw[Nat.min_eq_left (pow_le h)];exact pow_P4 (by rw[mn_eq];omega) h4
 ·rw[Nat.min_eq_right (pow_le h)];exact pow_P4 (by rw[mn_eq];omega) zo
theorem min_pow(a b:Nat):min (2 ^ a) (2 ^ b)=2 ^ min a b:=by
 rcases Nat.le_total a b with h | h
 ·rw[Nat.min_eq_left (pow_le h),Nat.min_eq_left h]
 ·rw[Nat.min_eq_right (pow_le h),Nat.min_eq_right h]
theorem min_powE(a b:Nat):min (2 ^ a-1) (2 ^ b-1)=2 ^ min a b-1:=by
 rcases Nat.le_total a b with h | h
 ·have:=pow_le h;rw[Nat.min_eq_left zo,Nat.min_eq_left h]
 ·have:=pow_le h;rw[Nat.min_eq_right zo,Nat.min_eq_right h]
section
variable {R:List Ru}{s0:Nat}{ws:List (List Nat)}
theorem Q2.ne(ok:Okr R){z y:Nat}{u:List Nat}(h:Q2 R s0 z y u):Ne R s0 (Lf R [y,z]) u:=by
 obtain⟨r,hr,⟨l,e⟩,hp⟩:=h;exact⟨r.1,mem_Lf ok hr (p:=[y,z]) e,hp⟩
theorem Q3.ne(ok:Okr R){z y x:Nat}{u:List Nat}(h:Q3 R s0 z y x u):Ne R s0 (Lf R [x,y,z]) u:=by
 obtain⟨r,hr,⟨l,e⟩,hp⟩:=h;exact⟨r.1,mem_Lf ok hr (p:=[x,y,z]) e,hp⟩
theorem bGood.colA(G:bGood R s0 ws){y z z1 z2:Nat}(hy:y<3)(h1:z1<3)(h2:z2<3)(h12:∀f:Nat→Nat,u3 f=f y+f z1+f z2) :
  (inC R s0 ws [z,y]).length≤fA (nT R y) ((2 ^ (nnT R+2*rT R)-1)*2 ^ nT R y) (DT R z1) (DT R z2) (gT R y y) (gT R z1 y) (gT R z2 y)
   (Sd0 R y).length (mn 4 ((Sd0 R y).length+rT R)) (cn R [y,z]) (cn R [z]):=by
 have l4:=Lf_le4 R [y,z];have lc:=Lf_le R [y,z];have m4:=Lf_le4 R [z];have mc:=Lf_le R [z];unfold fA;rw[mn_eq (E4 _*_)];refine Nat.le_min.2 ⟨?_,?_⟩
 ·refine Nat.le_trans (G.c2 (codF_ne fun u h=>h.ne G.ok) (CodF.inf (codF_pow _ _ _) (codF_S G.ok _ (fun u=>u) y _))) ?_;exact Nat.mul_le_mul (pow_E4 lc l4) (two_P4 mc (Sd_d G.ok zo) m4)
 ·let a:=fun v=>(Sd R v).length;let g:=fun v=>(bFS R y).length+(bGS R v y).length;have hJ:∀v,v<7→CodF R s0 (fun t=>Q2 R s0 z y (v::t)) (fun t=>y::v::t) (Lf R [z])
    (if v<3 then min (min (2 ^ (Lf R [z]).length) (2 ^ (Sd0 R y).length)) (2 ^ g v) else 2 ^ g v):=fun v hv=>by
   split
   ·rename_i h;exact CodF.inf (CodF.inf (codF_pow _ _ _) (codF_S0 G.ok _ (fun t=>t) h y _)) (codF_send _ v y _)
   ·exact codF_send _ v y _
  have hK:∀v,v<7→CodF R s0 (fun t=>Q2 R s0 z y (v::t)) (fun t=>v::t) (Lf R [y,z]) (2 ^ min (Lf R [y,z]).length (a v)-1):=fun v hv=>by
   rw[←min_powE];refine CodF.inf (codF_ne fun u h=>h.ne G.ok) (codF_SE G.ok (fun t=>t) v _ fun t h=>?_);obtain⟨n,_,hn⟩:=h.ne G.ok;exact⟨n,hn⟩
  refine Nat.le_trans (G.c2v hK hJ) ?_;rw[sm34,h12];have hs:∀v,v<3→∀D,a v≤D→(2 ^ min (Lf R [y,z]).length (a v)-1)*(if v<3 then min (min (2 ^ (Lf R [z]).length) (2 ^ (Sd0 R y).length)) (2 ^ g v) else 2 ^ g v)≤
    E4 (mn (cn R [y,z]) D)*bP4 (mn (mn (cn R [z]) (Sd0 R y).length) (nT R y+gT R v y)):=fun v hv D hD=>by
   rw[if_pos hv];refine Nat.mul_le_mul (pow_E4 (by rw[mn_eq];omega) zo) ?_;rw[min_pow];refine two_P4 (by rw[mn_eq];omega) ?_ zo;exact Nat.add_le_add (Nat.le_trans (FS_len G.ok y) (nT_le R y)) (GS_len G.ok v y)
  have b0:=hs y hy _ (Sd_d G.ok zo);have b1:=hs z1 h1 _ (Sd_D G.ok zo);have b2:=hs z2 h2 _ (Sd_D G.ok zo);have b4:u4 (fun X=>(2 ^ min (Lf R [y,z]).length (a (3+X))-1)*(if 3+X<3 then min (min (2 ^ (Lf R [z]).length) (2 ^ (Sd0 R y).length)) (2 ^ g (3+X)) else 2 ^ g (3+X)))≤
    (2 ^ (nnT R+2*rT R)-1)*2 ^ nT R y:=by
   refine Nat.le_trans (u4_le (g:=fun X=>(2 ^ (a (3+X)+(bGS R (3+X) y).length)-1)*2 ^ nT R y) fun X _=>?_) ?_
   ·rw[if_neg zo];have e:2 ^ g (3+X)=2 ^ (bGS R (3+X) y).length*2 ^ (bFS R y).length:=by
     show 2 ^ ((bFS R y).length+(bGS R (3+X) y).length)=_;rw[Nat.pow_add,Nat.mul_comm]
    rw[e,←Nat.mul_assoc];refine Nat.mul_le_mul (Nat.le_trans (Nat.mul_le_mul_right _ ?_) pow_left) (pow_le (Nat.le_trans (FS_len G.ok y) (nT_le R y)));exact Nat.sub_le_sub_right (pow_le (Nat.min_le_right _ _)) 1
   ·rw[u4_mul];refine Nat.mul_le_mul_right _ (Nat.le_trans (u4_pow _) ?_);exact Nat.sub_le_sub_right (pow_le (lump_le G.ok hy)) 1
  omega
theorem bGood.colT(G:bGood R s0 ws){x y z:Nat}(hx:x<3)(hy:y<3){D:Nat}(hD:(Sd R x).length≤D) :
  (inC R s0 ws [z,y,x]).length≤fT (nT R y) (cn R [y]) (Sd0 R y).length (cn R [x,y]) (cn R [y,z]) (cn R [z]) D (gT R x y) (cn R [x,y,z]):=by
 have t4:=Lf_le4 R [x,y,z];have tc:=Lf_le R [x,y,z];have b4:=Lf_le4 R [x,y];have bc:=Lf_le R [x,y];have o4:=Lf_le4 R [y,z];have oc:=Lf_le R [y,z];have l4:=Lf_le4 R [y];have lc:=Lf_le R [y];have z4:=Lf_le4 R [z];have zc:=Lf_le R [z];have hm:(Lf R [x,y,z]).length≤(Lf R [x,y]).length:=Lf_mono R [x,y] [z];have hcm:cn R [x,y,z]≤cn R [x,y]:=by
  unfold cn;apply List.countP_mono_left;intro r _ h;rw[List.isPrefixOf_iff_prefix] at h ⊢;exact(List.prefix_append [x,y] [z]).trans h
 unfold fT;rw[mn_eq (E4 _*_*_)];refine Nat.le_min.2 ⟨?_,?_⟩
 ·refine Nat.le_trans (G.c3 (codF_ne fun u h=>h.ne G.ok) (CodF.inf (codF_pow _ _ _) (codF_S G.ok _ (fun u=>u) x _))
   (CodF.inf (CodF.inf (codF_pow _ _ _) (codF_S0 G.ok _ (fun t=>t) hx y _)) (codF_send _ x y _))) ?_
  refine Nat.mul_le_mul (Nat.mul_le_mul (pow_E4 tc t4) (two_P4 oc hD o4)) ?_;rw[min_pow];refine two_P4 (by rw[mn_eq];omega) ?_ zo;exact Nat.add_le_add (Nat.le_trans (FS_len G.ok y) (nT_le R y)) (GS_len G.ok x y)
 ·refine Nat.le_trans (G.c3h (codF_meet (Lf_nodup [x,y,z]) (Lf_nodup [x,y]) (fun n hn=>Lf_sub (p:=[x,y]) (q:=[z]) hn) fun u h=>h.ne G.ok)
   (CodF.inf (codF_pow _ _ _) (codF_S G.ok _ (fun u=>u) x _))) ?_
  refine Nat.mul_le_mul ?_ (two_P4 lc hD l4);rw[sub_pow _ zo _ zo hm];unfold bP4;rw[mn_eq,mn_eq];exact sub_mono _ zo _ zo _ zo _ zo hm zo zo zo
theorem one_left(ok:Okr R){X:Nat}(h1:(Lf R [3+X]).length≤1){r r':Ru}(hr:r∈R)(hr':r'∈R){l l':List Nat}(e:r.2=(3+X)::l)(e':r'.2=(3+X)::l'):r.1=r'.1:=by
 have m1:=mem_Lf ok hr (p:=[3+X]) e;have m2:=mem_Lf ok hr' (p:=[3+X]) e';generalize Lf R [3+X]=L at h1 m1 m2
 match L,h1,m1,m2 with
 | [a],_,m1,m2=>
  rw[List.mem_singleton] at m1 m2;rw[m1,m2]
theorem FS_ex{y:Nat}{r:Ru}(h:r∈bFS R y):r∈R∧∃l,r.2=y::l:=by
 unfold bFS at h;rw[List.mem_filter] at h;obtain⟨hr,h⟩:=h;refine⟨hr,?_⟩;rcases e:r.2 with _ | ⟨a,_ | ⟨b,l⟩⟩<;>simp only[e] at h<;>try cases h
 simp only[Bool.and_eq_true,beq_iff_eq] at h;exact⟨b::l,by rw[h.1]⟩
theorem one_pow{l c:Nat}(h:l≤1)(hc:l≤c):2 ^ l-1≤c:=by
 have:l=0∨l=1:=by omega
 rcases this with rfl | rfl
 ·simp
 ·simpa using hc
theorem bGood.colV(G:bGood R s0 ws)(hE:∀M,M<4→(Lf R [3+M]).length≤1){y z1 z2:Nat}(z:Nat)(hy:y<3)(h1:z1<3)(h2:z2<3)(h12:∀f:Nat→Nat,u3 f=f y+f z1+f z2) :
  (inY R s0 ws z y).length≤fV (cn R [y]) (bif Nat.beq (rT R) 0 then 0 else mn (2 ^ (nnT R+rT R-1)) (16*rT R)) (cn R [y,y]) (cn R [z1,y]) (cn R [z2,y])
   (mn 4 ((Sd0 R y).length+rT R)) (DT R z1) (DT R z2):=by
 have l4:=Lf_le4 R [y];have lc:=Lf_le R [y];have hB:∀x,x<7→CodF R s0 (Q2 R s0 y x) (fun u=>x::u) (Lf R [y]) (if x<3 then min (2 ^ (Lf R [y]).length) (2 ^ (Sd R x).length) else min (2 ^ (Lf R [y]).length) (2 ^ (GC R x).length)):=fun x hx=>by
  split
  ·exact CodF.inf (codF_pow _ _ _) (codF_S G.ok _ (fun u=>u) x _)
  ·rename_i h3;refine CodF.inf (codF_pow _ _ _) (codF_sendC (fun u hu r hf=>?_) _);obtain⟨r',hr',⟨l,e⟩,hp⟩:=hu;obtain⟨hr,l',e'⟩:=FS_ex hf;obtain⟨X,rfl⟩:∃X,x=3+X:=⟨x-3,by omega⟩;rw[one_left G.ok (hE X zo) hr hr' e' e];exact hp
 refine Nat.le_trans (G.typesF z y (codE_pow fun w h=>h.2) (fun x _=>codF_ne fun u h=>h.ne G.ok) hB) ?_;unfold fV;rw[sm34,h12];have hs:∀x,x<3→∀D,(Sd R x).length≤D→(2 ^ (Lf R [x,y]).length-1)*(if x<3 then min (2 ^ (Lf R [y]).length) (2 ^ (Sd R x).length) else min (2 ^ (Lf R [y]).length) (2 ^ (GC R x).length))≤E4 (cn R [x,y])*bP4 (mn (cn R [y]) D):=fun x hx D hD=>by
  rw[if_pos hx];exact Nat.mul_le_mul (pow_E4 (Lf_le R [x,y]) (Lf_le4 R [x,y])) (two_P4 lc hD l4)
 have b0:=hs y hy _ (Sd_d G.ok zo);have b1:=hs z1 h1 _ (Sd_D G.ok zo);have b2:=hs z2 h2 _ (Sd_D G.ok zo);have b3:u4 (fun X=>(2 ^ (Lf R [3+X,y]).length-1)*(if 3+X<3 then min (2 ^ (Lf R [y]).length) (2 ^ (Sd R (3+X)).length) else min (2 ^ (Lf R [y]).length) (2 ^ (GC R (3+X)).length)))≤
   (bif Nat.beq (rT R) 0 then 0 else mn (2 ^ (nnT R+rT R-1)) (16*rT R)):=by
  refine Nat.le_trans (u4_le (g:=fun X=>cn R [3+X,y]*bP4 (nnT R+bT R)) fun X hX=>?_) ?_
  ·rw[if_neg zo];refine Nat.mul_le_mul (one_pow (Nat.le_trans (Lf_mono R [3+X] [y]) (hE X hX)) (Lf_le R [3+X,y])) ?_;rw[min_pow];exact pow_P4 (Nat.le_trans (Nat.min_le_right _ _) (GC_le G.ok hX)) zo
  ·rw[u4_mul];refine Nat.le_trans (Nat.mul_le_mul_right _ (u4_le fun X _=>u3_get (fun j=>cn R [3+X,j]) hy)) (lumpV (ab_le G.ok))
 have:=pow_E4 lc l4;omega
theorem bGood.colN(G:bGood R s0 ws){κ:Nat}(hκ:∀M,M<4→2 ^ (Lf R [3+M]).length≤κ){y:Nat}(hy:y<3) :
  u4 (fun M=>(inC R s0 ws [3+M,y]).length+u3 fun x=>(inC R s0 ws [3+M,y,x]).length)≤fW (nT R y) (u3 fun x=>gT R x y) (Sd0 R y).length*κ:=by
 let s:Nat→Nat:=fun M=>(Lf R [y,3+M]).length+u3 fun x=>(Lf R [x,y,3+M]).length;have a1:∀M,M<4→(inC R s0 ws [3+M,y]).length+(u3 fun x=>(inC R s0 ws [3+M,y,x]).length)≤(2 ^ s M-1)*κ:=fun M hM=>by
  have h2:(inC R s0 ws [3+M,y]).length≤(2 ^ (Lf R [y,3+M]).length-1)*κ:=
   G.c2 (codF_ne fun u h=>h.ne G.ok) ((codF_pow _ _ _).mono (hκ M hM))
  have h3:∀x,(inC R s0 ws [3+M,y,x]).length≤(2 ^ (Lf R [x,y,3+M]).length-1)*2 ^ (Lf R [y,3+M]).length*κ:=fun x=>
   G.c3 (codF_ne fun u h=>h.ne G.ok) (codF_pow _ _ _) ((codF_pow _ _ _).mono (hκ M hM))
  refine Nat.le_trans (Nat.add_le_add h2 (u3_le fun x _=>h3 x)) ?_;rw[u3_mul,u3_mul,←Nat.add_mul];refine Nat.mul_le_mul_right _ ?_;have e:u3 (fun x=>2 ^ (Lf R [x,y,3+M]).length-1)≤2 ^ (u3 fun x=>(Lf R [x,y,3+M]).length)-1:=by
   simp only[u3];have h1:=pow_sup (a:=(Lf R [0,y,3+M]).length) (b:=(Lf R [1,y,3+M]).length);have h2:=pow_sup (a:=(Lf R [0,y,3+M]).length+(Lf R [1,y,3+M]).length) (b:=(Lf R [2,y,3+M]).length);omega
  refine Nat.le_trans (Nat.add_le_add_left (Nat.mul_le_mul_right _ e) _) ?_;show _≤2 ^ ((Lf R [y,3+M]).length+u3 fun x=>(Lf R [x,y,3+M]).length)-1;rw[Nat.sub_mul,Nat.one_mul,Nat.pow_add,Nat.mul_comm (2 ^ (Lf R [y,3+M]).length)];have p1:=pow_pos2 (Lf R [y,3+M]).length;have p2:1*2 ^ (Lf R [y,3+M]).length≤(2 ^ u3 fun x=>(Lf R [x,y,3+M]).length)*2 ^ (Lf R [y,3+M]).length:=Nat.mul_le_mul_right _ (pow_pos2 _);omega
 refine Nat.le_trans (u4_le a1) ?_;rw[u4_mul];refine Nat.mul_le_mul_right _ ?_;have hpos:∀M,M<4→(0<s M↔M∈Sd0 R y):=fun M hM=>by
  constructor
  ·intro h;have:0<(Lf R [y,3+M]).length∨∃x,x<3∧0<(Lf R [x,y,3+M]).length:=by
    apply Classical.byContradiction;intro hn;have n1:(Lf R [y,3+M]).length=0:=by
     have h:¬0<(Lf R [y,3+M]).length:=fun h=>hn (.inl h);omega
    have n2:∀x,x<3→(Lf R [x,y,3+M]).length=0:=fun x hx=>by
     have h:¬0<(Lf R [x,y,3+M]).length:=fun h=>hn (.inr ⟨x,hx,h⟩);omega
    have e0:=n2 0 zo;have e1:=n2 1 zo;have e2:=n2 2 zo;have:s M=0:=by
     show (Lf R [y,3+M]).length+((Lf R [0,y,3+M]).length+(Lf R [1,y,3+M]).length+(Lf R [2,y,3+M]).length)=0;omega
    omega
   unfold Sd0;rw[List.mem_filter,List.mem_range];refine⟨hM,?_⟩;rw[List.any_eq_true];rcases this with h | ⟨x,hx,h⟩
   ·obtain⟨n,hn⟩:=List.exists_mem_of_length_pos h;unfold Lf at hn;rw[List.mem_filter,List.any_eq_true] at hn;obtain⟨_,r,hr,e⟩:=hn;simp only[Bool.and_eq_true,List.isPrefixOf_iff_prefix] at e;obtain⟨_,l,e⟩:=e;exact⟨r,hr,by unfold isF;rw[←e];simp⟩
   ·obtain⟨n,hn⟩:=List.exists_mem_of_length_pos h;unfold Lf at hn;rw[List.mem_filter,List.any_eq_true] at hn;obtain⟨_,r,hr,e⟩:=hn;simp only[Bool.and_eq_true,List.isPrefixOf_iff_prefix] at e;obtain⟨_,l,e⟩:=e;refine⟨r,hr,?_⟩;have:bnt x=false:=by
     unfold bnt;rw[Bool.eq_false_iff];intro k;rw[Nat.ble_eq] at k;omega
    unfold isG0;rw[←e];simp[this]
  ·intro h;unfold Sd0 at h;rw[List.mem_filter,List.any_eq_true] at h;obtain⟨_,r,hr,h⟩:=h;rw[Bool.or_eq_true] at h;rcases h with h | h
   ·obtain⟨l,e⟩:=isF_ex h;have:=List.length_pos_of_mem (mem_Lf G.ok hr e);show 0<(Lf R [y,3+M]).length+_;omega
   ·obtain⟨a,l,h3,e⟩:=isG0_ex h;have h5:=List.length_pos_of_mem (mem_Lf G.ok hr e);have h6:=u3_get (fun x=>(Lf R [x,y,3+M]).length) h3;show 0<_+u3 fun x=>(Lf R [x,y,3+M]).length;omega
 have hd:(Sd0 R y).length=([s 0,s 1,s 2,s 3].countP fun s=>0<s):=by
  have e:(Sd0 R y).length=u4 fun M=>if 0<s M then 1 else 0:=by
   have h:=rf4 fun M=>R.any fun r=>isF y M r||isG0 y M r
   show ((List.range 4).filter fun M=>R.any fun r=>isF y M r||isG0 y M r).length=_
   rw[h];have e:∀M,M<4→(if R.any (fun r=>isF y M r||isG0 y M r)=true then 1 else 0)=if 0<s M then 1 else 0:=fun M hM=>by
    have:=hpos M hM;unfold Sd0 at this;rw[List.mem_filter,List.mem_range] at this;by_cases h:0<s M
    ·rw[if_pos h,if_pos (this.1 h).2]
    ·rw[if_neg h,if_neg fun k=>h (this.2 ⟨hM,k⟩)]
   simp only[u4];rw[e 0 zo,e 1 zo,e 2 zo,e 3 zo]
  rw[e];simp only[u4,List.countP_cons,List.countP_nil,decide_eq_true_eq];omega
 have hm:=pow_many [s 0,s 1,s 2,s 3];rw[←hd] at hm;simp only[List.map_cons,List.map_nil,List.sum_cons,List.sum_nil,Nat.add_zero] at hm;have hsum:u4 s≤mn (nT R y) (4*(Sd0 R y).length)+u3 fun x=>gT R x y:=by
  have e:u4 s=u4 (fun M=>(Lf R [y,3+M]).length)+u3 fun x=>u4 fun M=>(Lf R [x,y,3+M]).length:=by
   rw[←u43,←u4_add]
  rw[e,mn_eq];refine Nat.add_le_add (Nat.le_min.2 ⟨?_,?_⟩) (u3_le fun x _=>u4_le fun M _=>Lf_le R _)
  ·exact Nat.le_trans (u4_le fun M _=>Lf_le R [y,3+M]) (nT_le R y)
  ·have h4:∀M,M<4→(Lf R [y,3+M]).length≤4*if 0<s M then 1 else 0:=fun M hM=>by
    have:=Lf_le4 R [y,3+M];by_cases h:0<s M
    ·rw[if_pos h];omega
    ·rw[if_neg h];have h:¬0<(Lf R [y,3+M]).length+u3 fun x=>(Lf R [x,y,3+M]).length:=h;omega
   refine Nat.le_trans (u4_le h4) ?_;rw[hd];simp only[u4,List.countP_cons,List.countP_nil,decide_eq_true_eq];omega
 have hs4:u4 s=s 0+(s 1+(s 2+s 3)):=by simp only[u4];omega
 have hsp:u4 (fun M=>2 ^ s M-1)=2 ^ s 0-1+(2 ^ s 1-1+(2 ^ s 2-1+(2 ^ s 3-1))):=by simp only[u4];omega
 rw[hsp];generalize (Sd0 R y).length=d at hm hsum ⊢;cases d with
 | zero=>
  obtain⟨hm,_⟩:=hm;rw[if_pos rfl,if_pos rfl] at hm;unfold fW;omega
 | succ e=>
  obtain⟨hm,hc⟩:=hm;rw[if_neg zo,if_neg zo] at hm;show _≤2 ^ (mn (nT R y) (4*(e+1))+(u3 fun x=>gT R x y)-e)+e-1;have:=pow_le (show s 0+(s 1+(s 2+s 3))+1-(e+1)≤mn (nT R y) (4*(e+1))+(u3 fun x=>gT R x y)-e by omega);omega
end
end Bd
set_option linter.unusedVariables false
namespace Bd
theorem mx2_le{f g:Nat→Nat}(hg:∀i j,i≤j→g i≤g j){k i j:Nat}(hk:i+j≤k):∀m,i≤m→f i+g j≤mx2 f g k m
 | 0,h=>by
  have:i=0:=by omega
  subst this;unfold mx2;have:=hg j k zo;omega
 | m+1,h=>by
  unfold mx2;rw[mx_eq];by_cases e:i=m+1
  ·subst e;have:=hg j (k-(m+1)) zo;omega
  ·have:=mx2_le (f:=f) hg hk m zo;omega
theorem fT_mono{n l d0 bx Bz lz Dx gx t t':Nat}(h:t≤t'):fT n l d0 bx Bz lz Dx gx t≤fT n l d0 bx Bz lz Dx gx t':=by
 unfold fT;rw[mn_eq (E4 _*_*_),mn_eq (E4 _*_*_)];have h1:=Nat.mul_le_mul_right (bP4 (mn (mn lz d0) (n+gx))) (Nat.mul_le_mul_right (bP4 (mn Bz Dx)) (E4_mono h));have h2:bP4 bx-2 ^ (mn 4 bx-mn 4 t)≤bP4 bx-2 ^ (mn 4 bx-mn 4 t'):=by
  have:2 ^ (mn 4 bx-mn 4 t')≤2 ^ (mn 4 bx-mn 4 t):=pow_le (by rw[mn_eq,mn_eq,mn_eq];omega);omega
 have h3:=Nat.mul_le_mul_right (bP4 (mn l Dx)) h2;omega
section
variable {R:List Ru}{s0:Nat}{ws:List (List Nat)}
def lumpT(R:List Ru):Nat:=2 ^ (nnT R+2*rT R)-1
def VlT(R:List Ru):Nat:=bif Nat.beq (rT R) 0 then 0 else mn (2 ^ (nnT R+rT R-1)) (16*rT R)
def clm(R:List Ru)(κ y z1 z2:Nat):Nat:=
 fC (cn R [y,y]) (cn R [z1,y]) (cn R [z2,y]) (cn R [y,z1]) (cn R [y,z2]) (nT R y) (cn R [y]) (cn R [z1]) (cn R [z2]) (DT R z1) (DT R z2) (lumpT R*2 ^ nT R y) (VlT R) κ
  (gT R y y) (gT R z1 y) (gT R z2 y) (cn R [y,y]-gT R y y) (cn R [z1,y]-gT R z1 y) (cn R [z2,y]-gT R z2 y)
  (Sd0 R y).length (mn 4 ((Sd0 R y).length+rT R)) (fW (nT R y) (gT R y y+gT R z1 y+gT R z2 y) (Sd0 R y).length)
theorem bGood.col(G:bGood R s0 ws)(hE:∀M,M<4→(Lf R [3+M]).length≤1){κ:Nat}(hκ:∀M,M<4→2 ^ (Lf R [3+M]).length≤κ)
  {y z1 z2:Nat} (hy:y<3) (h1:z1<3) (h2:z2<3) (h12:∀f:Nat→Nat,u3 f=f y+f z1+f z2) :
  u3 (fun z=>(inC R s0 ws [z,y]).length+u3 fun x=>(inC R s0 ws [z,y,x]).length)+u4 (fun M=>(inC R s0 ws [3+M,y]).length+u3 fun x=>(inC R s0 ws [3+M,y,x]).length)
   ≤clm R κ y z1 z2:=by
 have hA:=fun z=>G.colA (z:=z) hy h1 h2 h12;have hT0:=fun z=>G.colT (z:=z) hy hy (Sd_d G.ok (y:=y) zo);have hT1:=fun z=>G.colT (z:=z) h1 hy (Sd_D G.ok (v:=z1) zo);have hT2:=fun z=>G.colT (z:=z) h2 hy (Sd_D G.ok (v:=z2) zo);have hV:=G.colV hE y hy h1 h2 h12;have hN:=G.colN hκ hy;have hI:=inY_sum (R:=R) (s0:=s0) (ws:=ws) G.ok y y;rw[sm34,h12] at hI;have hs:∀x,cn R [x,y,y]+cn R [x,y,z1]+cn R [x,y,z2]≤cn R [x,y]-gT R x y:=fun x=>by
  have:=sum3 R x y;rw[h12] at this;omega
 unfold clm fC;rw[mn_eq (fA _ _ _ _ _ _ _ _ _ _ _+_),h12,h12 (fun x=>(inC R s0 ws [y,y,x]).length),h12 (fun x=>(inC R s0 ws [z1,y,x]).length),h12 (fun x=>(inC R s0 ws [z2,y,x]).length)];rw[h12 (fun x=>gT R x y)] at hN;have e0:=Nat.le_trans (hT0 y) (fT_mono (show cn R [y,y,y]≤cn R [y,y]-gT R y y by have:=hs y;omega));have e1:=Nat.le_trans (hT1 y) (fT_mono (show cn R [z1,y,y]≤cn R [z1,y]-gT R z1 y by have:=hs z1;omega));have e2:=Nat.le_trans (hT2 y) (fT_mono (show cn R [z2,y,y]≤cn R [z2,y]-gT R z2 y by have:=hs z2;omega))
 have m0:=Nat.le_trans (Nat.add_le_add (hT0 z1) (hT0 z2)) (mx2_le (g:=fT _ _ _ _ _ _ _ _) (fun i j h=>fT_mono h) (show cn R [y,y,z1]+cn R [y,y,z2]≤cn R [y,y]-gT R y y by have:=hs y;omega) (cn R [y,y]-gT R y y) (by have:=hs y;omega));have m1:=Nat.le_trans (Nat.add_le_add (hT1 z1) (hT1 z2)) (mx2_le (g:=fT _ _ _ _ _ _ _ _) (fun i j h=>fT_mono h) (show cn R [z1,y,z1]+cn R [z1,y,z2]≤cn R [z1,y]-gT R z1 y by have:=hs z1;omega) (cn R [z1,y]-gT R z1 y) (by have:=hs z1;omega))
 have m2:=Nat.le_trans (Nat.add_le_add (hT2 z1) (hT2 z2)) (mx2_le (g:=fT _ _ _ _ _ _ _ _) (fun i j h=>fT_mono h) (show cn R [z2,y,z1]+cn R [z2,y,z2]≤cn R [z2,y]-gT R z2 y by have:=hs z2;omega) (cn R [z2,y]-gT R z2 y) (by have:=hs z2;omega));have a0:=hA y;have a1:=hA z1;have a2:=hA z2;have hyy:(inC R s0 ws [y,y]).length+((inC R s0 ws [y,y,y]).length+(inC R s0 ws [y,y,z1]).length+(inC R s0 ws [y,y,z2]).length)≤
   min (fA (nT R y) (lumpT R*2 ^ nT R y) (DT R z1) (DT R z2) (gT R y y) (gT R z1 y) (gT R z2 y) (Sd0 R y).length (mn 4 ((Sd0 R y).length+rT R)) (cn R [y,y]) (cn R [y]) +
    (fT (nT R y) (cn R [y]) (Sd0 R y).length (cn R [y,y]) (cn R [y,y]) (cn R [y]) (mn 4 ((Sd0 R y).length+rT R)) (gT R y y) (cn R [y,y]-gT R y y) +
     fT (nT R y) (cn R [y]) (Sd0 R y).length (cn R [z1,y]) (cn R [y,y]) (cn R [y]) (DT R z1) (gT R z1 y) (cn R [z1,y]-gT R z1 y) +
     fT (nT R y) (cn R [y]) (Sd0 R y).length (cn R [z2,y]) (cn R [y,y]) (cn R [y]) (DT R z2) (gT R z2 y) (cn R [z2,y]-gT R z2 y)))
   (fV (cn R [y]) (VlT R) (cn R [y,y]) (cn R [z1,y]) (cn R [z2,y]) (mn 4 ((Sd0 R y).length+rT R)) (DT R z1) (DT R z2)):=by
  refine Nat.le_min.2 ⟨?_,?_⟩
  ·exact Nat.add_le_add a0 (Nat.add_le_add (Nat.add_le_add e0 e1) e2)
  ·refine Nat.le_trans ?_ hV;omega
 have hz:∀z,(inC R s0 ws [z,y]).length≤fA (nT R y) (lumpT R*2 ^ nT R y) (DT R z1) (DT R z2) (gT R y y) (gT R z1 y) (gT R z2 y) (Sd0 R y).length (mn 4 ((Sd0 R y).length+rT R)) (cn R [y,z]) (cn R [z]):=hA;have b1:=hz z1;have b2:=hz z2;clear hA hT0 hT1 hT2 hV hI hs e0 e1 e2 a0 a1 a2 hz;omega
theorem rest4(G:bGood R s0 ws){κ:Nat}(hκ:∀M,M<4→2 ^ (Lf R [3+M]).length≤κ)(x:Nat) :
  u4 (fun M=>sm fun z=>(inC R s0 ws [z,3+M,x]).length)≤fEta (nT R x)*κ:=by
 have h:∀M,M<4→sm (fun z=>(inC R s0 ws [z,3+M,x]).length)≤cn R [x,3+M]*(2 ^ (mn 4 (nT R x)-1)*κ):=fun M hM=>by
  have h1:∀z,z<7→(inC R s0 ws [z,3+M,x]).length≤cn R [x,3+M,z]*(2 ^ (mn 4 (nT R x)-1)*κ):=fun z _=>by
   refine Nat.le_trans (G.c3h (codF_meet (Lf_nodup [x,3+M,z]) (Lf_nodup [x,3+M]) (fun n hn=>Lf_sub (p:=[x,3+M]) (q:=[z]) hn) fun u h=>h.ne G.ok) ((codF_pow _ _ _).mono (hκ M hM))) ?_;rw[←Nat.mul_assoc];refine Nat.mul_le_mul_right _ ?_;have hm:(Lf R [x,3+M,z]).length≤(Lf R [x,3+M]).length:=Lf_mono R [x,3+M] [z];have b4:=Lf_le4 R [x,3+M];have bc:=Lf_le R [x,3+M];have hn:=Nat.le_trans (u4_get (fun M=>cn R [x,3+M]) hM) (nT_le R x);refine Nat.le_trans (half (Lf R [x,3+M]).length zo (Lf R [x,3+M,z]).length zo hm) ?_;rw[Nat.mul_comm];exact Nat.mul_le_mul (Lf_le R _) (pow_le (by rw[mn_eq];omega))
  refine Nat.le_trans (sm_le h1) ?_;rw[sm_mul];exact Nat.mul_le_mul_right _ (cn_sum R [x,3+M])
 refine Nat.le_trans (u4_le h) ?_;rw[u4_mul,←Nat.mul_assoc];exact Nat.mul_le_mul_right _ (Nat.mul_le_mul_right _ (nT_le R x))
theorem one_meet{l m c:Nat}(hl:l≤1)(hm:m≤l)(hc:m≤c):(2 ^ m-1)*2 ^ (l-m)≤c:=by
 have:m=0∨m=1:=by omega
 rcases this with rfl | rfl
 ·simp
 ·have:l=1:=by omega
  subst this;simpa using hc
theorem rest5(G:bGood R s0 ws)(hE:∀M,M<4→(Lf R [3+M]).length≤1) :
  u4 (fun X=>sm (fun z=>(inC R s0 ws [z,3+X]).length)+sm fun y=>sm fun z=>(inC R s0 ws [z,y,3+X]).length)≤
   (bif Nat.beq (rT R) 0 then 0 else mn (2 ^ (nnT R+rT R)) (32*rT R)+4*rT R):=by
 let J:Nat→Nat:=fun y=>if y<3 then bP4 (nnT R+bT R) else 2;have hJ:∀X,X<4→∀(Q:List Nat→Prop),(∀u,Q u→∃r∈R,(∃l,r.2=(3+X)::l)∧Pd R s0 u r.1)→∀y,y<7→CodF R s0 Q (fun u=>(3+X)::u) (Lf R [y]) (J y):=fun X hX Q hQ y hy=>by
  show CodF R s0 Q (fun u=>(3+X)::u) (Lf R [y]) (if y<3 then bP4 (nnT R+bT R) else 2);split
  ·refine(CodF.inf (codF_pow _ _ _) (codF_sendC (fun u hu r hf=>?_) _)).mono (J:=bP4 (nnT R+bT R)) ?_
   ·obtain⟨r',hr',⟨l,e⟩,hp⟩:=hQ u hu;obtain⟨hr,l',e'⟩:=FS_ex hf;rw[one_left G.ok (hE X hX) hr hr' e' e];exact hp
   ·rw[min_pow];have:=Lf_le4 R [y];exact pow_P4 (Nat.le_trans (Nat.min_le_right _ _) (GC_le G.ok hX)) zo
  ·refine(codF_pow _ _ _).mono ?_;have h:=hE (y-3) zo;rw[show 3+(y-3)=y by omega] at h;exact pow_le h
 have h2:∀X,X<4→∀z,z<7→(inC R s0 ws [z,3+X]).length≤cn R [3+X,z]*J z:=fun X hX z hz=>by
  refine Nat.le_trans (G.c2 (codF_ne fun u h=>h.ne G.ok) (hJ X hX _ (fun u hu=>?_) z hz)) (Nat.mul_le_mul_right _ ?_)
  ·obtain⟨r,hr,⟨l,e⟩,hp⟩:=hu;exact⟨r,hr,⟨_,e⟩,hp⟩
  ·exact one_pow (Nat.le_trans (Lf_mono R [3+X] [z]) (hE X hX)) (Lf_le R _)
 have h3:∀X,X<4→∀y,y<7→sm (fun z=>(inC R s0 ws [z,y,3+X]).length)≤cn R [3+X,y]*J y:=fun X hX y hy=>by
  have h1:∀z,z<7→(inC R s0 ws [z,y,3+X]).length≤cn R [3+X,y,z]*J y:=fun z _=>by
   refine Nat.le_trans (G.c3h (codF_meet (Lf_nodup [3+X,y,z]) (Lf_nodup [3+X,y]) (fun n hn=>Lf_sub (p:=[3+X,y]) (q:=[z]) hn) fun u h=>h.ne G.ok)
    (hJ X hX _ (fun u hu=>?_) y hy)) (Nat.mul_le_mul_right _ ?_)
   ·obtain⟨r,hr,⟨l,e⟩,hp⟩:=hu;exact⟨r,hr,⟨_,e⟩,hp⟩
   ·exact one_meet (Nat.le_trans (Lf_mono R [3+X] [y]) (hE X hX)) (Lf_mono R [3+X,y] [z]) (Lf_le R _)
  refine Nat.le_trans (sm_le h1) ?_;rw[sm_mul];exact Nat.mul_le_mul_right _ (cn_sum R [3+X,y])
 have h4:∀X,X<4→sm (fun z=>(inC R s0 ws [z,3+X]).length)+sm (fun y=>sm fun z=>(inC R s0 ws [z,y,3+X]).length)≤
   (u3 fun y=>cn R [3+X,y])*(2*bP4 (nnT R+bT R))+(u4 fun M=>cn R [3+X,3+M])*4:=fun X hX=>by
  have e:∀c,sm (fun y=>c y*J y)=u3 c*bP4 (nnT R+bT R)+u4 (fun M=>c (3+M))*2:=fun c=>by
   rw[sm34,←u3_mul,←u4_mul];have e1:u3 (fun i=>c i*J i)=u3 fun i=>c i*bP4 (nnT R+bT R):=rfl;have e2:u4 (fun M=>c (3+M)*J (3+M))=u4 fun M=>c (3+M)*2:=rfl;rw[e1,e2]
  have a:=sm_le (h2 X hX);have b:=sm_le (h3 X hX);rw[e fun y=>cn R [3+X,y]] at a b;have:(u3 fun y=>cn R [3+X,y])*(2*bP4 (nnT R+bT R))=2*((u3 fun y=>cn R [3+X,y])*bP4 (nnT R+bT R)):=by
   rw[Nat.mul_left_comm]
  omega
 refine Nat.le_trans (u4_le h4) ?_;rw[u4_add,u4_mul,u4_mul];show aT R*(2*bP4 (nnT R+bT R))+bT R*4≤_;have hab:=ab_le G.ok;have hl:=lumpV (n:=nnT R) hab;rw[Nat.mul_left_comm];cases hr:rT R with
 | zero=>
  rw[hr] at hl hab;have e0:Nat.beq 0 0=true:=rfl;rw[e0,cond_true] at hl ⊢;omega
 | succ r=>
  rw[hr] at hl hab;have e0:Nat.beq (r+1) 0=false:=rfl;rw[e0,cond_false,mn_eq] at hl ⊢;have e1:2 ^ (nnT R+(r+1))=2*2 ^ (nnT R+(r+1)-1):=by
   rw[show nnT R+(r+1)=nnT R+(r+1)-1+1 by omega,Nat.pow_succ];simp only[Nat.add_sub_cancel];omega
  omega
theorem bGood.boundT(G:bGood R s0 ws)(hE:∀M,M<4→(Lf R [3+M]).length≤1){κ:Nat}(hκ:∀M,M<4→2 ^ (Lf R [3+M]).length≤κ){a b c:Nat}(ha:a<3)(hb:b<3)(hc:c<3)
  (h0:∀f:Nat→Nat,u3 f=f a+f b+f c) (h1:∀f:Nat→Nat,u3 f=f b+f a+f c) (h2:∀f:Nat→Nat,u3 f=f c+f a+f b) :
  ws.length≤E4 (cn R [a])+E4 (cn R [b])+E4 (cn R [c])+rT R+(fEta (nT R a)+fEta (nT R b)+fEta (nT R c))*κ +
   (bif Nat.beq (rT R) 0 then 0 else mn (2 ^ (nnT R+rT R)) (32*rT R)+4*rT R)+(clm R κ a b c+clm R κ b a c+clm R κ c a b):=by
 have h:=split_all G.ok G.live;rw[sum_allC] at h;have g1:sm (fun z=>(inC R s0 ws [z]).length)≤E4 (cn R [a])+E4 (cn R [b])+E4 (cn R [c])+rT R:=by
  rw[sm34,h0];have e:∀z,(inC R s0 ws [z]).length≤2 ^ (Lf R [z]).length-1:=fun z=>G.n1 (codE_pow fun w h=>h.2);have ea:=Nat.le_trans (e a) (pow_E4 (Lf_le R [a]) (Lf_le4 R [a]));have eb:=Nat.le_trans (e b) (pow_E4 (Lf_le R [b]) (Lf_le4 R [b]));have ec:=Nat.le_trans (e c) (pow_E4 (Lf_le R [c]) (Lf_le4 R [c]));have e4:u4 (fun M=>(inC R s0 ws [3+M]).length)≤rT R:=
   Nat.le_trans (u4_le fun M hM=>Nat.le_trans (e (3+M)) (one_pow (hE M hM) (Lf_le R _))) (rT_le G.ok)
  omega
 have ka:=G.col hE hκ ha hb hc h0;have kb:=G.col hE hκ hb ha hc h1;have kc:=G.col hE hκ hc ha hb h2;have ra:=rest4 G hκ a;have rb:=rest4 G hκ b;have rc:=rest4 G hκ c;have r5:=rest5 G hE;have e2:sm (fun y=>sm fun z=>(inC R s0 ws [z,y]).length) =
   u3 (fun y=>u3 (fun z=>(inC R s0 ws [z,y]).length)+u4 fun M=>(inC R s0 ws [3+M,y]).length)+u4 fun X=>sm fun z=>(inC R s0 ws [z,3+X]).length:=by
  rw[sm34];congr 1;simp only[sm34]
 have e3:sm (fun x=>sm fun y=>sm fun z=>(inC R s0 ws [z,y,x]).length) =
   u3 (fun x=>u3 (fun y=>u3 (fun z=>(inC R s0 ws [z,y,x]).length)+u4 fun M=>(inC R s0 ws [3+M,y,x]).length)+u4 fun M=>sm fun z=>(inC R s0 ws [z,3+M,x]).length) +
    u4 fun X=>sm fun y=>sm fun z=>(inC R s0 ws [z,y,3+X]).length:=by
  rw[sm34];congr 1;simp only[u3];rw[sm34,sm34,sm34];simp only[sm34,u3]
 have e4:u3 (fun x=>u3 (fun y=>u3 (fun z=>(inC R s0 ws [z,y,x]).length)+u4 fun M=>(inC R s0 ws [3+M,y,x]).length)+u4 fun M=>sm fun z=>(inC R s0 ws [z,3+M,x]).length) =
   u3 (fun y=>u3 (fun z=>u3 fun x=>(inC R s0 ws [z,y,x]).length)+u4 fun M=>u3 fun x=>(inC R s0 ws [3+M,y,x]).length)+u3 fun x=>u4 fun M=>sm fun z=>(inC R s0 ws [z,3+M,x]).length:=by
  rw[u3_add];congr 1;simp only[u3,u4];omega
 rw[e2,e3,e4] at h;have e5:∀y,u3 (fun z=>(inC R s0 ws [z,y]).length+u3 fun x=>(inC R s0 ws [z,y,x]).length)=u3 (fun z=>(inC R s0 ws [z,y]).length)+u3 fun z=>u3 fun x=>(inC R s0 ws [z,y,x]).length:=fun y=>u3_add _ _;have e6:∀y,u4 (fun M=>(inC R s0 ws [3+M,y]).length+u3 fun x=>(inC R s0 ws [3+M,y,x]).length)=u4 (fun M=>(inC R s0 ws [3+M,y]).length)+u4 fun M=>u3 fun x=>(inC R s0 ws [3+M,y,x]).length:=fun y=>u4_add _ _;rw[e5,e6] at ka kb kc;rw[u4_add] at r5;rw[h0 (fun y=>u3 (fun z=>(inC R s0 ws [z,y]).length)+u4 fun M=>(inC R s0 ws [3+M,y]).length),
  h0 (fun y=>u3 (fun z=>u3 fun x=>(inC R s0 ws [z,y,x]).length)+u4 fun M=>u3 fun x=>(inC R s0 ws [3+M,y,x]).length),
  h0 (fun x=>u4 fun M=>sm fun z=>(inC R s0 ws [z,3+M,x]).length)] at h
 rw[Nat.add_mul,Nat.add_mul];clear e2 e3 e4 e5 e6;omega
end
end Bd
namespace Bd
theorem k400:okT 4 0 0=true:=by decide +kernel
theorem k410:okT 4 1 0=true:=by decide +kernel
theorem k411:okT 4 1 1=true:=by decide +kernel
theorem k420:okT 4 2 0=true:=by decide +kernel
theorem k421:okT 4 2 1=true:=by decide +kernel
theorem k422:okT 4 2 2=true:=by decide +kernel
theorem k430:okT 4 3 0=true:=by decide +kernel
theorem k431:okT 4 3 1=true:=by decide +kernel
theorem k440:okT 4 4 0=true:=by decide +kernel
theorem k500:okT 5 0 0=true:=by decide +kernel
theorem k510:okT 5 1 0=true:=by decide +kernel
theorem k511:okT 5 1 1=true:=by decide +kernel
theorem k520:okT 5 2 0=true:=by decide +kernel
theorem k521:okT 5 2 1=true:=by decide +kernel
theorem k530:okT 5 3 0=true:=by decide +kernel
theorem k600:okT 6 0 0=true:=by decide +kernel
theorem k610:okT 6 1 0=true:=by decide +kernel
theorem k611:okT 6 1 1=true:=by decide +kernel
theorem k620:okT 6 2 0=true:=by decide +kernel
theorem k700:okT 7 0 0=true:=by decide +kernel
theorem k710:okT 7 1 0=true:=by decide +kernel
theorem k800:okT 8 0 0=true:=by decide +kernel
theorem okT_all{a b c:Nat}(h4:4≤a)(hc:c≤b)(h8:a+b+c≤8):okT a b c=true:=by
 have ha:a=4∨a=5∨a=6∨a=7∨a=8:=by omega
 have hb:b=0∨b=1∨b=2∨b=3∨b=4:=by omega
 have hc2:c=0∨c=1∨c=2:=by omega
 rcases ha with rfl | rfl | rfl | rfl | rfl<;>rcases hb with rfl | rfl | rfl | rfl | rfl<;>rcases hc2 with rfl | rfl | rfl
 ·exact k400
 ·omega
 ·omega
 ·exact k410
 ·exact k411
 ·omega
 ·exact k420
 ·exact k421
 ·exact k422
 ·exact k430
 ·exact k431
 ·omega
 ·exact k440
 ·omega
 ·omega
 ·exact k500
 ·omega
 ·omega
 ·exact k510
 ·exact k511
 ·omega
 ·exact k520
 ·exact k521
 ·omega
 ·exact k530
 ·omega
 ·omega
 ·omega
 ·omega
 ·omega
 ·exact k600
 ·omega
 ·omega
 ·exact k610
 ·exact k611
 ·omega
 ·exact k620
 ·omega
 ·omega
 ·omega
 ·omega
 ·omega
 ·omega
 ·omega
 ·omega
 ·exact k700
 ·omega
 ·omega
 ·exact k710
 ·omega
 ·omega
 ·omega
 ·omega
 ·omega
 ·omega
 ·omega
 ·omega
 ·omega
 ·omega
 ·omega
 ·exact k800
 ·omega
 ·omega
 ·omega
 ·omega
 ·omega
 ·omega
 ·omega
 ·omega
 ·omega
 ·omega
 ·omega
 ·omega
 ·omega
 ·omega
end Bd
set_option linter.unusedVariables false
namespace Bd
theorem mn_mono{a b c d:Nat}(h:a≤c)(h2:b≤d):mn a b≤mn c d:=by rw[mn_eq,mn_eq];omega
theorem fA_mono{n lump D1 D2 gs g1 g2 d0 d B lz gs' g1' g2' d0' d':Nat}(hs:gs≤gs')(h1:g1≤g1')(h2:g2≤g2')(h0:d0≤d0')(hd:d≤d') :
  fA n lump D1 D2 gs g1 g2 d0 d B lz≤fA n lump D1 D2 gs' g1' g2' d0' d' B lz:=by
 unfold fA;have e:=mn_mono (Nat.le_refl lz) h0;exact mn_mono (Nat.mul_le_mul_left _ (P4_mono (mn_mono (Nat.le_refl _) hd)))
  (Nat.add_le_add_left (Nat.add_le_add (Nat.add_le_add (Nat.mul_le_mul (E4_mono (mn_mono (Nat.le_refl _) hd)) (P4_mono (mn_mono e (Nat.add_le_add_left hs _))))
   (Nat.mul_le_mul_left _ (P4_mono (mn_mono e (Nat.add_le_add_left h1 _))))) (Nat.mul_le_mul_left _ (P4_mono (mn_mono e (Nat.add_le_add_left h2 _))))) _)
theorem fT_mono2{n l d0 bx Bz lz D gx d0' D' gx' t:Nat}(h0:d0≤d0')(hD:D≤D')(hg:gx≤gx'):fT n l d0 bx Bz lz D gx t≤fT n l d0' bx Bz lz D' gx' t:=by
 unfold fT;exact mn_mono (Nat.mul_le_mul (Nat.mul_le_mul_left _ (P4_mono (mn_mono (Nat.le_refl _) hD))) (P4_mono (mn_mono (mn_mono (Nat.le_refl _) h0) (Nat.add_le_add_left hg _))))
  (Nat.mul_le_mul_left _ (P4_mono (mn_mono (Nat.le_refl _) hD)))
theorem mx2_sup{f g:Nat→Nat}{k X:Nat}:∀m,(∀i,i≤m→f i+g (k-i)≤X)→mx2 f g k m≤X
 | 0,h=>by unfold mx2;have:=h 0 (Nat.le_refl _);simpa using this
 | m+1,h=>by
  unfold mx2;rw[mx_eq];have h1:=h (m+1) (Nat.le_refl _);have h2:=mx2_sup (k:=k) m fun i hi=>h i zo;omega
theorem mx2_mono{f g f' g':Nat→Nat}(hf:∀i,f i≤f' i)(hg:∀i,g i≤g' i)(hm:∀i j,i≤j→g' i≤g' j){k k':Nat}(hk:k≤k'):mx2 f g k k≤mx2 f' g' k' k':=
 mx2_sup k fun i hi=>Nat.le_trans (Nat.add_le_add (hf i) (hg (k-i))) (mx2_le (f:=f') hm (show i+(k-i)≤k' by omega) k' zo)
theorem fV_mono{l Vl bs b1 b2 d D1 D2 d':Nat}(hd:d≤d'):fV l Vl bs b1 b2 d D1 D2≤fV l Vl bs b1 b2 d' D1 D2:=by
 unfold fV;have:=Nat.mul_le_mul_left (E4 bs) (P4_mono (mn_mono (Nat.le_refl l) hd));omega
theorem fC_mono{bs b1 b2 o1 o2 n l l1 l2 D1 D2 lump Vl kap gs g1 g2 ts t1 t2 d0 d W gs' g1' g2' ts' t1' t2' d0' d' W':Nat}(hgs:gs≤gs')(hg1:g1≤g1')(hg2:g2≤g2')
  (hts:ts≤ts') (ht1:t1≤t1') (ht2:t2≤t2') (h0:d0≤d0') (hd:d≤d') (hW:W≤W') :
  fC bs b1 b2 o1 o2 n l l1 l2 D1 D2 lump Vl kap gs g1 g2 ts t1 t2 d0 d W≤fC bs b1 b2 o1 o2 n l l1 l2 D1 D2 lump Vl kap gs' g1' g2' ts' t1' t2' d0' d' W':=by
 unfold fC;have a:=fun B lz=>fA_mono (n:=n) (lump:=lump) (D1:=D1) (D2:=D2) (B:=B) (lz:=lz) hgs hg1 hg2 h0 hd;have x0:=fun Bz lz t=>fT_mono2 (n:=n) (l:=l) (bx:=bs) (Bz:=Bz) (lz:=lz) (t:=t) h0 hd hgs;have x1:=fun Bz lz t=>fT_mono2 (n:=n) (l:=l) (bx:=b1) (Bz:=Bz) (lz:=lz) (t:=t) h0 (Nat.le_refl D1) hg1;have x2:=fun Bz lz t=>fT_mono2 (n:=n) (l:=l) (bx:=b2) (Bz:=Bz) (lz:=lz) (t:=t) h0 (Nat.le_refl D2) hg2;refine Nat.add_le_add (Nat.add_le_add (Nat.add_le_add (mn_mono (Nat.add_le_add (a _ _) (Nat.add_le_add (Nat.add_le_add ?_ ?_) ?_)) (fV_mono hd)) (Nat.add_le_add (a _ _) (a _ _)))
  (Nat.add_le_add (Nat.add_le_add ?_ ?_) ?_)) (Nat.mul_le_mul_right _ hW)
 ·exact Nat.le_trans (x0 _ _ _) (fT_mono hts)
 ·exact Nat.le_trans (x1 _ _ _) (fT_mono ht1)
 ·exact Nat.le_trans (x2 _ _ _) (fT_mono ht2)
 ·exact mx2_mono (g':=fT _ _ _ _ _ _ _ _) (fun i=>x0 _ _ i) (fun i=>x0 _ _ i) (fun i j h=>fT_mono h) hts
 ·exact mx2_mono (g':=fT _ _ _ _ _ _ _ _) (fun i=>x1 _ _ i) (fun i=>x1 _ _ i) (fun i j h=>fT_mono h) ht1
 ·exact mx2_mono (g':=fT _ _ _ _ _ _ _ _) (fun i=>x2 _ _ i) (fun i=>x2 _ _ i) (fun i j h=>fT_mono h) ht2
theorem fW_mono{n G G':Nat}(h:G≤G'):∀e,fW n G e≤fW n G' e
 | 0=>Nat.le_refl _
 | e+1=>by
  show 2 ^ (mn n (4*(e+1))+G-e)+e-1≤2 ^ (mn n (4*(e+1))+G'-e)+e-1;have:=pow_le (show mn n (4*(e+1))+G-e≤mn n (4*(e+1))+G'-e by omega);omega
theorem le_mxU{f:Nat→Nat}{i:Nat}:∀{k:Nat},i≤k→f i≤mxU f k
 | 0,h=>by
  have:i=0:=by omega
  subst this;exact Nat.le_refl _
 | k+1,h=>by
  unfold mxU;rw[mx_eq];by_cases e:i=k+1
  ·subst e;omega
  ·have:=le_mxU (f:=f) (show i≤k by omega);omega
theorem fC_fQ{bs b1 b2 o1 o2 n l l1 l2 D1 D2 lump Vl kap gs g1 g2 d0 r:Nat}(hs:gs≤bs)(h1:g1≤b1)(h2:g2≤b2)(h0:d0≤mn 4 (n+(gs+g1+g2))) :
  fC bs b1 b2 o1 o2 n l l1 l2 D1 D2 lump Vl kap gs g1 g2 (bs-gs) (b1-g1) (b2-g2) d0 (mn 4 (d0+r)) (fW n (gs+g1+g2) d0)≤fQ bs b1 b2 o1 o2 n l l1 l2 D1 D2 lump Vl kap r:=by
 have hd:d0≤mn 4 (n+(bs+b1+b2)):=Nat.le_trans h0 (mn_mono (Nat.le_refl _) zo);unfold fQ;exact fC_mono hs h1 h2 (Nat.sub_le _ _) (Nat.sub_le _ _) (Nat.sub_le _ _) hd (mn_mono (Nat.le_refl _) (Nat.add_le_add_right hd _))
  (Nat.le_trans (fW_mono (show gs+g1+g2≤bs+b1+b2 by omega) d0) (le_mxU (f:=fW n (bs+b1+b2)) hd))
theorem fC_fF{bs b1 b2 o1 o2 n l l1 l2 D1 D2 lump Vl kap gs g1 g2 d0 r:Nat}(hs:gs≤bs)(h1:g1≤b1)(h2:g2≤b2)(h0:d0≤mn 4 (n+(gs+g1+g2))) :
  fC bs b1 b2 o1 o2 n l l1 l2 D1 D2 lump Vl kap gs g1 g2 (bs-gs) (b1-g1) (b2-g2) d0 (mn 4 (d0+r)) (fW n (gs+g1+g2) d0)≤fF bs b1 b2 o1 o2 n l l1 l2 D1 D2 lump Vl kap r:=by
 unfold fF;refine Nat.le_trans ?_ (le_mxU (f:=fun gs=>mxU (fun g1=>mxU (fun g2=>mxU (fun d0=>_) _) b2) b1) hs);refine Nat.le_trans ?_ (le_mxU (f:=fun g1=>mxU (fun g2=>mxU (fun d0=>_) _) b2) h1);refine Nat.le_trans ?_ (le_mxU (f:=fun g2=>mxU (fun d0=>_) _) h2);exact le_mxU (f:=fun d0=>fC bs b1 b2 o1 o2 n l l1 l2 D1 D2 lump Vl kap gs g1 g2 (bs-gs) (b1-g1) (b2-g2) d0 (mn 4 (d0+r)) (fW n (gs+g1+g2) d0)) h0
theorem allU_get{f:Nat→Bool}{i:Nat}:∀{k:Nat},allU f k=true→i≤k→f i=true
 | 0,h,hi=>by
  have:i=0:=by omega
  subst this;exact h
 | k+1,h,hi=>by
  unfold allU at h;rw[Bool.and_eq_true] at h;by_cases e:i=k+1
  ·subst e;exact h.1
  ·exact allU_get h.2 zo
theorem all4_get{s:Nat}{f:Nat→Nat→Nat→Nat→Bool}(h:all4 s f=true){a b c d:Nat}(hs:a+b+c+d=s):f a b c d=true:=by
 unfold all4 at h;have h1:=allU_get h (show a≤s by omega);have h2:=allU_get h1 (show b≤s-a by omega);have h3:=allU_get h2 (show c≤s-a-b by omega);have e:s-a-b-c=d:=by omega
 rw[e] at h3;exact h3
section
variable {R:List Ru}{s0:Nat}{ws:List (List Nat)}
theorem kap_ok(ok:Okr R)(hE:∀M,M<4→(Lf R [3+M]).length≤1):∀M,M<4→2 ^ (Lf R [3+M]).length≤(bif Nat.beq (rT R) 0 then 1 else 2):=by
 intro M hM;cases hr:rT R with
 | zero=>
  have h:=Nat.le_trans (Nat.le_trans (Lf_le R [3+M]) (u4_get (fun M=>cn R [3+M]) hM)) (rT_le ok);rw[hr] at h;have:(Lf R [3+M]).length=0:=by omega
  rw[this];exact Nat.le_refl _
 | succ r=>
  have e0:Nat.beq (r+1) 0=false:=rfl;rw[e0,cond_false];exact pow_le (hE M hM)
theorem bGood.partT(G:bGood R s0 ws)(hE:∀M,M<4→(Lf R [3+M]).length≤1){a b c:Nat}(ha:a<3)(hb:b<3)(hc:c<3)
  (h0:∀f:Nat→Nat,u3 f=f a+f b+f c) (h4:4≤cn R [a]) (hbc:cn R [c]≤cn R [b]) (hn:nnT R+rT R≠0):ws.length≤398:=by
 have h1:∀f:Nat→Nat,u3 f=f b+f a+f c:=fun f=>by rw[h0];omega
 have h2:∀f:Nat→Nat,u3 f=f c+f a+f b:=fun f=>by rw[h0];omega
 have hB:=G.boundT hE (kap_ok G.ok hE) ha hb hc h0 h1 h2;have r8:=rT_eq G.ok;rw[h0] at r8;have la:=nT_eq R a;have lb:=nT_eq R b;have lc:=nT_eq R c;rw[h0] at la lb lc;have hT:=okT_all h4 hbc (show cn R [a]+cn R [b]+cn R [c]≤8 by omega);unfold okT at hT;have e8:8-cn R [a]-cn R [b]-cn R [c]=rT R:=by omega
 rw[e8] at hT;have hT:=all4_get (all4_get (all4_get hT (a:=cn R [a,a]) (b:=cn R [a,b]) (c:=cn R [a,c]) (d:=nT R a) la) (a:=cn R [b,a]) (b:=cn R [b,b]) (c:=cn R [b,c]) (d:=nT R b) lb)
  (a:=cn R [c,a]) (b:=cn R [c,b]) (c:=cn R [c,c]) (d:=nT R c) lc
 have hnn:nnT R=nT R a+nT R b+nT R c:=h0 _;rw[←hnn,Bool.or_eq_true] at hT;have hT:okS (cn R [a,a]) (cn R [a,b]) (cn R [a,c]) (nT R a) (cn R [b,a]) (cn R [b,b]) (cn R [b,c]) (nT R b) (cn R [c,a]) (cn R [c,b]) (cn R [c,c]) (nT R c) (rT R)=true:=by
  rcases hT with hT | hT
  ·exact absurd (Nat.eq_of_beq_eq_true hT) hn
  ·exact hT
 have hd:=fun y=>Sd0_d G.ok y;have d0:∀y z1 z2,(∀f:Nat→Nat,u3 f=f y+f z1+f z2)→(Sd0 R y).length≤mn 4 (nT R y+(gT R y y+gT R z1 y+gT R z2 y)):=fun y z1 z2 hp=>by
  have:=hd y;rw[hp] at this;rw[mn_eq];exact this
 have eD0:DT R a=mn 4 (nT R a+(cn R [a,a]+cn R [b,a]+cn R [c,a])+rT R):=by unfold DT;rw[h0]
 have eD1:DT R b=mn 4 (nT R b+(cn R [b,b]+cn R [a,b]+cn R [c,b])+rT R):=by unfold DT;rw[h1]
 have eD2:DT R c=mn 4 (nT R c+(cn R [c,c]+cn R [a,c]+cn R [b,c])+rT R):=by unfold DT;rw[h2]
 have eO:E4 (cn R [a])+E4 (cn R [b])+E4 (cn R [c])+rT R+(fEta (nT R a)+fEta (nT R b)+fEta (nT R c))*(bif Nat.beq (rT R) 0 then 1 else 2) +
   (bif Nat.beq (rT R) 0 then 0 else mn (2 ^ (nnT R+rT R)) (32*rT R)+4*rT R) =
   fO (cn R [a,a]) (cn R [a,b]) (cn R [a,c]) (nT R a) (cn R [b,a]) (cn R [b,b]) (cn R [b,c]) (nT R b) (cn R [c,a]) (cn R [c,b]) (cn R [c,c]) (nT R c) (rT R):=by
  unfold fO;simp only[la,lb,lc,←hnn]
 rw[eO] at hB;unfold okS at hT;rw[Bool.or_eq_true] at hT;rcases hT with hT | hT
 ·have hT:=Nat.le_of_ble_eq_true hT;refine Nat.le_trans hB (Nat.le_trans (Nat.add_le_add_left ?_ _) hT);unfold fS;simp only[la,lb,lc,←hnn,←eD0,←eD1,←eD2];exact Nat.add_le_add (Nat.add_le_add (fC_fQ (gT_le R a a) (gT_le R b a) (gT_le R c a) (d0 a b c h0)) (fC_fQ (gT_le R b b) (gT_le R a b) (gT_le R c b) (d0 b a c h1)))
   (fC_fQ (gT_le R c c) (gT_le R a c) (gT_le R b c) (d0 c a b h2))
 ·have hT:=Nat.le_of_ble_eq_true hT;refine Nat.le_trans hB (Nat.le_trans (Nat.add_le_add_left ?_ _) hT);unfold fS;simp only[la,lb,lc,←hnn,←eD0,←eD1,←eD2];exact Nat.add_le_add (Nat.add_le_add (fC_fF (gT_le R a a) (gT_le R b a) (gT_le R c a) (d0 a b c h0)) (fC_fF (gT_le R b b) (gT_le R a b) (gT_le R c b) (d0 b a c h1)))
   (fC_fF (gT_le R c c) (gT_le R a c) (gT_le R b c) (d0 c a b h2))
end
end Bd
set_option linter.unusedVariables false
namespace Bd
def sl(L:List Nat)(f:Nat→Nat):Nat:=(L.map f).sum
theorem sl_nil(f:Nat→Nat):sl [] f=0:=rfl
theorem sl_cons(a:Nat)(L:List Nat)(f:Nat→Nat):sl (a::L) f=f a+sl L f:=by simp[sl]
theorem sl_append(L M:List Nat)(f:Nat→Nat):sl (L++M) f=sl L f+sl M f:=by simp[sl]
theorem sl_le{L:List Nat}{f g:Nat→Nat}(h:∀i∈L,f i≤g i):sl L f≤sl L g:=by
 induction L with
 | nil=>simp[sl]
 | cons a L ih=>
  rw[sl_cons,sl_cons];have:=h a me;have:=ih fun i hi=>h i (List.mem_cons_of_mem _ hi);omega
theorem sl_add(L:List Nat)(f g:Nat→Nat):sl L (fun i=>f i+g i)=sl L f+sl L g:=by
 induction L with
 | nil=>rfl
 | cons a L ih=>simp only[sl_cons];omega
theorem sl_mul(L:List Nat)(f:Nat→Nat)(c:Nat):sl L (fun i=>f i*c)=sl L f*c:=by
 induction L with
 | nil=>simp[sl]
 | cons a L ih=>simp only[sl_cons,Nat.add_mul];omega
theorem sl_swap(L M:List Nat)(f:Nat→Nat→Nat):sl L (fun x=>sl M fun y=>f x y)=sl M fun y=>sl L fun x=>f x y:=by
 induction L with
 | nil=>
  induction M with
  | nil=>rfl
  | cons a M ih=>simp only[sl_cons,sl_nil] at ih ⊢;omega
 | cons a L ih=>rw[sl_cons,ih];simp only[sl_cons];exact(sl_add M (fun y=>f a y) fun y=>sl L fun x=>f x y).symm
theorem sm_sl(f:Nat→Nat):sm f=sl (List.range 7) f:=(sum_range7 f).symm
def brest(L:List Nat):List Nat:=(List.range 7).filter fun z=>z∉L
theorem sm_split{L:List Nat}(hL:L.Nodup)(h7:∀z∈L,z<7)(f:Nat→Nat):sm f=sl L f+sl (brest L) f:=by
 rw[sm_sl,←sl_append];unfold sl;apply List.Perm.sum_nat;apply List.Perm.map;refine(List.perm_ext_iff_of_nodup List.nodup_range ?_).2 fun z=>?_
 ·rw[List.nodup_append];refine⟨hL,List.Pairwise.filter _ List.nodup_range,fun a ha b hb e=>?_⟩;subst e;unfold brest at hb;rw[List.mem_filter] at hb;exact absurd ha (by simpa using hb.2)
 ·rw[List.mem_append];unfold brest;rw[List.mem_filter,List.mem_range];constructor
  ·intro h;by_cases hz:z∈L
   ·exact .inl hz
   ·exact .inr ⟨h,by simpa using hz⟩
  ·rintro(h | h)
   ·exact h7 z h
   ·exact h.1
theorem sl_sup{F:Nat→Nat}{N:Nat}(h0:F 0=0)(hs:∀x y,x+y≤N→F x+F y≤F (x+y))(L:List Nat)(a:Nat→Nat)(h:sl L a≤N):sl L (fun i=>F (a i))≤F (sl L a):=by
 induction L with
 | nil=>rw[sl_nil,sl_nil,h0];exact Nat.le_refl 0
 | cons x L ih=>
  rw[sl_cons] at h;rw[sl_cons,sl_cons];have:=ih zo;have:=hs (a x) (sl L a) zo;omega
theorem sl_pow(L:List Nat)(t b:Nat→Nat):sl L (fun z=>(2 ^ t z-1)*2 ^ b z)≤(2 ^ sl L t-1)*2 ^ sl L b:=by
 induction L with
 | nil=>simp[sl]
 | cons x L ih=>
  simp only[sl_cons];refine Nat.le_trans (Nat.add_le_add_left ih _) ?_;generalize sl L t=T;generalize sl L b=B;have p1:0<2 ^ t x:=Nat.pow_pos zo;have p2:0<2 ^ T:=Nat.pow_pos zo;have p3:0<2 ^ b x:=Nat.pow_pos zo;have p4:0<2 ^ B:=Nat.pow_pos zo;rw[Nat.pow_add,Nat.pow_add];generalize 2 ^ t x=u at *;generalize 2 ^ T=v at *;generalize 2 ^ b x=c at *;generalize 2 ^ B=d at *;obtain⟨u,rfl⟩:∃k,u=k+1:=⟨u-1,by omega⟩;obtain⟨v,rfl⟩:∃k,v=k+1:=⟨v-1,by omega⟩;obtain⟨c,rfl⟩:∃k,c=k+1:=⟨c-1,by omega⟩;obtain⟨d,rfl⟩:∃k,d=k+1:=⟨d-1,by omega⟩;have e:(u+1)*(v+1)-1=u*v+u+v:=by
   rw[Nat.add_mul,Nat.mul_add,Nat.mul_add];omega
  rw[e];simp only[Nat.add_sub_cancel];have h1:u*(c+1)≤(u*v+u)*((c+1)*(d+1)):=by
   refine Nat.mul_le_mul zo ?_;have:(c+1)*1≤(c+1)*(d+1):=Nat.mul_le_mul_left _ zo;omega
  have h2:v*(d+1)≤v*((c+1)*(d+1)):=by
   refine Nat.mul_le_mul_left _ ?_;have:1*(d+1)≤(c+1)*(d+1):=Nat.mul_le_mul_right _ zo;omega
  have h3:(u*v+u+v)*((c+1)*(d+1))=(u*v+u)*((c+1)*(d+1))+v*((c+1)*(d+1)):=Nat.add_mul _ _ _;omega
end Bd
set_option linter.unusedVariables false
namespace Bd
def tcs(n:Nat):Nat:=[0,1,3,7,11,12,14,18,22].getD n 22
def teta(n:Nat):Nat:=n*2 ^ (min 4 n-1)
theorem tcs_sup0:∀x y:Fin 9,x.1+y.1≤8→tcs x.1+tcs y.1≤tcs (x.1+y.1):=by decide
theorem tcs_sup(x y:Nat)(h:x+y≤8):tcs x+tcs y≤tcs (x+y):=tcs_sup0 ⟨x,by omega⟩ ⟨y,by omega⟩ h
theorem tcs_mono0:∀x y:Fin 9,x.1≤y.1→tcs x.1≤tcs y.1:=by decide
theorem tcs_mono{x y:Nat}(h:x≤y)(hy:y≤8):tcs x≤tcs y:=tcs_mono0 ⟨x,by omega⟩ ⟨y,by omega⟩ h
theorem teta_sup0:∀x y:Fin 9,x.1+y.1≤8→teta x.1+teta y.1≤teta (x.1+y.1):=by decide
theorem teta_sup(x y:Nat)(h:x+y≤8):teta x+teta y≤teta (x+y):=teta_sup0 ⟨x,by omega⟩ ⟨y,by omega⟩ h
theorem teta_mono0:∀x y:Fin 9,x.1≤y.1→teta x.1≤teta y.1:=by decide
theorem teta_mono{x y:Nat}(h:x≤y)(hy:y≤8):teta x≤teta y:=teta_mono0 ⟨x,by omega⟩ ⟨y,by omega⟩ h
theorem ne_tcs0:∀n:Fin 9,min (2 ^ min 4 n.1-1) 11≤tcs n.1:=by decide
theorem ne_tcs{K n:Nat}(hK:K≤12)(h:n≤8):neX K n≤tcs n:=by
 have:=ne_tcs0 ⟨n,by omega⟩;unfold neX;simp only at this;omega
theorem hm_eta0:∀b t:Fin 9,t.1≤b.1→2 ^ min 4 b.1-2 ^ (min 4 b.1-min 4 t.1)≤t.1*2 ^ (min 4 b.1-1):=by decide
theorem hm_eta{K b t:Nat}(hb:b≤8)(h:t≤b):hmX K b t≤t*2 ^ (min 4 b-1):=by
 have:=hm_eta0 ⟨b,by omega⟩ ⟨t,by omega⟩ h;unfold hmX;simp only at this;omega
theorem ne_pow{K n:Nat}:neX K n≤2 ^ n-1:=by
 unfold neX;have:2 ^ min 4 n≤2 ^ n:=Nat.pow_le_pow_right zo zo;omega
theorem ne_one{K n:Nat}(h:n≤1):neX K n≤n:=by
 have:=ne_pow (K:=K) (n:=n);have h2:n=0∨n=1:=by omega
 have e:2 ^ n-1=n:=by rcases h2 with rfl | rfl<;>rfl
 omega
theorem ne_mono{K a b:Nat}(h:a≤b):neX K a≤neX K b:=by
 unfold neX;have:2 ^ min 4 a≤2 ^ min 4 b:=Nat.pow_le_pow_right zo zo;omega
theorem hm_ne{K b t:Nat}(hb:b≤8)(h:t≤b):hmX K b t≤neX K b:=by
 unfold hmX neX;have:0<2 ^ (min 4 b-min 4 t):=Nat.pow_pos zo;omega
section
variable (K C H:Nat)(p:Nat→Nat)(b:Nat→Nat→Nat)(t:Nat→Nat→Nat→Nat)(L:List Nat)
def mY(x:Nat):Nat:=sl (brest L) fun w=>b w x
def nY(x:Nat):Nat:=p x-sl L (b x)
def vY(y:Nat):Nat:=ne1X K C H p y+(sl L (fun x=>neX K (b x y)*lamX K C H p b x y)+mY b L y*nvX K C H p y)
def boundY(lf j:Nat):Nat:=
 sl L (ne1X K C H p)+j +
 sl L (fun y=>
  sl L (fun z=>min (neX K (b y z)*lamX K C H p b y z+(sl L (fun x=>neX K (b x y)*min (nv2X K C H b y z*nvX K C H p z) (lamX K C H p b x y))
    + mY b L y*min (nv2X K C H b y z*nvX K C H p z) (nvX K C H p y))) (vY K C H p b L y))
   + (lf*tcs (nY p b L y)+(sl L (fun x=>min (lf*((2 ^ b x y-1)*2 ^ nY p b L y)) (teta (b x y)*lamX K C H p b x y))
    + mY b L y*min (lf*2 ^ nY p b L y) (nvX K C H p y)))
   + (lf*teta (nY p b L y)+mY b L y*nvX K C H p y))
 + (j-sl L (mY b L))*(2*lf)
end
section
variable {K C H:Nat}{p:Nat→Nat}{b:Nat→Nat→Nat}{t:Nat→Nat→Nat→Nat}{L:List Nat}{lf:Nat}
structure Cnt(p:Nat→Nat)(b:Nat→Nat→Nat)(t:Nat→Nat→Nat→Nat)(L:List Nat)(lf:Nat):Prop where
 nod:L.Nodup
 lt:∀z∈L,z<7
 few:sm p≤8
 row:∀x,sm (b x)≤p x
 ends:∀x y,sm (t x y)≤b x y
 rest1:∀z∈brest L,p z≤1
 lf:∀z∈brest L,2 ^ p z≤lf
theorem sm_get(f:Nat→Nat)(i:Nat)(h:i<7):f i≤sm f:=by
 have:i=0∨i=1∨i=2∨i=3∨i=4∨i=5∨i=6:=by omega
 unfold sm;rcases this with rfl | rfl | rfl | rfl | rfl | rfl | rfl<;>omega
theorem brest_lt{z:Nat}(h:z∈brest L):z<7:=by
 unfold brest at h;rw[List.mem_filter,List.mem_range] at h;exact h.1
theorem nv_pow(z:Nat):nvX K C H p z≤2 ^ p z:=by
 have:2 ^ min 4 (p z)≤2 ^ p z:=Nat.pow_le_pow_right zo zo;unfold nvX;split<;>omega
theorem nv2_pow(y z:Nat):nv2X K C H b y z≤2 ^ b y z:=by
 have:2 ^ min 4 (b y z)≤2 ^ b y z:=Nat.pow_le_pow_right zo zo;unfold nv2X;split<;>omega
theorem lam_nv(x y:Nat):lamX K C H p b x y≤nvX K C H p y:=by unfold lamX;omega
theorem ne1_p(z:Nat)(h:p z≤1):ne1X K C H p z≤p z:=by
 have:=ne_one (K:=K) h;unfold ne1X;split<;>omega
variable (c:Cnt p b t L lf)(hK:K≤12)
include c
theorem Cnt.p8(x:Nat)(hx:x<7):p x≤8:=Nat.le_trans (sm_get p x hx) c.few
theorem Cnt.b8(x y:Nat)(hx:x<7)(hy:y<7):b x y≤p x:=Nat.le_trans (sm_get (b x) y hy) (c.row x)
theorem Cnt.t8(x y z:Nat)(hz:z<7):t x y z≤b x y:=Nat.le_trans (sm_get (t x y) z hz) (c.ends x y)
theorem Cnt.nlf(z:Nat)(hz:z∈brest L):nvX K C H p z≤lf:=Nat.le_trans (nv_pow z) (c.lf z hz)
theorem Cnt.spl(f:Nat→Nat):sm f=sl L f+sl (brest L) f:=sm_split c.nod c.lt f
theorem Cnt.bn(x:Nat):sl (brest L) (b x)≤nY p b L x:=by
 have:=c.row x;rw[c.spl] at this;unfold nY;omega
theorem Cnt.a3_ne(x y z:Nat)(hx:x<7)(hy:y<7)(hz:z<7) :
  a3X K C H p b t x y z≤neX K (b x y)*min (nv2X K C H b y z*nvX K C H p z) (lamX K C H p b x y):=by
 unfold a3X;have h8:=Nat.le_trans (c.b8 x y hx hy) (c.p8 x hx);have h1:=ne_mono (K:=K) (c.t8 x y z hz);have h2:=hm_ne (K:=K) h8 (c.t8 x y z hz);rcases Nat.le_total (nv2X K C H b y z*nvX K C H p z) (lamX K C H p b x y) with e | e
 ·rw[Nat.min_eq_left e,←Nat.mul_assoc];refine Nat.le_trans (Nat.min_le_left _ _) ?_;rw[Nat.mul_assoc,Nat.mul_assoc];exact Nat.mul_le_mul_right _ h1
 ·rw[Nat.min_eq_right e];exact Nat.le_trans (Nat.min_le_right _ _) (Nat.mul_le_mul_right _ h2)
theorem Cnt.a3_eta(x y:Nat)(hx:x<7)(hy:y<7)(Z:List Nat)(hZ:∀z∈Z,z<7)(ht:sl Z (t x y)≤b x y) :
  sl Z (fun z=>a3X K C H p b t x y z)≤teta (b x y)*lamX K C H p b x y:=by
 have h8:=Nat.le_trans (c.b8 x y hx hy) (c.p8 x hx);refine Nat.le_trans (sl_le (g:=fun z=>t x y z*(2 ^ (min 4 (b x y)-1)*lamX K C H p b x y)) fun z hz=>?_) ?_
 ·unfold a3X;refine Nat.le_trans (Nat.min_le_right _ _) ?_;rw[←Nat.mul_assoc];exact Nat.mul_le_mul_right _ (hm_eta h8 (c.t8 x y z (hZ z hz)))
 ·rw[sl_mul];unfold teta;rw[Nat.mul_assoc];exact Nat.mul_le_mul_right _ ht
end
end Bd
set_option linter.unusedVariables false
namespace Bd
section
variable {K C H:Nat}{p:Nat→Nat}{b:Nat→Nat→Nat}{t:Nat→Nat→Nat→Nat}{L:List Nat}{lf:Nat}
theorem sl_get{L:List Nat}(f:Nat→Nat){i:Nat}(h:i∈L):f i≤sl L f:=by
 induction L with
 | nil=>exact absurd h List.not_mem_nil
 | cons a L ih=>
  rw[sl_cons];rcases List.mem_cons.1 h with rfl | h
  ·omega
  ·have:=ih h;omega
variable (c:Cnt p b t L lf)(hK:K≤12)
include c
theorem Cnt.rb(x y:Nat)(hx:x∈brest L)(hy:y<7):b x y≤1:=Nat.le_trans (c.b8 x y (brest_lt hx) hy) (c.rest1 x hx)
theorem Cnt.tr(x y:Nat):sl (brest L) (t x y)≤b x y:=by
 have:=c.ends x y;rw[c.spl] at this;omega
theorem Cnt.n8(y:Nat)(hy:y<7):nY p b L y≤8:=by
 have:=c.p8 y hy;unfold nY;omega
theorem Cnt.vY_le(y:Nat)(hy:y<7):vX K C H p b y≤vY K C H p b L y:=by
 unfold vX vY;rw[c.spl];refine Nat.add_le_add_left (Nat.add_le_add_left ?_ _) _;unfold mY;rw[←sl_mul];exact sl_le fun x hx=>Nat.mul_le_mul (ne_one (c.rb x y hx hy)) (lam_nv x y)
theorem Cnt.cell(y z:Nat)(hy:y<7)(hz:z<7):(sm fun x=>a3X K C H p b t x y z)≤
  sl L (fun x=>neX K (b x y)*min (nv2X K C H b y z*nvX K C H p z) (lamX K C H p b x y))+mY b L y*min (nv2X K C H b y z*nvX K C H p z) (nvX K C H p y):=by
 rw[c.spl];refine Nat.add_le_add (sl_le fun x hx=>c.a3_ne x y z (c.lt x hx) hy hz) ?_;unfold mY;rw[←sl_mul];refine sl_le fun x hx=>Nat.le_trans (c.a3_ne x y z (brest_lt hx) hy hz) (Nat.mul_le_mul (ne_one (c.rb x y hx hy)) ?_);have:=lam_nv (K:=K) (C:=C) (H:=H) (p:=p) (b:=b) x y;omega
theorem Cnt.far(y:Nat)(hy:y<7):sl (brest L) (fun z=>sm fun x=>a3X K C H p b t x y z)≤
  sl L (fun x=>min (lf*((2 ^ b x y-1)*2 ^ nY p b L y)) (teta (b x y)*lamX K C H p b x y))+mY b L y*min (lf*2 ^ nY p b L y) (nvX K C H p y):=by
 have e:sl (brest L) (fun z=>sm fun x=>a3X K C H p b t x y z)=sl L (fun x=>sl (brest L) fun z=>a3X K C H p b t x y z)+sl (brest L) (fun x=>sl (brest L) fun z=>a3X K C H p b t x y z):=by
  rw[sl_swap L (brest L),sl_swap (brest L) (brest L),←sl_add];congr 1;funext z;exact c.spl _
 rw[e];refine Nat.add_le_add (sl_le fun x hx=>Nat.le_min.2 ⟨?_,c.a3_eta x y (c.lt x hx) hy _ (fun z hz=>brest_lt hz) (c.tr x y)⟩) ?_
 ·refine Nat.le_trans (sl_le (g:=fun z=>(2 ^ t x y z-1)*2 ^ b y z*lf) fun z hz=>?_) ?_
  ·unfold a3X;exact Nat.le_trans (Nat.min_le_left _ _) (Nat.mul_le_mul (Nat.mul_le_mul ne_pow (nv2_pow y z)) (c.nlf z hz))
  ·rw[sl_mul,Nat.mul_comm lf];refine Nat.mul_le_mul_right _ (Nat.le_trans (sl_pow _ _ _) (Nat.mul_le_mul ?_ (Nat.pow_le_pow_right zo (c.bn y))));have:2 ^ sl (brest L) (t x y)≤2 ^ b x y:=Nat.pow_le_pow_right zo (c.tr x y);exact Nat.sub_le_sub_right this 1
 ·unfold mY;rw[←sl_mul];refine sl_le fun x hx=>?_;have hb:=c.rb x y hx hy;refine Nat.le_trans (sl_le (g:=fun z=>t x y z*min (lf*2 ^ nY p b L y) (nvX K C H p y)) fun z hz=>?_) ?_
  ·have ht:=c.t8 x y z (brest_lt hz);unfold a3X;have h1:neX K (t x y z)*nv2X K C H b y z*nvX K C H p z≤t x y z*(lf*2 ^ nY p b L y):=by
    rw[Nat.mul_assoc];refine Nat.mul_le_mul (ne_one zo) ?_;rw[Nat.mul_comm lf];exact Nat.mul_le_mul (Nat.le_trans (nv2_pow y z) (Nat.pow_le_pow_right zo (Nat.le_trans (sl_get (b y) hz) (c.bn y)))) (c.nlf z hz)
   have h2:hmX K (b x y) (t x y z)*lamX K C H p b x y≤t x y z*nvX K C H p y:=by
    refine Nat.mul_le_mul (Nat.le_trans (hm_eta zo ht) ?_) (lam_nv x y);have:min 4 (b x y)-1=0:=by omega
    rw[this];omega
   rcases Nat.le_total (lf*2 ^ nY p b L y) (nvX K C H p y) with e | e
   ·rw[Nat.min_eq_left e];omega
   ·rw[Nat.min_eq_right e];omega
  ·rw[sl_mul];exact Nat.mul_le_mul_right _ (c.tr x y)
theorem Cnt.rowL(hK:K≤12)(y:Nat)(hyL:y∈L):(sm fun z=>min (neX K (b y z)*lamX K C H p b y z+sm fun x=>a3X K C H p b t x y z) (vX K C H p b y))≤
  sl L (fun z=>min (neX K (b y z)*lamX K C H p b y z+(sl L (fun x=>neX K (b x y)*min (nv2X K C H b y z*nvX K C H p z) (lamX K C H p b x y))
    + mY b L y*min (nv2X K C H b y z*nvX K C H p z) (nvX K C H p y))) (vY K C H p b L y))
   + (lf*tcs (nY p b L y)+(sl L (fun x=>min (lf*((2 ^ b x y-1)*2 ^ nY p b L y)) (teta (b x y)*lamX K C H p b x y))
    + mY b L y*min (lf*2 ^ nY p b L y) (nvX K C H p y))):=by
 have hy:=c.lt y hyL;rw[c.spl];refine Nat.add_le_add (sl_le fun z hz=>?_) ?_
 ·have h1:=c.cell (K:=K) (C:=C) (H:=H) y z hy (c.lt z hz);have h2:=c.vY_le (K:=K) (C:=C) (H:=H) y hy;exact Nat.le_min.2 ⟨Nat.le_trans (Nat.min_le_left _ _) (Nat.add_le_add_left h1 _),Nat.le_trans (Nat.min_le_right _ _) h2⟩
 ·refine Nat.le_trans (sl_le (g:=fun z=>neX K (b y z)*lamX K C H p b y z+sm fun x=>a3X K C H p b t x y z) fun z _=>Nat.min_le_left _ _) ?_;rw[sl_add];refine Nat.add_le_add ?_ (c.far y hy);have h8:=c.n8 y hy;refine Nat.le_trans (sl_le (g:=fun z=>tcs (b y z)*lf) fun z hz=>?_) ?_
  ·refine Nat.mul_le_mul (ne_tcs hK ?_) (Nat.le_trans (lam_nv y z) (c.nlf z hz));exact Nat.le_trans (sl_get (b y) hz) (Nat.le_trans (c.bn y) h8)
  ·rw[sl_mul,Nat.mul_comm lf];refine Nat.mul_le_mul_right _ (Nat.le_trans (sl_sup (F:=tcs) (N:=8) rfl tcs_sup _ _ (Nat.le_trans (c.bn y) h8)) (tcs_mono (c.bn y) h8))
theorem Cnt.among:sl (brest L) (fun y=>sl (brest L) fun z=>b y z)≤sl (brest L) p-sl L (mY b L):=by
 have h:sl (brest L) (fun y=>sm (b y))≤sl (brest L) p:=sl_le fun y _=>c.row y;have e:sl (brest L) (fun y=>sm (b y))=sl L (mY b L)+sl (brest L) (fun y=>sl (brest L) fun z=>b y z):=by
  have:(fun y=>sm (b y))=fun y=>sl L (fun z=>b y z)+sl (brest L) fun z=>b y z:=by funext y;exact c.spl _
  rw[this,sl_add,sl_swap];rfl
 omega
theorem Cnt.rowR:sl (brest L) (fun y=>sm fun z=>min (neX K (b y z)*lamX K C H p b y z+sm fun x=>a3X K C H p b t x y z) (vX K C H p b y))≤
  sl L (fun x=>lf*teta (nY p b L x)+mY b L x*nvX K C H p x)+(sl (brest L) p-sl L (mY b L))*(2*lf):=by
 have hA:sl (brest L) (fun y=>sm fun z=>neX K (b y z)*lamX K C H p b y z)≤sl L (fun z=>mY b L z*nvX K C H p z)+sl (brest L) (fun y=>sl (brest L) fun z=>b y z)*lf:=by
  refine Nat.le_trans (sl_le (g:=fun y=>sl L (fun z=>b y z*nvX K C H p z)+(sl (brest L) fun z=>b y z)*lf) fun y hy=>?_) ?_
  ·rw[c.spl];refine Nat.add_le_add (sl_le fun z hz=>Nat.mul_le_mul (ne_one (c.rb y z hy (c.lt z hz))) (lam_nv y z)) ?_;rw[←sl_mul];exact sl_le fun z hz=>Nat.mul_le_mul (ne_one (c.rb y z hy (brest_lt hz))) (Nat.le_trans (lam_nv y z) (c.nlf z hz))
  ·rw[sl_add,sl_mul,sl_swap];refine Nat.add_le_add_right (sl_le fun z _=>?_) _;unfold mY;rw[sl_mul];exact Nat.le_refl _
 have hB:sl (brest L) (fun y=>sm fun z=>sm fun x=>a3X K C H p b t x y z)≤sl L (fun x=>lf*teta (nY p b L x))+sl (brest L) (fun y=>sl (brest L) fun z=>b y z)*lf:=by
  have hs:∀x y,x<7→y∈brest L→(sm fun z=>a3X K C H p b t x y z)≤teta (b x y)*lf:=fun x y hx hy=>by
   rw[sm_sl];refine Nat.le_trans (c.a3_eta x y hx (brest_lt hy) _ (fun z hz=>List.mem_range.1 hz) ?_) (Nat.mul_le_mul_left _ (Nat.le_trans (lam_nv x y) (c.nlf y hy)));have:=c.ends x y;rw[sm_sl] at this;exact this
  refine Nat.le_trans (sl_le (g:=fun y=>sl L (fun x=>teta (b x y)*lf)+sl (brest L) fun x=>b x y*lf) fun y hy=>?_) ?_
  ·have e:(sm fun z=>sm fun x=>a3X K C H p b t x y z)=sm fun x=>sm fun z=>a3X K C H p b t x y z:=by simp only[sm];omega
   rw[e,c.spl];refine Nat.add_le_add (sl_le fun x hx=>hs x y (c.lt x hx) hy) (sl_le fun x hx=>Nat.le_trans (hs x y (brest_lt hx) hy) (Nat.mul_le_mul_right _ ?_));have h1:=c.rb x y hx (brest_lt hy);have h2:b x y=0∨b x y=1:=by omega
   rcases h2 with h2 | h2<;>rw[h2]<;>decide
  ·rw[sl_add];refine Nat.add_le_add ?_ ?_
   ·rw[sl_swap];refine sl_le fun x hx=>?_;have h8:=c.n8 x (c.lt x hx);rw[sl_mul,Nat.mul_comm lf];exact Nat.mul_le_mul_right _ (Nat.le_trans (sl_sup (F:=teta) (N:=8) rfl teta_sup _ _ (Nat.le_trans (c.bn x) h8)) (teta_mono (c.bn x) h8))
   ·rw[sl_swap];simp only[sl_mul];exact Nat.le_refl _
 have hW:=c.among;have hS:sl (brest L) (fun y=>sm fun z=>min (neX K (b y z)*lamX K C H p b y z+sm fun x=>a3X K C H p b t x y z) (vX K C H p b y))≤
   sl (brest L) (fun y=>sm fun z=>neX K (b y z)*lamX K C H p b y z)+sl (brest L) (fun y=>sm fun z=>sm fun x=>a3X K C H p b t x y z):=by
  rw[←sl_add];refine sl_le fun y _=>?_;rw[←sm_add];exact sm_le fun z _=>Nat.min_le_left _ _
 have hW2:=Nat.mul_le_mul_right (2*lf) hW;rw[sl_add];have e2:sl (brest L) (fun y=>sl (brest L) fun z=>b y z)*(2*lf)=sl (brest L) (fun y=>sl (brest L) fun z=>b y z)*lf+sl (brest L) (fun y=>sl (brest L) fun z=>b y z)*lf:=by
  rw[←Nat.mul_add];congr 1;omega
 omega
theorem Cnt.boundY_le(hK:K≤12):boundX K C H p b t≤boundY K C H p b L lf (sl (brest L) p):=by
 unfold boundX boundY;have h1:sm (ne1X K C H p)≤sl L (ne1X K C H p)+sl (brest L) p:=by
  rw[c.spl];exact Nat.add_le_add_left (sl_le fun z hz=>ne1_p z (c.rest1 z hz)) _
 rw[c.spl (fun y=>sm fun z=>_)];have h2:=sl_le fun y hy=>c.rowL (K:=K) (C:=C) (H:=H) hK y hy;have h3:=c.rowR (K:=K) (C:=C) (H:=H);rw[sl_add L (fun y=>_+_) (fun y=>lf*teta (nY p b L y)+mY b L y*nvX K C H p y)];omega
end
end Bd
set_option linter.unusedVariables false
namespace Bd
section
variable (K C H:Nat)(p:Nat→Nat)(b:Nat→Nat→Nat)(m n:Nat→Nat)(L:List Nat)
def lamZ(x y:Nat):Nat:=min (nvX K C H p y) (2 ^ (p x-b x y+(sl L (fun w=>b w x)+m x)))
def vZ(y:Nat):Nat:=ne1X K C H p y+(sl L (fun x=>neX K (b x y)*lamZ K C H p b m L x y)+m y*nvX K C H p y)
def boundZ(lf j:Nat):Nat:=
 sl L (ne1X K C H p)+j +
 sl L (fun y=>
  sl L (fun z=>min (neX K (b y z)*lamZ K C H p b m L y z+(sl L (fun x=>neX K (b x y)*min (nv2X K C H b y z*nvX K C H p z) (lamZ K C H p b m L x y))
    + m y*min (nv2X K C H b y z*nvX K C H p z) (nvX K C H p y))) (vZ K C H p b m L y))
   + (lf*tcs (n y)+(sl L (fun x=>min (lf*((2 ^ b x y-1)*2 ^ n y)) (teta (b x y)*lamZ K C H p b m L x y))
    + m y*min (lf*2 ^ n y) (nvX K C H p y)))
   + (lf*teta (n y)+m y*nvX K C H p y))
 + (j-sl L m)*(2*lf)
end
theorem boundY_Z{K C H:Nat}{p:Nat→Nat}{b:Nat→Nat→Nat}{L:List Nat}(hL:L.Nodup)(h7:∀z∈L,z<7)(lf j:Nat) :
  boundY K C H p b L lf j=boundZ K C H p b (mY b L) (nY p b L) L lf j:=by
 have e:lamX K C H p b=lamZ K C H p b (mY b L) L:=by
  funext x y;unfold lamX lamZ;rw[sm_split hL h7];rfl
 unfold boundY boundZ vY vZ;rw[e]
theorem boundZ_map{K C H h:Nat}{p p':Nat→Nat}{b b':Nat→Nat→Nat}{m n m' n':Nat→Nat}{g:Nat→Nat}{k:Nat}(hg:∀i,i<k→(g i=H↔i=h))
  (hp:∀i,i<k→p (g i)=p' i) (hb:∀x,x<k→∀y,y<k→b (g x) (g y)=b' x y) (hm:∀i,i<k→m (g i)=m' i) (hn:∀i,i<k→n (g i)=n' i) (lf j:Nat) :
  boundZ K C H p b m n ((List.range k).map g) lf j=boundZ K C h p' b' m' n' (List.range k) lf j:=by
 have es:∀f:Nat→Nat,sl ((List.range k).map g) f=sl (List.range k) fun i=>f (g i):=fun f=>by
  unfold sl;rw[List.map_map];rfl
 have ec:∀{f f':Nat→Nat},(∀i,i<k→f i=f' i)→sl (List.range k) f=sl (List.range k) f':=fun {f f'} h=>by
  unfold sl;congr 1;exact List.map_congr_left fun i hi=>h i (List.mem_range.1 hi)
 have nv:∀i,i<k→nvX K C H p (g i)=nvX K C h p' i:=fun i hi=>by
  unfold nvX;rw[hp i hi];by_cases e:i=h
  ·rw[if_pos e,if_pos ((hg i hi).2 e)]
  ·rw[if_neg e,if_neg fun e2=>e ((hg i hi).1 e2)]
 have ne1:∀i,i<k→ne1X K C H p (g i)=ne1X K C h p' i:=fun i hi=>by
  unfold ne1X;rw[hp i hi];by_cases e:i=h
  ·rw[if_pos e,if_pos ((hg i hi).2 e)]
  ·rw[if_neg e,if_neg fun e2=>e ((hg i hi).1 e2)]
 have nv2:∀i,i<k→∀z,z<k→nv2X K C H b (g i) (g z)=nv2X K C h b' i z:=fun i hi z hz=>by
  unfold nv2X;rw[hb i hi z hz];by_cases e:i=h
  ·rw[if_pos e,if_pos ((hg i hi).2 e)]
  ·rw[if_neg e,if_neg fun e2=>e ((hg i hi).1 e2)]
 have lam:∀x,x<k→∀y,y<k→lamZ K C H p b m ((List.range k).map g) (g x) (g y)=lamZ K C h p' b' m' (List.range k) x y:=fun x hx y hy=>by
  unfold lamZ;rw[nv y hy,es,hp x hx,hb x hx y hy,hm x hx,ec fun w hw=>hb w hw x hx]
 unfold boundZ vZ;simp only[es];congr 1
 ·congr 1
  ·congr 1;exact ec fun i hi=>ne1 i hi
  ·refine ec fun y hy=>?_;rw[nv y hy,ne1 y hy,hm y hy,hn y hy];have e1:sl (List.range k) (fun x=>neX K (b (g x) (g y))*lamZ K C H p b m ((List.range k).map g) (g x) (g y)) =
    sl (List.range k) (fun x=>neX K (b' x y)*lamZ K C h p' b' m' (List.range k) x y):=ec fun x hx=>by rw[lam x hx y hy,hb x hx y hy]
   have e2:sl (List.range k) (fun x=>min (lf*((2 ^ b (g x) (g y)-1)*2 ^ n' y)) (teta (b (g x) (g y))*lamZ K C H p b m ((List.range k).map g) (g x) (g y))) =
    sl (List.range k) (fun x=>min (lf*((2 ^ b' x y-1)*2 ^ n' y)) (teta (b' x y)*lamZ K C h p' b' m' (List.range k) x y)):=ec fun x hx=>by rw[lam x hx y hy,hb x hx y hy]
   rw[e1,e2];congr 1;congr 1;refine ec fun z hz=>?_;rw[lam y hy z hz,nv z hz,nv2 y hy z hz,hb y hy z hz];congr 1;congr 1;congr 1;exact ec fun x hx=>by rw[lam x hx y hy,hb x hx y hy]
 ·rw[ec fun i hi=>hm i hi]
def comps:Nat→Nat→List (List Nat)
 | 0,_=>[[]]
 | k+1,n=>(List.range (n+1)).flatMap fun i=>(comps k (n-i)).map fun l=>i::l
theorem mem_comps:∀{k n:Nat} {l:List Nat},l.length=k→l.sum≤n→l∈comps k n
 | 0,n,l,h,_=>by rw[List.length_eq_zero_iff.1 h];simp[comps]
 | k+1,n,i::l,h,hs=>by
  simp only[List.length_cons,List.sum_cons] at h hs;unfold comps;rw[List.mem_flatMap];exact⟨i,List.mem_range.2 zo,List.mem_map.2 ⟨l,mem_comps zo zo,rfl⟩⟩
def bget(l:List Nat)(i:Nat):Nat:=l.getD i 0
def get2(l:List (List Nat))(i j:Nat):Nat:=(l.getD i []).getD j 0
def val(K C h:Nat)(ps:List Nat)(bm:List (List Nat))(ms:List Nat)(lf j:Nat):Nat:=
 boundZ K C h (bget ps) (get2 bm) (bget ms) (fun x=>bget ps x-(bm.getD x []).sum) (List.range ps.length) lf j
def mats(k:Nat):List Nat→List (List (List Nat))
 | []=>[[]]
 | q::qs=>(comps k q).flatMap fun r=>(mats k qs).map fun l=>r::l
theorem mem_mats{k:Nat}:∀{qs:List Nat} {bm:List (List Nat)},bm.length=qs.length→(∀i (h:i<bm.length) (h2:i<qs.length),bm[i].length=k∧bm[i].sum≤qs[i])→bm∈mats k qs
 | [],bm,h,_=>by rw[List.length_eq_zero_iff.1 h];simp[mats]
 | q::qs,r::bm,h,hr=>by
  unfold mats;rw[List.mem_flatMap];obtain⟨h1,h2⟩:=hr 0 (by simp) (by simp);refine⟨r,mem_comps h1 h2,List.mem_map.2 ⟨bm,mem_mats (by simpa using h) (fun i a b=>?_),rfl⟩⟩;have:=hr (i+1) (by simp;omega) (by simp;omega);simpa using this
def okAll(K C:Nat)(hs:List Nat)(ps:List Nat)(lf j:Nat):Bool:=
 (mats ps.length ps).all fun bm=>(comps ps.length j).all fun ms=>hs.all fun h=>Nat.ble (val K C h ps bm ms lf j) 398
def okHd(K C:Nat)(hs:List Nat)(q:Nat)(qs:List Nat)(lf j i:Nat):Bool:=
 (comps qs.length (q-i)).all fun r=>(mats (qs.length+1) qs).all fun l=>(comps (qs.length+1) j).all fun ms=>hs.all fun h=>Nat.ble (val K C h (q::qs) ((i::r)::l) ms lf j) 398
theorem okAll_hd{K C:Nat}{hs:List Nat}{q:Nat}{qs:List Nat}{lf j:Nat}(h:∀i,i<q+1→okHd K C hs q qs lf j i=true):okAll K C hs (q::qs) lf j=true:=by
 unfold okAll;rw[List.all_eq_true];intro bm hb;unfold mats at hb;rw[List.mem_flatMap] at hb;obtain⟨r,hr,hb⟩:=hb;obtain⟨l,hl,rfl⟩:=List.mem_map.1 hb;replace hr:r∈(List.range (q+1)).flatMap fun i=>(comps qs.length (q-i)).map fun l=>i::l:=hr;rw[List.mem_flatMap] at hr;obtain⟨i,hi,hr⟩:=hr;obtain⟨r0,hr0,rfl⟩:=List.mem_map.1 hr;have:=h i (List.mem_range.1 hi);unfold okHd at this;rw[List.all_eq_true] at this;have:=this r0 hr0;rw[List.all_eq_true] at this;exact this l hl
theorem shapes{K C H:Nat}{p:Nat→Nat}{b:Nat→Nat→Nat}{t:Nat→Nat→Nat→Nat}{L:List Nat}{lf:Nat}(c:Cnt p b t L lf)(hK:K≤12)
  {hs:List Nat} {h:Nat} (hh:h∈hs) (hH:∀i (hi:i<L.length),L[i]=H↔i=h) (hok:okAll K C hs (L.map p) lf (sl (brest L) p)=true):boundX K C H p b t≤398:=by
 refine Nat.le_trans (c.boundY_le hK) ?_;rw[boundY_Z c.nod c.lt];let k:=L.length;let g:Nat→Nat:=fun i=>L.getD i 0;have hL:(List.range k).map g=L:=by
  apply List.ext_getElem
  ·simp[k]
  ·intro i h1 h2;simp[g,List.getElem_map,List.getD_eq_getElem?_getD,h2]
 have hgi:∀i (hi:i<k),g i=L[i]:=fun i hi=>by simp[g,List.getD_eq_getElem?_getD,show i<L.length from hi]
 let bm:=L.map fun x=>L.map (b x);let ms:=L.map (mY b L);have e:=boundZ_map (K:=K) (C:=C) (H:=H) (h:=h) (p:=p) (p':=bget (L.map p)) (b:=b) (b':=get2 bm) (m:=mY b L) (m':=bget ms) (n:=nY p b L)
  (n':=fun x=>bget (L.map p) x-(bm.getD x []).sum) (g:=g) (k:=k) (fun i hi=>by rw[hgi i hi];exact hH i hi)
  (fun i hi=>by rw[hgi i hi];simp[bget,List.getD_eq_getElem?_getD,show i<L.length from hi])
  (fun x hx y hy=>by rw[hgi x hx,hgi y hy];simp[get2,bm,List.getD_eq_getElem?_getD,show x<L.length from hx,show y<L.length from hy])
  (fun i hi=>by rw[hgi i hi];simp[bget,ms,List.getD_eq_getElem?_getD,show i<L.length from hi])
  (fun i hi=>by rw[hgi i hi];simp[bget,bm,nY,sl,List.getD_eq_getElem?_getD,show i<L.length from hi]) lf (sl (brest L) p)
 rw[hL] at e;rw[e];unfold okAll at hok;rw[List.all_eq_true] at hok
 have h1:=hok bm (mem_mats (by simp[bm]) (fun i a a2=>by
  have hi:i<L.length:=by simpa [bm] using a
  simp only[bm,List.getElem_map,List.length_map];refine⟨trivial,?_⟩;have:=c.row L[i];rw[c.spl] at this;exact Nat.le_trans (Nat.le_add_right _ _) this))
 rw[List.all_eq_true] at h1
 have h2:=h1 ms (mem_comps (by simp[ms]) (by
  have:=c.among;have e3:sl (brest L) (fun y=>sm (b y))≤sl (brest L) p:=sl_le fun y _=>c.row y;have e4:sl L (mY b L)≤sl (brest L) fun y=>sm (b y):=by
   have:sl L (mY b L)=sl (brest L) fun y=>sl L (b y):=by
    unfold mY;rw[sl_swap]
   rw[this];exact sl_le fun y _=>by rw[c.spl];omega
  exact Nat.le_trans e4 e3))
 rw[List.all_eq_true] at h2;have h3:=Nat.le_of_ble_eq_true (h2 h hh);unfold val at h3;simp only[List.length_map] at h3;exact h3
end Bd
set_option linter.unusedVariables false
namespace Bd
theorem s4:∀j,j<5→okAll 12 16 [9] [4] 2 j=true:=by decide +kernel
theorem s5:∀j,j<4→okAll 12 16 [9] [5] 2 j=true:=by decide +kernel
theorem s6:∀j,j<3→okAll 12 16 [9] [6] 2 j=true:=by decide +kernel
theorem s42:∀j,j<3→okAll 12 16 [9] [4,2] 2 j=true:=by decide +kernel
theorem s52:∀j,j<2→okAll 12 16 [9] [5,2] 2 j=true:=by decide +kernel
theorem s62:okAll 12 16 [9] [6,2] 1 0=true:=by decide +kernel
theorem s71:okAll 12 16 [9] [7,1] 1 0=true:=by decide +kernel
theorem s7:okAll 12 16 [9] [7] 1 0=true:=by decide +kernel
theorem s43:okAll 12 2 [0,1] [4,3] 1 0=true∧okAll 10 4 [0,1] [4,3] 1 0=true∧okAll 9 8 [0,1] [4,3] 1 0=true:=by decide +kernel
theorem s8:okAll 12 2 [0] [8] 1 0=true∧okAll 10 4 [0] [8] 1 0=true∧okAll 9 8 [0] [8] 1 0=true:=by decide +kernel
theorem s44:okAll 12 2 [0,1] [4,4] 1 0=true∧okAll 10 4 [0,1] [4,4] 1 0=true∧okAll 9 8 [0,1] [4,4] 1 0=true:=by decide +kernel
theorem s53:okAll 12 2 [0,1] [5,3] 1 0=true∧okAll 10 4 [0,1] [5,3] 1 0=true∧okAll 9 8 [0,1] [5,3] 1 0=true:=by decide +kernel
end Bd
set_option linter.unusedVariables false
namespace Bd
theorem pow4(n:Nat):2 ^ min 4 n≤16:=by
 have:2 ^ min 4 n≤2 ^ 4:=Nat.pow_le_pow_right zo zo;simpa using this
theorem boundX_head{K H H':Nat}{p:Nat→Nat}{b:Nat→Nat→Nat}{t:Nat→Nat→Nat→Nat}:boundX K 16 H p b t=boundX K 16 H' p b t:=by
 have e1:∀H,nvX K 16 H p=fun z=>min (2 ^ min 4 (p z)) K:=fun H=>by
  funext z;have:=pow4 (p z);unfold nvX;split<;>omega
 have e2:∀H,ne1X K 16 H p=fun z=>neX K (p z):=fun H=>by
  funext z;have:=pow4 (p z);unfold ne1X neX;split<;>omega
 have e3:∀H,nv2X K 16 H b=fun y z=>min (2 ^ min 4 (b y z)) K:=fun H=>by
  funext y z;have:=pow4 (b y z);unfold nv2X;split<;>omega
 unfold boundX a3X vX lamX;simp only[e1,e2,e3]
theorem shapes16{K H:Nat}{p:Nat→Nat}{b:Nat→Nat→Nat}{t:Nat→Nat→Nat→Nat}{L:List Nat}{lf:Nat}(c:Cnt p b t L lf)(hK:K≤12)
  (hok:okAll K 16 [9] (L.map p) lf (sl (brest L) p)=true):boundX K 16 H p b t≤398:=by
 rw[boundX_head (H':=7)];have hl:L.length≤7:=by
  have h:=List.Nodup.length_le_of_subset c.nod (l₂:=List.range 7) fun z hz=>List.mem_range.2 (c.lt z hz);simpa using h
 refine shapes c hK (h:=9) (by simp) (fun i hi=>?_) hok;have:=c.lt _ (List.getElem_mem hi);constructor
 ·intro e;omega
 ·intro e;omega
end Bd
set_option linter.unusedVariables false
namespace Bd
theorem s422_0:okHd 12 16 [9] 4 [2,2] 1 0 0=true:=by decide +kernel
theorem s422_1:okHd 12 16 [9] 4 [2,2] 1 0 1=true:=by decide +kernel
theorem s422_2:okHd 12 16 [9] 4 [2,2] 1 0 2=true:=by decide +kernel
theorem s422_3:okHd 12 16 [9] 4 [2,2] 1 0 3=true:=by decide +kernel
theorem s422_4:okHd 12 16 [9] 4 [2,2] 1 0 4=true:=by decide +kernel
theorem s422:okAll 12 16 [9] [4,2,2] 1 0=true:=okAll_hd fun i hi=>match i,hi with
 | 0,_=>s422_0
 | 1,_=>s422_1
 | 2,_=>s422_2
 | 3,_=>s422_3
 | 4,_=>s422_4
 | i+5,h=>absurd h zo
end Bd
set_option linter.unusedVariables false
namespace Bd
theorem s431a_0:okHd 10 16 [9] 4 [3,1] 1 0 0=true:=by decide +kernel
theorem s431a_1:okHd 10 16 [9] 4 [3,1] 1 0 1=true:=by decide +kernel
theorem s431a_2:okHd 10 16 [9] 4 [3,1] 1 0 2=true:=by decide +kernel
theorem s431a_3:okHd 10 16 [9] 4 [3,1] 1 0 3=true:=by decide +kernel
theorem s431a_4:okHd 10 16 [9] 4 [3,1] 1 0 4=true:=by decide +kernel
theorem s431a:okAll 10 16 [9] [4,3,1] 1 0=true:=okAll_hd fun i hi=>match i,hi with
 | 0,_=>s431a_0
 | 1,_=>s431a_1
 | 2,_=>s431a_2
 | 3,_=>s431a_3
 | 4,_=>s431a_4
 | i+5,h=>absurd h zo
theorem s431b_0:okHd 12 2 [0] 4 [3,1] 1 0 0=true:=by decide +kernel
theorem s431b_1:okHd 12 2 [0] 4 [3,1] 1 0 1=true:=by decide +kernel
theorem s431b_2:okHd 12 2 [0] 4 [3,1] 1 0 2=true:=by decide +kernel
theorem s431b_3:okHd 12 2 [0] 4 [3,1] 1 0 3=true:=by decide +kernel
theorem s431b_4:okHd 12 2 [0] 4 [3,1] 1 0 4=true:=by decide +kernel
theorem s431b:okAll 12 2 [0] [4,3,1] 1 0=true:=okAll_hd fun i hi=>match i,hi with
 | 0,_=>s431b_0
 | 1,_=>s431b_1
 | 2,_=>s431b_2
 | 3,_=>s431b_3
 | 4,_=>s431b_4
 | i+5,h=>absurd h zo
theorem s431c_0:okHd 12 2 [1] 4 [3,1] 1 0 0=true:=by decide +kernel
theorem s431c_1:okHd 12 2 [1] 4 [3,1] 1 0 1=true:=by decide +kernel
theorem s431c_2:okHd 12 2 [1] 4 [3,1] 1 0 2=true:=by decide +kernel
theorem s431c_3:okHd 12 2 [1] 4 [3,1] 1 0 3=true:=by decide +kernel
theorem s431c_4:okHd 12 2 [1] 4 [3,1] 1 0 4=true:=by decide +kernel
theorem s431c:okAll 12 2 [1] [4,3,1] 1 0=true:=okAll_hd fun i hi=>match i,hi with
 | 0,_=>s431c_0
 | 1,_=>s431c_1
 | 2,_=>s431c_2
 | 3,_=>s431c_3
 | 4,_=>s431c_4
 | i+5,h=>absurd h zo
end Bd
set_option linter.unusedVariables false
namespace Bd
section
variable {p:Nat→Nat}{b:Nat→Nat→Nat}{t:Nat→Nat→Nat→Nat}
structure Cn0(p:Nat→Nat)(b:Nat→Nat→Nat)(t:Nat→Nat→Nat→Nat):Prop where
 few:sm p≤8
 row:∀x,sm (b x)≤p x
 ends:∀x y,sm (t x y)≤b x y
theorem Cn0.cnt(c:Cn0 p b t){L:List Nat}(hL:L.Nodup)(h7:∀z∈L,z<7)(h1:∀z,z<7→z∉L→p z≤1):Cnt p b t L 2∧(sl (brest L) p=0→Cnt p b t L 1):=by
 have hr:∀z∈brest L,z<7∧z∉L:=fun z hz=>by
  unfold brest at hz;rw[List.mem_filter,List.mem_range] at hz;exact⟨hz.1,by simpa using hz.2⟩
 refine⟨⟨hL,h7,c.few,c.row,c.ends,fun z hz=>h1 z (hr z hz).1 (hr z hz).2,fun z hz=>?_⟩,fun h0=>⟨hL,h7,c.few,c.row,c.ends,fun z hz=>h1 z (hr z hz).1 (hr z hz).2,fun z hz=>?_⟩⟩
 ·have:=h1 z (hr z hz).1 (hr z hz).2;have h2:p z=0∨p z=1:=by omega
  rcases h2 with h2 | h2<;>rw[h2]<;>decide
 ·have:=sl_get p hz;have h2:p z=0:=by omega
  rw[h2];decide
theorem Cn0.sum(c:Cn0 p b t){L:List Nat}(hL:L.Nodup)(h7:∀z∈L,z<7):sl L p+sl (brest L) p≤8:=by
 have:=c.few;rw[sm_split hL h7] at this;exact this
theorem Cn0.plain(c:Cn0 p b t){u:Nat}(hu:u<7)(h4:4≤p u){H:Nat} :
  boundX 12 16 H p b t≤398∨(p u=8)∨(∃v,v<7∧v≠u∧3≤p v):=by
 by_cases hv:∃v,v<7∧v≠u∧2≤p v
 ·obtain⟨v,v7,vu,v2⟩:=hv;by_cases v3:3≤p v
  ·exact .inr (.inr ⟨v,v7,vu,v3⟩)
  ·have pv:p v=2:=by omega
   by_cases hw:∃w,w<7∧w≠u∧w≠v∧2≤p w
   ·obtain⟨w,w7,wu,wv,w2⟩:=hw;have nd:[u,v,w].Nodup:=by simp[Ne.symm vu,Ne.symm wu,Ne.symm wv]
    have l7:∀z∈[u,v,w],z<7:=by simp;omega
    have hs:=c.sum nd l7;simp only[sl_cons,sl_nil] at hs;have pu:p u=4:=by omega
    have pw:p w=2:=by omega
    have h0:sl (brest [u,v,w]) p=0:=by omega
    refine .inl (shapes16 ((c.cnt nd l7 fun z hz hn=>?_).2 h0) zo (by simp only[List.map_cons,List.map_nil,pu,pv,pw,h0];exact s422));have hz2:z∈brest [u,v,w]:=by unfold brest;rw[List.mem_filter,List.mem_range];exact⟨hz,by simpa using hn⟩
    have:=sl_get p hz2;omega
   ·have nd:[u,v].Nodup:=by simp[Ne.symm vu]
    have l7:∀z∈[u,v],z<7:=by simp;omega
    have hs:=c.sum nd l7;simp only[sl_cons,sl_nil] at hs;have h1:∀z,z<7→z∉[u,v]→p z≤1:=fun z hz hn=>by
     simp only[List.mem_cons,List.not_mem_nil,or_false,not_or] at hn;have:¬2≤p z:=fun h=>hw ⟨z,hz,hn.1,hn.2,h⟩;omega
    have hp:p u=4∨p u=5∨p u=6:=by omega
    rcases hp with pu | pu | pu
    ·exact .inl (shapes16 (c.cnt nd l7 h1).1 zo (by simp only[List.map_cons,List.map_nil,pu,pv];exact s42 _ zo))
    ·exact .inl (shapes16 (c.cnt nd l7 h1).1 zo (by simp only[List.map_cons,List.map_nil,pu,pv];exact s52 _ zo))
    ·have h0:sl (brest [u,v]) p=0:=by omega
     exact .inl (shapes16 ((c.cnt nd l7 h1).2 h0) zo (by simp only[List.map_cons,List.map_nil,pu,pv,h0];exact s62))
 ·have nd:[u].Nodup:=by simp
  have l7:∀z∈[u],z<7:=by simp;omega
  have hs:=c.sum nd l7;simp only[sl_cons,sl_nil] at hs;have h1:∀z,z<7→z∉[u]→p z≤1:=fun z hz hn=>by
   simp only[List.mem_cons,List.not_mem_nil,or_false] at hn;have:¬2≤p z:=fun h=>hv ⟨z,hz,hn,h⟩;omega
  have hp:p u=4∨p u=5∨p u=6∨p u=7∨p u=8:=by omega
  rcases hp with pu | pu | pu | pu | pu
  ·exact .inl (shapes16 (c.cnt nd l7 h1).1 zo (by simp only[List.map_cons,List.map_nil,pu];exact s4 _ zo))
  ·exact .inl (shapes16 (c.cnt nd l7 h1).1 zo (by simp only[List.map_cons,List.map_nil,pu];exact s5 _ zo))
  ·exact .inl (shapes16 (c.cnt nd l7 h1).1 zo (by simp only[List.map_cons,List.map_nil,pu];exact s6 _ zo))
  ·by_cases hw:∃w,w<7∧w≠u∧1≤p w
   ·obtain⟨w,w7,wu,w1⟩:=hw;have nd:[u,w].Nodup:=by simp[Ne.symm wu]
    have l7:∀z∈[u,w],z<7:=by simp;omega
    have hs:=c.sum nd l7;simp only[sl_cons,sl_nil] at hs;have pw:p w=1:=by omega
    have h0:sl (brest [u,w]) p=0:=by omega
    have h2:∀z,z<7→z∉[u,w]→p z≤1:=fun z hz hn=>h1 z hz (by simp only[List.mem_cons,List.not_mem_nil,or_false,not_or] at hn ⊢;exact hn.1);exact .inl (shapes16 ((c.cnt nd l7 h2).2 h0) zo (by simp only[List.map_cons,List.map_nil,pu,pw,h0];exact s71))
   ·have h0:sl (brest [u]) p=0:=by
     have e:sl (brest [u]) p≤sl (brest [u]) fun _=>0:=sl_le fun z hz=>by
      have h7:=brest_lt hz;unfold brest at hz;rw[List.mem_filter] at hz;have hn:z≠u:=by simpa using hz.2
      have:¬1≤p z:=fun h=>hw ⟨z,h7,hn,h⟩;omega
     have e2:sl (brest [u]) (fun _=>0)=0:=by
      have:=sl_mul (brest [u]) (fun _=>1) 0;simpa using this
     omega
    exact .inl (shapes16 ((c.cnt nd l7 h1).2 h0) zo (by simp only[List.map_cons,List.map_nil,pu,h0];exact s7))
  ·exact .inr (.inl pu)
end
end Bd
set_option linter.unusedVariables false
namespace Bd
section
variable {p:Nat→Nat}{b:Nat→Nat→Nat}{t:Nat→Nat→Nat→Nat}
theorem head_in{L:List Nat}{H:Nat}(hL:L.Nodup){h:Nat}(hh:h<L.length)(e:L[h]=H):∀i (hi:i<L.length),L[i]=H↔i=h:=by
 intro i hi;constructor
 ·intro e2;exact(List.getElem_inj hL).1 (e2.trans e.symm)
 ·rintro rfl;exact e
theorem Cn0.heads(c:Cn0 p b t){u:Nat}(hu:u<7)(h4:4≤p u){H:Nat}(hH:H<7)(pH:1≤p H){K C:Nat}(hKC:(K,C)=(12,2)∨(K,C)=(10,4)∨(K,C)=(9,8))
  (h8:p u=8∨∃v,v<7∧v≠u∧3≤p v∧sl (brest [u,v]) p=0):boundX K C H p b t≤398:=by
 have hK:K≤12:=by
  rcases hKC with h | h | h<;>simp only[Prod.mk.injEq] at h<;>omega
 rcases h8 with pu | ⟨v,v7,vu,v3,h0⟩
 ·have nd:[u].Nodup:=by simp
  have l7:∀z∈[u],z<7:=by simp;omega
  have hs:=c.sum nd l7;simp only[sl_cons,sl_nil] at hs;have h0:sl (brest [u]) p=0:=by omega
  have hz:∀z,z<7→z∉[u]→p z=0:=fun z hz hn=>by
   have hz2:z∈brest [u]:=by unfold brest;rw[List.mem_filter,List.mem_range];exact⟨hz,by simpa using hn⟩
   have:=sl_get p hz2;omega
  have eH:H=u:=by
   by_cases e:H=u
   ·exact e
   ·have:=hz H hH (by simpa using e);omega
  refine shapes ((c.cnt nd l7 fun z h1 h2=>by rw[hz z h1 h2];omega).2 h0) hK (hs:=[0]) (h:=0) (by simp) (head_in nd (by simp) (by simp[eH])) ?_;simp only[List.map_cons,List.map_nil,pu,h0];rcases hKC with h | h | h<;>simp only[Prod.mk.injEq] at h<;>obtain⟨rfl,rfl⟩:=h
  ·exact s8.1
  ·exact s8.2.1
  ·exact s8.2.2
 ·have nd:[u,v].Nodup:=by simp[Ne.symm vu]
  have l7:∀z∈[u,v],z<7:=by simp;omega
  have hs:=c.sum nd l7;simp only[sl_cons,sl_nil] at hs;have hget:∀z,z<7→z∉[u,v]→p z=0:=fun z hz hn=>by
   have hz2:z∈brest [u,v]:=by unfold brest;rw[List.mem_filter,List.mem_range];exact⟨hz,by simpa using hn⟩
   have:=sl_get p hz2;omega
  have hc:=(c.cnt nd l7 fun z h1 h2=>by have:=hget z h1 h2;omega).2 h0;have hin:H=u∨H=v:=by
   by_cases e:H=u
   ·exact .inl e
   ·by_cases e2:H=v
    ·exact .inr e2
    ·have:=hget H hH (by simp[e,e2]);omega
  have hidx:∃h,h∈[0,1]∧∀i (hi:i<[u,v].length),[u,v][i]=H↔i=h:=by
   rcases hin with e | e
   ·exact⟨0,by simp,head_in nd (by simp) (by simp[e])⟩
   ·exact⟨1,by simp,head_in nd (by simp) (by simp[e])⟩
  obtain⟨h,hm,hi⟩:=hidx;refine shapes hc hK (hs:=[0,1]) hm hi ?_;have hp:(p u=4∧p v=3)∨(p u=4∧p v=4)∨(p u=5∧p v=3):=by omega
  rcases hp with ⟨pu,pv⟩ | ⟨pu,pv⟩ | ⟨pu,pv⟩<;>simp only[List.map_cons,List.map_nil,pu,pv,h0]<;>
   rcases hKC with h | h | h<;>simp only[Prod.mk.injEq] at h<;>obtain⟨rfl,rfl⟩:=h
  ·exact s43.1
  ·exact s43.2.1
  ·exact s43.2.2
  ·exact s44.1
  ·exact s44.2.1
  ·exact s44.2.2
  ·exact s53.1
  ·exact s53.2.1
  ·exact s53.2.2
theorem Cn0.three(c:Cn0 p b t){u v w:Nat}(hu:u<7)(hv:v<7)(hw:w<7)(huv:u≠v)(huw:u≠w)(hvw:v≠w)(pu:p u=4)(pv:p v=3)(pw:p w=1){H:Nat} :
  boundX 10 16 H p b t≤398∧((H=u∨H=v)→boundX 12 2 H p b t≤398):=by
 have nd3:[u,v,w].Nodup:=by simp[huv,huw,hvw]
 have l73:∀z∈[u,v,w],z<7:=by simp;omega
 have hs3:=c.sum nd3 l73;simp only[sl_cons,sl_nil] at hs3;have h03:sl (brest [u,v,w]) p=0:=by omega
 have hc:=(c.cnt nd3 l73 fun z h1 h2=>by
  have hz2:z∈brest [u,v,w]:=by unfold brest;rw[List.mem_filter,List.mem_range];exact⟨h1,by simpa using h2⟩
  have:=sl_get p hz2;omega).2 h03
 refine⟨shapes16 hc zo (by simp only[List.map_cons,List.map_nil,pu,pv,pw,h03];exact s431a),fun hin=>?_⟩;rcases hin with e | e
 ·exact shapes hc zo (hs:=[0]) (h:=0) (by simp) (head_in nd3 (by simp) (by simp[e])) (by simp only[List.map_cons,List.map_nil,pu,pv,pw,h03];exact s431b)
 ·exact shapes hc zo (hs:=[1]) (h:=1) (by simp) (head_in nd3 (by simp) (by simp[e])) (by simp only[List.map_cons,List.map_nil,pu,pv,pw,h03];exact s431c)
end
end Bd
set_option linter.unusedVariables false
namespace Bd
section
variable {R:List Ru}{s0:Nat}{ws:List (List Nat)}
theorem bGood.partX(G:bGood R s0 ws){M:Nat}(hM:M<4)(he:1≤(Pr R M).length){u:Nat}(hu:u<7)(h4:4≤(Lf R [u]).length)
  (hx:∀v,v<7→v≠u→cn R [u]=4→cn R [v]=3→cn R [3+M]=1→(Pr R M).length=1→3+M≠u→3+M≠v→
   Bd.boundX 12 2 (3+M) (fun z=>cn R [z]) (fun y z=>cn R [y,z]) (fun x y z=>cn R [x,y,z])≤398):ws.length≤398:=by
 have c:Cn0 (fun z=>cn R [z]) (fun y z=>cn R [y,z]) (fun x y z=>cn R [x,y,z]):=
  ⟨Nat.le_trans (cn_sum R []) (cn_le G.ok []),fun x=>cn_sum R [x],fun x y=>cn_sum R [x,y]⟩
 have hp:4≤cn R [u]:=Nat.le_trans h4 (Lf_le R [u]);have ho:=ot_len (R:=R) hM;have pH:1≤cn R [3+M]:=by
  have h1:(Pr R M).length≤(Lf R [3+M]).length:=List.length_filter_le _ _;have:=Lf_le R [3+M];omega
 have hcases:(Pr R M).length=1∧(Ot R M).length=2∨(Pr R M).length=2∧(Ot R M).length=1∨(Pr R M).length=3∧(Ot R M).length=0:=by omega
 have fin:∀{K C:Nat},(K,C)=(12,2)∨(K,C)=(10,4)∨(K,C)=(9,8)→True:=fun _=>trivial;obtain⟨K,C,hKC,hK,hC⟩:∃K C,((K,C)=(12,2)∨(K,C)=(10,4)∨(K,C)=(9,8))∧8+2 ^ (Ot R M).length≤K∧2 ^ (Pr R M).length≤C:=by
  rcases hcases with ⟨a,b⟩ | ⟨a,b⟩ | ⟨a,b⟩<;>rw[a,b]
  ·exact⟨12,2,.inl rfl,by decide,by decide⟩
  ·exact⟨10,4,.inr (.inl rfl),by decide,by decide⟩
  ·exact⟨9,8,.inr (.inr rfl),by decide,by decide⟩
 rcases c.plain hu hp (H:=3+M) with h | h | ⟨v,v7,vu,v3⟩
 ·refine Nat.le_trans (G.boundX hM (K:=12) (C:=16) ?_ ?_) h
  ·rcases hcases with ⟨a,b⟩ | ⟨a,b⟩ | ⟨a,b⟩<;>rw[b]<;>decide
  ·rcases hcases with ⟨a,b⟩ | ⟨a,b⟩ | ⟨a,b⟩<;>rw[a]<;>decide
 ·exact Nat.le_trans (G.boundX hM hK hC) (c.heads hu hp zo pH hKC (.inl h))
 ·by_cases h0:sl (brest [u,v]) (fun z=>cn R [z])=0
  ·exact Nat.le_trans (G.boundX hM hK hC) (c.heads hu hp zo pH hKC (.inr ⟨v,v7,vu,v3,h0⟩))
  ·have nd:[u,v].Nodup:=by simp[Ne.symm vu]
   have l7:∀z∈[u,v],z<7:=by simp;omega
   have hs:=c.sum nd l7;simp only[sl_cons,sl_nil] at hs;have hget:∀z,z<7→z∉[u,v]→cn R [z]≤sl (brest [u,v]) fun z=>cn R [z]:=fun z hz hn=>by
    have hz2:z∈brest [u,v]:=by unfold brest;rw[List.mem_filter,List.mem_range];exact⟨hz,by simpa using hn⟩
    exact sl_get (fun z=>cn R [z]) hz2
   have pu:cn R [u]=4:=by omega
   have pv:cn R [v]=3:=by omega
   obtain⟨w,w7,wn,w1⟩:∃w,w<7∧w∉[u,v]∧cn R [w]=1:=by
    apply Classical.byContradiction;intro hno;apply h0;have e:sl (brest [u,v]) (fun z=>cn R [z])≤sl (brest [u,v]) fun _=>0:=sl_le fun z hz=>by
     have z7:=brest_lt hz;have hn:z∉[u,v]:=by
      unfold brest at hz;rw[List.mem_filter] at hz;simpa using hz.2
     have h1:¬cn R [z]=1:=fun h=>hno ⟨z,z7,hn,h⟩;have:=hget z z7 hn;omega
    have e2:sl (brest [u,v]) (fun _=>0)=0:=by
     have:=sl_mul (brest [u,v]) (fun _=>1) 0;simpa using this
    omega
   simp only[List.mem_cons,List.not_mem_nil,or_false,not_or] at wn;have h3:=c.three hu v7 w7 (Ne.symm vu) (Ne.symm wn.1) (Ne.symm wn.2) pu pv w1 (H:=3+M);rcases hcases with ⟨a,b⟩ | ⟨a,b⟩ | ⟨a,b⟩
   ·by_cases hin:3+M=u∨3+M=v
    ·exact Nat.le_trans (G.boundX hM (by rw[b];decide) (by rw[a];decide)) (h3.2 hin)
    ·have hn:3+M∉[u,v]:=by simpa using hin
     have:=hget (3+M) zo hn;refine Nat.le_trans (G.boundX hM (K:=12) (C:=2) (by rw[b];decide) (by rw[a];decide)) (hx v v7 vu pu pv zo a (fun e=>hin (.inl e)) fun e=>hin (.inr e))
   ·exact Nat.le_trans (G.boundX hM (K:=10) (C:=16) (by rw[b];decide) (by rw[a];decide)) h3.1
   ·exact Nat.le_trans (G.boundX hM (K:=10) (C:=16) (by rw[b];decide) (by rw[a];decide)) h3.1
end
end Bd
set_option linter.unusedVariables false
namespace Bd
section
variable {R:List Ru}{s0:Nat}{ws:List (List Nat)}
theorem even_pd(ok:Okr R)(h:nnT R+rT R=0){w:List Nat}{m:Nat}(hp:Pd R s0 w m):w.length % 2=0:=by
 induction hp with
 | start=>rfl
 | @one z m w l r hr e hp ih=>
  exfalso;have hz:=ok.sym r hr z (by rw[e];simp);have hm:=ok.sym r hr (3+m) (by rw[e];simp);by_cases hz3:z<3
  ·have h1:=cn_pos (p:=[z,3+m]) hr (by rw[e];rfl);have h2:=Nat.le_trans (u4_get (fun M=>cn R [z,3+M]) (show m<4 by omega)) (nT_le R z);have h3:=u3_get (nT R) hz3;unfold nnT at h;omega
  ·have h1:=cn_pos (p:=[z]) hr (by rw[e];rfl);have h2:=Nat.le_trans (u4_get (fun M=>cn R [3+M]) (show z-3<4 by omega)) (rT_le ok);rw[show 3+(z-3)=z by omega] at h2;omega
 | two hr e hp ih=>simp only[List.length_cons];omega
 | clo hp hr e ih=>exact ih
theorem codF_none{Q:List Nat→Prop}{φ:List Nat→List Nat}(L:List Nat)(h:∀u,Q u→∀n,¬Pd R s0 (φ u) n):CodF R s0 Q φ L 1:=
 ⟨fun _=>0,fun _ _=>Nat.one_pos,fun u v hu hv _ n _=>⟨fun k=>absurd k (h u hu n),fun k=>absurd k (h v hv n)⟩⟩
theorem pow15{l c:Nat}(h4:l≤4)(hc:l≤c):2 ^ l-1≤c*15:=by
 have:l=0∨l=1∨l=2∨l=3∨l=4:=by omega
 rcases this with rfl | rfl | rfl | rfl | rfl<;>simp<;>omega
theorem bGood.even(G:bGood R s0 ws)(h:nnT R+rT R=0):ws.length≤398:=by
 have hs:=split_all G.ok G.live;rw[sum_allC] at hs;have c8:sm (fun z=>cn R [z])≤8:=Nat.le_trans (cn_sum R []) (cn_le G.ok []);have a1:sm (fun z=>(inC R s0 ws [z]).length)≤8*15:=by
  refine Nat.le_trans (sm_le fun z _=>Nat.le_trans (G.n1 (codE_pow fun w h=>h.2)) (pow15 (Lf_le4 R [z]) (Lf_le R [z]))) ?_;rw[sm_mul];exact Nat.mul_le_mul_right _ c8
 have a2:sm (fun y=>sm fun z=>(inC R s0 ws [z,y]).length)≤8*15:=by
  have e:∀y,sm (fun z=>(inC R s0 ws [z,y]).length)≤cn R [y]*15:=fun y=>by
   refine Nat.le_trans (sm_le (g:=fun z=>cn R [y,z]*15) fun z _=>?_) ?_
   ·have k:=G.c2 (z:=z) (y:=y) (codF_ne fun u h=>h.ne G.ok) (codF_none (φ:=fun u=>y::u) (Lf R [z]) fun u hu n hn=>by
     obtain⟨m,_,hm⟩:=hu.ne G.ok;have e1:=even_pd G.ok h hm;have e2:=even_pd G.ok h hn;simp only[List.length_cons] at e2;omega)
    rw[Nat.mul_one] at k;exact Nat.le_trans k (pow15 (Lf_le4 R [y,z]) (Lf_le R [y,z]))
   ·rw[sm_mul];exact Nat.mul_le_mul_right _ (cn_sum R [y])
  refine Nat.le_trans (sm_le fun y _=>e y) ?_;rw[sm_mul];exact Nat.mul_le_mul_right _ c8
 have a3:sm (fun x=>sm fun y=>sm fun z=>(inC R s0 ws [z,y,x]).length)≤8*8:=by
  have e:∀x y,sm (fun z=>(inC R s0 ws [z,y,x]).length)≤cn R [x,y]*8:=fun x y=>by
   refine Nat.le_trans (sm_le (g:=fun z=>cn R [x,y,z]*8) fun z _=>?_) ?_
   ·have k:=G.c3h (z:=z) (y:=y) (x:=x) (codF_meet (Lf_nodup [x,y,z]) (Lf_nodup [x,y]) (fun n hn=>Lf_sub (p:=[x,y]) (q:=[z]) hn) fun u h=>h.ne G.ok)
     (codF_none (φ:=fun u=>x::u) (Lf R [y]) fun u hu n hn=>by
      obtain⟨m,_,hm⟩:=hu.ne G.ok;have e1:=even_pd G.ok h hm;have e2:=even_pd G.ok h hn;simp only[List.length_cons] at e2;omega)
    rw[Nat.mul_one] at k;have hm:(Lf R [x,y,z]).length≤(Lf R [x,y]).length:=Lf_mono R [x,y] [z];have b4:=Lf_le4 R [x,y];refine Nat.le_trans k (Nat.le_trans (half (Lf R [x,y]).length zo (Lf R [x,y,z]).length zo hm) ?_);rw[Nat.mul_comm];refine Nat.mul_le_mul (Lf_le R _) ?_;have:2 ^ ((Lf R [x,y]).length-1)≤2 ^ 3:=pow_le zo;simpa using this
   ·rw[sm_mul];exact Nat.mul_le_mul_right _ (cn_sum R [x,y])
  have e2:∀x,sm (fun y=>sm fun z=>(inC R s0 ws [z,y,x]).length)≤cn R [x]*8:=fun x=>by
   refine Nat.le_trans (sm_le fun y _=>e x y) ?_;rw[sm_mul];exact Nat.mul_le_mul_right _ (cn_sum R [x])
  refine Nat.le_trans (sm_le fun x _=>e2 x) ?_;rw[sm_mul];exact Nat.mul_le_mul_right _ c8
 omega
theorem bGood.le398(G:bGood R s0 ws):ws.length≤398:=by
 by_cases h3:∀z,(Lf R [z]).length≤3
 ·have:=partI G h3;omega
 ·obtain⟨u,hu⟩:=Classical.not_forall.1 h3;have h4:4≤(Lf R [u]).length:=by omega
  have hu7:u<7:=by
   obtain⟨n,hn⟩:=List.exists_mem_of_length_pos (show 0<(Lf R [u]).length by omega);unfold Lf at hn;rw[List.mem_filter,List.any_eq_true] at hn;obtain⟨_,r,hr,e⟩:=hn;simp only[Bool.and_eq_true,List.isPrefixOf_iff_prefix] at e;obtain⟨_,l,e⟩:=e;exact G.ok.sym r hr u (by rw[←e];simp)
  have c4:=Nat.le_trans h4 (Lf_le R [u]);by_cases hE:∀M,M<4→(Lf R [3+M]).length≤1
  ·have hu3:u<3:=by
    apply Classical.byContradiction;intro h;have:=hE (u-3) zo;rw[show 3+(u-3)=u by omega] at this;omega
   by_cases hn:nnT R+rT R=0
   ·exact G.even hn
   ·have:∃b c,b<3∧c<3∧(∀f:Nat→Nat,u3 f=f u+f b+f c)∧cn R [c]≤cn R [b]:=by
     have:u=0∨u=1∨u=2:=by omega
     rcases this with rfl | rfl | rfl
     ·rcases Nat.le_total (cn R [1]) (cn R [2]) with h | h
      ·exact⟨2,1,by omega,by omega,fun f=>by simp only[u3];omega,h⟩
      ·exact⟨1,2,by omega,by omega,fun f=>by simp only[u3],h⟩
     ·rcases Nat.le_total (cn R [0]) (cn R [2]) with h | h
      ·exact⟨2,0,by omega,by omega,fun f=>by simp only[u3];omega,h⟩
      ·exact⟨0,2,by omega,by omega,fun f=>by simp only[u3];omega,h⟩
     ·rcases Nat.le_total (cn R [0]) (cn R [1]) with h | h
      ·exact⟨1,0,by omega,by omega,fun f=>by simp only[u3];omega,h⟩
      ·exact⟨0,1,by omega,by omega,fun f=>by simp only[u3];omega,h⟩
    obtain⟨b,c,hb,hc,h0,hbc⟩:=this;exact G.partT hE hu3 hb hc h0 c4 hbc hn
  ·obtain⟨M,hM⟩:=Classical.not_forall.1 hE;obtain⟨hM,h2⟩:=Classical.not_imp.1 hM;have c2:=Lf_le R [3+M];refine G.partX hM ?_ hu7 h4 fun v _ _ _ _ h1=>by omega
   have h1:=List.length_eq_countP_add_countP (fun n=>decide (n=M)) (l:=Lf R [3+M]);have h5:(Lf R [3+M]).countP (fun n=>decide (n=M))≤1:=by
    have:=List.nodup_iff_count.1 (Lf_nodup (R:=R) [3+M]) M;rw[List.count_eq_countP] at this;refine Nat.le_trans (List.countP_mono_left fun x _ h=>?_) this;simpa using h
   unfold Pr;rw[←List.countP_eq_length_filter];have h6:(Lf R [3+M]).countP (fun a=>decide ¬(decide (a=M))=true)=(Lf R [3+M]).countP fun n=>decide (n≠M):=by
    congr 1;funext a;simp
   rw[h6] at h1;omega
end
end Bd
set_option linter.unusedVariables false
set_option maxRecDepth 20000
set_option maxHeartbeats 0
open Go Go.Abs Go.Proofs Go.Proofs.D
namespace Go.Proofs.D
def codeS(y:Sym):Nat:=if y.term=true then y.n else 3+y.n
def ruB(g:Gram):List Bd.Ru:=g.rules.map fun r=>(r.left,r.right.map codeS)
theorem codeS_inj{g:Gram}(ht:g.terms≤3){x y:Sym}(hx:SymOk g.terms g.nons x)(hy:SymOk g.terms g.nons y)(h:codeS x=codeS y):x=y:=by
 obtain⟨a,n⟩:=x;obtain⟨b,m⟩:=y;unfold SymOk at hx hy;unfold codeS at h;cases a<;>cases b<;>simp at h hx hy ⊢<;>omega
theorem Small.okr{g:Gram}(h:Small g):Bd.Okr (ruB g):=by
 refine⟨fun r hr=>?_,fun r hr s hs=>?_,fun r hr=>?_,?_⟩
 ·obtain⟨q,hq,rfl⟩:=List.mem_map.1 hr;have:=(h.ok q hq).1;have:=h.nons.2;show q.left<4;omega
 ·obtain⟨q,hq,rfl⟩:=List.mem_map.1 hr;obtain⟨y,hy,rfl⟩:=List.mem_map.1 hs;have h1:=(h.ok q hq).2.2 y hy;have:=h.nons.2;have:=h.terms.2;unfold SymOk at h1;unfold codeS;split at h1<;>rename_i e<;>simp only[e,if_true]<;>simp<;>omega
 ·obtain⟨q,hq,rfl⟩:=List.mem_map.1 hr;have:=(h.ok q hq).2.1;show (q.right.map codeS).length≤3;rw[List.length_map];exact this
 ·unfold ruB;rw[List.length_map];exact h.rules.2
theorem Small.sym{g:Gram}(h:Small g){k:Nat}{r:Rule}(hr:g.rules[k]?=some r){d:Nat}{y:Sym}(hy:r.right[d]?=some y):SymOk g.terms g.nons y:=
 (h.ok r (gM hr)).2.2 y (gM hy)
def ItW(g:Gram)(w:List Nat)(z:Lr):Prop:=
 (z.rule=g.rules.length∧((z.dot=0∧w=[])∨(z.dot=1∧w=[3+g.start])))∨
 ∃r,g.rules[z.rule]?=some r∧z.dot≤r.right.length∧∃v,w=((r.right.take z.dot).map codeS).reverse++v∧Bd.Pd (ruB g) g.start v r.left
theorem after_rule{g:Gram}{k d:Nat}{r:Rule}(h:g.rules[k]?=some r):afterL g ⟨k,d⟩=r.right[d]?:=by
 unfold afterL;have:=(gS h).1;dsimp only;rw[if_neg zo,h]
theorem mem_ruB{g:Gram}{k:Nat}{r:Rule}(h:g.rules[k]?=some r):(r.left,r.right.map codeS)∈ruB g:=List.mem_map.2 ⟨r,gM h,rfl⟩
theorem ItW.pd{g:Gram}(hs:Small g){w:List Nat}{x:Lr}(h:ItW g w x){n:Nat}(ha:afterL g x=some ⟨false,n⟩):Bd.Pd (ruB g) g.start w n:=by
 obtain⟨k,d⟩:=x;rcases h with ⟨e,h⟩ | ⟨r,hr,hd,v,rfl,hp⟩
 ·have e:k=g.rules.length:=e;subst e;unfold afterL at ha;dsimp only at ha;rw[if_pos rfl] at ha;rcases h with ⟨e,rfl⟩ | ⟨e,_⟩
  ·have e:d=0:=e;subst e;rw[if_pos rfl] at ha;have:=(Sym.mk.inj (Option.some.inj ha)).2;subst this;exact .start
  ·have e:d=1:=e;subst e;rw[if_neg (by decide)] at ha;cases ha
 ·have hr:g.rules[k]?=some r:=hr;rw[after_rule hr] at ha;have hm:=mem_ruB hr;have h3:=(hs.ok r (gM hr)).2.1;show Bd.Pd (ruB g) g.start (((r.right.take d).map codeS).reverse++v) n;obtain⟨left,right⟩:=r;dsimp only at ha hm h3 hp ⊢
  match d,right,ha with
  | 0,y::l,ha=>
   obtain rfl:=Option.some.inj ha;show Bd.Pd (ruB g) g.start v n;exact .clo hp hm (by rfl)
  | 1,a::y::l,ha=>
   obtain rfl:=Option.some.inj ha;exact .one hm (by rfl) hp
  | 2,a::b::y::l,ha=>
   obtain rfl:=Option.some.inj ha;exact .two hm (by rfl) hp
  | d+3,a::b::c::l,ha=>
   have e:l=[]:=by
    simp only[List.length_cons] at h3;exact List.eq_nil_of_length_eq_zero zo
   subst e;simp at ha
theorem pd_item{g:Gram}(hs:Small g){w:List Nat}{l:List Lr}(hl:∀z,z∈l↔ItW g w z∧(0<z.dot∨z.rule=g.rules.length)){n:Nat}(hp:Bd.Pd (ruB g) g.start w n) :
  ∃x,Clos g l x∧afterL g x=some ⟨false,n⟩:=by
 have ht:=hs.terms.2;have inv:∀{y:Sym} {m:Nat},SymOk g.terms g.nons y→codeS y=3+m→y=⟨false,m⟩:=fun {y m} hy e=>by
  obtain⟨a,n⟩:=y;unfold SymOk at hy;unfold codeS at e;cases a<;>simp at e hy ⊢<;>omega
 induction hp with
 | start=>
  refine⟨⟨g.rules.length,0⟩,.base ((hl _).2 ⟨.inl ⟨rfl,.inl ⟨rfl,rfl⟩⟩,.inr rfl⟩),?_⟩;unfold afterL;dsimp only;rw[if_pos rfl,if_pos rfl]
 | @one z' m w' l' q hq e2 hp' _=>
  obtain⟨r',hr',rfl⟩:=List.mem_map.1 hq;obtain⟨k,hk,hk2⟩:=List.getElem_of_mem hr';have hk3:g.rules[k]?=some r':=by rw[gE hk,hk2]
  obtain⟨left,right⟩:=r'
  match right,e2 with
  | a::y::t,e2=>
   simp only[List.map_cons,List.cons.injEq] at e2;have hy:=inv (hs.sym hk3 (d:=1) rfl) e2.2.1;subst hy;refine⟨⟨k,1⟩,.base ((hl _).2 ⟨.inr ⟨_,hk3,by simp,w',?_,hp'⟩,.inl (by simp)⟩),?_⟩
   ·rw[←e2.1];simp
   ·rw[after_rule hk3];rfl
 | @two y' z' m w' l' q hq e2 hp' _=>
  obtain⟨r',hr',rfl⟩:=List.mem_map.1 hq;obtain⟨k,hk,hk2⟩:=List.getElem_of_mem hr';have hk3:g.rules[k]?=some r':=by rw[gE hk,hk2]
  obtain⟨left,right⟩:=r'
  match right,e2 with
  | a::b::y::t,e2=>
   simp only[List.map_cons,List.cons.injEq] at e2;have hy:=inv (hs.sym hk3 (d:=2) rfl) e2.2.2.1;subst hy;refine⟨⟨k,2⟩,.base ((hl _).2 ⟨.inr ⟨_,hk3,by simp,w',?_,hp'⟩,.inl (by simp)⟩),?_⟩
   ·rw[←e2.1,←e2.2.1];simp
   ·rw[after_rule hk3];rfl
 | @clo m w' l' q hp' hq e2 ih=>
  obtain⟨x,hx,hax⟩:=ih hl;obtain⟨r',hr',rfl⟩:=List.mem_map.1 hq;obtain⟨k,hk,hk2⟩:=List.getElem_of_mem hr';have hk3:g.rules[k]?=some r':=by rw[gE hk,hk2]
  refine⟨⟨k,0⟩,.more hx hax hk3 rfl,?_⟩;obtain⟨left,right⟩:=r'
  match right,e2 with
  | y::t,e2=>
   simp only[List.map_cons,List.cons.injEq] at e2;have hy:=inv (hs.sym hk3 (d:=0) rfl) e2.1;subst hy;rw[after_rule hk3];rfl
theorem closW{g:Gram}(hs:Small g){w:List Nat}{l:List Lr}(hl:∀z,z∈l↔ItW g w z∧(0<z.dot∨z.rule=g.rules.length))(z:Lr):Clos g l z↔ItW g w z:=by
 constructor
 ·intro h
  induction h with
  | base h=>exact((hl _).1 h).1
  | @more x n k r hx ha hr hn ih=>
   subst hn;exact .inr ⟨r,hr,Nat.zero_le _,w,by simp,ih.pd hs ha⟩
 ·intro h;by_cases h0:0<z.dot∨z.rule=g.rules.length
  ·exact .base ((hl z).2 ⟨h,h0⟩)
  ·rcases h with ⟨e,_⟩ | ⟨r,hr,_,v,e,hp⟩
   ·exact absurd (.inr e) h0
   ·have hd:z.dot=0:=by omega
    rw[hd] at e;simp only[List.take_zero,List.map_nil,List.reverse_nil,List.nil_append] at e;subst e;obtain⟨x,hx,ha⟩:=pd_item hs hl hp;obtain⟨k,d⟩:=z;have hd:d=0:=hd;subst hd;exact .more hx ha hr rfl
def StW(g:Gram)(w:List Nat)(st:List Lr):Prop:=Strict st∧∀z,z∈st↔ItW g w z
theorem len_none{g:Gram}{k:Nat}{r:Rule}(h:g.rules[k]?=some r):k≠g.rules.length:=by
 have:=(gS h).1;omega
theorem stW_first{g:Gram}(hs:Small g):StW g [] (firstI g):=by
 refine⟨closL_strict _ _,fun z=>?_⟩;unfold firstI;rw[mem_closL start_ok];refine closW hs (fun z=>?_) z;rw[List.mem_singleton];constructor
 ·rintro rfl;exact⟨.inl ⟨rfl,.inl ⟨rfl,rfl⟩⟩,.inr rfl⟩
 ·rintro⟨h,h0⟩;obtain⟨k,d⟩:=z;rcases h with ⟨e,⟨e2,_⟩ | ⟨_,e2⟩⟩ | ⟨r,hr,hd,v,e,hp⟩
  ·have e:k=g.rules.length:=e;have e2:d=0:=e2;rw[e,e2]
  ·cases e2
  ·have h1:=congrArg List.length e;simp only[List.length_nil,List.length_append,List.length_reverse,List.length_map,List.length_take] at h1;have hd:d≤r.right.length:=hd;rcases h0 with h0 | h0
   ·have h0:0<d:=h0;have h1:0=min d r.right.length+v.length:=h1;omega
   ·exact absurd h0 (len_none hr)
theorem stW_next{g:Gram}(hs:Small g){w:List Nat}{st:List Lr}(h:StW g w st){y:Sym}(hy:SymOk g.terms g.nons y):StW g (codeS y::w) (closL g (kern g st y)):=by
 refine⟨closL_strict _ _,fun z=>?_⟩;rw[mem_closL fun x hx=>(kern_ok x hx).1];refine closW hs (fun z=>?_) z;rw[mem_kern];constructor
 ·rintro⟨x,hx,ha,rfl⟩;refine⟨?_,.inl (Nat.succ_pos _)⟩;obtain⟨k,d⟩:=x;rcases (h.2 _).1 hx with ⟨e,h⟩ | ⟨r,hr,hd,v,e,hp⟩
  ·have e:k=g.rules.length:=e;subst e;unfold afterL at ha;dsimp only at ha;rw[if_pos rfl] at ha;rcases h with ⟨e,rfl⟩ | ⟨e,_⟩
   ·have e:d=0:=e;subst e;rw[if_pos rfl] at ha;obtain rfl:=Option.some.inj ha;exact .inl ⟨rfl,.inr ⟨rfl,rfl⟩⟩
   ·have e:d=1:=e;subst e;rw[if_neg (by decide)] at ha;cases ha
  ·have hr:g.rules[k]?=some r:=hr;rw[after_rule hr] at ha;have hlt:=(gS ha).1;refine .inr ⟨r,hr,by show d+1≤_;omega,v,?_,hp⟩;show codeS y::w=((r.right.take (d+1)).map codeS).reverse++v;rw[List.take_add_one,ha,List.map_append,List.reverse_append,e];rfl
 ·rintro⟨h1,h0⟩;obtain⟨k,d⟩:=z;rcases h1 with ⟨e,⟨_,e2⟩ | ⟨e1,e2⟩⟩ | ⟨r,hr,hd,v,e,hp⟩
  ·cases e2
  ·have e:k=g.rules.length:=e;have e1:d=1:=e1;subst e e1;simp only[List.cons.injEq] at e2;have hy2:y=⟨false,g.start⟩:=codeS_inj hs.terms.2 hy (show SymOk g.terms g.nons ⟨false,g.start⟩ from hs.start) e2.1;subst hy2;refine⟨⟨g.rules.length,0⟩,(h.2 _).2 (.inl ⟨rfl,.inl ⟨rfl,e2.2⟩⟩),?_,rfl⟩;unfold afterL;dsimp only;rw[if_pos rfl,if_pos rfl]
  ·have hr:g.rules[k]?=some r:=hr;have hd:d≤r.right.length:=hd;cases d with
   | zero=>
    rcases h0 with h0 | h0
    ·exact absurd h0 (Nat.lt_irrefl _)
    ·exact absurd h0 (len_none hr)
   | succ d=>
    have e:codeS y::w=((r.right.take (d+1)).map codeS).reverse++v:=e;obtain⟨y',hy'⟩:∃y',r.right[d]?=some y':=⟨_,gE zo⟩;rw[List.take_add_one,hy',List.map_append,List.reverse_append] at e;have e:codeS y::w=codeS y'::(((r.right.take d).map codeS).reverse++v):=e;simp only[List.cons.injEq] at e;have:=codeS_inj hs.terms.2 hy (hs.sym hr hy') e.1;subst this;exact⟨⟨k,d⟩,(h.2 _).2 (.inr ⟨r,hr,by show d≤_;omega,v,e.2,hp⟩),by rw[after_rule hr];exact hy',rfl⟩
theorem ItW.to{g:Gram}(hs:Small g){w:List Nat}{k d:Nat}{r:Rule}(hr:g.rules[k]?=some r)(h:ItW g w ⟨k,d⟩)(h0:0<d) :
  (d=1∧Bd.I1 (ruB g) g.start w (r.left,r.right.map codeS))∨(d=2∧Bd.I2 (ruB g) g.start w (r.left,r.right.map codeS))∨(d=3∧Bd.I3 (ruB g) g.start w (r.left,r.right.map codeS)):=by
 rcases h with ⟨e,_⟩ | ⟨r',hr',hd,v,e,hp⟩
 ·exact absurd e (len_none hr)
 ·rw[hr] at hr';obtain rfl:=Option.some.inj hr';have h3:=(hs.ok r (gM hr)).2.1;obtain⟨left,right⟩:=r;dsimp only at e hd h3 hp ⊢;subst e
  match d,right,hd,h0 with
  | 1,a::t,_,_=>exact .inl ⟨rfl,⟨_,rfl⟩,hp⟩
  | 2,a::b::t,_,_=>exact .inr (.inl ⟨rfl,⟨_,rfl⟩,hp⟩)
  | 3,a::b::c::t,_,_=>exact .inr (.inr ⟨rfl,⟨_,rfl⟩,hp⟩)
  | d+4,right,hd,_=>exact absurd hd zo
theorem ItW.of1{g:Gram}{w:List Nat}{k:Nat}{r:Rule}(hr:g.rules[k]?=some r)(h:Bd.I1 (ruB g) g.start w (r.left,r.right.map codeS)):ItW g w ⟨k,1⟩:=by
 match w,h with
 | z::v,⟨⟨l,e⟩,hp⟩=>
  obtain⟨left,right⟩:=r
  match right,e with
  | a::t,e=>
   simp only[List.map_cons,List.cons.injEq] at e;exact .inr ⟨_,hr,by simp,v,by rw[←e.1];simp,hp⟩
theorem ItW.of2{g:Gram}{w:List Nat}{k:Nat}{r:Rule}(hr:g.rules[k]?=some r)(h:Bd.I2 (ruB g) g.start w (r.left,r.right.map codeS)):ItW g w ⟨k,2⟩:=by
 match w,h with
 | z::y::v,⟨⟨l,e⟩,hp⟩=>
  obtain⟨left,right⟩:=r
  match right,e with
  | a::b::t,e=>
   simp only[List.map_cons,List.cons.injEq] at e;exact .inr ⟨_,hr,by simp,v,by rw[←e.1,←e.2.1];simp,hp⟩
theorem ItW.of3{g:Gram}{w:List Nat}{k:Nat}{r:Rule}(hr:g.rules[k]?=some r)(h:Bd.I3 (ruB g) g.start w (r.left,r.right.map codeS)):ItW g w ⟨k,3⟩:=by
 match w,h with
 | z::y::x::v,⟨⟨l,e⟩,hp⟩=>
  obtain⟨left,right⟩:=r
  match right,e with
  | a::b::c::t,e=>
   simp only[List.map_cons,List.cons.injEq] at e;exact .inr ⟨_,hr,by simp,v,by rw[←e.1,←e.2.1,←e.2.2.1];simp,hp⟩
theorem Clos.more_of{g:Gram}{l1 l2:List Lr}(h:∀z∈l1,z∈l2){z:Lr}(hz:Clos g l1 z):Clos g l2 z:=by
 induction hz with
 | base hx=>exact .base (h _ hx)
 | more _ ha hr hn ih=>exact .more ih ha hr hn
theorem same_sub{g:Gram}(hs:Small g){w w':List Nat}{st st':List Lr}(h:StW g w st)(h':StW g w' st')(n0:w≠[])(n1:w≠[3+g.start])
  (hS:∀r∈ruB g,(Bd.I1 (ruB g) g.start w r→Bd.I1 (ruB g) g.start w' r)∧(Bd.I2 (ruB g) g.start w r→Bd.I2 (ruB g) g.start w' r)∧(Bd.I3 (ruB g) g.start w r→Bd.I3 (ruB g) g.start w' r)) :
  ∀z,z∈st→z∈st':=by
 have hl:∀{w:List Nat} {st:List Lr},StW g w st→∀z,z∈st.filter (fun z=>decide (0<z.dot∨z.rule=g.rules.length))↔ItW g w z∧(0<z.dot∨z.rule=g.rules.length):=fun {w st} h z=>by
  rw[List.mem_filter,h.2,decide_eq_true_eq]
 intro z hz;have h1:=(closW hs (hl h) z).2 ((h.2 z).1 hz);refine(h'.2 z).2 ((closW hs (hl h') z).1 (h1.more_of fun x hx=>?_));obtain⟨hi,h0⟩:=(hl h x).1 hx;obtain⟨k,d⟩:=x;have hk:k≠g.rules.length:=by
  intro e;rcases hi with ⟨_,⟨_,e2⟩ | ⟨_,e2⟩⟩ | ⟨r,hr,_⟩
  ·exact n0 e2
  ·exact n1 e2
  ·exact len_none hr e
 have hd:0<d:=by
  rcases h0 with h0 | h0
  ·exact h0
  ·exact absurd h0 hk
 obtain⟨r,hr⟩:∃r,g.rules[k]?=some r:=by
  rcases id hi with ⟨e,_⟩ | ⟨r,hr,_⟩
  ·exact absurd e hk
  ·exact⟨r,hr⟩
 obtain⟨s1,s2,s3⟩:=hS _ (mem_ruB hr);refine(hl h' _).2 ⟨?_,.inl hd⟩;rcases hi.to hs hr hd with ⟨rfl,hj⟩ | ⟨rfl,hj⟩ | ⟨rfl,hj⟩
 ·exact ItW.of1 hr (s1 hj)
 ·exact ItW.of2 hr (s2 hj)
 ·exact ItW.of3 hr (s3 hj)
def PathSt(g:Gram)(st:List Lr):Prop:=∃w,StW g w st∧(w=[]∨∃z,ItW g w z∧0<z.dot)
theorem all_one{α:Type}:∀{l:List α},l.Nodup→(∀a∈l,∀b∈l,a=b)→l.length≤1
 | [],_,_=>by simp
 | [_],_,_=>by simp
 | a::b::l,hn,h=>by
  exfalso;have:=h a me b (List.mem_cons_of_mem _ me);subst this;exact(List.nodup_cons.1 hn).1 me
theorem states_few{g:Gram}(hs:Small g){sts:List (List Lr)}(hn:sts.Nodup)(hp:∀st∈sts,PathSt g st):sts.length≤400:=by
 classical
 let f:List Lr→List Nat:=fun st=>if h:PathSt g st then Classical.choose h else [];have hf:∀st∈sts,StW g (f st) st∧(f st=[]∨∃z,ItW g (f st) z∧0<z.dot):=fun st h=>by
  have h1:=hp st h;show StW g (if h:PathSt g st then Classical.choose h else []) st∧((if h:PathSt g st then Classical.choose h else [])=[]∨∃z,ItW g (if h:PathSt g st then Classical.choose h else []) z∧0<z.dot);rw[dif_pos h1];exact Classical.choose_spec h1
 let c:List Lr→Nat:=fun st=>if f st=[] then 0 else if f st=[3+g.start] then 1 else 2
 have hc:=Bd.parts c [0,1,2] sts (fun st _=>by
  show (if f st=[] then 0 else if f st=[3+g.start] then 1 else 2)∈[0,1,2];split
  ·simp
  ·split<;>simp)
 have hone:∀w k,(∀st∈sts,c st=k→f st=w)→(sts.filter fun st=>c st=k).length≤1:=fun w k hk=>by
  refine all_one (hn.filter _) fun a ha b hb=>?_;rw[List.mem_filter,decide_eq_true_eq] at ha hb;obtain⟨sa,ma⟩:=(hf a ha.1).1;obtain⟨sb,mb⟩:=(hf b hb.1).1;rw[hk a ha.1 ha.2] at ma;rw[hk b hb.1 hb.2] at mb;exact strict_uniq sa sb fun z=>by rw[ma,mb]
 have h0:=hone [] 0 (fun st _ h=>by
  have h:(if f st=[] then 0 else if f st=[3+g.start] then 1 else 2)=0:=h;split at h
  ·assumption
  ·split at h<;>cases h)
 have h1:=hone [3+g.start] 1 (fun st _ h=>by
  have h:(if f st=[] then 0 else if f st=[3+g.start] then 1 else 2)=1:=h;split at h
  ·cases h
  ·split at h
   ·assumption
   ·cases h)
 have hk2:∀st,c st=2→f st≠[]∧f st≠[3+g.start]:=fun st h=>by
  have h:(if f st=[] then 0 else if f st=[3+g.start] then 1 else 2)=2:=h;split at h
  ·cases h
  ·split at h
   ·cases h
   ·exact⟨by assumption,by assumption⟩
 have h2:(sts.filter fun st=>c st=2).length≤398:=by
  have G:Bd.bGood (ruB g) g.start ((sts.filter fun st=>c st=2).map f):=by
   refine⟨hs.okr,fun w hw=>?_,?_⟩
   ·obtain⟨st,hst,rfl⟩:=List.mem_map.1 hw;rw[List.mem_filter,decide_eq_true_eq] at hst;obtain⟨n0,n1⟩:=hk2 st hst.2;obtain⟨_,h⟩:=hf st hst.1;rcases h with h | ⟨⟨k,d⟩,hz,hd⟩
    ·exact absurd h n0
    ·rcases id hz with ⟨_,⟨_,e⟩ | ⟨_,e⟩⟩ | ⟨r,hr,_⟩
     ·exact absurd e n0
     ·exact absurd e n1
     ·refine⟨_,mem_ruB hr,?_⟩;rcases hz.to hs hr hd with ⟨_,h⟩ | ⟨_,h⟩ | ⟨_,h⟩
      ·exact .inl h
      ·exact .inr (.inl h)
      ·exact .inr (.inr h)
   ·rw[List.pairwise_map];refine List.Pairwise.imp_of_mem (fun {a b} ha hb hab hS=>hab ?_) (hn.filter _);rw[List.mem_filter,decide_eq_true_eq] at ha hb;obtain⟨a0,a1⟩:=hk2 a ha.2;obtain⟨b0,b1⟩:=hk2 b hb.2;have ga:=(hf a ha.1).1;have gb:=(hf b hb.1).1;exact strict_uniq ga.1 gb.1 fun z=>⟨same_sub hs ga gb a0 a1 (fun r hr=>⟨(hS r hr).1.1,(hS r hr).2.1.1,(hS r hr).2.2.1⟩) z,
     same_sub hs gb ga b0 b1 (fun r hr=>⟨(hS r hr).1.2,(hS r hr).2.1.2,(hS r hr).2.2.2⟩) z⟩
  have:=G.le398;rw[List.length_map] at this;exact this
 simp only[List.map_cons,List.map_nil,List.sum_cons,List.sum_nil] at hc;omega
theorem numF_some{α:Type}[DecidableEq α]{most:Nat}{step:α→List (Option α)}{first:α}{P:α→Prop}(hfew:∀sts:List α,sts.Nodup→(∀s∈sts,P s)→sts.length≤most)
  (hstep:∀s,P s→∀s',some s'∈step s→P s'):∀(f i:Nat) {sts:List α} {rows:List (List Int)},NumI most step first i sts rows→(∀s∈sts,P s)→most<f+i→
  ∃r,numF most step f i sts rows=some r
 | 0,i,sts,rows,h,_,h1=>by have:=h.le;have:=h.few;omega
 | f+1,i,sts,rows,h,hP,h1=>by
  unfold numF;split
  ·exact⟨_,rfl⟩
  ·rename_i st hst;obtain⟨_,h2,h3,_⟩:=addAll_ok (step st) sts;have hP2:∀s∈(addAll sts (step st)).1,P s:=fun s hs=>by
    rcases h3 s hs with h4 | h4
    ·exact hP s h4
    ·exact hstep st (hP st (gM hst)) s h4
   have hm:=hfew _ (h2 h.nodup) hP2;rw[if_pos hm];exact numF_some hfew hstep f (i+1) (h.next hst hm) hP2 zo
theorem autoI_some{g:Gram}(hs:Small g):∃I rows,autoI g=some (I,rows):=by
 have h:=numF_some (most:=400) (step:=stepI g) (first:=firstI g) (P:=PathSt g) (fun sts hn hp=>states_few hs hn hp) (fun s hp s' hs'=>by
  obtain⟨y,hy,e⟩:=List.mem_map.1 hs';split at e
  ·cases e
  ·rename_i hk;obtain rfl:=Option.some.inj e;obtain⟨k,hk1,hk2⟩:=List.getElem_of_mem hy;have hy2:=(symsL_ok (g:=g) (k:=k) (y:=y) (by rw[gE hk1,hk2])).1;obtain⟨w,hw,_⟩:=hp;have hn:=stW_next hs hw hy2;refine⟨_,hn,.inr ?_⟩;cases hkn:kern g s y with
   | nil=>exact absurd hkn hk
   | cons z t=>
    have hz:z∈kern g s y:=by rw[hkn];exact List.mem_cons_self ..
    exact⟨z,(hn.2 z).1 ((mem_closL fun x hx=>(kern_ok x hx).1).2 (.base hz)),(kern_ok z hz).2⟩) 401 0
  (NumI.begin (stepI g) (firstI g) (by decide)) (fun s h=>by
   rw[List.mem_singleton] at h;subst h;exact⟨[],stW_first hs,.inl rfl⟩) zo
 obtain⟨⟨I,rows⟩,h⟩:=h;exact⟨I,rows,h⟩
structure Tab where
 act:List (List (Nat×Nat))
 go:List (List Int)
 conf:List (Nat×Nat×List (Nat×Nat))
def strB(l:List UInt8):ByteArray:=⟨l.toArray⟩
theorem strB_inj{a b:List UInt8}(h:strB a=strB b):a=b:=by
 have:=congrArg (fun x:ByteArray=>x.data.toList) h;exact this
theorem strB_app(a b:List UInt8):strB a++strB b=strB (a++b):=by
 apply ByteArray.ext;rw[ByteArray.data_append];unfold strB;simp
theorem strB_size(a:List UInt8):(strB a).size=a.length:=by unfold strB ByteArray.size;simp
def isDig(x:UInt8):Prop:=48≤x.toNat∧x.toNat≤57
def itoaB(n:Nat):List UInt8:=if n<10 then [UInt8.ofNat (48+n)] else [UInt8.ofNat (48+n / 10),UInt8.ofNat (48+n % 10)]
theorem itoaB_dig{n:Nat}(h:n<100):∀x∈itoaB n,isDig x:=by
 intro x hx;unfold itoaB at hx;unfold isDig;split at hx
 ·rw[List.mem_singleton.1 hx,UInt8.toNat_ofNat'];omega
 ·rcases List.mem_cons.1 hx with rfl | hx
  ·rw[UInt8.toNat_ofNat'];omega
  ·rw[List.mem_singleton.1 hx,UInt8.toNat_ofNat'];omega
theorem u8_inj{a b:Nat}(ha:a<256)(hb:b<256)(h:UInt8.ofNat a=UInt8.ofNat b):a=b:=by
 have:=congrArg UInt8.toNat h;rw[UInt8.toNat_ofNat',UInt8.toNat_ofNat'] at this;omega
theorem itoaB_inj{n m:Nat}(hn:n<100)(hm:m<100)(h:itoaB n=itoaB m):n=m:=by
 unfold itoaB at h;split at h<;>split at h
 ·have:=u8_inj zo zo (List.head_eq_of_cons_eq h);omega
 ·exact absurd (congrArg List.length h) (by simp)
 ·exact absurd (congrArg List.length h) (by simp)
 ·have h1:=u8_inj zo zo (List.head_eq_of_cons_eq h);have h2:=u8_inj zo zo (List.head_eq_of_cons_eq (List.tail_eq_of_cons_eq h));omega
theorem split_dig:∀{a b r s:List UInt8} {c d:UInt8},(∀x∈a,isDig x)→(∀x∈b,isDig x)→¬isDig c→¬isDig d→a++c::r=b++d::s→a=b∧c=d∧r=s
 | [],[],r,s,c,d,_,_,_,_,h=>by
  exact⟨rfl,List.head_eq_of_cons_eq h,List.tail_eq_of_cons_eq h⟩
 | [],y::b,r,s,c,d,_,hb,hc,_,h=>by
  have:=List.head_eq_of_cons_eq h;exact absurd (this▸hb y me) hc
 | x::a,[],r,s,c,d,ha,_,_,hd,h=>by
  have:=List.head_eq_of_cons_eq h;exact absurd (this▸ha x me) hd
 | x::a,y::b,r,s,c,d,ha,hb,hc,hd,h=>by
  have h1:=List.head_eq_of_cons_eq h;have h2:=List.tail_eq_of_cons_eq h;obtain⟨h3,h4,h5⟩:=split_dig (fun z hz=>ha z (List.mem_cons_of_mem _ hz)) (fun z hz=>hb z (List.mem_cons_of_mem _ hz)) hc hd h2;exact⟨by rw[h1,h3],h4,h5⟩
theorem no_dig{c:UInt8}(h:c=46∨c=32∨c=59):¬isDig c:=by
 rcases h with rfl | rfl | rfl<;>(unfold isDig;decide)
def keyIt(x:Lr):List UInt8:=itoaB x.rule++46::itoaB x.dot
def nameF{σ:Type}(key:σ→List UInt8):List σ→List UInt8
 | []=>[]
 | x::l=>key x++59::nameF key l
theorem nameF_snoc{σ:Type}(key:σ→List UInt8)(x:σ):∀l:List σ,nameF key (l++[x])=nameF key l++(key x++[59])
 | []=>by simp[nameF]
 | y::l=>by simp[nameF,nameF_snoc key x l]
theorem nameF_inj{σ:Type}{key:σ→List UInt8}{P:σ→Prop}(h:∀x y r s,P x→P y→key x++59::r=key y++59::s→x=y∧r=s):∀{l m:List σ},(∀x∈l,P x)→(∀x∈m,P x)→nameF key l=nameF key m→l=m
 | [],[],_,_,_=>rfl
 | [],y::m,_,_,e=>by exact absurd (congrArg List.length e) (by simp[nameF])
 | x::l,[],_,_,e=>by exact absurd (congrArg List.length e) (by simp[nameF])
 | x::l,y::m,hl,hm,e=>by
  obtain⟨h1,h2⟩:=h x y _ _ (hl x me) (hm y me) e;rw[h1,nameF_inj h (fun z hz=>hl z (List.mem_cons_of_mem _ hz)) (fun z hz=>hm z (List.mem_cons_of_mem _ hz)) h2]
theorem keyIt_inj(x y:Lr)(c:UInt8)(r s:List UInt8)(hc:c=46∨c=32∨c=59)(hx:x.rule<100∧x.dot<100)(hy:y.rule<100∧y.dot<100)(h:keyIt x++c::r=keyIt y++c::s):x=y∧r=s:=by
 unfold keyIt at h;rw[List.append_assoc,List.append_assoc] at h;have h:itoaB x.rule++46::(itoaB x.dot++c::r)=itoaB y.rule++46::(itoaB y.dot++c::s):=h;obtain⟨h1,_,h2⟩:=split_dig (itoaB_dig hx.1) (itoaB_dig hy.1) (no_dig (.inl rfl)) (no_dig (.inl rfl)) h;obtain⟨h3,_,h4⟩:=split_dig (itoaB_dig hx.2) (itoaB_dig hy.2) (no_dig hc) (no_dig hc) h2;have e1:=itoaB_inj hx.1 hy.1 h1;have e2:=itoaB_inj hx.2 hy.2 h3;obtain⟨a,b⟩:=x;obtain⟨a',b'⟩:=y;simp only at e1 e2;subst e1 e2;exact⟨rfl,h4⟩
theorem nameI_inj{l m:List Lr}(hl:∀x∈l,x.rule<100∧x.dot<100)(hm:∀x∈m,x.rule<100∧x.dot<100)(h:nameF keyIt l=nameF keyIt m):l=m:=
 nameF_inj (P:=fun x:Lr=>x.rule<100∧x.dot<100) (fun x y r s hx hy e=>keyIt_inj x y 59 r s (.inr (.inr rfl)) hx hy e) hl hm h
theorem bytes_beq(x y:ByteArray):(x==y)=true↔x=y:=by
 constructor
 ·intro h;obtain⟨x⟩:=x;obtain⟨y⟩:=y;have:(x==y)=true:=h;congr 1;exact eq_of_beq this
 ·rintro rfl;obtain⟨x⟩:=x;show (x==x)=true;exact beq_self_eq_true x
theorem und_str:CC.und 9=some .string:=und_string hT (r:=⟨9,.string,1,16,.string ByteArray.empty⟩) rfl rfl
def keyStr:KeyTy CC 9 (List UInt8) where
 key:=fun l=>.string (strB l)
 ok:=fun l=>by
  unfold keyOk;simp only[und_str];rfl
 eq:=fun a b=>by
  have h:eqA CC 8 9 (.string (strB a)) (.string (strB b))=some (strB a==strB b):=by
   unfold eqA;simp only[und_str];rfl
  by_cases e:a=b
  ·subst e;exact .inl ⟨rfl,by rw[h,(bytes_beq _ _).2 rfl]⟩
  ·have e2:(strB a==strB b)=false:=by
    cases hb:(strB a==strB b) with
    | false=>rfl
    | true=>exact absurd (strB_inj ((bytes_beq _ _).1 hb)) e
   exact .inr ⟨e,by rw[h,e2]⟩
end Go.Proofs.D
set_option linter.unusedVariables false
set_option maxRecDepth 20000
set_option maxHeartbeats 0
open Go Go.Abs Go.Proofs Go.Proofs.D
namespace Go.Abs
section
variable {C:Ctx}{T:RT}{n:Nat}{k:Kno}{F:Frz}{own:Own}{ops rest:List Oper}{o:Oper}{Q:Kno→Frz→Own→List Rec→Prop}
theorem WT.sliceTab(hT:rowsOk C T=true){t:TypeId}{xo lo hi:Operand}{s:ByteArray}{j m:Nat}{kd kd2:IntKind}{r:Row}(a b:Nat→Nat)(f:Nat→List UInt8)(hop:o.op=.slice t xo (some lo) (some hi) none)(hw:wantK ops k o=some true){dst:Nat}(hdst:o.dst=some dst)(hn:Nat.blt dst n=true)
  (hx:evK C k xo=some (.string s)) (hl:evK C k lo=some (.int kd (a j:Nat))) (hh:evK C k hi=some (.int kd2 (b j:Nat))) (hr:rowOf T t=some r) (hd:r.d=.string) (hj:j<m)
  (htab:((List.range m).all fun j=>Nat.ble (a j) (b j)&&Nat.ble (b j) s.size&&((s.extract (a j) (b j)).data.toList==f j))=true)
  (h:WT C n ops rest ((dst,.string ⟨(f j).toArray⟩)::k) F own (fun k2 F2 own2 rs=>Q k2 F2 own2 (⟨F,own,F,own,[]⟩::rs))):WT C n ops (o::rest) k F own Q:=by
 have h1:=List.all_eq_true.1 htab j (List.mem_range.2 hj);simp only[Bool.and_eq_true,beq_iff_eq] at h1;obtain⟨⟨h2,h3⟩,h4⟩:=h1;have h5:s.extract (a j) (b j)=⟨(f j).toArray⟩:=by
  apply ByteArray.ext;rw[←h4]
 refine WT.still (l:=[]) hw (by rw[hop];simp only[looksK,hx]) (fun h0 _=>?_) (by rw[hdst,putK_some hn];exact h);rw[hop];have h6:optA (evK C k) none=some none:=rfl;simp only[opA,hx,optA,hl,hh,sliceA,und_string hT hr hd,boundA,Option.map_some];rw[if_pos (Int.natCast_nonneg _),if_pos (Int.natCast_nonneg _),Int.toNat_natCast,Int.toNat_natCast];simp only[h2,h3,Bool.and_self,cond_true,h5,Option.map_some]
theorem WT.addStr{t ty:TypeId}{xo yo:Operand}{a b:ByteArray}(hop:o.op=.binOp .add t xo yo ty)(hw:wantK ops k o=some true){dst:Nat}(hdst:o.dst=some dst)(hn:Nat.blt dst n=true)
  (hx:evK C k xo=some (.string a)) (hy:evK C k yo=some (.string b)) (hs:a.size+b.size≤9223372036854775807)
  (h:WT C n ops rest ((dst,.string (a++b))::k) F own (fun k2 F2 own2 rs=>Q k2 F2 own2 (⟨F,own,F,own,[]⟩::rs))):WT C n ops (o::rest) k F own Q:=by
 refine WT.still (l:=[]) hw (by rw[hop];simp only[looksK,hx,hy];rfl) (fun h0 _=>?_) (by rw[hdst,putK_some hn];exact h);rw[hop];have h2:Nat.ble (a.size+b.size) 9223372036854775807=true:=Nat.ble_eq_true_of_le hs;simp only[opA,hx,hy,binA,stringBinA,h2,cond_true,Option.map_some]
end
end Go.Abs
namespace Go.Proofs.D
theorem nosh:BinOp.mul≠.shl∧BinOp.mul≠.shr:=⟨fun h=>(by cases h),fun h=>(by cases h)⟩
theorem mulr2{i:Nat}(h:2*i≤9223372036854775807):intBinA .mul .i64 (i:Int) 2=some (.int .i64 ((2*i:Nat):Int)):=by
 simp only[intBinA];rw[wrap64 ⟨by omega,by omega⟩];congr 2;omega
theorem small_spec(F:Frz)(i:Nat)(hi:i<100):Abs.Spec CC 65 [.int .i64 i] F [] fun _ v o=>o=[]∧v=.string (strB (itoaB i)):=by
 refine Abs.Spec.fn (n:=15) Tryd.func65 rfl rfl fun own=>?_;refine zC4 ?_;refine AW.cond Z (fun h=>?_) (fun h=>?_)
 ·have h:i<10:=by simp at h;omega
  refine zC4 ?_;refine WT.sliceTab hT (j:=i) (m:=10) (fun j=>j) (fun j=>j+1) itoaB Z Z Z Z Z Z Z Z Z h (by decide +kernel) ?_;refine zC4 ?_;exact AW.ret ⟨_,[],⟨_,_,rfl,rfl,rfl⟩,zsb,rfl,rfl⟩
 ·have h:¬i<10:=by simp at h;omega
  refine zC4 ?_;refine WT.binV (v:=.int .i64 ((2*i:Nat):Int)) Z Z Z Z Z Z nosh (mulr2 zo) ?_;refine zC4 ?_;refine WT.binV (v:=.int .i64 ((2*i:Nat):Int)) Z Z Z Z Z Z nosh (mulr2 zo) ?_;refine zC4 ?_;refine WT.sliceTab hT (j:=i) (m:=100) (fun j=>2*j) (fun j=>2*j+2) (fun j=>[UInt8.ofNat (48+j / 10),UInt8.ofNat (48+j % 10)]) Z Z Z Z Z Z Z Z Z hi (by decide +kernel) ?_;refine zC4 ?_;refine AW.ret ⟨_,[],⟨_,_,rfl,rfl,rfl⟩,zsb,rfl,?_⟩;unfold itoaB;rw[if_neg h];rfl
theorem formatInt_spec(F:Frz)(i:Nat)(hi:i<100):Abs.Spec CC 59 [.int .i64 i,.int .i64 10] F [] fun _ v o=>o=[]∧v=.string (strB (itoaB i)):=by
 refine Abs.Spec.fn (n:=54) Tryd.func59 rfl rfl fun own=>?_;refine zC4 ?_;refine AW.cond Z (fun _=>?_) (fun h=>(by cases h));refine zC4 ?_;refine AW.cond Z (fun _=>?_) (fun h=>(by simp at h;omega));refine zC4 ?_;refine WT.callV Tryd.func65 Z Z Z Z Z Z (small_spec _ i hi) (fun v hv=>?_);subst hv;refine zC4 ?_;exact AW.ret ⟨_,[],⟨_,_,rfl,rfl,rfl⟩,zsb,rfl,rfl⟩
theorem itoa0_spec(F:Frz)(i:Nat)(hi:i<100):Abs.Spec CC 47 [.int .i64 i] F [] fun _ v o=>o=[]∧v=.string (strB (itoaB i)):=by
 refine Abs.Spec.fn (n:=5) Tryd.func47 rfl rfl fun own=>?_;refine zC4 ?_;refine WT.callV Tryd.func59 Z Z Z Z Z Z (formatInt_spec _ i hi) (fun v hv=>?_);subst hv;refine zC4 ?_;exact AW.ret ⟨_,[],⟨_,_,rfl,rfl,rfl⟩,zsb,rfl,rfl⟩
theorem itoa_spec(F:Frz)(i:Nat)(hi:i<100):Abs.Spec CC 36 [.int .i64 i] F [] fun _ v o=>o=[]∧v=.string (strB (itoaB i)):=by
 refine Abs.Spec.fn (n:=5) Tryd.func36 rfl rfl fun own=>?_;refine zC4 ?_;refine WT.callV Tryd.func47 Z Z Z Z Z Z (itoa0_spec _ i hi) (fun v hv=>?_);subst hv;refine zC4 ?_;exact AW.ret ⟨_,[],⟨_,_,rfl,rfl,rfl⟩,zsb,rfl,rfl⟩
theorem itoaB_len(i:Nat):(itoaB i).length≤2:=by unfold itoaB;split<;>simp
theorem keyIt_spec(F:Frz)(x:Lr)(hx:x.rule<100∧x.dot<100):Abs.Spec CC 16 [.agg ⟨[.int .i64 x.rule,.int .i64 x.dot]⟩] F [] fun _ v o=>o=[]∧v=.string (strB (keyIt x)):=by
 have h1:=itoaB_len x.rule;have h2:=itoaB_len x.dot;refine Abs.Spec.fn (n:=11) Tryd.func16 rfl rfl fun own=>?_;refine AW.seq (AW.reg ?_);refine WT.boxT Z Z Z Z Z Z (fun i1 hi1=>?_);refine zC4 ?_;refine AW.draw (ps:=[(3,6),(5,2)]) Z Z ?_;refine zC4 ?_;refine WT.callV Tryd.func36 Z Z Z Z Z Z (itoa_spec _ x.rule hx.1) (fun v hv=>?_);subst hv;refine WT.addStr Z Z Z Z Z Z (by rw[strB_size];show _+1≤_;omega) ?_;refine zC4 ?_;refine WT.callV Tryd.func36 Z Z Z Z Z Z (itoa_spec _ x.dot hx.2) (fun v hv=>?_);subst hv
 refine WT.addStr Z Z Z Z Z Z (by rw[show (strB (itoaB x.rule)++{ data:=#[46] }:ByteArray)=strB (itoaB x.rule)++strB [46] from rfl,strB_app,strB_size,strB_size,List.length_append];show _+1+_≤_;omega) ?_;refine zC4 ?_;refine⟨zrC,?_⟩;refine AW.ret ⟨_,[],⟨_,_,rfl,rfl,rfl⟩,zsb,rfl,?_⟩;show Value.string (strB (itoaB x.rule)++strB [46]++strB (itoaB x.dot))=_;rw[strB_app,strB_app,List.append_assoc];rfl
theorem keyIt_len(x:Lr):(keyIt x).length≤5:=by
 have h1:=itoaB_len x.rule;have h2:=itoaB_len x.dot;unfold keyIt;simp only[List.length_append,List.length_cons];omega
def LrOk(g:Gram)(x:Lr):Prop:=x.rule≤g.rules.length∧x.dot≤(if x.rule=g.rules.length then 1 else ((g.rules[x.rule]?).map (·.right.length)).getD 0)
theorem Clos.ok{g:Gram}{l:List Lr}(hl:∀x∈l,LrOk g x){x:Lr}(h:Clos g l x):LrOk g x:=by
 induction h with
 | base h=>exact hl _ h
 | more _ _ h _ _=>exact⟨Nat.le_of_lt (gS h).1,Nat.zero_le _⟩
theorem lrClose_spec(F:Frz)(g:Gram)(hg:Valid g){a:Option Addr}{m c:Nat}(hr:Arr tRule F a m c g.rules){b:Option Addr}{n d:Nat}{l:List Lr}(hl:Arr tLr F b n d l)(hn:n≤1000)(hok:∀x∈l,LrOk g x) :
  Abs.Spec CC 7 [.agg ⟨gramCells g a m c⟩,.slice b n d] F [] fun F' v o=>o=[]∧∃a' m' c' zs,v=.tuple ⟨[.slice a' m' c',.int .i64 0]⟩∧Arr tLr F' a' m' c' zs∧m'≤n+m∧Strict zs∧∀z,z∈zs↔Clos g l z:=by
 have hml:=hr.len;have hll:=hl.len;have hgl:=hg.range.rules;have hg4:∀r∈g.rules,r.right.length≤100:=fun r h=>by have:=(hg.right r h).2.1;omega
 unfold gramCells;refine Abs.Spec.fn (n:=50) Tryd.func7 rfl rfl fun own=>?_;refine AW.seq (AW.reg ?_);refine WT.boxT Z Z Z Z Z Z (fun i2 hi2=>?_);refine zB4 ?_;refine WT.callV Tryd.func13 Z Z Z Z Z Z (check_spec _ g hg.range hr) (fun v hv=>?_);rw[hg.no_err] at hv;subst hv;refine zB4 ?_;refine AW.cond Z (fun h=>(by cases h)) (fun _=>?_);refine zB4 ?_;refine AW.range (S:=Unit) (fun _=>[]) (fun _=>_) (fun j _ G=>True) n () Z Z Z Z Z Z Z Z Z zo Z Z (fun _=>rfl) (fun _=>rfl) sM oR trivial ?_ ?_
 ·intro j _ F1 hF1 hj _;have hr1:=hr.mono hF1;have hl1:=hl.mono hF1;refine zB4 ?_;refine WT.idxL hT hl1 Z Z Z Z Z Z Z Z Z zo (fun x hxj b1 off ro cs lx hb hp1 hrel=>?_);obtain rfl:lx=_:=hrel;obtain⟨hx1,hx2⟩:=hok x (gM hxj);refine zB4 ?_;refine WT.allocT hT Z Z Z Z Z Z (fun i8 hi8=>?_);refine zB4 ?_;refine AW.draw (ps:=[(18,22)]) Z Z ?_;refine zB4 ?_;refine WT.split 23 Z (fun h=>(by simp at h;omega)) (fun _=>?_);refine WT.split 31 Z (fun h=>(by simp at h;omega)) (fun _=>?_);refine zB4 ?_;refine WT.split 36 Z (fun h=>(by simp at h;omega)) (fun _=>?_)
  refine WT.callV Tryd.func9 Z Z Z Z Z Z (lrRight_spec _ g hg4 hr1 zo x.rule zo) (fun v hv=>?_);obtain⟨rb,rn,rd,rfl,hrn⟩:=hv;rw[←hml] at hx2;rw[←hrn] at hx2;refine zB4 ?_;refine⟨zrC,?_⟩;refine AW.cond Z (fun h=>(by simp at h;omega)) (fun _=>?_);refine zB4 ?_;exact⟨(),sM,zow,trivial⟩
 ·intro _ F1 hF1 _;have hr1:=hr.mono hF1;have hl1:=hl.mono hF1;refine zB4 ?_;refine WT.callF0 Tryd.func15 Z Z Z Z Z Z (closure_spec _ g hg4 hr1 zo hl1 hn (fun x hx=>(hok x hx).1)) (fun F2 v hF2 hv=>?_);obtain⟨a8,m8,c8,zs,rfl,hz,hzm,hst,hmem⟩:=hv;refine zB4 ?_;exact AW.ret ⟨_,[],⟨_,_,rfl,⟨_,_,rfl,rfl,rfl⟩,rfl⟩,zsb,rfl,a8,m8,c8,zs,rfl,hz,hzm,hst,hmem⟩
structure ISt where
 xs:List Lr
 a:Option Addr
 c:Nat
 B:List (Nat×Blk)
structure SyS where
 a:Option Addr
 m:Nat
 c:Nat
 B:List (Nat×Blk)
theorem symsL_T{g:Gram}{j:Nat}(h:j<g.terms):(symsL g).take (j+1)=(symsL g).take j++[⟨true,j⟩]:=by
 have:(symsL g)[j]?=some ⟨true,j⟩:=symsL_at (y:=⟨true,j⟩) h;rw[List.take_add_one,this];rfl
theorem symsL_N{g:Gram}{j:Nat}(h:j<g.nons):(symsL g).take (g.terms+j+1)=(symsL g).take (g.terms+j)++[⟨false,j⟩]:=by
 have:(symsL g)[j+g.terms]?=some ⟨false,j⟩:=symsL_at (y:=⟨false,j⟩) h;rw[Nat.add_comm] at this;rw[List.take_add_one,this];rfl
theorem symbols_spec(F:Frz)(g:Gram)(hg:Valid g){a:Option Addr}{m c:Nat} :
  Abs.Spec CC 30 [.agg ⟨gramCells g a m c⟩] F [] fun F' v o=>o=[]∧∃a' n' c',v=.slice a' n' c'∧Arr tSym F' a' n' c' (symsL g):=by
 have hgt:=hg.range.terms;have hgn:=hg.range.nons;unfold gramCells;refine Abs.Spec.fn (n:=29) Tryd.func30 rfl rfl fun own=>?_;refine AW.seq (AW.reg ?_);refine WT.boxT Z Z Z Z Z Z (fun i1 hi1=>?_);refine zC4 ?_;refine AW.range (S:=SyS) (fun s=>[(3,.slice s.a s.m s.c)]) (fun s=>s.B::[(i1,.cells false [.int .i64 g.terms,.int .i64 g.nons,.int .i64 g.start,.slice a m c])]::own) (fun j s G=>Bld tSym G s.a s.m s.c s.B ((symsL g).take j)) g.terms ⟨none,0,0,[]⟩
  Z Z Z Z Z Z Z Z Z zo rfl rfl (fun _=>rfl) (fun _=>rfl) sM (OwnLe.flat (List.Perm.refl _)) (Bld.nil_ _ _) ?_ ?_
 ·intro j s F1 hF1 hj hb;have hbl:=hb.len;rw[List.length_take,symsL_len] at hbl;refine zC4 ?_;refine WT.callV Tryd.func43 Z Z Z Z Z Z (gT_spec _ _) (fun v hv=>?_);subst hv;refine WT.buildT hT Z Z Z Z Z Z Z Z Z Z Z Z Z Z (fun i9 hi9=>?_);refine WT.appendT (R:=tSym) (ys:=[(⟨true,j⟩:Sym)]) hT 1 hb Z (fun _=>rfl) Z Z Z Z Z Z Z Z Z Z Z (fun h0 s0=>news_own hT s0 0 Z Z Z Z) (Cells.single (R:=tSym) (x:=⟨true,j⟩) rfl) Z (by decide) zom (fun a3 c3 B3 hB3=>?_);refine zC4 ?_;exact⟨⟨a3,s.m+1,c3,B3⟩,sM,zow,by show Bld tSym _ _ _ _ _ ((symsL g).take (j+1));rw[symsL_T hj];exact hB3⟩
 ·intro s F1 hF1 hb;refine zC4 ?_;refine AW.range (S:=SyS) (fun s=>[(3,.slice s.a s.m s.c)]) (fun s=>s.B::[(i1,.cells false [.int .i64 g.terms,.int .i64 g.nons,.int .i64 g.start,.slice a m c])]::own) (fun j s G=>Bld tSym G s.a s.m s.c s.B ((symsL g).take (g.terms+j))) g.nons ⟨s.a,s.m,s.c,s.B⟩
   Z Z Z Z Z Z Z Z Z zo rfl rfl (fun _=>rfl) (fun _=>rfl) sM oR hb ?_ ?_
  ·intro j s F2 hF2 hj hb;have hbl:=hb.len;rw[List.length_take,symsL_len] at hbl;refine zC4 ?_;refine WT.callV Tryd.func20 Z Z Z Z Z Z (gN_spec _ _) (fun v hv=>?_);subst hv;refine WT.buildT hT Z Z Z Z Z Z Z Z Z Z Z Z Z Z (fun i9 hi9=>?_);refine WT.appendT (R:=tSym) (ys:=[(⟨false,j⟩:Sym)]) hT 1 hb Z (fun _=>rfl) Z Z Z Z Z Z Z Z Z Z Z (fun h0 s0=>news_own hT s0 0 Z Z Z Z) (Cells.single (R:=tSym) (x:=⟨false,j⟩) rfl) Z (by decide) zom (fun a3 c3 B3 hB3=>?_);refine zC4 ?_;exact⟨⟨a3,s.m+1,c3,B3⟩,sM,zow,by show Bld tSym _ _ _ _ _ ((symsL g).take (g.terms+j+1));rw[symsL_N hj];exact hB3⟩
  ·intro s F2 hF2 hb;rw[List.take_of_length_le (by rw[symsL_len];exact Nat.le_refl _)] at hb;refine AW.freezeAll 0 Z Z (fun F3 hF3 hB3=>?_);refine zC4 ?_;exact AW.ret ⟨_,[],⟨_,_,rfl,rfl,rfl⟩,zsb,rfl,_,_,_,rfl,hb.frozen hF3 hB3⟩
noncomputable def nextI(g:Gram)(st:List Lr)(y:Sym):Option (List Lr):=if kern g st y=[] then none else some (closL g (kern g st y))
theorem kern_take{g:Gram}{st:List Lr}{y:Sym}{j:Nat}{x:Lr}(h:st[j]?=some x):kern g (st.take (j+1)) y=kern g (st.take j) y++(if afterL g x=some y then [⟨x.rule,x.dot+1⟩] else []):=by
 unfold kern;rw[List.take_add_one,h,List.filterMap_append];congr 1;simp only[Option.toList_some,List.filterMap_cons,List.filterMap_nil];by_cases e:afterL g x=some y
 ·rw[if_pos e,if_pos e]
 ·rw[if_neg e,if_neg e]
structure NxS where
 a:Option Addr
 m:Nat
 c:Nat
 B:List (Nat×Blk)
 l:List Lr
theorem nextI_spec(F:Frz)(g:Gram)(hg:Valid g){ig:Nat}{ro:Bool}{a:Option Addr}{m c:Nat}(hi:F ig=some (.cells ro (gramCells g a m c)))(hr:Arr tRule F a m c g.rules){b:Option Addr}{n d:Nat}{st:List Lr}(hst:Arr tLr F b n d st)(hn:n≤1000)(hok:∀x∈st,OkLr g x)(y:Sym)(hy:SymOk g.terms g.nons y) :
  Abs.Spec CC 17 [.slice b n d,.agg ⟨[.bool y.term,.int .i64 y.n]⟩,.pointer (some ⟨ig,0,none⟩)] F [] fun F' v o=>o=[]∧∃a' n' c' z s,v=.tuple ⟨[.slice a' n' c',.bool z]⟩∧Arr tLr F' a' n' c' s∧nextI g st y=if z=true then some s else none:=by
 have hgr:=hg.range.rules;have hrl:=hr.len;have hsl:=hst.len;have hg4:∀r∈g.rules,r.right.length≤100:=fun r h=>by have:=(hg.right r h).2.1;omega
 unfold gramCells at hi;obtain⟨yt,yn⟩:=y;refine Abs.Spec.fn (n:=46) Tryd.func17 rfl rfl fun own=>?_;refine AW.seq (AW.reg ?_);refine WT.boxT Z Z Z Z Z Z (fun i4 hi4=>?_);refine zC4 ?_;refine AW.range (S:=NxS) (fun s=>[(7,.slice s.a s.m s.c)]) (fun s=>s.B::[(i4,.cells false [.bool yt,.int .i64 yn])]::own) (fun j s G=>Bld tLr G s.a s.m s.c s.B s.l∧s.l=kern g (st.take j) ⟨yt,yn⟩∧s.m≤j) n ⟨none,0,0,[],[]⟩
  Z Z Z Z Z Z Z Z Z zo rfl rfl (fun _=>rfl) (fun _=>rfl) sM (OwnLe.flat (List.Perm.refl _)) ⟨Bld.nil_ _ _,rfl,Nat.le_refl _⟩ ?_ ?_
 ·intro j s F1 hF1 hj hP;obtain⟨hb,hsk,hsm⟩:=hP;have hst1:=hst.mono hF1;have hr1:=hr.mono hF1;have hi1:=hF1 _ _ hi;refine zC4 ?_;refine WT.idxL hT hst1 Z Z Z Z Z Z Z Z Z zo (fun x hxj b1 off ro1 cs lx hb1 hp1 hrel=>?_);obtain rfl:lx=_:=hrel;have hxo:=hok x (gM hxj);have hkt:=kern_take (g:=g) (y:=⟨yt,yn⟩) hxj;refine zC4 ?_;refine WT.allocT hT Z Z Z Z Z Z (fun i9 hi9=>?_);refine zC4 ?_;have haf:=lrAfter_spec F1 g hg4 hr1 zo x (by have:=hxo.1;omega);unfold gramCells at haf;refine WT.callV Tryd.func18 Z Z Z Z Z Z haf (fun v hv=>?_);obtain⟨z,bo,rfl,hay,han⟩:=hv;obtain⟨zt,zn⟩:=z;refine zC4 ?_
  refine WT.allocT hT Z Z Z Z Z Z (fun i10 hi10=>?_);refine zC4 ?_;have hbl:=hb.len;refine WT.split 25 Z (fun hbo=>?_) (fun hbo=>?_)
  ·have hay:=hay hbo;refine zC4 ?_;refine AW.cond Z (fun h=>?_) (fun h=>?_)
   ·have e:(⟨zt,zn⟩:Sym)=⟨yt,yn⟩:=by
     simp only[Bool.and_true,Bool.and_eq_true,beq_iff_eq] at h;obtain⟨h1,h2⟩:=h;subst h1;congr 1;omega
    rw[e] at hay;have hxd:x.dot≤100:=by
     have:=hxo.2;have h2:(rightL g x.rule).length≤100:=by
      unfold rightL;split
      ·simp
      ·cases hq:g.rules[x.rule]? with
       | none=>simp
       | some r=>exact hg4 r (gM hq)
     omega
    refine zC4 ?_;refine WT.buildT hT Z Z Z Z Z Z Z Z Z Z Z Z Z Z (fun i37 hi37=>?_);refine WT.appendT (R:=tLr) (ys:=[(⟨x.rule,x.dot+1⟩:Lr)]) hT 3 hb Z (fun _=>rfl) Z Z Z Z Z Z Z Z Z Z Z (fun h0 s0=>news_own hT s0 0 Z Z Z Z) (Cells.single (R:=tLr) (x:=⟨x.rule,x.dot+1⟩) rfl) Z (by decide) zom (fun a3 c3 B3 hB3=>?_);refine zC4 ?_;refine⟨⟨a3,s.m+1,c3,B3,s.l++[⟨x.rule,x.dot+1⟩]⟩,sM,zow,hB3,?_,by dsimp only;omega⟩;show s.l++_=_;rw[hkt,if_pos hay,hsk]
   ·have hno:¬afterL g x=some ⟨yt,yn⟩:=fun e=>by
     rw[hay] at e;have e:=Option.some.inj e;simp only[Sym.mk.injEq] at e;rw[e.1,e.2] at h;simp at h
    refine zC4 ?_;refine⟨s,sM,zow,hb,?_,by omega⟩;rw[hkt,if_neg hno,List.append_nil];exact hsk
  ·have han:=han hbo;have hno:¬afterL g x=some ⟨yt,yn⟩:=fun e=>by rw[han] at e;cases e
   refine zC4 ?_;refine AW.cond Z (fun h=>(by cases h)) (fun _=>?_);refine zC4 ?_;refine⟨s,sM,zow,hb,?_,by omega⟩;rw[hkt,if_neg hno,List.append_nil];exact hsk
 ·intro s F1 hF1 hP;obtain⟨hb,hsk,hsm⟩:=hP;rw[List.take_of_length_le zo] at hsk;have hbl:=hb.len;have hi1:=hF1 _ _ hi;refine AW.freezeAll 0 Z Z (fun F2 hF2 hB2=>?_);have hx:=hb.frozen hF2 hB2;have hi2:=hF2 _ _ hi1;have hkok:∀z∈s.l,z.rule≤g.rules.length:=fun z hz=>by rw[hsk] at hz;exact(kern_ok z hz).1.1
  refine zC4 ?_;have hcs:=closure_spec F2 g hg4 ((hr.mono hF1).mono hF2) zo hx zo hkok;unfold gramCells at hcs;refine WT.callF0 Tryd.func15 Z Z Z Z Z Z hcs (fun F3 v hF3 hv=>?_);obtain⟨a8,m8,c8,zs,rfl,hz,hzm,hstr,hmem⟩:=hv;refine zC4 ?_;refine AW.ret ⟨_,[],⟨_,_,rfl,⟨_,_,rfl,rfl,rfl⟩,rfl⟩,zsb,rfl,a8,m8,c8,_,zs,rfl,hz,?_⟩;unfold nextI;by_cases e:kern g st ⟨yt,yn⟩=[]
  ·rw[if_pos e,if_neg];rw[hsk,e] at hbl;have:s.m=0:=hbl;simp[this]
  ·rw[if_neg e,if_pos]
   ·congr 1;refine(closL_eq (fun z hz=>(kern_ok z hz).1) hstr fun z=>?_).symm;rw[hmem,hsk]
   ·have:0<s.m:=by
     rw[hbl,hsk];exact List.length_pos_iff.2 e
    exact decide_eq_true zo
structure CpS where
 j:Nat
 a:Option Addr
 c:Nat
 B:List (Nat×Blk)
theorem CountVal.some{T:Nat→Nat}{c:Int}(h:CountVal T c)(hc:c≠0):∃d,1≤T d:=by
 rcases h with ⟨n,⟨D,hD⟩,h2⟩ | ⟨h,_⟩
 ·refine⟨D,?_⟩;rw[hD D (Nat.le_refl _)];rcases Nat.eq_zero_or_pos n with e | e
  ·subst e;exact absurd h2 (by simpa using hc)
  ·exact e
 ·exact h 1
end Go.Proofs.D
set_option linter.unusedVariables false
set_option maxRecDepth 20000
set_option maxHeartbeats 0
open Go Go.Abs Go.Proofs Go.Proofs.D
namespace Go.Abs
section
variable {C:Ctx}{T:RT}{n:Nat}{k:Kno}{F:Frz}{own:Own}{ops rest:List Oper}{o:Oper}{Q:Kno→Frz→Own→List Rec→Prop}{args':List Value}
theorem WT.callCF0{f:FuncId}{fn:Func}{fo:Operand}{as_:Array Operand}{ts:Array TypeId}{args args' first capt:List Value}{P:Frz→Value→Prop}(hf:C.func f=some fn)(hb:fn.body.isSome=true)(hop:o.op=.call ⟨.value fo,as_,ts⟩)
  (hw:wantK ops k o=some true) {dst:Nat} (hdst:o.dst=some dst) (hn:Nat.blt dst n=true) (hfo:evK C k fo=some (.func (.func f) ⟨first⟩ ⟨capt⟩)) (hv:vals (evK C k) as_.toList=some args) (hargs:first++args++capt=args') (spec:Spec C f args' F [] fun F' v o=>o=[]∧P F' v)
  (h:∀F' v,Frz.le F F'→P F' v→WT C n ops rest ((dst,v)::k) F' own (fun k2 F2 own2 rs=>Q k2 F2 own2 (⟨F,own,F',own,[]⟩::rs))) :
  WT C n ops (o::rest) k F own Q:=by
 subst hargs;refine WT.step (l:=[]) (by rw[hop];rfl) fun e h' hk hs=>?_;obtain⟨v,h1,F1,oout,⟨m,hd⟩,hF,hs1,rfl,hp⟩:=spec own h' hs;refine⟨v,h1,F1,own,⟨m,fun N hN=>?_⟩,hF,hs1,by rw[hdst,putK_some hn];exact h F1 v hF hp⟩;unfold stepA;rw[wantK_ok hk hw];have:opA C (evK C k) h' o.op=some (.call f (first++args++capt)):=by
  rw[hop];simp only[opA,hfo,hv,callA_func hf hb]
 simp only[opA_mono hk.eval this,hd N hN]
end
end Go.Abs
namespace Go.Proofs.D
def tBool:Ty Bool where
 size:=1
 rel:=fun _ l x=>l=[.bool x]
 len:=fun _ _ _ h=>by subst h;rfl
 one:=fun _ _ _ h=>by subst h;rfl
 mono:=fun _ _ _ _ _ h=>h
def Chain(to:Nat):List Sym→Nat→List Key→Prop
 | [],i,ks=>ks=[]∧i=to
 | s::l,i,ks=>∃q ks',ks=q::ks'∧q.sym=s∧q.frm=i∧Chain to l q.to ks'
structure PackOk(g:Gram)(S:List Key)(k:Key)(p:NPack)(kp:KPack):Prop where
 num:p=numPack S kp
 rule:∃r,g.rules[kp.rule]?=some r∧r.left=k.sym.n∧Chain k.to r.right k.frm kp.kids
 ins:∀q∈kp.kids,q∈S
structure NodeOk(g:Gram)(w:List Nat)(S:List Key)(k:Key)(x:Node):Prop where
 key:x.key=k
 term:k.sym.term=true→k.to=k.frm+1∧k.to≤w.length∧w[k.frm]?=some k.sym.n∧x.packs=[]
 non:k.sym.term=false→x.packs≠[]
 pack:∀p∈x.packs,∃kp,PackOk g S k p kp
 sorted:x.packs.Pairwise fun x y=>cmpNPack x y<0
end Go.Proofs.D
set_option linter.unusedVariables false
set_option maxRecDepth 20000
set_option maxHeartbeats 0
open Go Go.Abs Go.Proofs Go.Proofs.D
namespace Go.Abs
section
variable {C:Ctx}{T:RT}{n:Nat}{k:Kno}{F:Frz}{own:Own}{ops rest:List Oper}{o:Oper}{Q:Kno→Frz→Own→List Rec→Prop}{α:Type}{R:Ty α}
theorem WT.vldE(hT:rowsOk C T=true)(p:Nat){t:TypeId}{ao:Operand}{a:Option Addr}{m c j b:Nat}{B:List (Nat×Blk)}{xs:List α}{x:α}{r:Row}(hv:Vec R F a m c B xs)(ha:a=some ⟨b,0,none⟩)(hj:xs[j]?=some x)(hop:o.op=.load t ao)(hw:wantK ops k o=some true){dst:Nat}(hdst:o.dst=some dst)(hn:Nat.blt dst n=true)
  (hao:evK C k ao=some (.pointer (some ⟨b,j*R.size,none⟩))) (hp:own[p]?=some B) (hr:rowOf T t=some r) (hd:r.d.agg=false) (hs:R.size=1)
  (h:∀v,R.rel F [v] x→WT C n ops rest ((dst,v)::k) F own (fun k2 F2 own2 rs=>Q k2 F2 own2 (⟨F,own,F,own,[b]⟩::rs))):WT C n ops (o::rest) k F own Q:=by
 obtain⟨i,cs,h1,rfl,h3,h4⟩:=hv.at_ hj;rw[ha] at h1;injection h1 with h1;injection h1 with h1;subst h1;obtain⟨l,h5,h6⟩:=h3.at j x hj;have hl:=R.len _ _ _ h6;rw[show R.size=1 from hs] at hao h5 hl
 match l,hl,h5,h6 with
 | [v],_,h5,h6=>exact WT.loadOwn p hop hw hao hp me (readA_at hT hr hd (partL_one h5 rfl)) (by rw[hdst,putK_some hn];exact h v h6)
end
end Go.Abs
namespace Go.Proofs.D
theorem addAll_snoc{α:Type}[DecidableEq α]:∀(os:List (Option α)) (sts:List α) (o:Option α),addAll sts (os++[o])=((addOne (addAll sts os).1 o).1,(addAll sts os).2++[(addOne (addAll sts os).1 o).2])
 | [],sts,o=>rfl
 | x::os,sts,o=>by
  have ih:=addAll_snoc os (addOne sts x).1 o;show ((addAll (addOne sts x).1 (os++[o])).1,(addOne sts x).2::(addAll (addOne sts x).1 (os++[o])).2)=_;rw[ih];rfl
theorem addAll_more{α:Type}[DecidableEq α](sts:List α)(a:List (Option α)):∀(b:List (Option α)),(addAll sts a).1.length≤(addAll sts (a++b)).1.length:=by
 intro b
 induction a generalizing sts with
 | nil=>
  obtain⟨⟨ex,h⟩,_⟩:=addAll_ok b sts;show sts.length≤(addAll sts b).1.length;rw[h,List.length_append];omega
 | cons o a ih=>exact ih (addOne sts o).1
def idxD{α:Type}[DecidableEq α](s:α)(S:List α):Nat:=S.idxOf s
theorem idxD_old{α:Type}[DecidableEq α]{s:α}{S T:List α}(h:s∈S):idxD s (S++T)=idxD s S:=by
 unfold idxD;rw[List.idxOf_append,if_pos h]
theorem idxD_new{α:Type}[DecidableEq α]{s:α}{S:List α}(h:s∉S):idxD s (S++[s])=S.length:=by
 unfold idxD;rw[List.idxOf_append,if_neg h];simp
def MapOk{σ:Type}[DecidableEq σ](key:σ→List UInt8)(P:List σ→Prop)(es:Ents (List UInt8))(S:List (List σ)):Prop:=∀s,P s→Abs.look es (nameF key s)=if s∈S then some (.int .i64 (idxD s S:Nat)) else none
theorem MapOk.add{σ:Type}[DecidableEq σ]{key:σ→List UInt8}{P:List σ→Prop}{es:Ents (List UInt8)}{S:List (List σ)}(h:MapOk key P es S)(hinj:∀s s',P s→P s'→nameF key s=nameF key s'→s=s'){s:List σ}(hs:P s)(hn:s∉S) :
  MapOk key P (mset es (nameF key s) (.int .i64 (S.length:Nat))) (S++[s]):=by
 intro s' hs';rw[look_mset];by_cases e:s'=s
 ·subst e;rw[if_pos rfl,if_pos (List.mem_append_right _ (List.mem_singleton_self _))];rw[idxD_new hn]
 ·rw[if_neg (fun e2=>e (hinj s' s hs' hs e2)),h s' hs'];by_cases hm:s'∈S
  ·rw[if_pos hm,if_pos (List.mem_append_left _ hm)];rw[idxD_old hm]
  ·rw[if_neg hm,if_neg];intro h2;rcases List.mem_append.1 h2 with h2 | h2
   ·exact hm h2
   ·exact e (List.mem_singleton.1 h2)
theorem MapOk.one{σ:Type}[DecidableEq σ]{key:σ→List UInt8}{P:List σ→Prop}(hinj:∀s s',P s→P s'→nameF key s=nameF key s'→s=s'){s:List σ}(hs:P s):MapOk key P (mset [] (nameF key s) (.int .i64 0)) [s]:=
 MapOk.add (S:=[]) (es:=[]) (fun s' _=>by simp[Abs.look]) hinj hs (by simp)
theorem numF_at{α:Type}[DecidableEq α]{most f i:Nat}{step:α→List (Option α)}{sts:List α}(rows:List (List Int))(_:Unit){st:α}(h:sts[i]?=some st) :
  numF most step (f+1) i sts rows=if (addAll sts (step st)).1.length≤most then numF most step f (i+1) (addAll sts (step st)).1 (rows++[(addAll sts (step st)).2]) else none:=by
 conv=>lhs;unfold numF
 rw[h]
theorem nameI_spec(F:Frz){b:Option Addr}{n d:Nat}{l:List Lr}(hl:Arr tLr F b n d l)(hn:n≤1000){i6:Nat}{ro:Bool}{fk:Nat}{fnk:Func}(hgk:CC.func fk=some fnk)(hbk:fnk.body.isSome=true)(hi6:F i6=some (.cells ro [.func (.func fk) ⟨[]⟩ ⟨[]⟩]))
  (key:Lr→List UInt8) (hlen:∀x∈l,(key x).length≤20) (hkey:∀x∈l,∀G,Frz.le F G→Abs.Spec CC fk [.agg ⟨[.int .i64 x.rule,.int .i64 x.dot]⟩] G [] fun _ v o=>o=[]∧v=.string (strB (key x))) :
  Abs.Spec CC 29 [.slice b n d,.pointer (some ⟨i6,0,none⟩)] F [] fun _ v o=>o=[]∧v=.string (strB (nameF key l)):=by
 have hll:=hl.len;have htot:∀j,(nameF key (l.take j)).length≤21*j:=by
  intro j
  induction j with
  | zero=>simp[nameF]
  | succ j ih=>
   rw[List.take_add_one];cases hx:l[j]? with
   | none=>simp;omega
   | some x=>
    rw[Option.toList_some,nameF_snoc,List.length_append,List.length_append,List.length_singleton];have:=hlen x (gM hx);omega
 refine Abs.Spec.fn (n:=21) Tryd.func29 rfl rfl fun own=>?_;refine zC4 ?_;refine AW.range (S:=List UInt8) (fun s=>[(4,.string (strB s))]) (fun _=>own) (fun j s G=>s=nameF key (l.take j)) n [] Z Z Z Z Z Z Z Z Z zo Z Z (fun _=>rfl) (fun _=>rfl) sM oR Z ?_ ?_
 ·intro j s F1 hF1 hj hP;have hl1:=hl.mono hF1;have hi1:=hF1 _ _ hi6;have ht:=htot j;refine zB4 ?_;refine WT.idxL hT hl1 Z Z Z Z Z Z Z Z Z zo (fun x hxj b1 off ro1 cs lx hb1 hp1 hrel=>?_);obtain rfl:lx=_:=hrel;have hxm:=gM hxj;have hxl:=hlen x hxm;refine zB4 ?_;refine WT.allocT hT Z Z Z Z Z Z (fun i9 hi9=>?_);refine zB4 ?_;refine WT.callC (first:=[]) (args:=[.agg ⟨[.int .i64 x.rule,.int .i64 x.dot]⟩]) (capt:=[]) hgk hbk Z Z Z Z Z Z Z (hkey x hxm F1 hF1) (fun v hv=>?_)
  subst hv;refine WT.addStr Z Z Z Z Z Z (by rw[strB_size];show _+1≤_;omega) ?_;refine WT.addStr Z Z Z Z Z Z (by rw[show (strB (key x)++{ data:=#[59] }:ByteArray)=strB (key x++[59]) from strB_app _ [59],strB_size,strB_size,hP,List.length_append];show _+(_+1)≤_;omega) ?_;refine WT.know (v':=.string (strB (s++(key x++[59])))) 18 Z (by show Value.string (strB s++(strB (key x)++strB [59]))=_;rw[strB_app,strB_app]) ?_;refine zB4 ?_;refine⟨s++(key x++[59]),sM,zow,?_⟩;show _=nameF key (l.take (j+1));rw[List.take_add_one,hxj,Option.toList_some,nameF_snoc,hP]
 ·intro s F1 hF1 hP;rw[List.take_of_length_le zo] at hP;refine zB4 ?_;exact AW.ret ⟨_,[],⟨_,_,rfl,rfl,rfl⟩,zsb,rfl,by rw[hP];rfl⟩
structure NmOI where
 i:Nat
 sts:List (List Lr)
 rows:List (List Int)
 sa:Option Addr
 sn:Nat
 sc:Nat
 SB:List (Nat×Blk)
 ta:Option Addr
 tn:Nat
 tc:Nat
 TB:List (Nat×Blk)
 es:Ents (List UInt8)
structure NmRI where
 sts:List (List Lr)
 row:List Int
 sa:Option Addr
 sn:Nat
 sc:Nat
 SB:List (Nat×Blk)
 ra:Option Addr
 rn:Nat
 rc:Nat
 RB:List (Nat×Blk)
 es:Ents (List UInt8)
theorem numberI_spec(F:Frz)(g:Gram)(hg:Valid g){ga:Option Addr}{gm gc:Nat}{b:Option Addr}{n d:Nat}{st0:List Lr}(h0:Arr tLr F b n d st0)
  {fk fx:Nat} {fnk fnx:Func} {firstx captx:List Value} (hgk:CC.func fk=some fnk) (hbk:fnk.body.isSome=true) (hgx:CC.func fx=some fnx) (hbx:fnx.body.isSome=true)
  (key:Lr→List UInt8) (nx:List Lr→Sym→Option (List Lr)) (P:List Lr→Prop) (okx:Lr→Prop)
  (hP0:P st0) (hPl:∀s,P s→s.length≤1000∧∀x∈s,okx x) (hinj:∀s s',P s→P s'→nameF key s=nameF key s'→s=s') (hnP:∀s y s',P s→nx s y=some s'→P s')
  (hlen:∀x,okx x→(key x).length≤20) (hkey:∀x,okx x→∀G,Frz.le F G→Abs.Spec CC fk [.agg ⟨[.int .i64 x.rule,.int .i64 x.dot]⟩] G [] fun _ v o=>o=[]∧v=.string (strB (key x)))
  (hnext:∀G,Frz.le F G→∀(a:Option Addr) (m c:Nat) (s:List Lr) (y:Sym),P s→Arr tLr G a m c s→SymOk g.terms g.nons y→
   Abs.Spec CC fx (firstx++[.slice a m c,.agg ⟨[.bool y.term,.int .i64 y.n]⟩]++captx) G [] fun G' v o=>o=[]∧∃a' n' c' z s',v=.tuple ⟨[.slice a' n' c',.bool z]⟩∧Arr tLr G' a' n' c' s'∧nx s y=if z=true then some s' else none) :
  Abs.Spec CC 14 [.agg ⟨gramCells g ga gm gc⟩,.slice b n d,.func (.func fk) ⟨[]⟩ ⟨[]⟩,.func (.func fx) ⟨firstx⟩ ⟨captx⟩] F [] fun F' v o=>o=[]∧
   ((numF 400 (fun s=>(symsL g).map (nx s)) 401 0 [st0] []=none∧v=.tuple ⟨[.slice none 0 0,.slice none 0 0,.bool false]⟩)∨
    ∃S rows a1 n1 c1 a2 n2 c2,numF 400 (fun s=>(symsL g).map (nx s)) 401 0 [st0] []=some (S,rows)∧v=.tuple ⟨[.slice a1 n1 c1,.slice a2 n2 c2,.bool true]⟩∧Arr (tList tLr) F' a1 n1 c1 S∧Arr (tList tInt) F' a2 n2 c2 rows):=by
 have hgt:=hg.range.terms;have hgn:=hg.range.nons;have hl0:=h0.len;unfold gramCells;refine Abs.Spec.fn (n:=93) Tryd.func14 rfl rfl fun own=>?_;refine AW.seq (AW.reg ?_);refine WT.boxT Z Z Z Z Z Z (fun i4 hi4=>?_);refine WT.boxT Z Z Z Z Z Z (fun i6 hi6=>?_);refine zB4 ?_;refine WT.freezeAll 0 Z Z (fun F0 hF0 hB0=>?_);have hi6:=hB0 i6 _ me;have h01:=h0.mono hF0;refine WT.buildT hT Z Z Z Z Z Z Z Z Z Z Z Z Z Z (fun i26 hi26=>?_);refine zB4 ?_;refine WT.makeMap Z Z Z Z (fun im him=>?_);refine zB4 ?_
 refine WT.callC (first:=[]) (args:=[.slice b n d]) (capt:=[.pointer (some ⟨i6,0,none⟩)]) Tryd.func29 Z Z Z Z Z Z Z Z (nameI_spec F0 h01 (hl0▸(hPl _ hP0).1) hgk hbk hi6 key (fun x hx=>hlen x ((hPl _ hP0).2 x hx)) (fun x hx G hG=>hkey x ((hPl _ hP0).2 x hx) G (hF0.trans hG))) (fun v hv=>?_)
 subst hv;refine WT.mapIns keyStr hT 0 0 (m:=[]) (key:=nameF key st0) Z Z Z Z Z Z Z Z Z Z Z Z ?_;refine zB4 ?_;refine AW.block ?_;refine AW.loopR (S:=NmOI) (fun s=>[(15,.int .i64 (s.i:Nat)),(12,.slice s.sa s.sn s.sc),(14,.slice s.ta s.tn s.tc)]) (fun s=>s.TB::[(im,.map (entsV keyStr s.es))]::s.SB::[]::[(i4,.cells false [.int .i64 g.terms,.int .i64 g.nons,.int .i64 g.start,.slice ga gm gc])]::own)
  (fun s G=>numF 400 (fun s=>(symsL g).map (nx s)) 401 0 [st0] []=numF 400 (fun s=>(symsL g).map (nx s)) (401-s.i) s.i s.sts s.rows∧NumI 400 (fun s=>(symsL g).map (nx s)) st0 s.i s.sts s.rows∧Bld (tList tLr) G s.sa s.sn s.sc s.SB s.sts∧Bld (tList tInt) G s.ta s.tn s.tc s.TB s.rows∧MapOk key P s.es s.sts∧∀x∈s.sts,P x) (fun s=>401-s.i)
  ⟨0,[st0],[],some ⟨i26,0,none⟩,1,1,[(i26,.cells false [.slice b n d])],none,0,0,[],mset [] (nameF key st0) (.int .i64 0)⟩
  sM (OwnLe.flat (List.Perm.refl _)) ⟨rfl,NumI.begin _ _ (by decide),⟨rfl,.inr ⟨i26,_,rfl,rfl,rfl,Cells.single (R:=tList tLr) (x:=st0) ⟨_,_,_,rfl,h01⟩,by decide⟩⟩,Bld.nil_ _ _,MapOk.one hinj hP0,fun x hx=>by rw[List.mem_singleton.1 hx];exact hP0⟩ ?_
 intro s F1 hF1 hI;obtain⟨hnum,hN,hsb,htb,hmp,hall⟩:=hI;have hfew:=hN.few;have hle:=hN.le;have hrl:=hN.len;have hsn:=hsb.len;have htn:=htb.len;have hi61:=hF1 _ _ hi6;refine zB7 ?_;refine AW.cond Z (fun h=>?_) (fun h=>?_)
 ·have hlt:s.i<s.sts.length:=by simp at h;omega
  obtain⟨st,hst⟩:∃st,s.sts[s.i]?=some st:=⟨_,gE hlt⟩;have hPst:=hall st (gM hst);refine zB7 ?_;refine AW.block ?_;refine zB7 ?_;have hsy:=symbols_spec F1 g hg (a:=ga) (m:=gm) (c:=gc);unfold gramCells at hsy;refine WT.callF0 Tryd.func30 Z Z Z Z Z Z hsy (fun F2 v hF2 hv=>?_);obtain⟨ya,yn,yc,rfl,hy⟩:=hv;have hyl:=hy.len;rw[symsL_len] at hyl;refine zB7 ?_
  refine AW.range (S:=NmRI) (fun u=>[(12,.slice u.sa u.sn u.sc),(16,.slice u.ra u.rn u.rc)]) (fun u=>u.RB::s.TB::[(im,.map (entsV keyStr u.es))]::u.SB::[]::[(i4,.cells false [.int .i64 g.terms,.int .i64 g.nons,.int .i64 g.start,.slice ga gm gc])]::own)
   (fun k u G=>addAll s.sts (((symsL g).map (nx st)).take k)=(u.sts,u.row)∧u.sts.length≤400∧Bld (tList tLr) G u.sa u.sn u.sc u.SB u.sts∧Bld tInt G u.ra u.rn u.rc u.RB u.row∧MapOk key P u.es u.sts∧∀x∈u.sts,P x) yn ⟨s.sts,[],s.sa,s.sn,s.sc,s.SB,none,0,0,[],s.es⟩
   Z Z Z Z Z Z Z Z Z zo rfl rfl (fun _=>rfl) (fun _=>rfl) sM (OwnLe.flat (List.Perm.refl _)) ⟨rfl,hfew,hsb.mono hF2,Bld.nil_ _ _,hmp,hall⟩ ?_ ?_
  ·intro k u F3 hF3 hk hI;obtain⟨hadd,hu4,hub,hrb,hum,huall⟩:=hI;have hy3:=hy.mono hF3;have hi63:=hF3 _ _ (hF2 _ _ hi61);have hrow:=hrb.len;have hun:=hub.len;obtain⟨⟨ex,hex⟩,hnd,_,hro⟩:=addAll_ok (((symsL g).map (nx st)).take k) s.sts;rw[hadd] at hex hnd hro;have hex:u.sts=s.sts++ex:=hex;have hrl:=hro.len;rw[List.length_take,List.length_map,symsL_len] at hrl;have hrl:u.row.length=k:=by
    have h9:u.row.length=min k (g.terms+g.nons):=hrl;rw[h9,Nat.min_eq_left zo]
   have hsti:u.sts[s.i]?=some st:=by rw[hex,List.getElem?_append_left hlt];exact hst
   refine zB8 ?_;refine WT.idxL hT hy3 Z Z Z Z Z Z Z Z Z (by rw[symsL_len];omega) (fun y hyk b1 off1 ro1 cs1 lx1 hb1 hp1 hrel1=>?_);obtain rfl:lx1=_:=hrel1;obtain⟨hyo,hyi⟩:=symsL_ok hyk;have hosk:((symsL g).map (nx st))[k]?=some (nx st y):=by rw[List.getElem?_map,hyk];rfl
   have htk:((symsL g).map (nx st)).take (k+1)=((symsL g).map (nx st)).take k++[nx st y]:=by rw[List.take_add_one,hosk];rfl
   refine zB8 ?_;refine WT.allocT hT Z Z Z Z Z Z (fun i18 hi18=>?_);refine zB8 ?_;refine WT.vidx hT hub.vec Z Z Z Z Z Z Z Z Z (by rw[hun,hex,List.length_append];omega) (fun b5 hb5=>?_);refine WT.vldE hT 4 hub.vec hb5 hsti Z Z Z Z Z Z Z Z Z (fun v hv=>?_);obtain⟨qa,qn,qc,hv,hq⟩:=hv;obtain rfl:v=.slice qa qn qc:=by simpa using hv
   refine zB8 ?_;refine WT.callCF0 (first:=firstx) (args:=[.slice qa qn qc,.agg ⟨[.bool y.term,.int .i64 y.n]⟩]) (capt:=captx) hgx hbx Z Z Z Z Z Z Z (hnext F3 (hF0.trans (hF1.trans (hF2.trans hF3))) _ _ _ st y hPst hq hyo) (fun F4 v hF4 hv=>?_)
   obtain⟨za,zn,zc,zb,s',rfl,hz,hnx⟩:=hv;have hrb4:=hrb.mono hF4;have hub4:=hub.mono hF4;have hsnoc:=addAll_snoc (((symsL g).map (nx st)).take k) s.sts (nx st y);rw[←htk,hadd] at hsnoc;refine zB8 ?_;refine AW.cond Z (fun hzb=>?_) (fun hzb=>?_)
   ·have hzb:zb=false:=by simpa using hzb
    rw[hzb,if_neg (by simp)] at hnx;rw[hnx] at hsnoc;refine zB8 ?_;refine WT.buildT hT Z Z Z Z Z Z Z Z Z Z Z Z Z Z (fun i58 hi58=>?_);refine WT.appendT (R:=tInt) (ys:=[-1]) hT 2 hrb4 Z (fun _=>rfl) Z Z Z Z Z Z Z Z Z Z Z (fun h0 s0=>news_own hT s0 0 Z Z Z Z) (Cells.single (R:=tInt) (x:=-1) rfl) Z (by decide) zom (fun a3 c3 B3 hB3=>?_);refine zB8 ?_;refine AW.exit ?_;exact⟨⟨u.sts,u.row++[-1],u.sa,u.sn,u.sc,u.SB,a3,u.rn+1,c3,B3,u.es⟩,sM,zow,hsnoc,hu4,hub4,hB3,hum,huall⟩
   ·have hzb:zb=true:=by simpa using hzb
    rw[hzb,if_pos rfl] at hnx;rw[hnx] at hsnoc;have hPs:=hnP st y s' hPst hnx;refine zB8 ?_;refine WT.callC (first:=[]) (args:=[.slice za zn zc]) (capt:=[.pointer (some ⟨i6,0,none⟩)]) Tryd.func29 Z Z Z Z Z Z Z Z (nameI_spec F4 hz (hz.len▸(hPl _ hPs).1) hgk hbk (hF4 _ _ hi63) key (fun x hx=>hlen x ((hPl _ hPs).2 x hx)) (fun x hx G hG=>hkey x ((hPl _ hPs).2 x hx) G (hF0.trans (hF1.trans (hF2.trans (hF3.trans (hF4.trans hG))))))) (fun v hv=>?_)
    subst hv;refine zB8 ?_;have hlk:=hum s' hPs;refine WT.lookup2 keyStr hT 3 (m:=u.es) (key:=nameF key s') Z Z Z Z Z Z Z me Z Z Z (fun v hv=>?_) (fun hv=>?_)
    ·rw[hv] at hlk;have hmem:s'∈u.sts:=by
      by_cases hm:s'∈u.sts
      ·exact hm
      ·rw[if_neg hm] at hlk;cases hlk
     rw[if_pos hmem] at hlk;obtain rfl:=Option.some.inj hlk;have hone:addOne u.sts (some s')=(u.sts,((idxD s' u.sts:Nat):Int)):=by unfold addOne;simp only[if_pos hmem];rfl
     rw[hone] at hsnoc;refine zB8 ?_;refine AW.cond Z (fun h=>(by cases h)) (fun _=>?_);refine zB8 ?_;refine WT.buildT hT Z Z Z Z Z Z Z Z Z Z Z Z Z Z (fun i58 hi58=>?_);refine WT.appendT (R:=tInt) (ys:=[((idxD s' u.sts:Nat):Int)]) hT 2 hrb4 Z (fun _=>rfl) Z Z Z Z Z Z Z Z Z Z Z (fun h0 s0=>news_own hT s0 0 Z Z Z Z) (Cells.single (R:=tInt) (x:=((idxD s' u.sts:Nat):Int)) rfl) Z (by decide) zom (fun a3 c3 B3 hB3=>?_);refine zB8 ?_;exact⟨⟨u.sts,u.row++[((idxD s' u.sts:Nat):Int)],u.sa,u.sn,u.sc,u.SB,a3,u.rn+1,c3,B3,u.es⟩,sM,zow,hsnoc,hu4,hub4,hB3,hum,huall⟩
    ·rw[hv] at hlk;have hmem:s'∉u.sts:=fun hm=>by rw[if_pos hm] at hlk;cases hlk
     have hone:addOne u.sts (some s')=(u.sts++[s'],((u.sts.length:Nat):Int)):=by unfold addOne;simp only[if_neg hmem]
     rw[hone] at hsnoc;refine zB8 ?_;refine AW.cond Z (fun _=>?_) (fun h=>(by cases h));refine zB8 ?_;refine AW.cond Z (fun h4=>?_) (fun h4=>?_)
     ·have h4:u.sts.length=400:=by simp at h4;omega
      refine zB8 ?_;refine AW.ret ⟨_,[],⟨_,_,rfl,⟨_,_,rfl,⟨_,_,rfl,rfl,rfl⟩,rfl⟩,rfl⟩,zsb,rfl,.inl ⟨?_,rfl⟩⟩;rw[hnum,show 401-s.i=(400-s.i)+1 by omega,numF_at _ () hst,if_neg];have h5:=addAll_more s.sts (((symsL g).map (nx st)).take (k+1)) (((symsL g).map (nx st)).drop (k+1));rw[List.take_append_drop,hsnoc] at h5;simp only[List.length_append,List.length_singleton] at h5;omega
     ·have h4:u.sts.length≠400:=by simp at h4;omega
      refine zB8 ?_;refine WT.mapSet keyStr hT 3 0 (m:=u.es) (key:=nameF key s') Z Z Z Z Z Z Z Z Z Z Z Z ?_;refine zB8 ?_;refine WT.buildT hT Z Z Z Z Z Z Z Z Z Z Z Z Z Z (fun i80 hi80=>?_);refine WT.appendT (R:=tList tLr) (ys:=[s']) hT 5 hub4 Z (fun _=>rfl) Z Z Z Z Z Z Z Z Z Z Z (fun h0 s0=>news_own hT s0 0 Z Z Z Z) (Cells.single (R:=tList tLr) (x:=s') ⟨_,_,_,rfl,hz⟩) Z (by decide) zom (fun a4 c4 B4 hB4=>?_);refine zB8 ?_;refine WT.buildT hT Z Z Z Z Z Z Z Z Z Z Z Z Z Z (fun i58 hi58=>?_)
      refine WT.appendT (R:=tInt) (ys:=[((u.sn:Nat):Int)]) hT 3 hrb4 Z (fun _=>rfl) Z Z Z Z Z Z Z Z Z Z Z (fun h0 s0=>news_own hT s0 0 Z Z Z Z) (Cells.single (R:=tInt) (x:=((u.sn:Nat):Int)) rfl) Z (by decide) zom (fun a3 c3 B3 hB3=>?_);refine zB8 ?_;have hum2:=hum.add hinj hPs hmem;rw[←hun] at hum2 hsnoc;refine⟨⟨u.sts++[s'],u.row++[((u.sn:Nat):Int)],a4,u.sn+1,c4,B4,a3,u.rn+1,c3,B3,mset u.es (nameF key s') (.int .i64 (u.sn:Nat))⟩,sM,zow,hsnoc,?_,hB4,hB3,hum2,fun x hx=>?_⟩
      ·show (u.sts++[s']).length≤400;rw[List.length_append,List.length_singleton];omega
      ·rcases List.mem_append.1 hx with hx | hx
       ·exact huall x hx
       ·rw[List.mem_singleton.1 hx];exact hPs
  ·intro u F3 hF3 hI;obtain⟨hadd,hu4,hub,hrb,hum,huall⟩:=hI;rw[List.take_of_length_le (by rw[List.length_map,symsL_len];omega)] at hadd;refine AW.freezeAll 0 Z Z (fun F4 hF4 hB4=>?_);have hrow:=hrb.frozen hF4 hB4;have hF14:=(hF2.trans hF3).trans hF4;have htb4:=htb.mono hF14;refine zB8 ?_;refine WT.buildT hT Z Z Z Z Z Z Z Z Z Z Z Z Z Z (fun i89 hi89=>?_);refine WT.appendT (R:=tList tInt) (ys:=[u.row]) hT 2 htb4 Z (fun _=>rfl) Z Z Z Z Z Z Z Z Z Z Z (fun h0 s0=>news_own hT s0 0 Z Z Z Z) (Cells.single (R:=tList tInt) (x:=u.row) ⟨_,_,_,rfl,hrow⟩) Z (by decide) zom (fun a3 c3 B3 hB3=>?_)
   refine zB8 ?_;have hstep:(addAll s.sts ((symsL g).map (nx st))).1=u.sts∧(addAll s.sts ((symsL g).map (nx st))).2=u.row:=by rw[hadd];exact⟨rfl,rfl⟩
   have hN2:=hN.next hst (by rw[hstep.1];exact hu4)
   have hun:=hub.len;refine⟨⟨s.i+1,u.sts,s.rows++[u.row],u.sa,u.sn,u.sc,u.SB,a3,s.tn+1,c3,B3,u.es⟩,by dsimp only;omega,sM,zow,?_,?_,hub.mono hF4,hB3,hum,huall⟩
   ·rw[hnum,show 401-s.i=(400-s.i)+1 by omega,numF_at _ () hst,if_pos (by rw[hstep.1];exact hu4),hstep.1,hstep.2];show numF 400 _ (400-s.i) (s.i+1) _ _=numF 400 _ (401-(s.i+1)) (s.i+1) _ _;rw[show 401-(s.i+1)=400-s.i by omega]
   ·rw[hstep.1,hstep.2] at hN2;exact hN2
 ·have hge:s.sts.length≤s.i:=by simp at h;omega
  refine AW.exit ?_;refine AW.freezeAll 0 Z Z (fun F2 hF2 hB2=>?_);refine AW.freezeAll 2 Z Z (fun F3 hF3 hB3=>?_);have ht:=htb.frozen hF2 hB2;have hs3:=(hsb.mono hF2).frozen hF3 hB3;refine zB7 ?_;refine AW.ret ⟨_,[],⟨_,_,rfl,⟨_,_,rfl,⟨_,_,rfl,rfl,rfl⟩,rfl⟩,rfl⟩,zsb,rfl,.inr ⟨s.sts,s.rows,_,_,_,_,_,_,?_,rfl,hs3,ht.mono hF3⟩⟩;rw[hnum,show 401-s.i=(400-s.i)+1 by omega];unfold numF;rw[List.getElem?_eq_none hge]
def PI(g:Gram)(s:List Lr):Prop:=s.length≤1000∧∀x∈s,OkLr g x
theorem okI{g:Gram}(hg:Valid g){x:Lr}(h:OkLr g x):x.rule<100∧x.dot<100:=by
 have hr:=hg.range.rules;obtain⟨h1,h2⟩:=h;refine⟨by omega,?_⟩;have:(rightL g x.rule).length≤4:=by
  unfold rightL;split
  ·simp
  ·cases hq:g.rules[x.rule]? with
   | none=>simp
   | some r=>exact(hg.right r (gM hq)).2.1
 omega
theorem allLr_len{g:Gram}(hg:Valid g):(allLr g).length≤1000:=by
 have hr:=hg.range.rules;unfold allLr;rw[List.length_flatten,List.map_map];have:∀n≤g.rules.length+1,((List.range n).map (List.length ∘ fun k=>(List.range ((rightL g k).length+1)).map fun d=>(⟨k,d⟩:Lr))).sum≤n*5:=by
  intro n hn
  induction n with
  | zero=>simp
  | succ n ih=>
   rw[List.range_succ,List.map_append,List.sum_append];have ih:=ih zo;simp only[List.map_cons,List.map_nil,List.sum_cons,List.sum_nil,Function.comp,List.length_map,List.length_range];have h2:(rightL g n).length≤4:=by
    unfold rightL;split
    ·simp
    ·cases hq:g.rules[n]? with
     | none=>simp
     | some r=>exact(hg.right r (gM hq)).2.1
   omega
 have h:=this _ (Nat.le_refl _);omega
theorem closL_PI{g:Gram}(hg:Valid g)(l:List Lr):PI g (closL g l):=by
 refine⟨?_,closL_ok⟩;have h1:=allLr_len hg;have h2:=List.length_filter_le (fun z=>@decide (Clos g l z) (Classical.propDecidable _)) (allLr g);unfold closL;omega
theorem itemsOf2_spec(F:Frz)(g:Gram)(hg:Valid g){a:Option Addr}{m c:Nat}(hr:Arr tRule F a m c g.rules) :
  Abs.Spec CC 5 [.agg ⟨gramCells g a m c⟩] F [] fun F' v o=>o=[]∧((autoI g=none∧v=.tuple ⟨[.agg ⟨[.slice none 0 0,.slice none 0 0]⟩,.int .i64 2]⟩)∨
   ∃I rows a1 n1 c1 a2 n2 c2,autoI g=some (I,rows)∧v=.tuple ⟨[.agg ⟨[.slice a1 n1 c1,.slice a2 n2 c2]⟩,.int .i64 0]⟩∧Arr (tList tLr) F' a1 n1 c1 I∧Arr (tList tInt) F' a2 n2 c2 rows):=by
 have hrl:=hr.len;have hgr:=hg.range.rules;have hg4:∀r∈g.rules,r.right.length≤100:=fun r h=>by have:=(hg.right r h).2.1;omega
 refine Abs.Spec.fn (n:=34) Tryd.func5 rfl rfl fun own=>?_;refine AW.seq (AW.reg ?_);refine WT.boxT Z Z Z Z Z Z (fun i1 hi1=>?_);refine WT.freezeAll 0 Z Z (fun F0 hF0 hB0=>?_);have hi1:=hB0 i1 _ me;have hr:=hr.mono hF0;unfold gramCells at hi1 ⊢;refine WT.allocT hT Z Z Z Z Z Z (fun i2 hi2=>?_);refine zB4 ?_;have hck:=check_spec F0 g hg.range hr;unfold gramCells at hck;refine WT.callV Tryd.func13 Z Z Z Z Z Z hck (fun v hv=>?_);rw[hg.no_err] at hv;subst hv;refine zB4 ?_;refine AW.cond Z (fun h=>(by cases h)) (fun _=>?_);refine zB4 ?_;refine AW.draw (ps:=[(0,6),(0,7),(1,6)]) Z Z ?_;refine zB4 ?_
 refine WT.buildT hT Z Z Z Z Z Z Z Z Z Z Z Z Z Z (fun i21 hi21=>?_);refine WT.freezeAll 0 Z Z (fun F1 hF1 hB1=>?_);have hk1:Arr tLr F1 (some ⟨i21,0,none⟩) 1 2 [⟨g.rules.length,0⟩]:=by
  have hb:Bld tLr F0 (some ⟨i21,0,none⟩) 1 2 [(i21,.cells false [.int .i64 m,.int .i64 0])] [⟨g.rules.length,0⟩]:=⟨rfl,.inr ⟨i21,_,rfl,rfl,rfl,Cells.single (R:=tLr) (x:=⟨g.rules.length,0⟩) (by rw[←hrl];rfl),by decide⟩⟩;exact hb.frozen hF1 hB1
 have hr1:=hr.mono hF1;have hi11:=hF1 _ _ hi1;have hcs:=closure_spec F1 g hg4 hr1 zo hk1 zo (fun z hz=>(start_ok z hz).1);unfold gramCells at hcs;refine WT.callF0 Tryd.func15 Z Z Z Z Z Z hcs (fun F2 v hF2 hv=>?_);obtain⟨a8,m8,c8,zs,rfl,hz,hzm,hstr,hmem⟩:=hv;obtain rfl:zs=firstI g:=closL_eq start_ok hstr hmem;have hr2:=hr1.mono hF2;have hi12:=hF2 _ _ hi11;refine zB4 ?_;have hnm:=numberI_spec F2 g hg (ga:=a) (gm:=m) (gc:=c) hz (fk:=16) (fx:=17) (firstx:=[]) (captx:=[.pointer (some ⟨i1,0,none⟩)]) Tryd.func16 rfl Tryd.func17 rfl
  keyIt (nextI g) (PI g) (fun x=>x.rule<100∧x.dot<100) (closL_PI hg _) (fun s hs=>⟨hs.1,fun x hx=>okI hg (hs.2 x hx)⟩)
  (fun s s' hs hs' e=>nameI_inj (fun x hx=>okI hg (hs.2 x hx)) (fun x hx=>okI hg (hs'.2 x hx)) e)
  (fun s y s' _ e=>by
   unfold nextI at e;split at e
   ·cases e
   ·obtain rfl:=Option.some.inj e;exact closL_PI hg _)
  (fun x _=>by have:=keyIt_len x;omega) (fun x hx G _=>keyIt_spec G x hx)
  (fun G hG a' m' c' s y hs hA hy=>nextI_spec G g hg (hG _ _ hi12) (hr2.mono hG) hA (hA.len▸hs.1) hs.2 y hy)
 unfold gramCells at hnm;refine WT.callF0 Tryd.func14 Z Z Z Z Z Z hnm (fun F3 v hF3 hv=>?_);rcases hv with ⟨hno,rfl⟩ | ⟨S,rows,a1,n1,c1,a2,n2,c2,hyes,rfl,hS,hR⟩
 ·refine zB4 ?_;refine⟨zrC,?_⟩;refine zB4 ?_;refine AW.cond Z (fun _=>?_) (fun h=>(by cases h));refine zB4 ?_;exact AW.ret ⟨_,[],⟨_,_,⟨_,rfl,fun G h0 s0=>loadA_cells (s0.has (p:=1) rfl me) (readT_ok hT rfl)⟩,⟨_,_,rfl,rfl,rfl⟩,rfl⟩,zsb,rfl,.inl ⟨hno,rfl⟩⟩
 ·refine zB4 ?_;refine⟨zrC,?_⟩;refine zB4 ?_;refine AW.cond Z (fun h=>(by cases h)) (fun _=>?_);refine zB4 ?_;exact AW.ret ⟨_,[],⟨_,_,⟨_,rfl,fun G h0 s0=>loadA_cells (s0.has (p:=1) rfl me) (readT_ok hT rfl)⟩,⟨_,_,rfl,rfl,rfl⟩,rfl⟩,zsb,rfl,.inr ⟨S,rows,_,_,_,_,_,_,hyes,rfl,hS,hR⟩⟩
def fndS(f:Nat)(x:Int):Nat:=if x=(f:Int) then f+1 else f
def fnd(l:List Int):Nat:=l.foldl fndS 1
theorem fnd_snoc(l:List Int)(x:Int):fnd (l++[x])=fndS (fnd l) x:=by unfold fnd;rw[List.foldl_append];rfl
structure FndOk{α:Type}(sts:List α)(fl:List Int):Prop where
 eq:fnd fl=sts.length
 le:∀(k:Nat) (x:Int),fl[k]?=some x→x≤(fnd (fl.take k):Int)
theorem FndOk.add{α:Type}[DecidableEq α]:∀(os:List (Option α)) {sts:List α} {fl:List Int},FndOk sts fl→FndOk (addAll sts os).1 (fl++(addAll sts os).2)
 | [],sts,fl,h=>by
  show FndOk sts (fl++[]);rw[List.append_nil];exact h
 | o::os,sts,fl,h=>by
  have h1:FndOk (addOne sts o).1 (fl++[(addOne sts o).2]):=by
   have key:(addOne sts o).2≤(sts.length:Int)∧fndS sts.length (addOne sts o).2=(addOne sts o).1.length:=by
    cases o with
    | none=>
     refine⟨by show (-1:Int)≤_;omega,?_⟩;show fndS sts.length (-1)=sts.length;unfold fndS;rw[if_neg zo]
    | some s=>
     by_cases hs:s∈sts
     ·have e:addOne sts (some s)=(sts,(sts.idxOf s:Int)):=if_pos hs;have:=List.idxOf_lt_length_of_mem hs;rw[e];refine⟨by show ((sts.idxOf s:Nat):Int)≤_;omega,?_⟩;show fndS sts.length ((sts.idxOf s:Nat):Int)=sts.length;unfold fndS;exact if_neg zo
     ·have e:addOne sts (some s)=(sts++[s],(sts.length:Int)):=if_neg hs;rw[e];refine⟨Int.le_refl _,?_⟩;show fndS sts.length (sts.length:Int)=(sts++[s]).length;unfold fndS;rw[if_pos rfl,List.length_append];rfl
   refine⟨by rw[fnd_snoc,h.eq];exact key.2,fun k x hk=>?_⟩;by_cases e:k<fl.length
   ·rw[List.getElem?_append_left e] at hk;rw[List.take_append_of_le_length zo];exact h.le k x hk
   ·have hk2:=(gS hk).1;rw[List.length_append,List.length_singleton] at hk2;have:k=fl.length:=by omega
    subst this;rw[List.getElem?_append_right (Nat.le_refl _),Nat.sub_self] at hk;obtain rfl:=Option.some.inj hk;rw[List.take_append_of_le_length (Nat.le_refl _),List.take_length,h.eq];exact key.1
  have h2:=h1.add os;rw[List.append_assoc] at h2;exact h2
theorem numF_fnd{α:Type}[DecidableEq α]{most:Nat}{step:α→List (Option α)}:∀(f i:Nat) {sts:List α} {rows:List (List Int)},FndOk sts rows.flatten→∀{sts' rows'},numF most step f i sts rows=some (sts',rows')→FndOk sts' rows'.flatten
 | 0,_,_,_,_,_,_,h=>by cases h
 | f+1,i,sts,rows,hI,sts',rows',h=>by
  unfold numF at h;split at h
  ·cases h;exact hI
  ·rename_i st hst;split at h
   ·refine numF_fnd f (i+1) ?_ h;rw[List.flatten_append,List.flatten_cons,List.flatten_nil,List.append_nil];exact hI.add (step st)
   ·cases h
theorem FndOk.at{α:Type}{sts:List α}{rows:List (List Int)}(h:FndOk sts rows.flatten){s k:Nat}{row:List Int}{x:Int}(hs:rows[s]?=some row)(hk:row[k]?=some x) :
  x≤(fnd ((rows.take s).flatten++row.take k):Int):=by
 have hlt:=(gS hs).1;have e:rows.flatten=(rows.take s).flatten++(row++(rows.drop (s+1)).flatten):=by
  have e1:rows=rows.take s++(row::rows.drop (s+1)):=by
   have e2:=List.take_append_drop s rows;rw[List.drop_eq_getElem_cons hlt,(gS hs).2] at e2;exact e2.symm
  have e3:=congrArg List.flatten e1;rw[List.flatten_append,List.flatten_cons] at e3;exact e3
 have hkl:=(gS hk).1;have h1:=h.le ((rows.take s).flatten.length+k) x (by
  rw[e,List.getElem?_append_right zo,Nat.add_sub_cancel_left,List.getElem?_append_left hkl];exact hk)
 rw[e,List.take_length_add_append,List.take_append_of_le_length zo] at h1;exact h1
theorem take_flat{rows:List (List Int)}{s:Nat}{row:List Int}(hs:rows[s]?=some row):(rows.take (s+1)).flatten=(rows.take s).flatten++row:=by
 rw[List.take_add_one,hs,Option.toList_some,List.flatten_append,List.flatten_cons,List.flatten_nil,List.append_nil]
theorem autoI_fnd{g:Gram}{I:List (List Lr)}{rows:List (List Int)}(h:autoI g=some (I,rows)):FndOk I rows.flatten:=by
 refine numF_fnd 401 0 ?_ h;exact⟨rfl,fun k x hk=>by simp at hk⟩
theorem closL_idem{g:Gram}{l:List Lr}(hl:∀x∈l,OkLr g x):closL g (closL g l)=closL g l:=by
 refine strict_uniq (closL_strict _ _) (closL_strict _ _) fun z=>?_;rw[mem_closL fun x hx=>(closL_ok x hx),mem_closL hl];constructor
 ·intro h
  induction h with
  | base h=>exact(mem_closL hl).1 h
  | more _ ha hr hn ih=>exact .more ih ha hr hn
 ·intro h;exact .base ((mem_closL hl).2 h)
theorem autoI_closed{g:Gram}{I:List (List Lr)}{rows:List (List Int)}(h:autoI g=some (I,rows)):∀st∈I,closL g st=st:=by
 obtain⟨_,hN⟩:=autoI_ok h;intro st hst;obtain⟨s,hs,rfl⟩:=List.getElem_of_mem hst;have hs':I[s]?=some I[s]:=gE hs;rcases Nat.eq_zero_or_pos s with rfl | hp
 ·have h1:=hN.first
  rw[hs'] at h1;rw[Option.some.inj h1];exact closL_idem start_ok
 ·obtain⟨k,sk,_,_,h3,h4⟩:=hN.from_ s _ hp hs';obtain⟨y,_,hy⟩:=List.mem_map.1 h4;split at hy
  ·cases hy
  ·rw[←Option.some.inj hy];exact closL_idem fun x hx=>(kern_ok x hx).1
theorem autoI_row{g:Gram}{I:List (List Lr)}{rows:List (List Int)}(h:autoI g=some (I,rows)){s k:Nat}{st:List Lr}{row:List Int}{x:Int}{y:Sym}(hs:I[s]?=some st)(hr:rows[s]?=some row)
  (hk:row[k]?=some x) (hy:(symsL g)[k]?=some y):(kern g st y=[]∧x=-1)∨(kern g st y≠[]∧∃j:Nat,x=(j:Int)∧I[j]?=some (closL g (kern g st y))):=by
 obtain⟨_,hN⟩:=autoI_ok h;have hR:=hN.row s st row hs hr;have hst:(stepI g st)[k]?=some (if kern g st y=[] then none else some (closL g (kern g st y))):=map_at hy;by_cases e:kern g st y=[]
 ·rw[if_pos e] at hst;have:=hR.no k hst;rw[hk] at this;exact .inl ⟨e,Option.some.inj this⟩
 ·rw[if_neg e] at hst;obtain⟨j,h1,h2⟩:=hR.yes k _ hst;rw[hk] at h1;exact .inr ⟨e,j,Option.some.inj h1,h2⟩
end Go.Proofs.D
set_option linter.unusedVariables false
set_option maxRecDepth 20000
set_option maxHeartbeats 0
open Go Go.Abs Go.Proofs Go.Proofs.D
namespace Go.Abs
end Go.Abs
namespace Go.Proofs.D
theorem right_spec(F:Frz)(g:Gram)(hg4:∀r∈g.rules,r.right.length≤100){a:Option Addr}{m c:Nat}(hr:Arr tRule F a m c g.rules)(hm:m≤1000000)(x:Nat)(hx:x≤m) :
  Abs.Spec CC 9 [.agg ⟨gramCells g a m c⟩,.int .i64 x] F [] fun F' v o=>o=[]∧∃b n d,v=.slice b n d∧Arr tSym F' b n d (rightL g x):=by
 have hml:=hr.len;unfold gramCells;refine Abs.Spec.fn (n:=32) Tryd.func9 rfl rfl fun own=>?_;refine AW.seq (AW.reg ?_);refine WT.boxT Z Z Z Z Z Z (fun i2 hi2=>?_);refine zB4 ?_;refine AW.block ?_;refine zB4 ?_;refine AW.cond Z (fun h=>?_) (fun h=>?_)
 ·have h:x=m:=by simp at h;omega
  refine zB4 ?_;refine WT.callV Tryd.func20 Z Z Z Z Z Z (gN_spec _ _) (fun v hv=>?_);subst hv;refine WT.buildT hT Z Z Z Z Z Z Z Z Z Z Z Z Z Z (fun i5 hi5=>?_);refine WT.freezeAll 0 Z Z (fun F1 hF1 hB1=>?_);have hb:Bld tSym F (some ⟨i5,0,none⟩) 1 2 [(i5,.cells false [.bool false,.int .i64 g.start])] [(⟨false,g.start⟩:Sym)]:=⟨rfl,.inr ⟨i5,_,rfl,rfl,rfl,Cells.single (R:=tSym) (x:=⟨false,g.start⟩) rfl,by decide⟩⟩;have hs:=hb.frozen hF1 hB1;refine zB4 ?_;refine AW.ret ⟨_,[],⟨_,_,rfl,rfl,rfl⟩,zsb,rfl,_,_,_,rfl,?_⟩;rw[h,hml,rightL_start];exact hs
 ·have h:x<m:=by simp at h;omega
  refine zB4 ?_;refine AW.cond Z (fun h=>(by simp at h;omega)) (fun _=>?_);refine zB4 ?_;refine WT.idxL hT hr Z Z Z Z Z Z Z Z Z zo (fun r hrx b5 off5 ro5 cs5 lx5 hb5 hp5 hrel5=>?_);obtain⟨ra,rn,rc,rfl,hra⟩:=hrel5;have hral:=hra.len;have hr4:=hg4 r (gM hrx);refine zB4 ?_;refine WT.callN Tryd.func21 Z Z Z Z Z Z (symClone_spec _ hra zo) (fun F2 v B2 hF2 hv=>?_);obtain⟨ca,cc,rfl,hcv⟩:=hv;refine WT.freezeAll 0 Z Z (fun F3 hF3 hB3=>?_);have hca:=hcv.arr hF3 hB3;refine zB4 ?_;refine AW.ret ⟨_,[],⟨_,_,rfl,rfl,rfl⟩,zsb,rfl,_,_,_,rfl,?_⟩;rw[rightL_rule hrx];exact hca
theorem lrSame_spec(F:Frz){a b:Option Addr}{m n c d:Nat}{xs ys:List Lr}(hx:Arr tLr F a m c xs)(hy:Arr tLr F b n d ys)(hm:m≤1000000)(hn:n≤1000000) :
  Abs.Spec CC 8 [.slice a m c,.slice b n d] F [] fun _ v o=>o=[]∧v=.bool (decide (xs=ys)):=by
 refine Abs.Spec.fn (n:=26) Tryd.func8 rfl rfl fun own=>?_;have hxlen:=hx.len;have hylen:=hy.len;refine zB4 ?_;refine AW.cond Z (fun hc=>?_) (fun hc=>?_)
 ·have hne:xs≠ys:=by
   intro he;subst he;simp at hc;omega
  refine zB4 ?_;refine AW.ret ⟨_,[],⟨_,_,rfl,rfl,rfl⟩,zsb,rfl,?_⟩;rw[decide_eq_false hne];rfl
 have hc:m=n:=by simp at hc;omega
 subst hc;refine zB4 ?_;refine AW.range (S:=Unit) (fun _=>[]) (fun _=>_) (fun j _ G=>xs.take j=ys.take j) m () Z Z Z Z Z Z Z Z Z zo Z Z (fun _=>rfl) (fun _=>rfl) sM oR (by simp) ?_ ?_
 ·intro j _ F1 hF1 hj hP;have hx1:=hx.mono hF1;have hy1:=hy.mono hF1;refine zB4 ?_;refine WT.idxL hT hx1 Z Z Z Z Z Z Z Z Z zo (fun x hxj b1 off ro cs lx hb hp1 hrel=>?_);obtain rfl:lx=_:=hrel;refine zB4 ?_;refine WT.idxL hT hy1 Z Z Z Z Z Z Z Z Z zo (fun y hyj b2 off2 ro2 cs2 ly hb2 hp2 hrel2=>?_);obtain rfl:ly=_:=hrel2;refine zB4 ?_;refine AW.cond Z (fun hc=>?_) (fun hc=>?_)
  ·have hne:xs≠ys:=by
    intro he;subst he;obtain rfl:x=y:=by rw[hxj] at hyj;exact Option.some.inj hyj
    simp at hc
   refine zB4 ?_;refine AW.ret ⟨_,[],⟨_,_,rfl,rfl,rfl⟩,zsb,rfl,?_⟩;rw[decide_eq_false hne];rfl
  ·have he:x=y:=by
    obtain⟨x1,x2⟩:=x;obtain⟨y1,y2⟩:=y;simp at hc;simp only[Lr.mk.injEq];omega
   subst he;refine zB4 ?_;refine⟨(),sM,zow,?_⟩;show xs.take (j+1)=ys.take (j+1);rw[List.take_add_one,List.take_add_one,hxj,hyj,hP]
 ·intro _ F1 hF1 hP;rw[List.take_of_length_le zo,List.take_of_length_le zo] at hP;refine zB4 ?_;refine AW.ret ⟨_,[],⟨_,_,rfl,rfl,rfl⟩,zsb,rfl,?_⟩;rw[decide_eq_true hP];rfl
theorem okLr_iff{g:Gram}{x:Lr}:OkLr g x↔LrOk g x:=by
 unfold OkLr LrOk rightL;constructor
 ·rintro⟨h1,h2⟩;refine⟨h1,?_⟩;split
  ·rename_i e;rw[if_pos e] at h2;exact h2
  ·rename_i e;rw[if_neg e] at h2;cases hr:g.rules[x.rule]? with
   | none=>rw[hr] at h2;exact h2
   | some r=>rw[hr] at h2;exact h2
 ·rintro⟨h1,h2⟩;refine⟨h1,?_⟩;split
  ·rename_i e;rw[if_pos e] at h2;exact h2
  ·rename_i e;rw[if_neg e] at h2;cases hr:g.rules[x.rule]? with
   | none=>rw[hr] at h2;exact h2
   | some r=>rw[hr] at h2;exact h2
theorem index_spec(F:Frz)(g:Gram){a:Option Addr}{m c:Nat}(y:Sym)(ht:g.terms≤1000)(hy:y.n≤1000) :
  Abs.Spec CC 10 [.agg ⟨gramCells g a m c⟩,.agg ⟨[.bool y.term,.int .i64 y.n]⟩] F [] fun _ v o=>o=[]∧v=.int .i64 (idxS g y:Nat):=by
 unfold gramCells;obtain⟨yt,yn⟩:=y;have hy:yn≤1000:=hy;refine Abs.Spec.fn (n:=14) Tryd.func10 rfl rfl fun own=>?_;refine AW.seq (AW.reg ?_);refine WT.boxT Z Z Z Z Z Z (fun i2 hi2=>?_);refine WT.boxT Z Z Z Z Z Z (fun i3 hi3=>?_);refine zC4 ?_;refine AW.cond Z (fun h=>?_) (fun h=>?_)
 ·have h:yt=true:=h;subst h;refine zC4 ?_;refine AW.ret ⟨_,[],⟨_,_,rfl,rfl,rfl⟩,zsb,rfl,?_⟩;rfl
 ·have h:yt=false:=h;subst h;refine zC4 ?_;refine AW.ret ⟨_,[],⟨_,_,rfl,rfl,rfl⟩,zsb,rfl,?_⟩;rfl
end Go.Proofs.D