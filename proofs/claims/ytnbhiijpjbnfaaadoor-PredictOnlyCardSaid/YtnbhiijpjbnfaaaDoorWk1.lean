/-
  Walks: what functions of the program do, over the abstract machine.
-/
import Derived.Test.YtnbhiijpjbnfaaaDoorWk0
import Derived.Sort.Walk13a
set_option linter.unusedVariables false
set_option maxRecDepth 20000
set_option maxHeartbeats 0
open Go Go.Abs Go.Proofs Go.Proofs.D
namespace Go.Proofs.D
instance:Inhabited Key:=⟨⟨⟨false,0⟩,0,0⟩⟩
theorem kyIns_spec(F:Frz){lt:Key→Key→Bool}{g:Nat}{first capt:List Value}(hc:CmpOk tKey lt F g first capt){a0:Option Addr}{m c:Nat}{B:List (Nat×Blk)}{d:Array Key}(hv:Vec tKey F a0 m c B d.toList)(a b:Nat)(ha:a≤1000000)(hb:b≤m)(hm:m≤1000000) :
  Abs.Spec CC 88 [.slice a0 m c,.int .i64 a,.int .i64 b,.func (.func g) ⟨first⟩ ⟨capt⟩] F [B] fun F' v o=>∃B',o=[B']∧Vec tKey F' a0 m c B' (Go.Sort.insertionSort lt d a b).toList:=by
 obtain⟨⟨fn,hg,hgb⟩,hcmp⟩:=hc;refine Abs.Spec.fn (n:=53) Tryd.func88 rfl rfl fun own=>?_;refine zC4 ?_;refine AW.block ?_;refine AW.loopR (S:=VS Key) (fun s=>[(8,.int .i64 (s.i:Nat))]) (fun s=>s.B::own) (fun s G=>Vec tKey G a0 m c s.B s.d.toList∧Go.Sort.insOuter lt a b s.i s.d=Go.Sort.insertionSort lt d a b) (fun s=>b-s.i) ⟨a+1,d,B⟩
  sM oR ⟨hv,rfl⟩ ?_
 intro s F1 hF1 hP;obtain⟨hv1,heq1⟩:=hP;refine zC4 ?_;refine AW.cond Z (fun h=>?_) (fun h=>?_)
 ·have h:s.i<b:=by simpa using h
  refine zC4 ?_;refine AW.block ?_;refine zC4 ?_;refine AW.block ?_;refine AW.loopR (S:=VS Key) (fun u=>[(9,.int .i64 (u.i:Nat))]) (fun u=>u.B::own) (fun u G=>Vec tKey G a0 m c u.B u.d.toList∧u.i≤s.i∧Go.Sort.insInner lt a u.i u.d=Go.Sort.insInner lt a s.i s.d) (fun u=>u.i) ⟨s.i,s.d,s.B⟩
   sM oR ⟨hv1,Nat.le_refl _,rfl⟩ ?_
  intro u F2 hF2 hP2;obtain⟨hv2,hui,heq2⟩:=hP2;have hsz:m=u.d.size:=hv2.len;have stop:(a<u.i→lt u.d[u.i]! u.d[u.i-1]! = false)→Go.Sort.insOuter lt a b (s.i+1) u.d=Go.Sort.insertionSort lt d a b:=by
   intro h1;rw[←heq1];have e:Go.Sort.insInner lt a s.i s.d=u.d:=by
    rw[←heq2];cases hi:u.i with
    | zero=>rfl
    | succ j=>
     rw[hi] at h1;simp only[Nat.add_sub_cancel] at h1;rw[Go.Sort.insInner];by_cases h2:a<j+1
     ·rw[h1 h2];simp
     ·simp[h2]
   conv=>rhs;rw[Go.Sort.insOuter]
   rw[if_pos h,e]
  refine zC4 ?_;refine WT.split 21 Z (fun hja=>?_) (fun hja=>?_)
  ·have hja:a<u.i:=by simp at hja;omega
   refine zC4 ?_;refine WT.vidx hT hv2 Z Z Z Z Z Z Z Z Z zo (fun bl1 hbl1=>?_);refine WT.vldS hT 0 hv2 hbl1 (arr_at zo) Z Z Z Z Z Z Z Z Z (fun l1 hl1=>?_);refine zC4 ?_;refine WT.vidx hT hv2 Z Z Z Z Z Z Z Z Z zo (fun bl2 hbl2=>?_);refine WT.vldS hT 0 hv2 hbl2 (arr_at zo) Z Z Z Z Z Z Z Z Z (fun l2 hl2=>?_);refine WT.callC hg hgb Z Z Z Z Z Z Z (hcmp F2 (hF1.trans hF2) l1 l2 _ _ hl1 hl2) (fun v hvz=>?_);obtain⟨z,rfl,hz⟩:=hvz;refine zC4 ?_;refine AW.cond Z (fun hc=>?_) (fun hc=>?_)
   ·have hlt:lt u.d[u.i]! u.d[u.i-1]! = true:=hz.1 (by simpa using hc);refine zC4 ?_;refine AW.block ?_;refine AW.draw (ps:=[(4,15)]) Z Z ?_;refine zC4 ?_;refine WT.vidx hT hv2 Z Z Z Z Z Z Z Z Z zo (fun bl3 hbl3=>?_);refine WT.vldS hT 0 hv2 hbl3 (arr_at zo) Z Z Z Z Z Z Z Z Z (fun l3 hl3=>?_);refine zC4 ?_;refine WT.vidx hT hv2 Z Z Z Z Z Z Z Z Z zo (fun bl4 hbl4=>?_);refine WT.vldS hT 0 hv2 hbl4 (arr_at zo) Z Z Z Z Z Z Z Z Z (fun l4 hl4=>?_);refine WT.vidx hT hv2 Z Z Z Z Z Z Z Z Z zo (fun bl5 hbl5=>?_)
    refine WT.vst (y:=u.d[u.i-1]!) hT 0 hv2 hbl5 (gE (by simp;omega)) Z Z Z Z Z hl3 Z (fun _=>rfl) Z (fun Bl5 hBl5=>?_);refine WT.vidx hT hBl5 Z Z Z Z Z Z Z Z Z zo (fun bl6 hbl6=>?_);refine WT.vst (y:=u.d[u.i]!) hT 0 hBl5 hbl6 (gE (by simp;omega)) Z Z Z Z Z hl4 Z (fun _=>rfl) Z (fun Bl6 hBl6=>?_);rw[←swp_list] at hBl6;refine zC4 ?_;refine⟨zrC,?_⟩;refine zC4 ?_;refine⟨⟨u.i-1,Go.Sort.swp u.d u.i (u.i-1),Bl6⟩,by dsimp only;omega,sM,OwnLe.refl _,hBl6,by dsimp only;omega,?_⟩;rw[←heq2];show Go.Sort.insInner lt a (u.i-1) (Go.Sort.swp u.d u.i (u.i-1))=_;cases hi:u.i with
    | zero=>omega
    | succ j=>
     rw[hi] at hlt;simp only[Nat.add_sub_cancel] at hlt ⊢
     conv=>rhs;rw[Go.Sort.insInner]
     rw[if_pos (by simp[hlt];omega)]
   ·have hlt:lt u.d[u.i]! u.d[u.i-1]! = false:=by
     cases hh:lt u.d[u.i]! u.d[u.i-1]! with
     | false=>rfl
     | true=>exact absurd (hz.2 hh) (by simpa using hc)
    refine AW.exit ?_;refine zC4 ?_;exact⟨⟨s.i+1,u.d,u.B⟩,by dsimp only;omega,sM,OwnLe.refl _,hv2,stop (fun _=>hlt)⟩
  ·have hja:¬a<u.i:=by simp at hja;omega
   refine zC4 ?_;refine AW.cond Z (fun h=>(by cases h)) (fun _=>?_);refine AW.exit ?_;refine zC4 ?_;exact⟨⟨s.i+1,u.d,u.B⟩,by dsimp only;omega,sM,OwnLe.refl _,hv2,stop (fun h=>absurd h hja)⟩
 ·have h:¬s.i<b:=by simpa using h
  refine AW.exit ?_;refine⟨_,[_],rfl,zsb,_,rfl,?_⟩;rw[←heq1,Go.Sort.insOuter,if_neg h];exact hv1
theorem kySift_spec(F:Frz){lt:Key→Key→Bool}{g:Nat}{first capt:List Value}(hc:CmpOk tKey lt F g first capt){a0:Option Addr}{m c:Nat}{B:List (Nat×Blk)}{d:Array Key}(hv:Vec tKey F a0 m c B d.toList)(lo hi fst:Nat)(hlo:lo≤1000000)(hb:fst+hi≤m)(hm:m≤1000000) :
  Abs.Spec CC 100 [.slice a0 m c,.int .i64 lo,.int .i64 hi,.int .i64 fst,.func (.func g) ⟨first⟩ ⟨capt⟩] F [B] fun F' v o=>∃B',o=[B']∧Vec tKey F' a0 m c B' (Go.Sort.siftDown lt hi fst lo d).toList:=by
 obtain⟨⟨fn,hg,hgb⟩,hcmp⟩:=hc;refine Abs.Spec.fn (n:=82) Tryd.func100 rfl rfl fun own=>?_;refine zC4 ?_;refine AW.block ?_;refine AW.loopR (S:=VS Key) (fun s=>[(10,.int .i64 (s.i:Nat))]) (fun s=>s.B::own) (fun s G=>Vec tKey G a0 m c s.B s.d.toList∧s.i≤1000000∧Go.Sort.siftDown lt hi fst s.i s.d=Go.Sort.siftDown lt hi fst lo d) (fun s=>hi-s.i) ⟨lo,d,B⟩
  sM oR ⟨hv,hlo,rfl⟩ ?_
 intro u F1 hF1 hP;obtain⟨hv2,hui,heq⟩:=hP;have hsz:m=u.d.size:=hv2.len;refine AW.block ?_;refine zC4 ?_;refine AW.cond Z (fun h=>?_) (fun h=>?_)
 ·have h:hi≤2*u.i+1:=by simp at h;omega
  refine AW.exit ?_;refine⟨_,[_],rfl,zsb,_,rfl,?_⟩;rw[←heq,Go.Sort.siftDown,dif_pos h];exact hv2
 ·have h:2*u.i+1<hi:=by simp at h;omega
  refine AW.skip ?_;refine AW.jn (S:=Nat) (fun ch=>[(11,.int .i64 (ch:Nat))]) (fun _=>u.B::own) (fun ch _=>u.i<ch∧ch<hi∧Go.Sort.siftDown lt hi fst u.i u.d=if (!lt u.d[fst+u.i]! u.d[fst+ch]!)=true then u.d else Go.Sort.siftDown lt hi fst ch (Go.Sort.swp u.d (fst+u.i) (fst+ch))) ?_ (fun ch F3 hF3 hch=>?_)
  ·have e1:(decide (2*u.i+1+1<hi)&&lt u.d[fst+(2*u.i+1)]! u.d[fst+(2*u.i+1)+1]!)=false→Go.Sort.siftDown lt hi fst u.i u.d=if (!lt u.d[fst+u.i]! u.d[fst+(2*u.i+1)]!)=true then u.d else Go.Sort.siftDown lt hi fst (2*u.i+1) (Go.Sort.swp u.d (fst+u.i) (fst+(2*u.i+1))):=by
    intro h1
    conv=>lhs;rw[Go.Sort.siftDown]
    rw[dif_neg zo];simp only[Bool.and_eq_true,decide_eq_true_eq,Bool.and_eq_false_imp] at h1 ⊢;rw[if_neg (fun h2=>by have:=h1 h2.1;rw[h2.2] at this;cases this)]
   refine zC4 ?_;refine WT.split 23 Z (fun h2=>?_) (fun h2=>?_)
   ·have h2:2*u.i+1+1<hi:=by simp at h2;omega
    refine zC4 ?_;refine WT.vidx hT hv2 Z Z Z Z Z Z Z Z Z zo (fun bl1 hbl1=>?_);refine WT.vldS hT 0 hv2 hbl1 (arr_at zo) Z Z Z Z Z Z Z Z Z (fun l1 hl1=>?_);refine zC4 ?_;refine WT.vidx hT hv2 Z Z Z Z Z Z Z Z Z zo (fun bl2 hbl2=>?_);refine WT.vldS hT 0 hv2 hbl2 (arr_at zo) Z Z Z Z Z Z Z Z Z (fun l2 hl2=>?_);refine WT.callC hg hgb Z Z Z Z Z Z Z (hcmp F1 hF1 l1 l2 _ _ hl1 hl2) (fun v hvz=>?_);obtain⟨z,rfl,hz⟩:=hvz;refine zC4 ?_;refine AW.cond Z (fun hc=>?_) (fun hc=>?_)
    ·have hlt:=hz.1 (by simpa using hc);refine zC4 ?_;refine⟨2*u.i+1+1,sM,OwnLe.refl _,by omega,h2,?_⟩
     conv=>lhs;rw[Go.Sort.siftDown]
     rw[dif_neg zo,if_pos (by simp[h2,hlt])];rw[dif_pos (show 2*u.i+2<hi by omega)]
    ·have hlt:lt u.d[fst+(2*u.i+1)]! u.d[fst+(2*u.i+1)+1]! = false:=by
      cases hh:lt u.d[fst+(2*u.i+1)]! u.d[fst+(2*u.i+1)+1]! with
      | false=>rfl
      | true=>exact absurd (hz.2 hh) (by simpa using hc)
     refine AW.skip ?_;exact⟨2*u.i+1,sM,OwnLe.refl _,by omega,h,e1 (by rw[hlt];simp)⟩
   ·have h2:¬2*u.i+1+1<hi:=by simp at h2;omega
    refine zC4 ?_;refine AW.cond Z (fun h=>(by cases h)) (fun _=>?_);refine AW.skip ?_;exact⟨2*u.i+1,sM,OwnLe.refl _,by omega,h,e1 (by simp[h2])⟩
  ·obtain⟨hc1,hc2,hceq⟩:=hch;have hv3:=hv2.mono hF3;refine zC4 ?_;refine WT.vidx hT hv3 Z Z Z Z Z Z Z Z Z zo (fun bl1 hbl1=>?_);refine WT.vldS hT 0 hv3 hbl1 (arr_at zo) Z Z Z Z Z Z Z Z Z (fun l1 hl1=>?_);refine zC4 ?_;refine WT.vidx hT hv3 Z Z Z Z Z Z Z Z Z zo (fun bl2 hbl2=>?_);refine WT.vldS hT 0 hv3 hbl2 (arr_at zo) Z Z Z Z Z Z Z Z Z (fun l2 hl2=>?_);refine WT.callC hg hgb Z Z Z Z Z Z Z (hcmp F3 (hF1.trans hF3) l1 l2 _ _ hl1 hl2) (fun v hvz=>?_);obtain⟨z,rfl,hz⟩:=hvz;refine zC4 ?_;refine AW.cond Z (fun hc=>?_) (fun hc=>?_)
   ·have hlt:lt u.d[fst+u.i]! u.d[fst+ch]! = false:=by
     cases hh:lt u.d[fst+u.i]! u.d[fst+ch]! with
     | false=>rfl
     | true=>exact absurd (hz.2 hh) (by simpa using hc)
    refine AW.ret ⟨_,[_],rfl,zsb,_,rfl,?_⟩;rw[←heq,hceq,hlt,if_pos (by decide)];exact hv3
   ·have hlt:=hz.1 (by simpa using hc);refine zC4 ?_;refine AW.draw (ps:=[(7,21)]) Z Z ?_;refine zC4 ?_;refine WT.vidx hT hv3 Z Z Z Z Z Z Z Z Z zo (fun bl3 hbl3=>?_);refine WT.vldS hT 0 hv3 hbl3 (arr_at zo) Z Z Z Z Z Z Z Z Z (fun l3 hl3=>?_);refine zC4 ?_;refine WT.vidx hT hv3 Z Z Z Z Z Z Z Z Z zo (fun bl4 hbl4=>?_);refine WT.vldS hT 0 hv3 hbl4 (arr_at zo) Z Z Z Z Z Z Z Z Z (fun l4 hl4=>?_);refine WT.vidx hT hv3 Z Z Z Z Z Z Z Z Z zo (fun bl5 hbl5=>?_);refine WT.vst (y:=u.d[fst+ch]!) hT 0 hv3 hbl5 (gE (by simp;omega)) Z Z Z Z Z hl3 Z (fun _=>rfl) Z (fun Bl5 hBl5=>?_)
    refine WT.vidx hT hBl5 Z Z Z Z Z Z Z Z Z zo (fun bl6 hbl6=>?_);refine WT.vst (y:=u.d[fst+u.i]!) hT 0 hBl5 hbl6 (gE (by simp;omega)) Z Z Z Z Z hl4 Z (fun _=>rfl) Z (fun Bl6 hBl6=>?_);rw[←swp_list] at hBl6;refine zC4 ?_;refine⟨zrC,?_⟩;refine zC4 ?_;refine⟨⟨ch,Go.Sort.swp u.d (fst+u.i) (fst+ch),Bl6⟩,by dsimp only;omega,sM,OwnLe.refl _,hBl6,by dsimp only;omega,?_⟩;rw[←heq,hceq,hlt,if_neg (by simp)]
theorem kyHeap_spec(F:Frz){lt:Key→Key→Bool}{g:Nat}{first capt:List Value}(hc:CmpOk tKey lt F g first capt){a0:Option Addr}{m c:Nat}{B:List (Nat×Blk)}{d:Array Key}(hv:Vec tKey F a0 m c B d.toList)(a b:Nat)(hab:a<b)(hb:b≤m)(hm:m≤1000000) :
  Abs.Spec CC 89 [.slice a0 m c,.int .i64 a,.int .i64 b,.func (.func g) ⟨first⟩ ⟨capt⟩] F [B] fun F' v o=>∃B',o=[B']∧Vec tKey F' a0 m c B' (Go.Sort.heapSort lt d a b).toList:=by
 refine Abs.Spec.fn (n:=60) Tryd.func89 rfl rfl fun own=>?_;refine zC4 ?_;refine WT.quoL 2 Z Z Z Z Z Z (by decide) zo ?_;refine zC4 ?_;refine AW.know (v':=.int .i64 ((((b-a-1) / 2+1:Nat):Int)-1)) 11 Z (by congr 1;omega) ?_;refine AW.jnT (S:=VS Key) (fun _=>[(11,.int .i64 (((0:Nat):Int)-1))]) (fun s=>s.B::own) (fun s G=>Vec tKey G a0 m c s.B s.d.toList∧s.d=Go.Sort.heapBuild lt (b-a) a ((b-a-1) / 2+1) d) ?_ (fun s F1 hF1 hP=>?_)
 ·refine AW.block ?_;refine AW.loopR (S:=VS Key) (fun s=>[(11,.int .i64 ((s.i:Int)-1))]) (fun s=>s.B::own) (fun s G=>Vec tKey G a0 m c s.B s.d.toList∧s.i≤1000000∧Go.Sort.heapBuild lt (b-a) a s.i s.d=Go.Sort.heapBuild lt (b-a) a ((b-a-1) / 2+1) d) (fun s=>s.i) ⟨(b-a-1) / 2+1,d,B⟩
   sM oR ⟨hv,by dsimp only;omega,rfl⟩ ?_
  intro u F2 hF2 hP2;obtain⟨hv2,hui,heq⟩:=hP2;refine zC4 ?_;refine AW.cond Z (fun h=>?_) (fun h=>?_)
  ·have h:1≤u.i:=by simp at h;omega
   refine zC4 ?_;refine AW.block ?_;refine zC4 ?_;refine WT.know (v':=.int .i64 ((u.i-1:Nat):Int)) 25 Z (by congr 1;omega) ?_;refine WT.call1F 0 Tryd.func100 Z Z Z Z Z Z Z (fun _=>rfl) (kySift_spec _ (hc.mono hF2) hv2 (u.i-1) (b-a) a zo zo hm) (fun F3 v B3 hF3 hv3=>?_);refine WT.nil ?_;refine AW.reg ?_;refine WT.easy hT Z Z Z Z Z ?_;refine WT.subT Z Z Z Z Z Z zo ?_;refine WT.know (v':=.int .i64 (((u.i-1:Nat):Int)-1)) 23 Z (by congr 1;omega) ?_;refine zC4 ?_;refine⟨⟨u.i-1,_,B3⟩,by dsimp only;omega,sM,OwnLe.refl _,hv3,by dsimp only;omega,?_⟩;rw[←heq];cases hi:u.i with
   | zero=>omega
   | succ j=>rfl
  ·have h:u.i=0:=by simp at h;omega
   refine AW.exit ?_;refine⟨⟨0,u.d,u.B⟩,SubK.of_map (by rw[h];rfl),OwnLe.refl _,hv2,?_⟩;rw[←heq,h];rfl
 ·obtain⟨hv1,hd1⟩:=hP;refine zC4 ?_;refine AW.know (v':=.int .i64 (((b-a:Nat):Int)-1)) 12 Z (by congr 1;omega) ?_;refine AW.block ?_;refine AW.loopR (S:=VS Key) (fun s=>[(12,.int .i64 ((s.i:Int)-1))]) (fun s=>s.B::own) (fun s G=>Vec tKey G a0 m c s.B s.d.toList∧s.i≤b-a∧Go.Sort.heapPop lt a s.i s.d=Go.Sort.heapSort lt d a b) (fun s=>s.i) ⟨b-a,s.d,s.B⟩
   sM oR ⟨hv1,Nat.le_refl _,by dsimp only;rw[hd1];rfl⟩ ?_
  intro u F2 hF2 hP2;obtain⟨hv2,hui,heq⟩:=hP2;have hsz:m=u.d.size:=hv2.len;refine zC4 ?_;refine AW.cond Z (fun h=>?_) (fun h=>?_)
  ·have h:1≤u.i:=by simp at h;omega
   refine zC4 ?_;refine AW.block ?_;refine AW.seq (AW.draw (ps:=[(5,17)]) Z Z ?_);refine zC4 ?_;refine WT.know (v':=.int .i64 ((a+(u.i-1):Nat):Int)) 41 Z (by congr 1;omega) ?_;refine WT.know (v':=.int .i64 ((a+(u.i-1):Nat):Int)) 45 Z (by congr 1;omega) ?_;refine WT.vidx hT hv2 Z Z Z Z Z Z Z Z Z zo (fun bl3 hbl3=>?_);refine WT.vldS hT 0 hv2 hbl3 (arr_at zo) Z Z Z Z Z Z Z Z Z (fun l3 hl3=>?_);refine zC4 ?_;refine WT.vidx hT hv2 Z Z Z Z Z Z Z Z Z zo (fun bl4 hbl4=>?_);refine WT.vldS hT 0 hv2 hbl4 (arr_at zo) Z Z Z Z Z Z Z Z Z (fun l4 hl4=>?_)
   refine WT.vidx hT hv2 Z Z Z Z Z Z Z Z Z zo (fun bl5 hbl5=>?_);refine WT.vst (y:=u.d[a+(u.i-1)]!) hT 0 hv2 hbl5 (gE (by simp;omega)) Z Z Z Z Z hl3 Z (fun _=>rfl) Z (fun Bl5 hBl5=>?_);refine WT.vidx hT hBl5 Z Z Z Z Z Z Z Z Z zo (fun bl6 hbl6=>?_);refine WT.vst (y:=u.d[a]!) hT 0 hBl5 hbl6 (gE (by simp;omega)) Z Z Z Z Z hl4 Z (fun _=>rfl) Z (fun Bl6 hBl6=>?_);rw[←swp_list] at hBl6;refine zC4 ?_;refine⟨zrC,?_⟩;refine zC4 ?_;refine WT.know (v':=.int .i64 ((u.i-1:Nat):Int)) 56 Z (by congr 1;omega) ?_;refine WT.know (v':=.int .i64 ((0:Nat):Int)) 55 Z Z ?_
   refine WT.call1F 0 Tryd.func100 Z Z Z Z Z Z Z (fun _=>rfl) (kySift_spec _ ((hc.mono hF1).mono hF2) hBl6 0 (u.i-1) a zo zo hm) (fun F3 v B3 hF3 hv3=>?_);refine WT.nil ?_;refine AW.reg ?_;refine WT.easy hT Z Z Z Z Z ?_;refine WT.subT Z Z Z Z Z Z zo ?_;refine WT.know (v':=.int .i64 (((u.i-1:Nat):Int)-1)) 35 Z (by congr 1;omega) ?_;refine zC4 ?_;refine⟨⟨u.i-1,_,B3⟩,by dsimp only;omega,sM,OwnLe.refl _,hv3,by dsimp only;omega,?_⟩;rw[←heq];cases hi:u.i with
   | zero=>omega
   | succ j=>rfl
  ·have h:u.i=0:=by simp at h;omega
   refine AW.exit ?_;refine⟨_,[_],rfl,zsb,_,rfl,?_⟩;rw[←heq,h];exact hv2
theorem kyRev_spec(F:Frz){cv:Value}{a0:Option Addr}{m c:Nat}{B:List (Nat×Blk)}{d:Array Key}(hv:Vec tKey F a0 m c B d.toList)(a b:Nat)(hab:a<b)(hb:b≤m)(hm:m≤1000000) :
  Abs.Spec CC 92 [.slice a0 m c,.int .i64 a,.int .i64 b,cv] F [B] fun F' v o=>∃B',o=[B']∧Vec tKey F' a0 m c B' (Go.Sort.reverseRange d a b).toList:=by
 refine Abs.Spec.fn (n:=34) Tryd.func92 rfl rfl fun own=>?_;refine zC4 ?_;refine AW.block ?_;refine AW.loopR (S:=Nat×VS Key) (fun s=>[(8,.int .i64 (s.2.i:Nat)),(9,.int .i64 (s.1:Nat))]) (fun s=>s.2.B::own) (fun s G=>Vec tKey G a0 m c s.2.B s.2.d.toList∧s.1<m∧s.2.i≤m∧Go.Sort.reverseLoop s.2.i s.1 s.2.d=Go.Sort.reverseRange d a b) (fun s=>s.1-s.2.i) (b-1,⟨a,d,B⟩)
  sM oR ⟨hv,by dsimp only;omega,by dsimp only;omega,rfl⟩ ?_
 intro u F2 hF2 hP2;obtain⟨hv2,hj,hi,heq⟩:=hP2;have hsz:m=u.2.d.size:=hv2.len;refine zC4 ?_;refine AW.cond Z (fun h=>?_) (fun h=>?_)
 ·have h:u.2.i<u.1:=by simp at h;omega
  refine zC4 ?_;refine AW.block ?_;refine zC4 ?_;refine WT.vidx hT hv2 Z Z Z Z Z Z Z Z Z zo (fun bl3 hbl3=>?_);refine WT.vldS hT 0 hv2 hbl3 (arr_at zo) Z Z Z Z Z Z Z Z Z (fun l3 hl3=>?_);refine zC4 ?_;refine WT.vidx hT hv2 Z Z Z Z Z Z Z Z Z zo (fun bl4 hbl4=>?_);refine WT.vldS hT 0 hv2 hbl4 (arr_at zo) Z Z Z Z Z Z Z Z Z (fun l4 hl4=>?_);refine WT.vidx hT hv2 Z Z Z Z Z Z Z Z Z zo (fun bl5 hbl5=>?_);refine WT.vst (y:=u.2.d[u.1]!) hT 0 hv2 hbl5 (gE (by simp;omega)) Z Z Z Z Z hl3 Z (fun _=>rfl) Z (fun Bl5 hBl5=>?_);refine WT.vidx hT hBl5 Z Z Z Z Z Z Z Z Z zo (fun bl6 hbl6=>?_)
  refine WT.vst (y:=u.2.d[u.2.i]!) hT 0 hBl5 hbl6 (gE (by simp;omega)) Z Z Z Z Z hl4 Z (fun _=>rfl) Z (fun Bl6 hBl6=>?_);rw[←swp_list] at hBl6;refine zC4 ?_;refine⟨(u.1-1,⟨u.2.i+1,Go.Sort.swp u.2.d u.2.i u.1,Bl6⟩),by dsimp only;omega,sM,OwnLe.refl _,hBl6,by dsimp only;omega,by dsimp only;omega,?_⟩;rw[←heq]
  conv=>rhs;rw[Go.Sort.reverseLoop]
  rw[if_pos h]
 ·have h:¬u.2.i<u.1:=by simp at h;omega
  refine AW.exit ?_;refine⟨_,[_],rfl,zsb,_,rfl,?_⟩;rw[←heq,Go.Sort.reverseLoop,if_neg h];exact hv2
theorem shE1{p:Prop} (h:p:=by
 refine zC4 ?_;refine WT.vidx hT hv6 Z Z Z Z Z Z Z Z Z zo (fun bl5 hbl5=>?_);refine WT.vldS hT 0 hv6 hbl5 (arr_at zo) Z Z Z Z Z Z Z Z Z (fun l5 hl5=>?_);refine zC4 ?_;refine WT.vidx hT hv6 Z Z Z Z Z Z Z Z Z zo (fun bl6 hbl6=>?_);refine WT.vldS hT 0 hv6 hbl6 (arr_at zo) Z Z Z Z Z Z Z Z Z (fun l6 hl6=>?_);refine WT.vidx hT hv6 Z Z Z Z Z Z Z Z Z zo (fun bl7 hbl7=>?_);refine WT.vst (y:=u.2.d[j2]!) hT 0 hv6 hbl7 (gE (by simp;omega)) Z Z Z Z Z hl5 Z (fun _=>rfl) Z (fun Bl7 hBl7=>?_);refine WT.vidx hT hBl7 Z Z Z Z Z Z Z Z Z zo (fun bl8 hbl8=>?_)
 refine WT.vst (y:=u.2.d[i2]!) hT 0 hBl7 hbl8 (gE (by simp;omega)) Z Z Z Z Z hl6 Z (fun _=>rfl) Z (fun Bl8 hBl8=>?_);rw[←swp_list] at hBl8;refine zC4 ?_;refine⟨(i2+1,⟨j2-1,Go.Sort.swp u.2.d i2 j2,Bl8⟩),by dsimp only;omega,sM,OwnLe.refl _,hBl8,by dsimp only;omega,by dsimp only;omega,by dsimp only;omega,?_⟩;rw[hloop,if_neg h]):p:=h
theorem kyPart_spec(F:Frz){lt:Key→Key→Bool}{g:Nat}{first capt:List Value}(hc:CmpOk tKey lt F g first capt){a0:Option Addr}{m c:Nat}{B:List (Nat×Blk)}{d:Array Key}(hv:Vec tKey F a0 m c B d.toList)(a b pivot:Nat)(hp1:a≤pivot)(hp2:pivot<b)(hb:b≤m)(hm:m≤1000000) :
  Abs.Spec CC 95 [.slice a0 m c,.int .i64 a,.int .i64 b,.int .i64 pivot,.func (.func g) ⟨first⟩ ⟨capt⟩] F [B] fun F' v o=>∃B',o=[B']∧v=.tuple ⟨[.int .i64 ((Go.Sort.partition lt d a b pivot).1:Nat),.bool (Go.Sort.partition lt d a b pivot).2.1]⟩∧Vec tKey F' a0 m c B' (Go.Sort.partition lt d a b pivot).2.2.toList:=by
 obtain⟨⟨fn,hg,hgb⟩,hcmp⟩:=hc;have hsz:m=d.size:=hv.len;refine Abs.Spec.fn (n:=178) Tryd.func95 rfl rfl fun own=>?_;refine zC4 ?_;refine WT.vidx hT hv Z Z Z Z Z Z Z Z Z zo (fun bl1 hbl1=>?_);refine WT.vldS hT 0 hv hbl1 (arr_at zo) Z Z Z Z Z Z Z Z Z (fun l1 hl1=>?_);refine zC4 ?_;refine WT.vidx hT hv Z Z Z Z Z Z Z Z Z zo (fun bl2 hbl2=>?_);refine WT.vldS hT 0 hv hbl2 (arr_at zo) Z Z Z Z Z Z Z Z Z (fun l2 hl2=>?_);refine WT.vidx hT hv Z Z Z Z Z Z Z Z Z zo (fun bl3 hbl3=>?_);refine WT.vst (y:=d[pivot]!) hT 0 hv hbl3 (gE (by simp;omega)) Z Z Z Z Z hl1 Z (fun _=>rfl) Z (fun Bl3 hBl3=>?_)
 refine WT.vidx hT hBl3 Z Z Z Z Z Z Z Z Z zo (fun bl4 hbl4=>?_);refine WT.vst (y:=d[a]!) hT 0 hBl3 hbl4 (gE (by simp;omega)) Z Z Z Z Z hl2 Z (fun _=>rfl) Z (fun Bl4 hBl4=>?_);rw[←swp_list] at hBl4;obtain⟨d1,hd1⟩:∃d1,Go.Sort.swp d a pivot=d1:=⟨_,rfl⟩;rw[hd1] at hBl4;have hsz1:m=d1.size:=hBl4.len;refine zC4 ?_;obtain⟨i1,hi1⟩:∃i1,Go.Sort.scanUp (fun x=>lt x d1[a]!) d1 (b-1) (a+1)=i1:=⟨_,rfl⟩;obtain⟨j1,hj1⟩:∃j1,Go.Sort.scanDown (fun x=>!lt x d1[a]!) d1 i1 (b-1)=j1:=⟨_,rfl⟩;obtain⟨u1,u2,u3,u4⟩:=Go.Sort.scanUp_spec (fun x=>lt x d1[a]!) d1 (b-1) _ (a+1) rfl
 obtain⟨v1,v2,v3,v4⟩:=Go.Sort.scanDown_spec (fun x=>!lt x d1[a]!) d1 i1 (b-1);rw[hi1] at u1 u2 u4;rw[hj1] at v1 v2 v4;have u2:=u2 zo;have v2:=v2 zo;refine AW.jnT (S:=Unit) (fun _=>[(12,.int .i64 (Go.Sort.scanUp (fun x=>lt x d1[a]!) d1 (b-1) (a+1):Nat))]) (fun _=>(Bl4::own)) (fun _ _=>True) ?_ (fun _ F1 hF1 _=>?_)
 ·refine AW.block ?_;refine AW.loopR (S:=Nat) (fun i=>[(12,.int .i64 (i:Nat))]) (fun _=>(Bl4::own)) (fun i _=>(a+1)≤i∧i≤(b-1)+1∧Go.Sort.scanUp (fun x=>lt x d1[a]!) d1 (b-1) i=Go.Sort.scanUp (fun x=>lt x d1[a]!) d1 (b-1) (a+1)) (fun i=>(b-1)+1-i) (a+1) sM oR ⟨Nat.le_refl _,by omega,rfl⟩ ?_;intro i G hG hP;obtain⟨hi1,hi2,hi3⟩:=hP;have hvG:=hBl4.mono hG;refine zC4 ?_;refine WT.split 35 Z (fun h=>?_) (fun h=>?_)
  ·have h:i≤(b-1):=by simp at h;omega
   refine zC4 ?_;refine WT.vidx hT hvG Z Z Z Z Z Z Z Z Z zo (fun bl1 hbl1=>?_);refine WT.vldS hT 0 hvG hbl1 (arr_at zo) Z Z Z Z Z Z Z Z Z (fun l1 hl1=>?_);refine zC4 ?_;refine WT.vidx hT hvG Z Z Z Z Z Z Z Z Z zo (fun bl2 hbl2=>?_);refine WT.vldS hT 0 hvG hbl2 (arr_at zo) Z Z Z Z Z Z Z Z Z (fun l2 hl2=>?_);refine WT.callC hg hgb Z Z Z Z Z Z Z (hcmp G ((Frz.le.refl F).trans hG) l1 l2 _ _ hl1 hl2) (fun v hvz=>?_);obtain⟨z,rfl,hz⟩:=hvz;refine zC4 ?_;refine AW.cond Z (fun hc=>?_) (fun hc=>?_)
   ·have hlt:=hz.1 (by simpa using hc);refine zC4 ?_;refine AW.block ?_;refine zC4 ?_;refine⟨i+1,by omega,sM,OwnLe.refl _,by omega,by omega,?_⟩;rw[←hi3]
    conv=>rhs;rw[Go.Sort.scanUp]
    rw[if_pos (by simp[h,hlt])]
   ·have hlt:=(Bool.eq_false_iff.2 (fun hh=>absurd (hz.2 hh) (by simpa using hc)):lt d1[i]! d1[a]! = false);refine AW.exit ?_;refine⟨(),SubK.of_map (by rw[←hi3,Go.Sort.scanUp,if_neg (by simp[hlt])];rfl),OwnLe.refl _,trivial⟩
  ·have h:¬i≤(b-1):=by simp at h;omega
   refine zC4 ?_;refine AW.cond Z (fun h=>(by cases h)) (fun _=>?_);refine AW.exit ?_;refine⟨(),SubK.of_map (by rw[←hi3,Go.Sort.scanUp,if_neg (by simp[h])];rfl),OwnLe.refl _,trivial⟩
 rw[hi1];have hv1:=hBl4.mono hF1;refine AW.seq ?_;refine AW.jnT (S:=Unit) (fun _=>[(13,.int .i64 (Go.Sort.scanDown (fun x=>!lt x d1[a]!) d1 i1 (b-1):Nat))]) (fun _=>(Bl4::own)) (fun _ _=>True) ?_ (fun _ F2 hF2 _=>?_)
 ·refine AW.block ?_;refine AW.loopR (S:=Nat) (fun j=>[(13,.int .i64 (j:Nat))]) (fun _=>(Bl4::own)) (fun j _=>j≤(b-1)∧i1≤j+1∧Go.Sort.scanDown (fun x=>!lt x d1[a]!) d1 i1 j=Go.Sort.scanDown (fun x=>!lt x d1[a]!) d1 i1 (b-1)) (fun j=>j) (b-1) sM oR ⟨Nat.le_refl _,by omega,rfl⟩ ?_;intro j G hG hP;obtain⟨hj1,hj2,hj3⟩:=hP;have hvG:=hv1.mono hG;have one:∀q,i1≤j→(fun x=>!lt x d1[a]!) d1[j]! = q→Go.Sort.scanDown (fun x=>!lt x d1[a]!) d1 i1 j=if q=true then Go.Sort.scanDown (fun x=>!lt x d1[a]!) d1 i1 (j-1) else j:=by
   intro q h1 h2;cases j with
   | zero=>omega
   | succ k=>
    rw[Go.Sort.scanDown,Nat.add_sub_cancel];subst h2;simp[h1]
  refine zC4 ?_;refine WT.split 53 Z (fun h=>?_) (fun h=>?_)
  ·have h:i1≤j:=by simp at h;omega
   refine zC4 ?_;refine WT.vidx hT hvG Z Z Z Z Z Z Z Z Z zo (fun bl1 hbl1=>?_);refine WT.vldS hT 0 hvG hbl1 (arr_at zo) Z Z Z Z Z Z Z Z Z (fun l1 hl1=>?_);refine zC4 ?_;refine WT.vidx hT hvG Z Z Z Z Z Z Z Z Z zo (fun bl2 hbl2=>?_);refine WT.vldS hT 0 hvG hbl2 (arr_at zo) Z Z Z Z Z Z Z Z Z (fun l2 hl2=>?_);refine WT.callC hg hgb Z Z Z Z Z Z Z (hcmp G (hF1.trans hG) l1 l2 _ _ hl1 hl2) (fun v hvz=>?_);obtain⟨z,rfl,hz⟩:=hvz;refine zC4 ?_;refine AW.cond Z (fun hc=>?_) (fun hc=>?_)
   ·have hlt:=(Bool.eq_false_iff.2 (fun hh=>absurd (hz.2 hh) (by simpa using hc)):lt d1[j]! d1[a]! = false);refine zC4 ?_;refine AW.block ?_;refine zC4 ?_;refine⟨j-1,by omega,sM,OwnLe.refl _,by omega,by omega,?_⟩;rw[←hj3,one true h (by simp[hlt]),if_pos rfl]
   ·have hlt:=hz.1 (by simpa using hc);refine AW.exit ?_;refine⟨(),SubK.of_map (by rw[←hj3,one false h (by simp[hlt]),if_neg (by decide)];rfl),OwnLe.refl _,trivial⟩
  ·have h:¬i1≤j:=by simp at h;omega
   refine zC4 ?_;refine AW.cond Z (fun h=>(by cases h)) (fun _=>?_);refine AW.exit ?_;have e:Go.Sort.scanDown (fun x=>!lt x d1[a]!) d1 i1 j=j:=by
    cases j with
    | zero=>rfl
    | succ k=>rw[Go.Sort.scanDown,if_neg (by simp;omega)]
   refine⟨(),SubK.of_map (by rw[←hj3,e];rfl),OwnLe.refl _,trivial⟩
 rw[hj1];have hv2:=hv1.mono hF2;refine zC4 ?_;have hpart:Go.Sort.partition lt d a b pivot=if i1 > j1 then (j1,true,Go.Sort.swp d1 j1 a) else
   ((Go.Sort.partLoop lt a (i1+1) (j1-1) (Go.Sort.swp d1 i1 j1)).1,false,Go.Sort.swp (Go.Sort.partLoop lt a (i1+1) (j1-1) (Go.Sort.swp d1 i1 j1)).2 (Go.Sort.partLoop lt a (i1+1) (j1-1) (Go.Sort.swp d1 i1 j1)).1 a):=by
  simp only[Go.Sort.partition,hd1,hi1,hj1]
 refine AW.cond Z (fun h=>?_) (fun h=>?_)
 ·have h:j1<i1:=by simp at h;omega
  refine zC4 ?_;refine WT.vidx hT hv2 Z Z Z Z Z Z Z Z Z zo (fun bl1 hbl1=>?_);refine WT.vldS hT 0 hv2 hbl1 (arr_at zo) Z Z Z Z Z Z Z Z Z (fun l1 hl1=>?_);refine zC4 ?_;refine WT.vidx hT hv2 Z Z Z Z Z Z Z Z Z zo (fun bl2 hbl2=>?_);refine WT.vldS hT 0 hv2 hbl2 (arr_at zo) Z Z Z Z Z Z Z Z Z (fun l2 hl2=>?_);refine WT.vidx hT hv2 Z Z Z Z Z Z Z Z Z zo (fun bl3 hbl3=>?_);refine WT.vst (y:=d1[a]!) hT 0 hv2 hbl3 (gE (by simp;omega)) Z Z Z Z Z hl1 Z (fun _=>rfl) Z (fun Bl3 hBl3=>?_);refine WT.vidx hT hBl3 Z Z Z Z Z Z Z Z Z zo (fun bl4 hbl4=>?_)
  refine WT.vst (y:=d1[j1]!) hT 0 hBl3 hbl4 (gE (by simp;omega)) Z Z Z Z Z hl2 Z (fun _=>rfl) Z (fun Bl4 hBl4=>?_);rw[←swp_list] at hBl4;refine zC4 ?_;refine AW.ret ⟨_,[_],⟨_,_,rfl,⟨_,_,rfl,rfl,rfl⟩,rfl⟩,zsb,_,rfl,?_,?_⟩
  ·rw[hpart,if_pos h];rfl
  ·rw[hpart,if_pos h];exact hBl4
 ·have h:¬j1<i1:=by simp at h;omega
  have hlt1:i1<j1:=by
   rcases Nat.lt_or_ge i1 j1 with h1 | h1
   ·exact h1
   ·obtain rfl:i1=j1:=by omega
    have e1:=u4 zo;have e2:=v4 (Nat.le_refl _) zo;rw[e1] at e2;cases e2
  rw[if_neg h] at hpart;refine zC4 ?_;refine WT.vidx hT hv2 Z Z Z Z Z Z Z Z Z zo (fun bl1 hbl1=>?_);refine WT.vldS hT 0 hv2 hbl1 (arr_at zo) Z Z Z Z Z Z Z Z Z (fun l1 hl1=>?_);refine zC4 ?_;refine WT.vidx hT hv2 Z Z Z Z Z Z Z Z Z zo (fun bl2 hbl2=>?_);refine WT.vldS hT 0 hv2 hbl2 (arr_at zo) Z Z Z Z Z Z Z Z Z (fun l2 hl2=>?_);refine WT.vidx hT hv2 Z Z Z Z Z Z Z Z Z zo (fun bl3 hbl3=>?_);refine WT.vst (y:=d1[j1]!) hT 0 hv2 hbl3 (gE (by simp;omega)) Z Z Z Z Z hl1 Z (fun _=>rfl) Z (fun Bl3 hBl3=>?_);refine WT.vidx hT hBl3 Z Z Z Z Z Z Z Z Z zo (fun bl4 hbl4=>?_)
  refine WT.vst (y:=d1[i1]!) hT 0 hBl3 hbl4 (gE (by simp;omega)) Z Z Z Z Z hl2 Z (fun _=>rfl) Z (fun Bl4 hBl4=>?_);rw[←swp_list] at hBl4;refine zC4 ?_;refine AW.jnT (S:=Nat×VS Key) (fun s=>[(12,.int .i64 (s.1:Nat)),(13,.int .i64 (s.2.i:Nat))]) (fun s=>s.2.B::own) (fun s G=>Vec tKey G a0 m c s.2.B s.2.d.toList∧a≤s.2.i∧s.2.i<b∧(s.2.i,s.2.d)=Go.Sort.partLoop lt a (i1+1) (j1-1) (Go.Sort.swp d1 i1 j1)) ?_ (fun s F3 hF3 hP=>?_)
  ·refine AW.block ?_;refine AW.loopR (S:=Nat×VS Key) (fun s=>[(12,.int .i64 (s.1:Nat)),(13,.int .i64 (s.2.i:Nat))]) (fun s=>s.2.B::own) (fun s G=>Vec tKey G a0 m c s.2.B s.2.d.toList∧a<s.1∧s.1≤s.2.i+1∧s.2.i<b∧Go.Sort.partLoop lt a s.1 s.2.i s.2.d=Go.Sort.partLoop lt a (i1+1) (j1-1) (Go.Sort.swp d1 i1 j1)) (fun s=>s.2.i+1-s.1) (i1+1,⟨j1-1,Go.Sort.swp d1 i1 j1,Bl4⟩)
    sM oR ⟨hBl4,by dsimp only;omega,by dsimp only;omega,by dsimp only;omega,rfl⟩ ?_
   intro u F4 hF4 hP4;obtain⟨hv4,ha4,hij4,hb4,heq4⟩:=hP4;have hF4':=(hF1.trans hF2).trans hF4;have hsz4:m=u.2.d.size:=hv4.len;obtain⟨i2,hi2⟩:∃i2,Go.Sort.scanUp (fun x=>lt x u.2.d[a]!) u.2.d u.2.i u.1=i2:=⟨_,rfl⟩;obtain⟨j2,hj2⟩:∃j2,Go.Sort.scanDown (fun x=>!lt x u.2.d[a]!) u.2.d i2 u.2.i=j2:=⟨_,rfl⟩;obtain⟨w1,w2,w3,w4⟩:=Go.Sort.scanUp_spec (fun x=>lt x u.2.d[a]!) u.2.d u.2.i _ u.1 rfl;obtain⟨x1,x2,x3,x4⟩:=Go.Sort.scanDown_spec (fun x=>!lt x u.2.d[a]!) u.2.d i2 u.2.i;rw[hi2] at w1 w2 w4;rw[hj2] at x1 x2 x4;have w2:=w2 hij4;have x2:=x2 zo;have hloop:=Go.Sort.partLoop_eq lt a u.1 u.2.i u.2.d
   rw[hi2,hj2,heq4] at hloop;refine AW.block ?_;refine AW.seq ?_;refine AW.jnT (S:=Unit) (fun _=>[(12,.int .i64 (Go.Sort.scanUp (fun x=>lt x u.2.d[a]!) u.2.d u.2.i u.1:Nat))]) (fun _=>(u.2.B::own)) (fun _ _=>True) ?_ (fun _ F5 hF5 _=>?_)
   ·refine AW.block ?_;refine AW.loopR (S:=Nat) (fun i=>[(12,.int .i64 (i:Nat))]) (fun _=>(u.2.B::own)) (fun i _=>u.1≤i∧i≤u.2.i+1∧Go.Sort.scanUp (fun x=>lt x u.2.d[a]!) u.2.d u.2.i i=Go.Sort.scanUp (fun x=>lt x u.2.d[a]!) u.2.d u.2.i u.1) (fun i=>u.2.i+1-i) u.1 sM oR ⟨Nat.le_refl _,by omega,rfl⟩ ?_;intro i G hG hP;obtain⟨hi1,hi2,hi3⟩:=hP;have hvG:=hv4.mono hG;refine zC4 ?_;refine WT.split 108 Z (fun h=>?_) (fun h=>?_)
    ·have h:i≤u.2.i:=by simp at h;omega
     refine zC4 ?_;refine WT.vidx hT hvG Z Z Z Z Z Z Z Z Z zo (fun bl1 hbl1=>?_);refine WT.vldS hT 0 hvG hbl1 (arr_at zo) Z Z Z Z Z Z Z Z Z (fun l1 hl1=>?_);refine zC4 ?_;refine WT.vidx hT hvG Z Z Z Z Z Z Z Z Z zo (fun bl2 hbl2=>?_);refine WT.vldS hT 0 hvG hbl2 (arr_at zo) Z Z Z Z Z Z Z Z Z (fun l2 hl2=>?_);refine WT.callC hg hgb Z Z Z Z Z Z Z (hcmp G (hF4'.trans hG) l1 l2 _ _ hl1 hl2) (fun v hvz=>?_);obtain⟨z,rfl,hz⟩:=hvz;refine zC4 ?_;refine AW.cond Z (fun hc=>?_) (fun hc=>?_)
     ·have hlt:=hz.1 (by simpa using hc);refine zC4 ?_;refine AW.block ?_;refine zC4 ?_;refine⟨i+1,by omega,sM,OwnLe.refl _,by omega,by omega,?_⟩;rw[←hi3]
      conv=>rhs;rw[Go.Sort.scanUp]
      rw[if_pos (by simp[h,hlt])]
     ·have hlt:=(Bool.eq_false_iff.2 (fun hh=>absurd (hz.2 hh) (by simpa using hc)):lt u.2.d[i]! u.2.d[a]! = false);refine AW.exit ?_;refine⟨(),SubK.of_map (by rw[←hi3,Go.Sort.scanUp,if_neg (by simp[hlt])];rfl),OwnLe.refl _,trivial⟩
    ·have h:¬i≤u.2.i:=by simp at h;omega
     refine zC4 ?_;refine AW.cond Z (fun h=>(by cases h)) (fun _=>?_);refine AW.exit ?_;refine⟨(),SubK.of_map (by rw[←hi3,Go.Sort.scanUp,if_neg (by simp[h])];rfl),OwnLe.refl _,trivial⟩
   rw[hi2];have hv5:=hv4.mono hF5;have hF5':=hF4'.trans hF5;refine AW.seq ?_;refine AW.jnT (S:=Unit) (fun _=>[(13,.int .i64 (Go.Sort.scanDown (fun x=>!lt x u.2.d[a]!) u.2.d i2 u.2.i:Nat))]) (fun _=>(u.2.B::own)) (fun _ _=>True) ?_ (fun _ F6 hF6 _=>?_)
   ·refine AW.block ?_;refine AW.loopR (S:=Nat) (fun j=>[(13,.int .i64 (j:Nat))]) (fun _=>(u.2.B::own)) (fun j _=>j≤u.2.i∧i2≤j+1∧Go.Sort.scanDown (fun x=>!lt x u.2.d[a]!) u.2.d i2 j=Go.Sort.scanDown (fun x=>!lt x u.2.d[a]!) u.2.d i2 u.2.i) (fun j=>j) u.2.i sM oR ⟨Nat.le_refl _,by omega,rfl⟩ ?_;intro j G hG hP;obtain⟨hj1,hj2,hj3⟩:=hP;have hvG:=hv5.mono hG;have one:∀q,i2≤j→(fun x=>!lt x u.2.d[a]!) u.2.d[j]! = q→Go.Sort.scanDown (fun x=>!lt x u.2.d[a]!) u.2.d i2 j=if q=true then Go.Sort.scanDown (fun x=>!lt x u.2.d[a]!) u.2.d i2 (j-1) else j:=by
     intro q h1 h2;cases j with
     | zero=>omega
     | succ k=>
      rw[Go.Sort.scanDown,Nat.add_sub_cancel];subst h2;simp[h1]
    refine zC4 ?_;refine WT.split 126 Z (fun h=>?_) (fun h=>?_)
    ·have h:i2≤j:=by simp at h;omega
     refine zC4 ?_;refine WT.vidx hT hvG Z Z Z Z Z Z Z Z Z zo (fun bl1 hbl1=>?_);refine WT.vldS hT 0 hvG hbl1 (arr_at zo) Z Z Z Z Z Z Z Z Z (fun l1 hl1=>?_);refine zC4 ?_;refine WT.vidx hT hvG Z Z Z Z Z Z Z Z Z zo (fun bl2 hbl2=>?_);refine WT.vldS hT 0 hvG hbl2 (arr_at zo) Z Z Z Z Z Z Z Z Z (fun l2 hl2=>?_);refine WT.callC hg hgb Z Z Z Z Z Z Z (hcmp G (hF5'.trans hG) l1 l2 _ _ hl1 hl2) (fun v hvz=>?_);obtain⟨z,rfl,hz⟩:=hvz;refine zC4 ?_;refine AW.cond Z (fun hc=>?_) (fun hc=>?_)
     ·have hlt:=(Bool.eq_false_iff.2 (fun hh=>absurd (hz.2 hh) (by simpa using hc)):lt u.2.d[j]! u.2.d[a]! = false);refine zC4 ?_;refine AW.block ?_;refine zC4 ?_;refine⟨j-1,by omega,sM,OwnLe.refl _,by omega,by omega,?_⟩;rw[←hj3,one true h (by simp[hlt]),if_pos rfl]
     ·have hlt:=hz.1 (by simpa using hc);refine AW.exit ?_;refine⟨(),SubK.of_map (by rw[←hj3,one false h (by simp[hlt]),if_neg (by decide)];rfl),OwnLe.refl _,trivial⟩
    ·have h:¬i2≤j:=by simp at h;omega
     refine zC4 ?_;refine AW.cond Z (fun h=>(by cases h)) (fun _=>?_);refine AW.exit ?_;have e:Go.Sort.scanDown (fun x=>!lt x u.2.d[a]!) u.2.d i2 j=j:=by
      cases j with
      | zero=>rfl
      | succ k=>rw[Go.Sort.scanDown,if_neg (by simp;omega)]
     refine⟨(),SubK.of_map (by rw[←hj3,e];rfl),OwnLe.refl _,trivial⟩
   rw[hj2];have hv6:=hv5.mono hF6;refine zC4 ?_;refine AW.cond Z (fun h=>?_) (fun h=>?_)
   ·have h:j2<i2:=by simp at h;omega
    refine AW.exit ?_;refine⟨(i2,⟨j2,u.2.d,u.2.B⟩),sM,OwnLe.refl _,hv6,by dsimp only;omega,by dsimp only;omega,?_⟩;rw[hloop,if_pos h]
   ·have h:¬j2<i2:=by simp at h;omega
    have hlt2:i2<j2:=by
     rcases Nat.lt_or_ge i2 j2 with h1 | h1
     ·exact h1
     ·obtain rfl:i2=j2:=by omega
      have e1:=w4 zo;have e2:=x4 (Nat.le_refl _) zo;rw[e1] at e2;cases e2
    exact shE1
  ·obtain⟨hv3,ha3,hb3,heq3⟩:=hP;have hsz3:m=s.2.d.size:=hv3.len;rw[←heq3] at hpart;refine zC4 ?_;refine WT.vidx hT hv3 Z Z Z Z Z Z Z Z Z zo (fun bl5 hbl5=>?_);refine WT.vldS hT 0 hv3 hbl5 (arr_at zo) Z Z Z Z Z Z Z Z Z (fun l5 hl5=>?_);refine zC4 ?_;refine WT.vidx hT hv3 Z Z Z Z Z Z Z Z Z zo (fun bl6 hbl6=>?_);refine WT.vldS hT 0 hv3 hbl6 (arr_at zo) Z Z Z Z Z Z Z Z Z (fun l6 hl6=>?_);refine WT.vidx hT hv3 Z Z Z Z Z Z Z Z Z zo (fun bl7 hbl7=>?_);refine WT.vst (y:=s.2.d[a]!) hT 0 hv3 hbl7 (gE (by simp;omega)) Z Z Z Z Z hl5 Z (fun _=>rfl) Z (fun Bl7 hBl7=>?_)
   refine WT.vidx hT hBl7 Z Z Z Z Z Z Z Z Z zo (fun bl8 hbl8=>?_);refine WT.vst (y:=s.2.d[s.2.i]!) hT 0 hBl7 hbl8 (gE (by simp;omega)) Z Z Z Z Z hl6 Z (fun _=>rfl) Z (fun Bl8 hBl8=>?_);rw[←swp_list] at hBl8;refine zC4 ?_;refine AW.ret ⟨_,[_],⟨_,_,rfl,⟨_,_,rfl,rfl,rfl⟩,rfl⟩,zsb,_,rfl,?_,?_⟩
   ·rw[hpart];rfl
   ·rw[hpart];exact hBl8
theorem kyPartEq_spec(F:Frz){lt:Key→Key→Bool}{g:Nat}{first capt:List Value}(hc:CmpOk tKey lt F g first capt){a0:Option Addr}{m c:Nat}{B:List (Nat×Blk)}{d:Array Key}(hv:Vec tKey F a0 m c B d.toList)(a b pivot:Nat)(hp1:a≤pivot)(hp2:pivot<b)(hb:b≤m)(hm:m≤1000000) :
  Abs.Spec CC 94 [.slice a0 m c,.int .i64 a,.int .i64 b,.int .i64 pivot,.func (.func g) ⟨first⟩ ⟨capt⟩] F [B] fun F' v o=>∃B',o=[B']∧v=.int .i64 ((Go.Sort.partitionEqual lt d a b pivot).1:Nat)∧Vec tKey F' a0 m c B' (Go.Sort.partitionEqual lt d a b pivot).2.toList:=by
 obtain⟨⟨fn,hg,hgb⟩,hcmp⟩:=hc;have hsz:m=d.size:=hv.len;refine Abs.Spec.fn (n:=90) Tryd.func94 rfl rfl fun own=>?_;refine zC4 ?_;refine WT.vidx hT hv Z Z Z Z Z Z Z Z Z zo (fun bl1 hbl1=>?_);refine WT.vldS hT 0 hv hbl1 (arr_at zo) Z Z Z Z Z Z Z Z Z (fun l1 hl1=>?_);refine zC4 ?_;refine WT.vidx hT hv Z Z Z Z Z Z Z Z Z zo (fun bl2 hbl2=>?_);refine WT.vldS hT 0 hv hbl2 (arr_at zo) Z Z Z Z Z Z Z Z Z (fun l2 hl2=>?_);refine WT.vidx hT hv Z Z Z Z Z Z Z Z Z zo (fun bl3 hbl3=>?_);refine WT.vst (y:=d[pivot]!) hT 0 hv hbl3 (gE (by simp;omega)) Z Z Z Z Z hl1 Z (fun _=>rfl) Z (fun Bl3 hBl3=>?_)
 refine WT.vidx hT hBl3 Z Z Z Z Z Z Z Z Z zo (fun bl4 hbl4=>?_);refine WT.vst (y:=d[a]!) hT 0 hBl3 hbl4 (gE (by simp;omega)) Z Z Z Z Z hl2 Z (fun _=>rfl) Z (fun Bl4 hBl4=>?_);rw[←swp_list] at hBl4;obtain⟨d1,hd1⟩:∃d1,Go.Sort.swp d a pivot=d1:=⟨_,rfl⟩;rw[hd1] at hBl4;have hpart:Go.Sort.partitionEqual lt d a b pivot=Go.Sort.partEqLoop lt a (a+1) (b-1) d1:=by rw[Go.Sort.partitionEqual,hd1]
 refine zC4 ?_;refine AW.jnT (S:=Nat×VS Key) (fun s=>[(11,.int .i64 (s.1:Nat)),(12,.int .i64 (s.2.i:Nat))]) (fun s=>s.2.B::own) (fun s G=>Vec tKey G a0 m c s.2.B s.2.d.toList∧(s.1,s.2.d)=Go.Sort.partEqLoop lt a (a+1) (b-1) d1) ?_ (fun s F3 hF3 hP=>?_)
 ·refine AW.block ?_;refine AW.loopR (S:=Nat×VS Key) (fun s=>[(11,.int .i64 (s.1:Nat)),(12,.int .i64 (s.2.i:Nat))]) (fun s=>s.2.B::own) (fun s G=>Vec tKey G a0 m c s.2.B s.2.d.toList∧a<s.1∧s.1≤s.2.i+1∧s.2.i<b∧Go.Sort.partEqLoop lt a s.1 s.2.i s.2.d=Go.Sort.partEqLoop lt a (a+1) (b-1) d1) (fun s=>s.2.i+1-s.1) (a+1,⟨b-1,d1,Bl4⟩)
   sM oR ⟨hBl4,by dsimp only;omega,by dsimp only;omega,by dsimp only;omega,rfl⟩ ?_
  intro u F4 hF4 hP4;obtain⟨hv4,ha4,hij4,hb4,heq4⟩:=hP4;have hsz4:m=u.2.d.size:=hv4.len;obtain⟨i2,hi2⟩:∃i2,Go.Sort.scanUp (fun x=>!lt u.2.d[a]! x) u.2.d u.2.i u.1=i2:=⟨_,rfl⟩;obtain⟨j2,hj2⟩:∃j2,Go.Sort.scanDown (fun x=>lt u.2.d[a]! x) u.2.d i2 u.2.i=j2:=⟨_,rfl⟩;obtain⟨w1,w2,w3,w4⟩:=Go.Sort.scanUp_spec (fun x=>!lt u.2.d[a]! x) u.2.d u.2.i _ u.1 rfl;obtain⟨x1,x2,x3,x4⟩:=Go.Sort.scanDown_spec (fun x=>lt u.2.d[a]! x) u.2.d i2 u.2.i;rw[hi2] at w1 w2 w4;rw[hj2] at x1 x2 x4;have w2:=w2 hij4;have x2:=x2 zo;have hloop:=Go.Sort.partEqLoop_eq lt a u.1 u.2.i u.2.d;rw[hi2,hj2,heq4] at hloop
  refine AW.block ?_;refine AW.seq ?_;refine AW.jnT (S:=Unit) (fun _=>[(11,.int .i64 (Go.Sort.scanUp (fun x=>!lt u.2.d[a]! x) u.2.d u.2.i u.1:Nat))]) (fun _=>(u.2.B::own)) (fun _ _=>True) ?_ (fun _ F5 hF5 _=>?_)
  ·refine AW.block ?_;refine AW.loopR (S:=Nat) (fun i=>[(11,.int .i64 (i:Nat))]) (fun _=>(u.2.B::own)) (fun i _=>u.1≤i∧i≤u.2.i+1∧Go.Sort.scanUp (fun x=>!lt u.2.d[a]! x) u.2.d u.2.i i=Go.Sort.scanUp (fun x=>!lt u.2.d[a]! x) u.2.d u.2.i u.1) (fun i=>u.2.i+1-i) u.1 sM oR ⟨Nat.le_refl _,by omega,rfl⟩ ?_;intro i G hG hP;obtain⟨hi1,hi2,hi3⟩:=hP;have hvG:=hv4.mono hG;refine zC4 ?_;refine WT.split 34 Z (fun h=>?_) (fun h=>?_)
   ·have h:i≤u.2.i:=by simp at h;omega
    refine zC4 ?_;refine WT.vidx hT hvG Z Z Z Z Z Z Z Z Z zo (fun bl1 hbl1=>?_);refine WT.vldS hT 0 hvG hbl1 (arr_at zo) Z Z Z Z Z Z Z Z Z (fun l1 hl1=>?_);refine zC4 ?_;refine WT.vidx hT hvG Z Z Z Z Z Z Z Z Z zo (fun bl2 hbl2=>?_);refine WT.vldS hT 0 hvG hbl2 (arr_at zo) Z Z Z Z Z Z Z Z Z (fun l2 hl2=>?_);refine WT.callC hg hgb Z Z Z Z Z Z Z (hcmp G (hF4.trans hG) l1 l2 _ _ hl1 hl2) (fun v hvz=>?_);obtain⟨z,rfl,hz⟩:=hvz;refine zC4 ?_;refine AW.cond Z (fun hc=>?_) (fun hc=>?_)
    ·have hlt:=(Bool.eq_false_iff.2 (fun hh=>absurd (hz.2 hh) (by simpa using hc)):lt u.2.d[a]! u.2.d[i]! = false);refine zC4 ?_;refine AW.block ?_;refine zC4 ?_;refine⟨i+1,by omega,sM,OwnLe.refl _,by omega,by omega,?_⟩;rw[←hi3]
     conv=>rhs;rw[Go.Sort.scanUp]
     rw[if_pos (by simp[h,hlt])]
    ·have hlt:=hz.1 (by simpa using hc);refine AW.exit ?_;refine⟨(),SubK.of_map (by rw[←hi3,Go.Sort.scanUp,if_neg (by simp[hlt])];rfl),OwnLe.refl _,trivial⟩
   ·have h:¬i≤u.2.i:=by simp at h;omega
    refine zC4 ?_;refine AW.cond Z (fun h=>(by cases h)) (fun _=>?_);refine AW.exit ?_;refine⟨(),SubK.of_map (by rw[←hi3,Go.Sort.scanUp,if_neg (by simp[h])];rfl),OwnLe.refl _,trivial⟩
  rw[hi2];have hv5:=hv4.mono hF5;have hF5':=hF4.trans hF5;refine AW.seq ?_;refine AW.jnT (S:=Unit) (fun _=>[(12,.int .i64 (Go.Sort.scanDown (fun x=>lt u.2.d[a]! x) u.2.d i2 u.2.i:Nat))]) (fun _=>(u.2.B::own)) (fun _ _=>True) ?_ (fun _ F6 hF6 _=>?_)
  ·refine AW.block ?_;refine AW.loopR (S:=Nat) (fun j=>[(12,.int .i64 (j:Nat))]) (fun _=>(u.2.B::own)) (fun j _=>j≤u.2.i∧i2≤j+1∧Go.Sort.scanDown (fun x=>lt u.2.d[a]! x) u.2.d i2 j=Go.Sort.scanDown (fun x=>lt u.2.d[a]! x) u.2.d i2 u.2.i) (fun j=>j) u.2.i sM oR ⟨Nat.le_refl _,by omega,rfl⟩ ?_;intro j G hG hP;obtain⟨hj1,hj2,hj3⟩:=hP;have hvG:=hv5.mono hG;have one:∀q,i2≤j→(fun x=>lt u.2.d[a]! x) u.2.d[j]! = q→Go.Sort.scanDown (fun x=>lt u.2.d[a]! x) u.2.d i2 j=if q=true then Go.Sort.scanDown (fun x=>lt u.2.d[a]! x) u.2.d i2 (j-1) else j:=by
    intro q h1 h2;cases j with
    | zero=>omega
    | succ k=>
     rw[Go.Sort.scanDown,Nat.add_sub_cancel];subst h2;simp[h1]
   refine zC4 ?_;refine WT.split 53 Z (fun h=>?_) (fun h=>?_)
   ·have h:i2≤j:=by simp at h;omega
    refine zC4 ?_;refine WT.vidx hT hvG Z Z Z Z Z Z Z Z Z zo (fun bl1 hbl1=>?_);refine WT.vldS hT 0 hvG hbl1 (arr_at zo) Z Z Z Z Z Z Z Z Z (fun l1 hl1=>?_);refine zC4 ?_;refine WT.vidx hT hvG Z Z Z Z Z Z Z Z Z zo (fun bl2 hbl2=>?_);refine WT.vldS hT 0 hvG hbl2 (arr_at zo) Z Z Z Z Z Z Z Z Z (fun l2 hl2=>?_);refine WT.callC hg hgb Z Z Z Z Z Z Z (hcmp G (hF5'.trans hG) l1 l2 _ _ hl1 hl2) (fun v hvz=>?_);obtain⟨z,rfl,hz⟩:=hvz;refine zC4 ?_;refine AW.cond Z (fun hc=>?_) (fun hc=>?_)
    ·have hlt:=hz.1 (by simpa using hc);refine zC4 ?_;refine AW.block ?_;refine zC4 ?_;refine⟨j-1,by omega,sM,OwnLe.refl _,by omega,by omega,?_⟩;rw[←hj3,one true h (by simp[hlt]),if_pos rfl]
    ·have hlt:=(Bool.eq_false_iff.2 (fun hh=>absurd (hz.2 hh) (by simpa using hc)):lt u.2.d[a]! u.2.d[j]! = false);refine AW.exit ?_;refine⟨(),SubK.of_map (by rw[←hj3,one false h (by simp[hlt]),if_neg (by decide)];rfl),OwnLe.refl _,trivial⟩
   ·have h:¬i2≤j:=by simp at h;omega
    refine zC4 ?_;refine AW.cond Z (fun h=>(by cases h)) (fun _=>?_);refine AW.exit ?_;have e:Go.Sort.scanDown (fun x=>lt u.2.d[a]! x) u.2.d i2 j=j:=by
     cases j with
     | zero=>rfl
     | succ k=>rw[Go.Sort.scanDown,if_neg (by simp;omega)]
    refine⟨(),SubK.of_map (by rw[←hj3,e];rfl),OwnLe.refl _,trivial⟩
  rw[hj2];have hv6:=hv5.mono hF6;refine zC4 ?_;refine AW.cond Z (fun h=>?_) (fun h=>?_)
  ·have h:j2<i2:=by simp at h;omega
   refine AW.exit ?_;refine⟨(i2,⟨j2,u.2.d,u.2.B⟩),sM,OwnLe.refl _,hv6,?_⟩;rw[hloop,if_pos h]
  ·have h:¬j2<i2:=by simp at h;omega
   have hlt2:i2<j2:=by
    rcases Nat.lt_or_ge i2 j2 with h1 | h1
    ·exact h1
    ·obtain rfl:i2=j2:=by omega
     have e1:=w4 zo;have e2:=x4 (Nat.le_refl _) zo;rw[e2] at e1;cases e1
   exact shE1
 ·obtain⟨hv3,heq3⟩:=hP;refine zC4 ?_;refine AW.ret ⟨_,[_],⟨_,_,rfl,rfl,rfl⟩,zsb,_,rfl,?_,?_⟩
  ·rw[hpart,←heq3];rfl
  ·rw[hpart,←heq3];exact hv3
theorem kyOrder2_spec(F:Frz){lt:Key→Key→Bool}{g:Nat}{first capt:List Value}(hc:CmpOk tKey lt F g first capt){a0:Option Addr}{m c:Nat}{d:Array Key}(hv:Arr tKey F a0 m c d.toList)(a b:Nat)(ha:a<m)(hb:b<m)(hm:m≤1000000){ip sw:Nat}(hsw:sw≤1000) :
  Abs.Spec CC 106 [.slice a0 m c,.int .i64 a,.int .i64 b,.pointer (some ⟨ip,0,none⟩),.func (.func g) ⟨first⟩ ⟨capt⟩] F [[(ip,.cells false [.int .i64 sw])]] fun F' v o=>∃B',o=[B']∧v=.tuple ⟨[.int .i64 ((Go.Sort.order2 lt d a b sw).1:Nat),.int .i64 ((Go.Sort.order2 lt d a b sw).2.1:Nat)]⟩∧B'=[(ip,.cells false [.int .i64 ((Go.Sort.order2 lt d a b sw).2.2:Nat)])]:=by
 obtain⟨⟨fn,hg,hgb⟩,hcmp⟩:=hc;have hsz:m=d.size:=hv.len;refine Abs.Spec.fn (n:=32) Tryd.func106 rfl rfl fun own=>?_;refine zC4 ?_;refine WT.idxL hT hv Z Z Z Z Z Z Z Z Z (by simp;omega) (fun x1 hx1 b1 off1 ro1 cs1 l1 hb1 hp1 hl1=>?_);obtain rfl:x1=d[b]!:=by rw[arr_at zo] at hx1;exact(Option.some.inj hx1).symm
 refine WT.loadS hT hb1 hp1 Z Z Z Z Z Z Z Z ?_;refine zC4 ?_;refine WT.idxL hT hv Z Z Z Z Z Z Z Z Z (by simp;omega) (fun x2 hx2 b2 off2 ro2 cs2 l2 hb2 hp2 hl2=>?_);obtain rfl:x2=d[a]!:=by rw[arr_at zo] at hx2;exact(Option.some.inj hx2).symm
 refine WT.loadS hT hb2 hp2 Z Z Z Z Z Z Z Z ?_;refine WT.callC hg hgb Z Z Z Z Z Z Z (hcmp F (Frz.le.refl F) l1 l2 _ _ hl1 hl2) (fun v hvz=>?_);obtain⟨z,rfl,hz⟩:=hvz;refine zC4 ?_;refine AW.cond Z (fun hc=>?_) (fun hc=>?_)
 ·have hlt:=hz.1 (by simpa using hc);have e:Go.Sort.order2 lt d a b sw=(b,a,sw+1):=by rw[Go.Sort.order2,if_pos hlt]
  refine zC4 ?_;exact AW.ret ⟨_,[_],⟨_,_,rfl,⟨_,_,rfl,rfl,rfl⟩,rfl⟩,zsb,_,rfl,(by rw[e];first | done | rfl),(by rw[e];first | done | rfl)⟩
 ·have hlt:lt d[b]! d[a]! = false:=Bool.eq_false_iff.2 (fun hh=>absurd (hz.2 hh) (by simpa using hc));have e:Go.Sort.order2 lt d a b sw=(a,b,sw):=by rw[Go.Sort.order2,if_neg (by rw[hlt];decide)]
  refine zC4 ?_;exact AW.ret ⟨_,[_],⟨_,_,rfl,⟨_,_,rfl,rfl,rfl⟩,rfl⟩,zsb,_,rfl,(by rw[e];first | done | rfl),(by rw[e];first | done | rfl)⟩
theorem kyMedian_spec(F:Frz){lt:Key→Key→Bool}{g:Nat}{first capt:List Value}(hc:CmpOk tKey lt F g first capt){a0:Option Addr}{m c0:Nat}{d:Array Key}(hv:Arr tKey F a0 m c0 d.toList)(a b c:Nat)(ha:a<m)(hb:b<m)(hcm:c<m)(hm:m≤1000000){ip sw:Nat}(hsw:sw≤900) :
  Abs.Spec CC 104 [.slice a0 m c0,.int .i64 a,.int .i64 b,.int .i64 c,.pointer (some ⟨ip,0,none⟩),.func (.func g) ⟨first⟩ ⟨capt⟩] F [[(ip,.cells false [.int .i64 sw])]] fun F' v o=>∃B',o=[B']∧v=.int .i64 ((Go.Sort.median lt d a b c sw).1:Nat)∧B'=[(ip,.cells false [.int .i64 ((Go.Sort.median lt d a b c sw).2:Nat)])]:=by
 obtain⟨r1,hr1⟩:∃r,Go.Sort.order2 lt d a b sw=r:=⟨_,rfl⟩;obtain⟨r2,hr2⟩:∃r,Go.Sort.order2 lt d r1.2.1 c r1.2.2=r:=⟨_,rfl⟩;obtain⟨r3,hr3⟩:∃r,Go.Sort.order2 lt d r1.1 r2.1 r2.2.2=r:=⟨_,rfl⟩;have hmed:Go.Sort.median lt d a b c sw=(r3.2.1,r3.2.2):=by simp only[Go.Sort.median,hr1,hr2,hr3]
 have m1:=Go.Sort.order2_mem lt d a b sw;have m2:=Go.Sort.order2_mem lt d r1.2.1 c r1.2.2;have n1:=Go.Sort.order2_count lt d a b sw;have n2:=Go.Sort.order2_count lt d r1.2.1 c r1.2.2;rw[hr1] at m1 n1;rw[hr2] at m2 n2;have b1:r1.1<m∧r1.2.1<m:=by omega
 have b2:r2.1<m∧r2.2.1<m:=by omega
 refine Abs.Spec.fn (n:=41) Tryd.func104 rfl rfl fun own=>?_;refine zC4 ?_;refine WT.call1F 0 Tryd.func106 Z Z Z Z Z Z Z (fun _=>rfl) (kyOrder2_spec _ hc hv a b ha hb hm zo) (fun F1 v B1 hF1 hv1=>?_);obtain⟨rfl,rfl⟩:=hv1;rw[hr1];refine zC4 ?_;refine WT.call1F 0 Tryd.func106 Z Z Z Z Z Z Z (fun _=>rfl) (kyOrder2_spec _ (hc.mono hF1) (hv.mono hF1) r1.2.1 c b1.2 hcm hm (sw:=r1.2.2) zo) (fun F2 v B2 hF2 hv2=>?_);obtain⟨rfl,rfl⟩:=hv2;rw[hr2];refine zC4 ?_
 refine WT.call1F 0 Tryd.func106 Z Z Z Z Z Z Z (fun _=>rfl) (kyOrder2_spec _ ((hc.mono hF1).mono hF2) ((hv.mono hF1).mono hF2) r1.1 r2.1 b1.1 b2.1 hm (sw:=r2.2.2) zo) (fun F3 v B3 hF3 hv3=>?_);obtain⟨rfl,rfl⟩:=hv3;rw[hr3];refine zC4 ?_;exact AW.ret ⟨_,[_],⟨_,_,rfl,rfl,rfl⟩,zsb,_,rfl,(by rw[hmed];first | done | rfl),(by rw[hmed])⟩
theorem kyMedAdj_spec(F:Frz){lt:Key→Key→Bool}{g:Nat}{first capt:List Value}(hc:CmpOk tKey lt F g first capt){a0:Option Addr}{m c0:Nat}{d:Array Key}(hv:Arr tKey F a0 m c0 d.toList)(a:Nat)(ha:1≤a)(hb:a+1<m)(hm:m≤1000000){ip sw:Nat}(hsw:sw≤900) :
  Abs.Spec CC 103 [.slice a0 m c0,.int .i64 a,.pointer (some ⟨ip,0,none⟩),.func (.func g) ⟨first⟩ ⟨capt⟩] F [[(ip,.cells false [.int .i64 sw])]] fun F' v o=>∃B',o=[B']∧v=.int .i64 ((Go.Sort.medianAdjacent lt d a sw).1:Nat)∧B'=[(ip,.cells false [.int .i64 ((Go.Sort.medianAdjacent lt d a sw).2:Nat)])]:=by
 refine Abs.Spec.fn (n:=18) Tryd.func103 rfl rfl fun own=>?_;refine zC4 ?_;refine WT.call1F 0 Tryd.func104 Z Z Z Z Z Z Z (fun _=>rfl) (kyMedian_spec _ hc hv (a-1) a (a+1) zo zo zo hm hsw) (fun F1 v B1 hF1 hv1=>?_);obtain⟨rfl,rfl⟩:=hv1;refine zC4 ?_;exact AW.ret ⟨_,[_],⟨_,_,rfl,rfl,rfl⟩,zsb,_,rfl,rfl,rfl⟩
theorem kyPivot_spec(F:Frz){lt:Key→Key→Bool}{g:Nat}{first capt:List Value}(hc:CmpOk tKey lt F g first capt){a0:Option Addr}{m c0:Nat}{d:Array Key}(hv:Arr tKey F a0 m c0 d.toList)(a b:Nat)(hab:a+13≤b)(hb:b≤m)(hm:m≤1000000) :
  Abs.Spec CC 91 [.slice a0 m c0,.int .i64 a,.int .i64 b,.func (.func g) ⟨first⟩ ⟨capt⟩] F [] fun F' v o=>o=[]∧v=.tuple ⟨[.int .i64 ((Go.Sort.choosePivot lt d a b).1:Nat),.int .i64 (Go.Sort.hintCode (Go.Sort.choosePivot lt d a b).2)]⟩:=by
 have hd4:(b-a) / 4*4≤b-a:=Nat.div_mul_le_self _ _;have hd3:3≤(b-a) / 4:=by omega
 obtain⟨e,he⟩:∃e,(b-a) / 4=e:=⟨_,rfl⟩;rw[he] at hd4 hd3;refine Abs.Spec.fn (n:=63) Tryd.func91 rfl rfl fun own=>?_;refine zC4 ?_;refine WT.allocT hT Z Z Z Z Z Z (fun i11 hi11=>?_);refine zC4 ?_;refine WT.quoL 4 Z Z Z Z Z Z (by decide) zo ?_;refine WT.mulL 1 Z Z Z Z Z Z zo ?_;rw[he];refine zC4 ?_;refine WT.quoL 4 Z Z Z Z Z Z (by decide) zo ?_;refine WT.mulL 2 Z Z Z Z Z Z zo ?_;rw[he];refine zC4 ?_;refine WT.quoL 4 Z Z Z Z Z Z (by decide) zo ?_;refine WT.mulL 3 Z Z Z Z Z Z zo ?_;rw[he];refine zC4 ?_;refine AW.cond Z (fun _=>?_) (fun h=>(by simp at h;omega))
 refine AW.jn (S:=Nat×Nat×Nat×Nat) (fun s=>[(12,.int .i64 (s.1:Nat)),(13,.int .i64 (s.2.1:Nat)),(14,.int .i64 (s.2.2.1:Nat))]) (fun s=>[(i11,.cells false [.int .i64 (s.2.2.2:Nat)])]::own) (fun s _=>s.1<m∧s.2.1<m∧s.2.2.1<m∧s.2.2.2≤9∧Go.Sort.rawPivot lt d a b=Go.Sort.median lt d s.1 s.2.1 s.2.2.1 s.2.2.2) ?_ (fun s F5 hF5 hP=>?_)
 ·refine zC4 ?_;refine AW.cond Z (fun h=>?_) (fun h=>?_)
  ·have h:50≤b-a:=by simp at h;omega
   have h12:12≤e:=by omega
   obtain⟨r1,hr1⟩:∃r,Go.Sort.medianAdjacent lt d (a+e*1) 0=r:=⟨_,rfl⟩;obtain⟨r2,hr2⟩:∃r,Go.Sort.medianAdjacent lt d (a+e*2) r1.2=r:=⟨_,rfl⟩;obtain⟨r3,hr3⟩:∃r,Go.Sort.medianAdjacent lt d (a+e*3) r2.2=r:=⟨_,rfl⟩;have m1:=Go.Sort.medianAdjacent_mem lt d (a+e*1) 0;have m2:=Go.Sort.medianAdjacent_mem lt d (a+e*2) r1.2;have m3:=Go.Sort.medianAdjacent_mem lt d (a+e*3) r2.2;have n1:=Go.Sort.medianAdjacent_count lt d (a+e*1) 0;have n2:=Go.Sort.medianAdjacent_count lt d (a+e*2) r1.2;have n3:=Go.Sort.medianAdjacent_count lt d (a+e*3) r2.2;rw[hr1] at m1 n1;rw[hr2] at m2 n2;rw[hr3] at m3 n3;refine zC4 ?_
   refine WT.call1F 0 Tryd.func103 Z Z Z Z Z Z Z (fun _=>rfl) (kyMedAdj_spec _ hc hv (a+e*1) zo zo hm (sw:=0) zo) (fun F1 v B1 hF1 hv1=>?_);obtain⟨rfl,rfl⟩:=hv1;rw[hr1];refine zC4 ?_;refine WT.call1F 0 Tryd.func103 Z Z Z Z Z Z Z (fun _=>rfl) (kyMedAdj_spec _ (hc.mono hF1) (hv.mono hF1) (a+e*2) zo zo hm (sw:=r1.2) zo) (fun F2 v B2 hF2 hv2=>?_);obtain⟨rfl,rfl⟩:=hv2;rw[hr2];refine zC4 ?_;refine WT.call1F 0 Tryd.func103 Z Z Z Z Z Z Z (fun _=>rfl) (kyMedAdj_spec _ ((hc.mono hF1).mono hF2) ((hv.mono hF1).mono hF2) (a+e*3) zo zo hm (sw:=r2.2) zo) (fun F3 v B3 hF3 hv3=>?_);obtain⟨rfl,rfl⟩:=hv3;rw[hr3]
   refine zC4 ?_;refine⟨(r1.1,r2.1,r3.1,r3.2),sM,OwnLe.refl _,by dsimp only;omega,by dsimp only;omega,by dsimp only;omega,by dsimp only;omega,?_⟩;rw[Go.Sort.rawPivot,if_pos zo,if_pos h,he,hr1,hr2,hr3]
  ·have h:¬50≤b-a:=by simp at h;omega
   refine AW.skip ?_;refine⟨(a+e*1,a+e*2,a+e*3,0),sM,OwnLe.refl _,by dsimp only;omega,by dsimp only;omega,by dsimp only;omega,by dsimp only;omega,?_⟩;rw[Go.Sort.rawPivot,if_pos zo,if_neg zo,he]
 ·obtain⟨q1,q2,q3,q4,q5⟩:=hP;obtain⟨r,hr⟩:∃r,Go.Sort.median lt d s.1 s.2.1 s.2.2.1 s.2.2.2=r:=⟨_,rfl⟩;have n1:=Go.Sort.median_count lt d s.1 s.2.1 s.2.2.1 s.2.2.2;rw[hr] at n1 q5;have hch:Go.Sort.choosePivot lt d a b=(r.1,Go.Sort.hintOf r.2):=by rw[Go.Sort.choosePivot_eq,q5]
  refine zC4 ?_;refine WT.call1F 0 Tryd.func104 Z Z Z Z Z Z Z (fun _=>rfl) (kyMedian_spec _ (hc.mono hF5) (hv.mono hF5) s.1 s.2.1 s.2.2.1 q1 q2 q3 hm (sw:=s.2.2.2) zo) (fun F6 v B6 hF6 hv6=>?_);obtain⟨rfl,rfl⟩:=hv6;rw[hr];refine zC4 ?_;refine AW.block ?_;refine zC4 ?_;refine AW.cond Z (fun h=>?_) (fun h=>?_)
  ·have h:r.2=0:=by simp at h;omega
   refine zC4 ?_;refine AW.ret ⟨_,[],⟨_,_,rfl,⟨_,_,rfl,rfl,rfl⟩,rfl⟩,zsb,rfl,?_⟩;rw[hch,h];rfl
  ·have h:r.2≠0:=by simp at h;omega
   refine zC4 ?_;refine AW.cond Z (fun h2=>?_) (fun h2=>?_)
   ·have h2:r.2=12:=by simp at h2;omega
    refine zC4 ?_;refine AW.ret ⟨_,[],⟨_,_,rfl,⟨_,_,rfl,rfl,rfl⟩,rfl⟩,zsb,rfl,?_⟩;rw[hch,h2];rfl
   ·have h2:r.2≠12:=by simp at h2;omega
    refine zC4 ?_;refine AW.ret ⟨_,[],⟨_,_,rfl,⟨_,_,rfl,rfl,rfl⟩,rfl⟩,zsb,rfl,?_⟩;rw[hch,show Go.Sort.hintOf r.2=.unknown by rw[Go.Sort.hintOf,if_neg h,if_neg h2]];rfl
theorem kyPIns_spec(F:Frz){lt:Key→Key→Bool}{g:Nat}{first capt:List Value}(hc:CmpOk tKey lt F g first capt){a0:Option Addr}{m c:Nat}{B:List (Nat×Blk)}{d:Array Key}(hv:Vec tKey F a0 m c B d.toList)(a b:Nat)(hab:a<b)(hb:b≤m)(hm:m≤1000000) :
  Abs.Spec CC 93 [.slice a0 m c,.int .i64 a,.int .i64 b,.func (.func g) ⟨first⟩ ⟨capt⟩] F [B] fun F' v o=>∃B',o=[B']∧v=.bool (Go.Sort.partialInsertionSort lt d a b).2∧Vec tKey F' a0 m c B' (Go.Sort.partialInsertionSort lt d a b).1.toList:=by
 obtain⟨⟨fn,hg,hgb⟩,hcmp⟩:=hc;refine Abs.Spec.fn (n:=141) Tryd.func93 rfl rfl fun own=>?_;refine zC4 ?_;refine AW.block ?_;refine AW.loopR (S:=Nat×VS Key) (fun s=>[(10,.int .i64 (s.1:Nat)),(9,.int .i64 (s.2.i:Nat))]) (fun s=>s.2.B::own) (fun s G=>Vec tKey G a0 m c s.2.B s.2.d.toList∧s.1≤5∧a+1≤s.2.i∧s.2.i≤b∧Go.Sort.partialIns lt a b (5-s.1) s.2.i s.2.d=Go.Sort.partialInsertionSort lt d a b) (fun s=>5-s.1) (0,⟨a+1,d,B⟩)
  sM oR ⟨hv,Nat.zero_le _,Nat.le_refl _,hab,rfl⟩ ?_
 intro u F1 hF1 hP;obtain⟨hv1,hk,hi1,hi2,heq⟩:=hP;refine zC4 ?_;refine AW.cond Z (fun h=>?_) (fun h=>?_)
 ·have h:u.1<5:=by simp at h;omega
  obtain⟨i2,hsc⟩:∃i2,Go.Sort.scanSorted lt u.2.d b u.2.i=i2:=⟨_,rfl⟩;rw[show 5-u.1=(5-(u.1+1))+1 by omega,Go.Sort.partialIns_succ,hsc] at heq;refine AW.skip ?_;refine AW.seq ?_;refine AW.block ?_;refine AW.jn (S:=Unit) (fun _=>[(9,.int .i64 (i2:Nat))]) (fun _=>u.2.B::own) (fun _ _=>u.2.i≤i2∧i2≤b) ?_ (fun _ F2 hF2 hi2'=>?_)
  ·refine AW.block ?_;refine AW.loopR (S:=Nat) (fun i=>[(9,.int .i64 (i:Nat))]) (fun _=>u.2.B::own) (fun i _=>u.2.i≤i∧i≤b∧Go.Sort.scanSorted lt u.2.d b i=i2) (fun i=>b-i) u.2.i sM oR ⟨Nat.le_refl _,hi2,hsc⟩ ?_;intro i G hG hP;obtain⟨j1,j2,j3⟩:=hP;have hvG:=hv1.mono hG;have hsz:m=u.2.d.size:=hv1.len;refine zC4 ?_;refine WT.split 22 Z (fun h=>?_) (fun h=>?_)
   ·have h:i<b:=by simp at h;omega
    refine zC4 ?_;refine WT.vidx hT hvG Z Z Z Z Z Z Z Z Z zo (fun bl1 hbl1=>?_);refine WT.vldS hT 0 hvG hbl1 (arr_at zo) Z Z Z Z Z Z Z Z Z (fun l1 hl1=>?_);refine zC4 ?_;refine WT.vidx hT hvG Z Z Z Z Z Z Z Z Z zo (fun bl2 hbl2=>?_);refine WT.vldS hT 0 hvG hbl2 (arr_at zo) Z Z Z Z Z Z Z Z Z (fun l2 hl2=>?_);refine WT.callC hg hgb Z Z Z Z Z Z Z (hcmp G (hF1.trans hG) l1 l2 _ _ hl1 hl2) (fun v hvz=>?_);obtain⟨z,rfl,hz⟩:=hvz;refine zC4 ?_;refine AW.cond Z (fun hc=>?_) (fun hc=>?_)
    ·have hlt:lt u.2.d[i]! u.2.d[i-1]! = false:=Bool.eq_false_iff.2 (fun hh=>absurd (hz.2 hh) (by simpa using hc));refine zC4 ?_;refine AW.block ?_;refine zC4 ?_;refine⟨i+1,by omega,sM,OwnLe.refl _,by omega,by omega,?_⟩;rw[←j3]
     conv=>rhs;rw[Go.Sort.scanSorted]
     rw[if_pos (by simp[h,hlt])]
    ·have hlt:=hz.1 (by simpa using hc);refine AW.exit ?_;have e:i=i2:=by rw[←j3,Go.Sort.scanSorted,if_neg (by simp[hlt])]
     exact⟨(),SubK.of_map (by rw[e];rfl),OwnLe.refl _,by omega,by omega⟩
   ·have h:¬i<b:=by simp at h;omega
    refine zC4 ?_;refine AW.cond Z (fun h=>(by cases h)) (fun _=>?_);refine AW.exit ?_;have e:i=i2:=by rw[←j3,Go.Sort.scanSorted,if_neg (by simp[h])]
    exact⟨(),SubK.of_map (by rw[e];rfl),OwnLe.refl _,by omega,by omega⟩
  ·obtain⟨j1,j2⟩:=hi2';have hv2:=hv1.mono hF2;have hsz:m=u.2.d.size:=hv1.len;have hF2':=hF1.trans hF2;refine zC4 ?_;refine AW.cond Z (fun h=>?_) (fun h=>?_)
   ·have h:i2=b:=by simp at h;omega
    refine zC4 ?_;refine AW.ret ⟨_,[_],⟨_,_,rfl,rfl,rfl⟩,zsb,_,rfl,?_,?_⟩
    ·rw[←heq,if_pos h];rfl
    ·rw[←heq,if_pos h];exact hv2
   ·have h:i2≠b:=by simp at h;omega
    rw[if_neg h] at heq;refine zC4 ?_;refine AW.cond Z (fun h5=>?_) (fun h5=>?_)
    ·have h5:b-a<50:=by simp at h5;omega
     refine zC4 ?_;refine AW.ret ⟨_,[_],⟨_,_,rfl,rfl,rfl⟩,zsb,_,rfl,?_,?_⟩
     ·rw[←heq,if_pos h5];rfl
     ·rw[←heq,if_pos h5];exact hv2
    ·have h5:¬b-a<50:=by simp at h5;omega
     rw[if_neg h5] at heq;refine zC4 ?_;refine AW.draw (ps:=[(4,15)]) Z Z ?_;refine zC4 ?_;refine WT.vidx hT hv2 Z Z Z Z Z Z Z Z Z zo (fun bl3 hbl3=>?_);refine WT.vldS hT 0 hv2 hbl3 (arr_at zo) Z Z Z Z Z Z Z Z Z (fun l3 hl3=>?_);refine zC4 ?_;refine WT.vidx hT hv2 Z Z Z Z Z Z Z Z Z zo (fun bl4 hbl4=>?_);refine WT.vldS hT 0 hv2 hbl4 (arr_at zo) Z Z Z Z Z Z Z Z Z (fun l4 hl4=>?_);refine WT.vidx hT hv2 Z Z Z Z Z Z Z Z Z zo (fun bl5 hbl5=>?_);refine WT.vst (y:=u.2.d[i2-1]!) hT 0 hv2 hbl5 (gE (by simp;omega)) Z Z Z Z Z hl3 Z (fun _=>rfl) Z (fun Bl5 hBl5=>?_)
     refine WT.vidx hT hBl5 Z Z Z Z Z Z Z Z Z zo (fun bl6 hbl6=>?_);refine WT.vst (y:=u.2.d[i2]!) hT 0 hBl5 hbl6 (gE (by simp;omega)) Z Z Z Z Z hl4 Z (fun _=>rfl) Z (fun Bl6 hBl6=>?_);rw[←swp_list] at hBl6;obtain⟨d1,hd1⟩:∃d1,Go.Sort.swp u.2.d i2 (i2-1)=d1:=⟨_,rfl⟩;rw[hd1] at heq hBl6;refine zC4 ?_;refine⟨zrC,?_⟩;refine AW.jn (S:=VS Key) (fun _=>[]) (fun s=>s.B::own) (fun s G=>Vec tKey G a0 m c s.B s.d.toList∧s.d=Go.Sort.fixDown lt a i2 d1) ?_ (fun s F3 hF3 hP3=>?_)
     ·refine zC4 ?_;refine AW.cond Z (fun h2=>?_) (fun h2=>?_)
      ·have h2:2≤i2-a:=by simp at h2;omega
       rw[Go.Sort.fixDown,if_pos h2];refine zC4 ?_;refine AW.block ?_;refine AW.loopR (S:=VS Key) (fun s=>[(11,.int .i64 (s.i:Nat))]) (fun s=>s.B::own) (fun s G=>Vec tKey G a0 m c s.B s.d.toList∧s.i<m∧Go.Sort.shiftDown lt s.i s.d=Go.Sort.shiftDown lt (i2-1) d1) (fun s=>s.i) ⟨i2-1,d1,Bl6⟩ sM oR ⟨hBl6,by dsimp only;omega,rfl⟩ ?_;intro w G hG hP4;obtain⟨hw,hwi,hwe⟩:=hP4;have hszw:m=w.d.size:=hw.len;refine zC4 ?_;refine AW.cond Z (fun h3=>?_) (fun h3=>?_)
       ·have h3:1≤w.i:=by simp at h3;omega
        have one:Go.Sort.shiftDown lt w.i w.d=if lt w.d[w.i]! w.d[w.i-1]! = true then Go.Sort.shiftDown lt (w.i-1) (Go.Sort.swp w.d w.i (w.i-1)) else w.d:=by
         cases hi:w.i with
         | zero=>omega
         | succ k=>
          rw[Go.Sort.shiftDown,Nat.add_sub_cancel];cases lt w.d[k+1]! w.d[k]!<;>simp
        refine zC4 ?_;refine AW.block ?_;refine zC4 ?_;refine WT.vidx hT hw Z Z Z Z Z Z Z Z Z zo (fun bl7 hbl7=>?_);refine WT.vldS hT 0 hw hbl7 (arr_at zo) Z Z Z Z Z Z Z Z Z (fun l7 hl7=>?_);refine zC4 ?_;refine WT.vidx hT hw Z Z Z Z Z Z Z Z Z zo (fun bl8 hbl8=>?_);refine WT.vldS hT 0 hw hbl8 (arr_at zo) Z Z Z Z Z Z Z Z Z (fun l8 hl8=>?_);refine WT.callC hg hgb Z Z Z Z Z Z Z (hcmp G (hF2'.trans hG) l7 l8 _ _ hl7 hl8) (fun v hvz=>?_);obtain⟨z,rfl,hz⟩:=hvz;refine zC4 ?_;refine AW.cond Z (fun hc=>?_) (fun hc=>?_)
        ·have hlt:lt w.d[w.i]! w.d[w.i-1]! = false:=Bool.eq_false_iff.2 (fun hh=>absurd (hz.2 hh) (by simpa using hc));refine AW.exit ?_;refine⟨⟨0,w.d,w.B⟩,sM,OwnLe.refl _,hw,?_⟩;rw[←hwe,one,if_neg (by rw[hlt];decide)]
        ·have hlt:=hz.1 (by simpa using hc);refine zC4 ?_;refine AW.draw (ps:=[(4,15)]) Z Z ?_;refine zC4 ?_;refine WT.vidx hT hw Z Z Z Z Z Z Z Z Z zo (fun bl9 hbl9=>?_);refine WT.vldS hT 0 hw hbl9 (arr_at zo) Z Z Z Z Z Z Z Z Z (fun l9 hl9=>?_);refine zC4 ?_;refine WT.vidx hT hw Z Z Z Z Z Z Z Z Z zo (fun bl10 hbl10=>?_);refine WT.vldS hT 0 hw hbl10 (arr_at zo) Z Z Z Z Z Z Z Z Z (fun l10 hl10=>?_);refine WT.vidx hT hw Z Z Z Z Z Z Z Z Z zo (fun bl11 hbl11=>?_);refine WT.vst (y:=w.d[w.i-1]!) hT 0 hw hbl11 (gE (by simp;omega)) Z Z Z Z Z hl9 Z (fun _=>rfl) Z (fun Bl11 hBl11=>?_)
         refine WT.vidx hT hBl11 Z Z Z Z Z Z Z Z Z zo (fun bl12 hbl12=>?_);refine WT.vst (y:=w.d[w.i]!) hT 0 hBl11 hbl12 (gE (by simp;omega)) Z Z Z Z Z hl10 Z (fun _=>rfl) Z (fun Bl12 hBl12=>?_);rw[←swp_list] at hBl12;refine zC4 ?_;refine⟨zrC,?_⟩;refine zC4 ?_;refine⟨⟨w.i-1,Go.Sort.swp w.d w.i (w.i-1),Bl12⟩,by dsimp only;omega,sM,OwnLe.refl _,hBl12,by dsimp only;omega,?_⟩;rw[←hwe,one,if_pos hlt]
       ·have h3:w.i=0:=by simp at h3;omega
        refine AW.exit ?_;refine⟨⟨0,w.d,w.B⟩,sM,OwnLe.refl _,hw,?_⟩;rw[←hwe,h3];rfl
      ·have h2:¬2≤i2-a:=by simp at h2;omega
       rw[Go.Sort.fixDown,if_neg h2];refine AW.skip ?_;exact⟨⟨0,d1,Bl6⟩,sM,OwnLe.refl _,hBl6,rfl⟩
     ·obtain⟨hs,hsd⟩:=hP3;have hszs:m=s.d.size:=hs.len;have hF3':=hF2'.trans hF3;rw[←hsd] at heq;refine zC4 ?_;refine AW.cond Z (fun h2=>?_) (fun h2=>?_)
      ·have h2:2≤b-i2:=by simp at h2;omega
       rw[Go.Sort.fixUp,if_pos h2] at heq;refine zC4 ?_;refine AW.block ?_;refine AW.loopR (S:=VS Key) (fun s=>[(12,.int .i64 (s.i:Nat))]) (fun s=>s.B::own) (fun w G=>Vec tKey G a0 m c w.B w.d.toList∧i2+1≤w.i∧Go.Sort.shiftUp lt b w.i w.d=Go.Sort.shiftUp lt b (i2+1) s.d) (fun s=>b-s.i) ⟨i2+1,s.d,s.B⟩ sM oR ⟨hs,Nat.le_refl _,rfl⟩ ?_;intro w G hG hP4;obtain⟨hw,hwi,hwe⟩:=hP4;have hszw:m=w.d.size:=hw.len;refine zC4 ?_;refine AW.cond Z (fun h3=>?_) (fun h3=>?_)
       ·have h3:w.i<b:=by simp at h3;omega
        have one:Go.Sort.shiftUp lt b w.i w.d=if lt w.d[w.i]! w.d[w.i-1]! = true then Go.Sort.shiftUp lt b (w.i+1) (Go.Sort.swp w.d w.i (w.i-1)) else w.d:=by
         conv=>lhs;rw[Go.Sort.shiftUp]
         rw[if_pos h3];cases lt w.d[w.i]! w.d[w.i-1]!<;>simp
        refine zC4 ?_;refine AW.block ?_;refine zC4 ?_;refine WT.vidx hT hw Z Z Z Z Z Z Z Z Z zo (fun bl7 hbl7=>?_);refine WT.vldS hT 0 hw hbl7 (arr_at zo) Z Z Z Z Z Z Z Z Z (fun l7 hl7=>?_);refine zC4 ?_;refine WT.vidx hT hw Z Z Z Z Z Z Z Z Z zo (fun bl8 hbl8=>?_);refine WT.vldS hT 0 hw hbl8 (arr_at zo) Z Z Z Z Z Z Z Z Z (fun l8 hl8=>?_);refine WT.callC hg hgb Z Z Z Z Z Z Z (hcmp G (hF3'.trans hG) l7 l8 _ _ hl7 hl8) (fun v hvz=>?_);obtain⟨z,rfl,hz⟩:=hvz;refine zC4 ?_;refine AW.cond Z (fun hc=>?_) (fun hc=>?_)
        ·have hlt:lt w.d[w.i]! w.d[w.i-1]! = false:=Bool.eq_false_iff.2 (fun hh=>absurd (hz.2 hh) (by simpa using hc));refine AW.exit ?_;refine zC4 ?_;refine⟨(u.1+1,⟨i2,w.d,w.B⟩),by dsimp only;omega,sM,OwnLe.refl _,hw,by dsimp only;omega,by dsimp only;omega,j2,?_⟩;rw[←heq,←hwe,one,if_neg (by rw[hlt];decide)]
        ·have hlt:=hz.1 (by simpa using hc);refine zC4 ?_;refine AW.draw (ps:=[(4,15)]) Z Z ?_;refine zC4 ?_;refine WT.vidx hT hw Z Z Z Z Z Z Z Z Z zo (fun bl9 hbl9=>?_);refine WT.vldS hT 0 hw hbl9 (arr_at zo) Z Z Z Z Z Z Z Z Z (fun l9 hl9=>?_);refine zC4 ?_;refine WT.vidx hT hw Z Z Z Z Z Z Z Z Z zo (fun bl10 hbl10=>?_);refine WT.vldS hT 0 hw hbl10 (arr_at zo) Z Z Z Z Z Z Z Z Z (fun l10 hl10=>?_);refine WT.vidx hT hw Z Z Z Z Z Z Z Z Z zo (fun bl11 hbl11=>?_);refine WT.vst (y:=w.d[w.i-1]!) hT 0 hw hbl11 (gE (by simp;omega)) Z Z Z Z Z hl9 Z (fun _=>rfl) Z (fun Bl11 hBl11=>?_)
         refine WT.vidx hT hBl11 Z Z Z Z Z Z Z Z Z zo (fun bl12 hbl12=>?_);refine WT.vst (y:=w.d[w.i]!) hT 0 hBl11 hbl12 (gE (by simp;omega)) Z Z Z Z Z hl10 Z (fun _=>rfl) Z (fun Bl12 hBl12=>?_);rw[←swp_list] at hBl12;refine zC4 ?_;refine⟨zrC,?_⟩;refine zC4 ?_;refine⟨⟨w.i+1,Go.Sort.swp w.d w.i (w.i-1),Bl12⟩,by dsimp only;omega,sM,OwnLe.refl _,hBl12,by dsimp only;omega,?_⟩;rw[←hwe,one,if_pos hlt]
       ·have h3:¬w.i<b:=by simp at h3;omega
        refine AW.exit ?_;refine zC4 ?_;refine⟨(u.1+1,⟨i2,w.d,w.B⟩),by dsimp only;omega,sM,OwnLe.refl _,hw,by dsimp only;omega,by dsimp only;omega,j2,?_⟩;rw[←heq,←hwe,Go.Sort.shiftUp,if_neg h3]
      ·have h2:¬2≤b-i2:=by simp at h2;omega
       rw[Go.Sort.fixUp,if_neg h2] at heq;refine zC4 ?_;exact⟨(u.1+1,⟨i2,s.d,s.B⟩),by dsimp only;omega,sM,OwnLe.refl _,hs,by dsimp only;omega,by dsimp only;omega,j2,heq⟩
 ·have h:u.1=5:=by simp at h;omega
  refine AW.exit ?_;refine zC4 ?_;rw[h] at heq;refine AW.ret ⟨_,[_],⟨_,_,rfl,rfl,rfl⟩,zsb,_,rfl,?_,?_⟩
  ·rw[←heq];rfl
  ·rw[←heq];exact hv1
theorem kyBreak_spec(F:Frz){cv:Value}{a0:Option Addr}{m c:Nat}{B:List (Nat×Blk)}{d:Array Key}(hv:Vec tKey F a0 m c B d.toList)(a b:Nat)(hab:a+13≤b)(hb:b≤m)(hm:m≤1000000) :
  Abs.Spec CC 90 [.slice a0 m c,.int .i64 a,.int .i64 b,cv] F [B] fun F' v o=>∃B',o=[B']∧Vec tKey F' a0 m c B' (Go.Sort.breakPatterns d a b).toList:=by
 obtain⟨l,hl⟩:∃l,b-a=l:=⟨_,rfl⟩;obtain⟨e,he⟩:∃e,l / 4=e:=⟨_,rfl⟩;obtain⟨p2,hp2⟩:∃p,2 ^ Go.Sort.bitsLen l=p:=⟨_,rfl⟩;have h1p:=Go.Sort.two_pow_bitsLen_le (n:=l) zo;have h2p:=Go.Sort.lt_two_pow_bitsLen l;rw[hp2] at h1p h2p;have hbr:Go.Sort.breakPatterns d a b=(bsN a l p2 (a+e*2-1) (UInt64.ofNat l,d) 3).2:=by
  unfold Go.Sort.breakPatterns;simp only[hl];rw[if_pos zo,he,Nat.one_shiftLeft,hp2];rfl
 refine Abs.Spec.fn (n:=67) Tryd.func90 rfl rfl fun own=>?_;refine zC4 ?_;rw[hl];refine AW.cond Z (fun _=>?_) (fun h=>(by simp at h;omega));refine zC4 ?_;refine WT.conv hT (k2:=.u64) Z Z Z Z Z Z Z Z (wrapU64 zo) ?_
 refine WT.allocT hT Z Z Z Z Z Z (fun i9 hi9=>?_);refine zC4 ?_;refine WT.callV Tryd.func101 Z Z Z Z Z Z (npow_spec _ l zo) (fun v hv'=>?_);rw[hp2] at hv';subst hv';refine zC4 ?_;refine WT.quoL 4 Z Z Z Z Z Z (by decide) zo ?_;rw[he];refine WT.mulL 2 Z Z Z Z Z Z zo ?_;refine zC4 ?_;refine AW.block ?_
 refine AW.loopR (S:=VS Key) (fun s=>[(11,.int .i64 ((a+e*2-1+s.i:Nat):Int))]) (fun s=>[(i9,.cells false [.int .u64 ((bsN a l p2 (a+e*2-1) (UInt64.ofNat l,d) s.i).1.toNat:Nat)])]::s.B::own) (fun s G=>Vec tKey G a0 m c s.B s.d.toList∧s.i≤3∧s.d=(bsN a l p2 (a+e*2-1) (UInt64.ofNat l,d) s.i).2) (fun s=>3-s.i) ⟨0,d,B⟩
  sM (OwnLe.flat (List.Perm.of_eq ?_)) ⟨hv,Nat.zero_le _,rfl⟩ ?_
 ·rw[show (bsN a l p2 (a+e*2-1) (UInt64.ofNat l,d) 0).1.toNat=l from by
   show (UInt64.ofNat l).toNat=l;rw[UInt64.toNat_ofNat']
   exact Nat.mod_eq_of_lt (by have : 2 ^ 64 = 18446744073709551616 := rfl
                              omega)]
  rfl
 intro u F2 hF2 hP2;obtain⟨hv2,hi,heq⟩:=hP2;have hsz:m=u.d.size:=hv2.len;have hr64:=(bsN a l p2 (a+e*2-1) (UInt64.ofNat l,d) u.i).1.toNat_lt;rw[show (2:Nat) ^ 64=18446744073709551616 from rfl] at hr64;obtain⟨r,hr⟩:∃r,(bsN a l p2 (a+e*2-1) (UInt64.ofNat l,d) u.i).1.toNat=r:=⟨_,rfl⟩;have hnext:(bsN a l p2 (a+e*2-1) (UInt64.ofNat l,d) (u.i+1)).1.toNat=Go.Sort.xorNextN r:=by
  rw[←hr,←Go.Sort.xorNext_toNat];rfl
 rw[hr] at hr64;rw[hr];have hx64:=Go.Sort.xorNextN_lt r hr64;obtain⟨o0,ho0⟩:∃o0,Go.Sort.xorNextN r &&& (p2-1)=o0:=⟨_,rfl⟩;have ho1:o0≤p2-1:=by rw[←ho0];exact Nat.and_le_right
 have hswap:(bsN a l p2 (a+e*2-1) (UInt64.ofNat l,d) (u.i+1)).2=Go.Sort.swp u.d (a+e*2-1+u.i) (a+(if o0≥l then o0-l else o0)):=by
  show (Go.Sort.breakStep a l p2 (bsN a l p2 (a+e*2-1) (UInt64.ofNat l,d) u.i) (a+e*2-1+u.i)).2=_;unfold Go.Sort.breakStep;simp only[Go.Sort.xorNext_toNat,hr,ho0,←heq]
 have hel:e*4≤l:=by rw[←he];exact Nat.div_mul_le_self _ _
 have he3:3≤e:=by rw[←he];omega
 refine zC4 ?_;refine WT.quoL 4 Z Z Z Z Z Z (by decide) zo ?_;rw[he];refine WT.mulL 2 Z Z Z Z Z Z zo ?_;refine zC4 ?_;refine AW.cond Z (fun h=>?_) (fun h=>?_)
 ·have h:u.i<3:=by simp at h;omega
  refine zC4 ?_;refine AW.block ?_;refine zC4 ?_;refine WT.call1F 0 Tryd.func102 Z Z Z Z Z Z Z (fun _=>rfl) (xorn_spec _ i9 r hr64) (fun F3 v B3 hF3 hv3=>?_);obtain⟨rfl,rfl⟩:=hv3;have hv3:=hv2.mono hF3;refine zC4 ?_;refine WT.binV Z Z Z Z Z Z (by decide) (sub64 (x:=p2) (y:=1) zo zo) ?_;refine WT.binV Z Z Z Z Z Z (by decide) (and64 hx64 zo) ?_;rw[ho0];refine WT.conv hT (k2:=.i64) Z Z Z Z Z Z Z Z (wrap64 zo) ?_
  refine zC4 ?_;refine AW.jnT (S:=Unit) (fun _=>[(12,.int .i64 ((if o0≥l then o0-l else o0:Nat):Int))]) (fun _=>[(i9,.cells false [.int .u64 (Go.Sort.xorNextN r:Nat)])]::u.B::own) (fun _ _=>True) ?_ (fun _ F4 hF4 _=>?_)
  ·refine AW.cond Z (fun h=>?_) (fun h=>?_)
   ·have h:l≤o0:=by simp at h;omega
    refine zC4 ?_;refine⟨(),SubK.of_map (by rw[if_pos h];rfl),OwnLe.refl _,trivial⟩
   ·have h:¬l≤o0:=by simp at h;omega
    refine AW.skip ?_;refine⟨(),SubK.of_map (by rw[if_neg h];rfl),OwnLe.refl _,trivial⟩
  ·obtain⟨o1,ho2⟩:∃o1,(if o0≥l then o0-l else o0)=o1:=⟨_,rfl⟩;have ho3:o1<l:=by rw[←ho2];split<;>omega
   rw[ho2] at hswap ⊢;have hv4:=hv3.mono hF4;refine AW.draw (ps:=[(5,17)]) Z Z ?_;refine zC4 ?_;refine WT.vidx hT hv4 Z Z Z Z Z Z Z Z Z zo (fun bl3 hbl3=>?_);refine WT.vldS hT 1 hv4 hbl3 (arr_at zo) Z Z Z Z Z Z Z Z Z (fun l3 hl3=>?_);refine zC4 ?_;refine WT.vidx hT hv4 Z Z Z Z Z Z Z Z Z zo (fun bl4 hbl4=>?_);refine WT.vldS hT 1 hv4 hbl4 (arr_at zo) Z Z Z Z Z Z Z Z Z (fun l4 hl4=>?_);refine WT.vidx hT hv4 Z Z Z Z Z Z Z Z Z zo (fun bl5 hbl5=>?_);refine WT.vst (y:=u.d[a+o1]!) hT 1 hv4 hbl5 (gE (by simp;omega)) Z Z Z Z Z hl3 Z (fun _=>rfl) Z (fun Bl5 hBl5=>?_)
   refine WT.vidx hT hBl5 Z Z Z Z Z Z Z Z Z zo (fun bl6 hbl6=>?_);refine WT.vst (y:=u.d[a+e*2-1+u.i]!) hT 1 hBl5 hbl6 (gE (by simp;omega)) Z Z Z Z Z hl4 Z (fun _=>rfl) Z (fun Bl6 hBl6=>?_);rw[←swp_list] at hBl6;refine zC4 ?_;refine⟨zrC,?_⟩;refine zC4 ?_;refine⟨⟨u.i+1,_,Bl6⟩,by dsimp only;omega,sM,OwnLe.flat (List.Perm.of_eq (by rw[hnext])),hBl6,by dsimp only;omega,hswap.symm⟩
 ·have h:u.i=3:=by simp at h;omega
  refine AW.exit ?_;refine⟨_,[_],rfl,zsb,_,rfl,?_⟩;rw[hbr,←h,←heq];exact hv2
theorem kyPdqR_spec{lt:Key→Key→Bool}{g:Nat}{first capt:List Value}:∀(N:Nat) (F:Frz) (hc:CmpOk tKey lt F g first capt) {a0:Option Addr} {m c:Nat} {B:List (Nat×Blk)} {d:Array Key} (hv:Vec tKey F a0 m c B d.toList) (a b limit:Nat) (hN:b-a<N) (hab:a≤b) (hb:b≤m) (hm:m≤1000000) (hlim:limit≤1000000),
  Abs.Spec CC 85 [.slice a0 m c,.int .i64 a,.int .i64 b,.int .i64 limit,.func (.func g) ⟨first⟩ ⟨capt⟩] F [B] fun F' v o=>∃B',o=[B']∧Vec tKey F' a0 m c B' (Go.Sort.pdq lt d a b limit true true).toList
 | 0,_,_,_,_,_,_,_,_,_,_,_,h,_,_,_,_=>absurd h (Nat.not_lt_zero _)
 | N+1,F,hc,a0,m,c,B,d,hv,a,b,limit,hN,hab,hb,hm,hlim=>by
  obtain⟨⟨fn,hg,hgb⟩,hcmp⟩:=id hc;refine Abs.Spec.fn (n:=148) Tryd.func85 rfl rfl fun own=>?_;refine zC4 ?_;refine AW.block ?_;refine AW.loopR (S:=PS Key) (fun s=>[(1,.int .i64 (s.a:Nat)),(2,.int .i64 (s.b:Nat)),(3,.int .i64 (s.lim:Nat)),(10,.bool s.wb),(11,.bool s.wp)]) (fun s=>s.B::own)
   (fun s G=>Vec tKey G a0 m c s.B s.d.toList∧s.a≤s.b∧s.b≤m∧s.b-s.a≤b-a∧s.lim≤1000000∧Go.Sort.pdq lt s.d s.a s.b s.lim s.wb s.wp=Go.Sort.pdq lt d a b limit true true) (fun s=>s.b-s.a) ⟨a,b,limit,true,true,d,B⟩
   sM oR ⟨hv,hab,hb,Nat.le_refl _,hlim,rfl⟩ ?_
  intro s F1 hF1 hP;obtain⟨hv1,hab1,hb1,hle1,hlim1,heq⟩:=hP;have hc1:=hc.mono hF1;refine AW.block ?_;refine zC4 ?_;refine AW.cond Z (fun h=>?_) (fun h=>?_)
  ·have h:s.b-s.a≤12:=by simp at h;omega
   refine zC4 ?_;refine WT.call1F 0 Tryd.func88 Z Z Z Z Z Z Z (fun _=>rfl) (kyIns_spec _ hc1 hv1 s.a s.b zo hb1 hm) (fun F2 v B2 hF2 hv2=>?_);refine zC4 ?_;refine AW.ret ⟨_,[_],rfl,zsb,_,rfl,?_⟩;rw[←heq,Go.Sort.pdq_small h];exact hv2
  ·have h:¬s.b-s.a≤12:=by simp at h;omega
   refine zC4 ?_;refine AW.cond Z (fun h0=>?_) (fun h0=>?_)
   ·have h0:s.lim=0:=by simp at h0;omega
    refine zC4 ?_;refine WT.call1F 0 Tryd.func89 Z Z Z Z Z Z Z (fun _=>rfl) (kyHeap_spec _ hc1 hv1 s.a s.b zo hb1 hm) (fun F2 v B2 hF2 hv2=>?_);refine zC4 ?_;refine AW.ret ⟨_,[_],rfl,zsb,_,rfl,?_⟩;rw[←heq,Go.Sort.pdq_heap h h0];exact hv2
   ·have h0:¬s.lim=0:=by simp at h0;omega
    obtain⟨R,hR⟩:∃R,Go.Sort.rd lt s.d s.a s.b s.lim s.wb s.wp=R:=⟨_,rfl⟩;refine AW.skip ?_;refine AW.jn (S:=VS Key) (fun t=>[(3,.int .i64 (t.i:Nat))]) (fun t=>t.B::own) (fun t G=>Vec tKey G a0 m c t.B t.d.toList∧t.i=R.lim∧t.d=R.d1) ?_ (fun t F2 hF2 hP2=>?_)
    ·refine zC4 ?_;cases hwb:s.wb with
     | true=>
      refine AW.cond Z (fun h=>(by cases h)) (fun _=>?_);refine AW.skip ?_;exact⟨⟨s.lim,s.d,s.B⟩,sM,OwnLe.refl _,hv1,by rw[←hR,hwb];rfl,by rw[←hR,hwb];rfl⟩
     | false=>
      refine AW.cond Z (fun _=>?_) (fun h=>(by cases h));refine zC4 ?_;refine WT.call1F 0 Tryd.func90 Z Z Z Z Z Z Z (fun _=>rfl) (kyBreak_spec _ hv1 s.a s.b zo hb1 hm) (fun F2 v B2 hF2 hv2=>?_);refine zC4 ?_;exact⟨⟨s.lim-1,_,B2⟩,sM,OwnLe.refl _,hv2,by rw[←hR,hwb];rfl,by rw[←hR,hwb];rfl⟩
    ·obtain⟨hv2,hlm,hd1⟩:=hP2;have hc2:=hc1.mono hF2;have hsz2:m=t.d.size:=hv2.len;have hcc:Go.Sort.choosePivot lt t.d s.a s.b=R.c:=by rw[hd1,←hR];rfl
     have hcr:=Go.Sort.choosePivot_holds lt t.d s.a s.b zo;rw[hcc] at hcr;have hlim2:R.lim≤s.lim:=by rw[←hR];exact Go.Sort.rd_lim_le
     refine zC4 ?_;refine WT.callLend 0 Tryd.func91 Z Z Z Z Z Z Z (fun G hG hBG=>kyPivot_spec G (hc2.mono hG) (hv2.arr hG hBG) s.a s.b zo hb1 hm) (fun v hv'=>?_);rw[hcc] at hv';subst hv'
     (iterate 5 (refine WT.easy hT Z Z Z Z Z ?_))
     refine WT.nil ?_;refine AW.jn (S:=Nat×Go.Sort.Hint×VS Key) (fun u=>[(13,.int .i64 (u.1:Nat)),(14,.int .i64 (Go.Sort.hintCode u.2.1))]) (fun u=>u.2.2.B::own) (fun u G=>Vec tKey G a0 m c u.2.2.B u.2.2.d.toList∧u.1=R.pivot∧u.2.1=R.hint∧u.2.2.d=R.d2∧s.a≤u.1∧u.1<s.b) ?_ (fun u F3 hF3 hP3=>?_)
     ·refine zC4 ?_;refine AW.cond Z (fun hh=>?_) (fun hh=>?_)
      ·have hdec:R.c.2=.decreasing:=by
        cases e:R.c.2 with
        | decreasing=>rfl
        | increasing=>rw[e] at hh;cases hh
        | unknown=>rw[e] at hh;cases hh
       obtain⟨q1,q2,q3⟩:=Go.Sort.rd_dec (lt:=lt) (d:=s.d) (a:=s.a) (b:=s.b) (limit:=s.lim) (wb:=s.wb) (wp:=s.wp) (by rw[hR];exact hdec);rw[hR] at q1 q2 q3;refine zC4 ?_;refine WT.call1F 0 Tryd.func92 Z Z Z Z Z Z Z (fun _=>rfl) (kyRev_spec _ hv2 s.a s.b zo hb1 hm) (fun F3 v B3 hF3 hv3=>?_);refine zC4 ?_;refine⟨(s.b-1-(R.c.1-s.a),.increasing,⟨0,_,B3⟩),sM,OwnLe.refl _,hv3,q2.symm,q3.symm,(by rw[q1,hd1];rfl),by dsimp only;omega,by dsimp only;omega⟩
      ·have hdec:R.c.2≠.decreasing:=by intro e;rw[e] at hh;cases hh
       obtain⟨q1,q2,q3⟩:=Go.Sort.rd_not (lt:=lt) (d:=s.d) (a:=s.a) (b:=s.b) (limit:=s.lim) (wb:=s.wb) (wp:=s.wp) (by rw[hR];exact hdec);rw[hR] at q1 q2 q3;refine AW.skip ?_;exact⟨(R.c.1,R.c.2,⟨0,t.d,t.B⟩),sM,OwnLe.refl _,hv2,q2.symm,q3.symm,by rw[q1,hd1],hcr.1,hcr.2⟩
     ·obtain⟨hv3,hpv,hhint,hd2,hpa,hpb⟩:=hP3;have hc3:=hc2.mono hF3;have hno:(s.wb&&s.wp&&decide (R.hint=.increasing))=false→R.pi=(R.d2,false):=fun h=>by
       have:=Go.Sort.rd_pi_no (lt:=lt) (d:=s.d) (a:=s.a) (b:=s.b) (limit:=s.lim) (wb:=s.wb) (wp:=s.wp) (by rw[hR];exact h);rw[hR] at this;exact this
      have hyes:(s.wb&&s.wp&&decide (R.hint=.increasing))=true→R.pi=Go.Sort.partialInsertionSort lt R.d2 s.a s.b:=fun h=>by
       have:=Go.Sort.rd_pi_yes (lt:=lt) (d:=s.d) (a:=s.a) (b:=s.b) (limit:=s.lim) (wb:=s.wb) (wp:=s.wp) (by rw[hR];exact h);rw[hR] at this;exact this
      refine AW.jn (S:=VS Key) (fun _=>[]) (fun w=>w.B::own) (fun w G=>Vec tKey G a0 m c w.B w.d.toList∧R.pi=(w.d,false)) ?_ (fun w F4 hF4 hP4=>?_)
      ·refine AW.split 10 Z (fun hwb=>?_) (fun hwb=>?_)
       ·refine AW.split 11 Z (fun hwp=>?_) (fun hwp=>?_)
        ·refine zC4 ?_;refine AW.cond Z (fun hh=>?_) (fun hh=>?_)
         ·have hinc:R.hint=.increasing:=by
           rw[←hhint];cases e:u.2.1 with
           | increasing=>rfl
           | decreasing=>rw[e] at hh;cases hh
           | unknown=>rw[e] at hh;cases hh
          have hpi:=hyes (by rw[hwb,hwp,hinc];rfl);refine zC4 ?_;refine WT.call1F 0 Tryd.func93 Z Z Z Z Z Z Z (fun _=>rfl) (kyPIns_spec _ hc3 hv3 s.a s.b zo hb1 hm) (fun F4 v B4 hF4 hv4=>?_);obtain⟨rfl,hv4⟩:=hv4;rw[hd2,←hpi] at hv4 ⊢;refine zC4 ?_;refine AW.cond Z (fun hp2=>?_) (fun hp2=>?_)
          ·have hp2:R.pi.2=true:=hp2;refine AW.ret ⟨_,[_],rfl,zsb,_,rfl,?_⟩;rw[←heq,Go.Sort.pdq_done h h0 (by rw[hR];exact hp2),hR];exact hv4
          ·have hp2:R.pi.2=false:=hp2;refine AW.skip ?_;exact⟨⟨0,R.pi.1,B4⟩,SubK.of_map (by rw[hwb,hwp];rfl),OwnLe.refl _,hv4,by rw[←hp2]⟩
         ·have hinc:R.hint≠.increasing:=by intro e;rw[←hhint] at e;rw[e] at hh;cases hh
          refine AW.skip ?_;exact⟨⟨0,u.2.2.d,u.2.2.B⟩,SubK.of_map (by rw[hwb,hwp];rfl),OwnLe.refl _,hv3,by rw[hno (by simp[hinc]),hd2]⟩
        ·refine zC4 ?_;refine AW.cond Z (fun hh=>(by cases hh)) (fun hh=>?_);refine AW.skip ?_;exact⟨⟨0,u.2.2.d,u.2.2.B⟩,SubK.of_map (by rw[hwb,hwp];rfl),OwnLe.refl _,hv3,by rw[hno (by simp[hwp]),hd2]⟩
       ·refine zC4 ?_;refine AW.cond Z (fun hh=>(by cases hh)) (fun hh=>?_);refine AW.skip ?_;exact⟨⟨0,u.2.2.d,u.2.2.B⟩,SubK.of_map (by rw[hwb];rfl),OwnLe.refl _,hv3,by rw[hno (by simp[hwb]),hd2]⟩
      ·obtain⟨hv4,hpi⟩:=hP4;have hc4:=hc3.mono hF4;have hsz4:m=w.d.size:=hv4.len;have hp2:(Go.Sort.rd lt s.d s.a s.b s.lim s.wb s.wp).pi.2=false:=by rw[hR,hpi]
       have hcm:=hc4.2;refine AW.jn (S:=Unit) (fun _=>[]) (fun _=>w.B::own) (fun _ _=>(decide (s.a > 0)&&!lt w.d[s.a-1]! w.d[u.1]!)=false) ?_ (fun _ F5 hF5 hx=>?_)
       ·refine zC4 ?_;refine WT.split 83 Z (fun ha0=>?_) (fun ha0=>?_)
        ·have ha0:0<s.a:=by simp at ha0;omega
         refine zC4 ?_;refine WT.vidx hT hv4 Z Z Z Z Z Z Z Z Z zo (fun bl1 hbl1=>?_);refine WT.vldS hT 0 hv4 hbl1 (arr_at zo) Z Z Z Z Z Z Z Z Z (fun l1 hl1=>?_);refine zC4 ?_;refine WT.vidx hT hv4 Z Z Z Z Z Z Z Z Z zo (fun bl2 hbl2=>?_);refine WT.vldS hT 0 hv4 hbl2 (arr_at zo) Z Z Z Z Z Z Z Z Z (fun l2 hl2=>?_);refine WT.callC hg hgb Z Z Z Z Z Z Z (hcm F4 (Frz.le.refl F4) l1 l2 _ _ hl1 hl2) (fun v hvz=>?_);obtain⟨z,rfl,hz⟩:=hvz;refine zC4 ?_;refine AW.cond Z (fun hq=>?_) (fun hq=>?_)
         ·have hlt:lt w.d[s.a-1]! w.d[u.1]! = false:=Bool.eq_false_iff.2 (fun hh=>absurd (hz.2 hh) (by simpa using hq));have hrange:=partEq_range lt w.d (a:=s.a) (b:=s.b) (p:=u.1) hpa hpb zo;have e:=Go.Sort.pdq_eq (lt:=lt) h h0 hp2 (by rw[hR,hpi,←hpv];simp[ha0,hlt]) (by rw[hR,hpi,←hpv];exact hrange);rw[hR,hpi,←hpv,←hlm] at e;obtain⟨pe,hpe⟩:∃pe,Go.Sort.partitionEqual lt w.d s.a s.b u.1=pe:=⟨_,rfl⟩;rw[hpe] at hrange;refine zC4 ?_;refine WT.call1F 0 Tryd.func94 Z Z Z Z Z Z Z (fun _=>rfl) (kyPartEq_spec _ hc4 hv4 s.a s.b u.1 hpa hpb hb1 hm) (fun F5 v B5 hF5 hv5=>?_);obtain⟨rfl,hv5⟩:=hv5
          rw[hpe] at hv5 ⊢;refine zC4 ?_;refine AW.exit ?_;refine⟨⟨pe.1,s.b,t.i,s.wb,s.wp,pe.2,B5⟩,by dsimp only;omega,sM,OwnLe.refl _,hv5,hrange.2,hb1,by dsimp only;omega,by dsimp only;omega,?_⟩;rw[←heq,e,hpe]
         ·have hlt:=hz.1 (by simpa using hq);refine AW.skip ?_;exact⟨(),sM,OwnLe.refl _,by rw[hlt];simp⟩
        ·have ha0:¬0<s.a:=by simp at ha0;omega
         refine zC4 ?_;refine AW.cond Z (fun hq=>(by cases hq)) (fun hq=>?_);refine AW.skip ?_;exact⟨(),sM,OwnLe.refl _,by simp[ha0]⟩
       ·have hv5:=hv4.mono hF5;have hc5:=hc4.mono hF5;have hrange:=part_range lt w.d (a:=s.a) (b:=s.b) (p:=u.1) hpa hpb zo;have hx':(decide (s.a > 0)&&!lt (Go.Sort.rd lt s.d s.a s.b s.lim s.wb s.wp).pi.1[s.a-1]! (Go.Sort.rd lt s.d s.a s.b s.lim s.wb s.wp).pi.1[(Go.Sort.rd lt s.d s.a s.b s.lim s.wb s.wp).pivot]!)=false:=by rw[hR,hpi,←hpv];exact hx
        have hr':s.a≤(Go.Sort.partition lt (Go.Sort.rd lt s.d s.a s.b s.lim s.wb s.wp).pi.1 s.a s.b (Go.Sort.rd lt s.d s.a s.b s.lim s.wb s.wp).pivot).1∧(Go.Sort.partition lt (Go.Sort.rd lt s.d s.a s.b s.lim s.wb s.wp).pi.1 s.a s.b (Go.Sort.rd lt s.d s.a s.b s.lim s.wb s.wp).pivot).1<s.b:=by rw[hR,hpi,←hpv];exact hrange
        have eL:=Go.Sort.pdq_left (lt:=lt) h h0 hp2 hx' hr';have eR:=Go.Sort.pdq_right (lt:=lt) h h0 hp2 hx' hr';rw[hR,hpi,←hpv,←hlm] at eL eR;obtain⟨pp,hpp⟩:∃pp,Go.Sort.partition lt w.d s.a s.b u.1=pp:=⟨_,rfl⟩;simp only[hpp] at hrange eL eR;refine zC4 ?_;refine WT.call1F 0 Tryd.func95 Z Z Z Z Z Z Z (fun _=>rfl) (kyPart_spec _ hc5 hv5 s.a s.b u.1 hpa hpb hb1 hm) (fun F6 v B6 hF6 hv6=>?_);obtain⟨rfl,hv6⟩:=hv6;rw[hpp] at hv6 ⊢;have hc6:=hc5.mono hF6;refine zC4 ?_;refine WT.quoL 8 Z Z Z Z Z Z (by decide) zo ?_;refine zC4 ?_;refine AW.cond Z (fun hl=>?_) (fun hl=>?_)
        ·have hl:pp.1-s.a<s.b-pp.1:=by simp at hl;omega
         refine zC4 ?_;refine WT.know (v':=.bool (decide (pp.1-s.a≥(s.b-s.a) / 8))) 10 Z (by congr 1;rw[decide_eq_decide];omega) ?_;refine WT.call1F 0 Tryd.func85 Z Z Z Z Z Z Z (fun _=>rfl) (kyPdqR_spec N _ hc6 hv6 s.a pp.1 t.i zo hrange.1 zo hm zo) (fun F7 v B7 hF7 hv7=>?_);refine zC4 ?_;refine⟨⟨pp.1+1,s.b,t.i,decide (pp.1-s.a≥(s.b-s.a) / 8),pp.2.1,_,B7⟩,by dsimp only;omega,sM,OwnLe.refl _,hv7,by dsimp only;omega,hb1,by dsimp only;omega,by dsimp only;omega,?_⟩;rw[←heq,eL hl]
        ·have hl:¬pp.1-s.a<s.b-pp.1:=by simp at hl;omega
         refine zC4 ?_;refine WT.know (v':=.bool (decide (s.b-pp.1≥(s.b-s.a) / 8))) 10 Z (by congr 1;rw[decide_eq_decide];omega) ?_;refine WT.call1F 0 Tryd.func85 Z Z Z Z Z Z Z (fun _=>rfl) (kyPdqR_spec N _ hc6 hv6 (pp.1+1) s.b t.i zo zo hb1 hm zo) (fun F7 v B7 hF7 hv7=>?_);refine zC4 ?_;refine⟨⟨s.a,pp.1,t.i,decide (s.b-pp.1≥(s.b-s.a) / 8),pp.2.1,_,B7⟩,by dsimp only;omega,sM,OwnLe.refl _,hv7,by dsimp only;omega,by dsimp only;omega,by dsimp only;omega,by dsimp only;omega,?_⟩;rw[←heq,eR hl]
theorem kySort_spec(F:Frz){lt:Key→Key→Bool}{g:Nat}{first capt:List Value}(hc:CmpOk tKey lt F g first capt){a0:Option Addr}{m c:Nat}{B:List (Nat×Blk)}{xs:List Key}(hv:Vec tKey F a0 m c B xs)(hm:m≤1000000) :
  Abs.Spec CC 74 [.slice a0 m c,.func (.func g) ⟨first⟩ ⟨capt⟩] F [B] fun F' v o=>∃B',o=[B']∧Vec tKey F' a0 m c B' (Go.Sort.sort lt xs.toArray).toList:=by
 have hl:=hv.len
 have hb : Go.Sort.bitsLen m ≤ 20 := (Go.Sort.bitsLen_le_iff _ _).2 (by have : 2 ^ 20 = 1048576 := rfl
                                                                        omega)
 refine Abs.Spec.fn (n:=14) Tryd.func74 rfl rfl fun own=>?_;refine zC4 ?_;refine WT.conv hT (k2:=.u64) Z Z Z Z Z Z Z Z (wrapU64 zo) ?_
 refine WT.callV Tryd.func86 Z Z Z Z Z Z (blen_spec _ m zo) (fun v hv'=>?_);subst hv';refine zC4 ?_;refine WT.call1F 0 Tryd.func85 Z Z Z Z Z Z Z (fun _=>rfl) (kyPdqR_spec (m+1) _ hc (d:=xs.toArray) hv 0 m (Go.Sort.bitsLen m) zo (Nat.zero_le _) (Nat.le_refl _) hm zo) (fun F7 v B7 hF7 hv7=>?_);refine zC4 ?_;refine⟨_,[_],rfl,zsb,_,rfl,?_⟩;rw[Go.Sort.sort,show xs.toArray.size=m from by simp[hl]];exact hv7
def ltKey(x y:Key):Bool:=decide (x.frm<y.frm∨(x.frm=y.frm∧(x.to<y.to∨(x.to=y.to∧cmpSym x.sym y.sym<0))))
theorem ltKey_iff{x y:Key}:ltKey x y=true↔(x.frm<y.frm∨(x.frm=y.frm∧(x.to<y.to∨(x.to=y.to∧cmpSym x.sym y.sym<0)))):=by unfold ltKey;exact decide_eq_true_iff
theorem ltKey_not{x y:Key}:ltKey x y=false↔¬(x.frm<y.frm∨(x.frm=y.frm∧(x.to<y.to∨(x.to=y.to∧cmpSym x.sym y.sym<0)))):=by unfold ltKey;exact decide_eq_false_iff_not
theorem cmpSym_lt(a b:Sym):cmpSym a b<0↔((a.term=true∧b.term=false)∨(a.term=b.term∧a.n<b.n)):=by
 obtain⟨at_,an⟩:=a;obtain⟨bt,bn⟩:=b;unfold cmpSym cmpInt;cases at_<;>cases bt<;>simp<;>(repeat' split)<;>omega
theorem ltKey_swo:Go.Sort.SWO ltKey where
 irrefl:=fun x=>by rw[ltKey_not,cmpSym_lt];cases x.sym.term<;>simp
 trans:=fun x y z h1 h2=>by
  rw[ltKey_iff,cmpSym_lt] at *;cases hx:x.sym.term<;>cases hy:y.sym.term<;>cases hz:z.sym.term<;>simp[hx,hy,hz] at h1 h2 ⊢<;>omega
 ntrans:=fun x y z h1 h2=>by
  rw[ltKey_not,cmpSym_lt] at *;cases hx:x.sym.term<;>cases hy:y.sym.term<;>cases hz:z.sym.term<;>simp[hx,hy,hz] at h1 h2 ⊢<;>omega
theorem ltKey_anti(x y:Key)(h1:ltKey x y=false)(h2:ltKey y x=false):x=y:=by
 rw[ltKey_not,cmpSym_lt] at *;obtain⟨⟨xt,xn⟩,xf,xo⟩:=x;obtain⟨⟨yt,yn⟩,yf,yo⟩:=y;simp only at h1 h2;simp only[Key.mk.injEq,Sym.mk.injEq];cases xt<;>cases yt<;>simp at h1 h2 ⊢<;>omega
theorem cmpKey_lt(x y:Key):orInt [cmpInt x.frm y.frm,cmpInt x.to y.to,cmpSym x.sym y.sym]<0↔ltKey x y=true:=by
 rw[ltKey_iff];simp only[orInt];generalize cmpSym x.sym y.sym=z;unfold cmpInt
 repeat' split
 all_goals omega
theorem keyOrder_spec(F:Frz)(x y:Key):Abs.Spec CC 75 [.agg ⟨[.bool x.sym.term,.int .i64 x.sym.n,.int .i64 x.frm,.int .i64 x.to]⟩,.agg ⟨[.bool y.sym.term,.int .i64 y.sym.n,.int .i64 y.frm,.int .i64 y.to]⟩] F [] fun _ v o=>o=[]∧v=.int .i64 (orInt [cmpInt x.frm y.frm,cmpInt x.to y.to,cmpSym x.sym y.sym]):=by
 refine Abs.Spec.fn (n:=22) Tryd.func75 rfl rfl fun own=>?_;refine AW.seq (AW.reg ?_);refine WT.boxT Z Z Z Z Z Z (fun i2 hi2=>?_);refine WT.boxT Z Z Z Z Z Z (fun i3 hi3=>?_);refine zB4 ?_;refine AW.draw (ps:=[(6,4),(8,4),(11,4),(11,9),(13,4),(13,9)]) Z Z ?_;refine zB4 ?_;refine WT.callV Tryd.func71 Z Z Z Z Z Z (compare_spec _ _ _) (fun v hv=>?_);subst hv;refine zB4 ?_;refine WT.callV Tryd.func71 Z Z Z Z Z Z (compare_spec _ _ _) (fun v hv=>?_);subst hv;refine zB4 ?_;refine WT.callV Tryd.func73 Z Z Z Z Z Z (order_spec _ x.sym y.sym) (fun v hv=>?_);subst hv
 refine WT.buildT hT Z Z Z Z Z Z Z Z Z Z Z Z Z Z (fun i9 hi9=>?_);refine WT.callLend 0 Tryd.func70 Z Z Z Z Z Z Z (fun G hG hBG=>or_spec G (l:=[cmpInt x.frm y.frm,cmpInt x.to y.to,cmpSym x.sym y.sym]) (Bld.frozen (F:=F) (B:=[(i9,.cells false [.int .i64 (cmpInt x.frm y.frm),.int .i64 (cmpInt x.to y.to),.int .i64 (cmpSym x.sym y.sym)])]) ⟨rfl,.inr ⟨i9,_,rfl,rfl,rfl,Cells.cons (l:=[_]) Z (Cells.cons (l:=[_]) Z (Cells.single (x:=cmpSym x.sym y.sym) rfl)),by decide⟩⟩ hG hBG) (by decide)) (fun v hv=>?_);subst hv;refine zB4 ?_;refine⟨zrC,?_⟩;exact AW.ret ⟨_,[],⟨_,_,rfl,rfl,rfl⟩,zsb,rfl,rfl⟩
theorem keyOrder_cmp(F:Frz):CmpOk tKey ltKey F 75 [] []:=
 ⟨⟨_,Tryd.func75,rfl⟩,fun G _ lx ly x y hx hy=>by
  obtain rfl:lx=_:=hx;obtain rfl:ly=_:=hy;exact Spec.mono (keyOrder_spec G x y) (fun F' v o _ h=>⟨h.1,_,h.2,cmpKey_lt x y⟩)⟩
def cmpNats:List Nat→List Nat→Int
 | [],[]=>0
 | [],_::_=>-1
 | _::_,[]=>1
 | a::l,b::m=>if cmpInt a b=0 then cmpNats l m else cmpInt a b
theorem cmpNats_take:∀(j:Nat) (l m:List Nat),j≤l.length→j≤m.length→(∀i (h1:i<l.length) (h2:i<m.length),i<j→cmpInt l[i] m[i]=0)→cmpNats l m=cmpNats (l.drop j) (m.drop j)
 | 0,l,m,_,_,_=>by simp
 | j+1,[],m,h,_,_=>by simp at h
 | j+1,_::_,[],_,h,_=>by simp at h
 | j+1,a::l,b::m,h1,h2,h=>by
  have h0:=h 0 (by simp) (by simp) zo;simp only[List.getElem_cons_zero] at h0;simp only[cmpNats,h0,if_true,List.drop_succ_cons];exact cmpNats_take j l m (by simpa using h1) (by simpa using h2) (fun i h3 h4 h5=>h (i+1) (by simpa using h3) (by simpa using h4) zo)
theorem numCompare_spec(F:Frz){a b:Option Addr}{m n c d:Nat}{xs ys:List Nat}(hx:Arr tNat F a m c xs)(hy:Arr tNat F b n d ys)(hm:m≤1000000)(hn:n≤1000000) :
  Abs.Spec CC 78 [.slice a m c,.slice b n d] F [] fun _ v o=>o=[]∧v=.int .i64 (cmpNats xs ys):=by
 refine Abs.Spec.fn (n:=36) Tryd.func78 rfl rfl fun own=>?_;have hxlen:=hx.len;have hylen:=hy.len;refine zB4 ?_;refine AW.range (S:=Unit) (fun _=>[]) (fun _=>_) (fun j _ _=>j≤n∧∀i (h1:i<xs.length) (h2:i<ys.length),i<j→cmpInt xs[i] ys[i]=0) m () Z Z Z Z Z Z Z Z Z zo Z Z (fun _=>rfl) (fun _=>rfl) sM oR ⟨by omega,by omega⟩ ?_ ?_
 ·intro j _ F1 hF1 hj hP;obtain⟨hjn,hP⟩:=hP;have hx1:=hx.mono hF1;have hy1:=hy.mono hF1;refine zB4 ?_;refine WT.idxL hT hx1 Z Z Z Z Z Z Z Z Z zo (fun x hxj b1 off ro cs lx hb hp hrel=>?_);obtain rfl:lx=_:=hrel;refine zB4 ?_;refine AW.cond Z (fun hc=>?_) (fun hc=>?_)
  ·have hc:n≤j:=by simp at hc;omega
   refine zB4 ?_;refine AW.ret ⟨_,[],⟨_,_,rfl,rfl,rfl⟩,zsb,rfl,?_⟩;rw[cmpNats_take j xs ys zo zo hP,List.drop_of_length_le (show ys.length≤j by omega),List.drop_eq_getElem_cons (show j<xs.length by omega)];rfl
  ·have hc:j<n:=by simp at hc;omega
   refine zB4 ?_;refine WT.idxL hT hy1 Z Z Z Z Z Z Z Z Z zo (fun y hyj b2 off2 ro2 cs2 ly hb2 hp2 hrel2=>?_);obtain rfl:ly=_:=hrel2;refine zB4 ?_;refine WT.callV Tryd.func71 Z Z Z Z Z Z (compare_spec _ x y) (fun v hv=>?_);subst hv;have ex:xs[j]'zo=x:=by rw[gE zo] at hxj;simpa using hxj
   have ey:ys[j]'zo=y:=by rw[gE zo] at hyj;simpa using hyj
   refine zB4 ?_;refine AW.cond Z (fun hc2=>?_) (fun hc2=>?_)
   ·have hc2:cmpInt x y≠0:=by simpa using hc2
    refine zB4 ?_;refine AW.ret ⟨_,[],⟨_,_,rfl,rfl,rfl⟩,zsb,rfl,?_⟩;rw[cmpNats_take j xs ys zo zo hP,List.drop_eq_getElem_cons (show j<xs.length by omega),List.drop_eq_getElem_cons (show j<ys.length by omega)];simp[cmpNats,ex,ey,hc2,tupleA]
   ·have hc2:cmpInt x y=0:=by simpa using hc2
    refine zB4 ?_;refine⟨(),sM,zow,by omega,fun i h1 h2 h3=>?_⟩;rcases Nat.lt_or_ge i j with h4 | h4
    ·exact hP i h1 h2 h4
    ·have:i=j:=by omega
     subst this;rw[ex,ey];exact hc2
 ·intro _ F1 hF1 hP;obtain⟨hjn,hP⟩:=hP;refine zB4 ?_;have e:=cmpNats_take m xs ys zo zo hP;rw[List.drop_of_length_le (show xs.length≤m by omega)] at e;refine AW.cond Z (fun hc=>?_) (fun hc=>?_)
  ·have hc:m<n:=by simp at hc;omega
   refine zB4 ?_;refine AW.ret ⟨_,[],⟨_,_,rfl,rfl,rfl⟩,zsb,rfl,?_⟩;rw[e,List.drop_eq_getElem_cons (show m<ys.length by omega)];rfl
  ·have hc:m=n:=by simp at hc;omega
   refine zB4 ?_;refine AW.ret ⟨_,[],⟨_,_,rfl,rfl,rfl⟩,zsb,rfl,?_⟩;rw[e,List.drop_of_length_le (show ys.length≤m by omega)];rfl
structure NPack where
 rule:Nat
 kids:List Nat
deriving DecidableEq
def tNPack:Ty NPack where
 size:=2
 rel:=fun F l x=>∃a n c,l=[.int .i64 x.rule,.slice a n c]∧Arr tNat F a n c x.kids∧x.kids.length≤1000000
 len:=fun _ _ _ h=>by obtain⟨a,n,c,rfl,_⟩:=h;rfl
 one:=fun _ _ _ h=>by obtain⟨a,n,c,rfl,_⟩:=h;rfl
 mono:=fun _ _ _ _ hF h=>by obtain⟨a,n,c,e,h,hb⟩:=h;exact⟨a,n,c,e,h.mono hF,hb⟩
def cmpNPack(x y:NPack):Int:=orInt [cmpInt x.rule y.rule,cmpNats x.kids y.kids]
theorem npackCmp_spec(F:Frz){lx ly:List Value}(x y:NPack)(hx:tNPack.rel F lx x)(hy:tNPack.rel F ly y):Abs.Spec CC 77 [.agg ⟨lx⟩,.agg ⟨ly⟩] F [] fun _ v o=>o=[]∧v=.int .i64 (cmpNPack x y):=by
 obtain⟨xa,xn,xc,rfl,hxa,hxb⟩:=hx;obtain⟨ya,yn,yc,rfl,hya,hyb⟩:=hy;have hxl:=hxa.len;have hyl:=hya.len;refine Abs.Spec.fn (n:=17) Tryd.func77 rfl rfl fun own=>?_;refine AW.seq (AW.reg ?_);refine WT.boxT Z Z Z Z Z Z (fun i2 hi2=>?_);refine WT.boxT Z Z Z Z Z Z (fun i3 hi3=>?_);refine zB4 ?_;refine AW.draw (ps:=[(6,4),(8,4)]) Z Z ?_;refine zB4 ?_;refine WT.callV Tryd.func71 Z Z Z Z Z Z (compare_spec _ _ _) (fun v hv=>?_);subst hv;refine zB4 ?_;refine WT.callV Tryd.func78 Z Z Z Z Z Z (numCompare_spec _ hxa hya zo zo) (fun v hv=>?_);subst hv
 refine WT.buildT hT Z Z Z Z Z Z Z Z Z Z Z Z Z Z (fun i9 hi9=>?_);refine WT.callLend 0 Tryd.func70 Z Z Z Z Z Z Z (fun G hG hBG=>or_spec G (l:=[cmpInt x.rule y.rule,cmpNats x.kids y.kids]) (Bld.frozen (F:=F) (B:=[(i9,.cells false [.int .i64 (cmpInt x.rule y.rule),.int .i64 (cmpNats x.kids y.kids)])]) ⟨rfl,.inr ⟨i9,_,rfl,rfl,rfl,Cells.cons (l:=[_]) Z (Cells.single (x:=cmpNats x.kids y.kids) rfl),by decide⟩⟩ hG hBG) (by decide)) (fun v hv=>?_);subst hv;refine zB4 ?_;refine⟨zrC,?_⟩;exact AW.ret ⟨_,[],⟨_,_,rfl,rfl,rfl⟩,zsb,rfl,rfl⟩
def PSorted(xs:List NPack):Prop:=∀(i j:Nat) (x y:NPack),i<j→xs[i]?=some x→xs[j]?=some y→¬cmpNPack y x<0
theorem insP_spec(F:Frz){a0:Option Addr}{m c:Nat}{xs:List NPack}(hv:Arr tNPack F a0 m c xs)(hs:PSorted xs)(a b:Nat)(ha:a≤1000000)(hb:b≤m)(hm:m≤1000000) :
  Abs.Spec CC 98 [.slice a0 m c,.int .i64 a,.int .i64 b,.func (.func 77) ⟨[]⟩ ⟨[]⟩] F [] fun F' v o=>o=[]∧v=.tuple ⟨[]⟩:=by
 have hvl:=hv.len;refine Abs.Spec.fn (n:=53) Tryd.func98 rfl rfl fun own=>?_;refine zC4 ?_;refine AW.block ?_;refine AW.loopR (S:=Nat) (fun s=>[(8,.int .i64 (s:Nat))]) (fun s=>own) (fun s G=>a+1≤s) (fun s=>b-s) (a+1)
  sM oR (Nat.le_refl _) ?_
 intro s F1 hF1 hP;have hv1:=hv.mono hF1;refine zC4 ?_;refine AW.cond Z (fun h=>?_) (fun h=>?_)
 ·have h:s<b:=by simpa using h
  refine zC4 ?_;refine AW.block ?_;refine zC4 ?_;refine AW.block ?_;refine AW.loopR (S:=Unit) (fun u=>[]) (fun u=>own) (fun u G=>True) (fun u=>0) ()
   sM oR trivial ?_
  intro u F2 hF2 _;have hv2:=hv1.mono hF2;refine zC4 ?_;refine WT.split 21 Z (fun hja=>?_) (fun hja=>absurd hja (by simp;omega));refine zC4 ?_;refine WT.idxL hT hv2 Z Z Z Z Z Z Z Z Z zo (fun y hy b1 off ro cs ly hb1 hp1 hrel1=>?_);obtain⟨ya,yn,yc,hly,hya⟩:=id hrel1;subst hly;refine zC4 ?_;refine WT.idxL hT hv2 Z Z Z Z Z Z Z Z Z zo (fun x hx b2 off2 ro2 cs2 lx hb2 hp2 hrel2=>?_);obtain⟨xa,xn,xc,hlx,hxa⟩:=id hrel2;subst hlx;refine zC4 ?_;refine WT.callC Tryd.func77 Z Z Z Z Z Z Z Z (npackCmp_spec _ y x hrel1 hrel2) (fun v hv=>?_);subst hv;have hno:=hs (s-1) s x y zo hx hy;refine zC4 ?_
  refine AW.cond Z (fun h=>absurd h (by simpa using hno)) (fun _=>?_);refine AW.exit ?_;refine zC4 ?_;exact⟨s+1,by omega,sM,OwnLe.refl _,by omega⟩
 ·have h:¬s<b:=by simpa using h
  refine AW.exit ?_;refine⟨_,[],rfl,zsb,rfl,rfl⟩
theorem symP_spec{xs:List NPack}(hs:PSorted xs):∀(N:Nat) (F:Frz) {a0:Option Addr} {len cc:Nat} (hv:Arr tNPack F a0 len cc xs) (a m b:Nat) (hN:b-a<N) (ham:a<m) (hmb:m<b) (hb:b≤len) (hm:len≤1000000),
  Abs.Spec CC 99 [.slice a0 len cc,.int .i64 a,.int .i64 m,.int .i64 b,.func (.func 77) ⟨[]⟩ ⟨[]⟩] F [] fun F' v o=>o=[]∧v=.tuple ⟨[]⟩
 | 0,F,a0,len,cc,hv,a,m,b,hN,_,_,_,_=>absurd hN (Nat.not_lt_zero _)
 | N+1,F,a0,len,cc,hv,a,m,b,hN,ham,hmb,hb,hm=>by
  have hvl:=hv.len;refine Abs.Spec.fn (n:=220) Tryd.func99 rfl rfl fun own=>?_;refine zC4 ?_;refine AW.cond Z (fun h=>?_) (fun h=>?_)
  ·have h:m=a+1:=by simp at h;omega
   refine zC4 ?_;refine AW.block ?_;refine AW.loopR (S:=Nat) (fun s=>[(11,.int .i64 (s:Nat))]) (fun s=>own) (fun s G=>m≤s∧s≤b) (fun s=>s) b
    sM oR ⟨by omega,Nat.le_refl _⟩ ?_
   intro s F1 hF1 hP;have hv1:=hv.mono hF1;obtain⟨hms,hsb⟩:=hP;refine zC4 ?_;refine AW.cond Z (fun h2=>?_) (fun h2=>?_)
   ·have h2:m<s:=by simpa using h2
    refine zC4 ?_;refine AW.block ?_;refine zC4 ?_;refine WT.conv hT (k2:=.u64) Z Z Z Z Z Z Z Z (wrapU64 zo) ?_
    refine WT.shV Z Z Z Z Z Z (by decide) (shr64 (x:=m+s) (y:=1) (by decide)) ?_;refine WT.conv hT (k2:=.i64) Z Z Z Z Z Z Z Z (wrap64 zo) ?_
    rw[Nat.pow_one];refine zC4 ?_;refine WT.idxL hT hv1 Z Z Z Z Z Z Z Z Z zo (fun y hy b1 off ro cs ly hb1 hp1 hrel1=>?_);obtain⟨ya,yn,yc,hly,hya⟩:=id hrel1;subst hly;refine zC4 ?_;refine WT.idxL hT hv1 Z Z Z Z Z Z Z Z Z zo (fun x hx b2 off2 ro2 cs2 lx hb2 hp2 hrel2=>?_);obtain⟨xa,xn,xc,hlx,hxa⟩:=id hrel2;subst hlx;refine zC4 ?_;refine WT.callC Tryd.func77 Z Z Z Z Z Z Z Z (npackCmp_spec _ y x hrel1 hrel2) (fun v hv=>?_);subst hv;have hno:=hs a ((m+s) / 2) x y zo hx hy;refine zC4 ?_;refine AW.cond Z (fun h=>absurd h (by simpa using hno)) (fun _=>?_);refine zC4 ?_
    exact⟨(m+s) / 2,by omega,sM,OwnLe.refl _,by omega,by omega⟩
   ·have h2:s=m:=by simp at h2;omega
    refine AW.exit ?_;refine zC4 ?_;refine AW.block ?_;refine AW.loopR (S:=Unit) (fun s=>[]) (fun s=>own) (fun s G=>True) (fun s=>0) ()
     sM oR trivial ?_
    intro u F2 hF2 _;refine zC4 ?_;refine AW.cond Z (fun h3=>(by simp at h3;omega)) (fun _=>?_);refine AW.exit ?_;exact AW.ret ⟨_,[],rfl,zsb,rfl,rfl⟩
  ·have h:m≠a+1:=by intro e;subst e;simp at h
   refine zC4 ?_;refine AW.cond Z (fun h'=>?_) (fun h'=>?_)
   ·have h':b=m+1:=by simp at h';omega
    refine zC4 ?_;refine AW.block ?_;refine AW.loopR (S:=Nat) (fun s=>[(14,.int .i64 (s:Nat))]) (fun s=>own) (fun s G=>a≤s∧s≤m) (fun s=>m-s) a
     sM oR ⟨Nat.le_refl _,by omega⟩ ?_
    intro s F1 hF1 hP;have hv1:=hv.mono hF1;obtain⟨hms,hsb⟩:=hP;refine zC4 ?_;refine AW.cond Z (fun h2=>?_) (fun h2=>?_)
    ·have h2:s<m:=by simpa using h2
     refine zC4 ?_;refine AW.block ?_;refine zC4 ?_;refine WT.conv hT (k2:=.u64) Z Z Z Z Z Z Z Z (wrapU64 zo) ?_
     refine WT.shV Z Z Z Z Z Z (by decide) (shr64 (x:=s+m) (y:=1) (by decide)) ?_;refine WT.conv hT (k2:=.i64) Z Z Z Z Z Z Z Z (wrap64 zo) ?_
     rw[Nat.pow_one];refine zC4 ?_;refine WT.idxL hT hv1 Z Z Z Z Z Z Z Z Z zo (fun y hy b1 off ro cs ly hb1 hp1 hrel1=>?_);obtain⟨ya,yn,yc,hly,hya⟩:=id hrel1;subst hly;refine zC4 ?_;refine WT.idxL hT hv1 Z Z Z Z Z Z Z Z Z zo (fun x hx b2 off2 ro2 cs2 lx hb2 hp2 hrel2=>?_);obtain⟨xa,xn,xc,hlx,hxa⟩:=id hrel2;subst hlx;refine zC4 ?_;refine WT.callC Tryd.func77 Z Z Z Z Z Z Z Z (npackCmp_spec _ y x hrel1 hrel2) (fun v hv=>?_);subst hv;have hno:=hs ((s+m) / 2) m x y zo hx hy;refine zC4 ?_;refine AW.cond Z (fun _=>?_) (fun h=>absurd h (by simpa using hno));refine zC4 ?_
     exact⟨(s+m) / 2+1,by omega,sM,OwnLe.refl _,by omega,by omega⟩
    ·have h2:s=m:=by simp at h2;omega
     subst h2;refine AW.exit ?_;refine zC4 ?_;refine AW.block ?_;refine AW.loopR (S:=Unit) (fun s=>[]) (fun s=>own) (fun s G=>True) (fun s=>0) ()
      sM oR trivial ?_
     intro u F2 hF2 _;refine zC4 ?_;refine AW.cond Z (fun h3=>(by simp at h3)) (fun _=>?_);refine AW.exit ?_;exact AW.ret ⟨_,[],rfl,zsb,rfl,rfl⟩
   ·have h':b≠m+1:=by intro e;subst e;simp at h'
    refine zC4 ?_;refine WT.conv hT (k2:=.u64) Z Z Z Z Z Z Z Z (wrapU64 zo) ?_
    refine WT.shV Z Z Z Z Z Z (by decide) (shr64 (x:=a+b) (y:=1) (by decide)) ?_;refine WT.conv hT (k2:=.i64) Z Z Z Z Z Z Z Z (wrap64 zo) ?_
    rw[Nat.pow_one];obtain⟨mid,hmid⟩:∃mid,(a+b) / 2=mid:=⟨_,rfl⟩;rw[hmid];refine zC4 ?_;refine AW.jnT (S:=Nat×Nat) (fun s=>[(20,.int .i64 (s.1:Nat)),(21,.int .i64 (s.2:Nat))]) (fun s=>own) (fun s G=>(mid<m∧s.1=mid+m-b∧s.2=mid)∨(m≤mid∧s.1=a∧s.2=m)) ?_ (fun s F1 hF1 hP=>?_)
    ·refine AW.cond Z (fun h2=>?_) (fun h2=>?_)
     ·have h2:mid<m:=by simp at h2;omega
      refine zC4 ?_;exact⟨(mid+m-b,mid),sM,OwnLe.refl _,.inl ⟨h2,rfl,rfl⟩⟩
     ·have h2:m≤mid:=by simp at h2;omega
      refine zC4 ?_;exact⟨(a,m),sM,OwnLe.refl _,.inr ⟨h2,rfl,rfl⟩⟩
    ·obtain⟨st,r⟩:=s;dsimp only at hP ⊢;have hv1:=hv.mono hF1;have hst:st≤r:=by omega
     have hrm:r≤m∧r≤mid:=by omega
     refine zC4 ?_;refine AW.block ?_;refine AW.loopR (S:=Nat) (fun s=>[(20,.int .i64 (s:Nat))]) (fun s=>own) (fun s G=>st≤s∧s≤r) (fun s=>r-s) st
      sM oR ⟨Nat.le_refl _,hst⟩ ?_
     intro u F2 hF2 hP2;obtain⟨hu1,hu2⟩:=hP2;have hv2:=hv1.mono hF2;refine zC4 ?_;refine AW.cond Z (fun h2=>?_) (fun h2=>?_)
     ·have h2:u<r:=by simpa using h2
      refine zC4 ?_;refine AW.block ?_;refine zC4 ?_;refine WT.conv hT (k2:=.u64) Z Z Z Z Z Z Z Z (wrapU64 zo) ?_
      refine WT.shV Z Z Z Z Z Z (by decide) (shr64 (x:=u+r) (y:=1) (by decide)) ?_;refine WT.conv hT (k2:=.i64) Z Z Z Z Z Z Z Z (wrap64 zo) ?_
      rw[Nat.pow_one];obtain⟨cx,hcx⟩:∃cx,(u+r) / 2=cx:=⟨_,rfl⟩;rw[hcx];have hc1:u≤cx∧cx<r:=by omega
      refine zC4 ?_;refine WT.idxL hT hv2 Z Z Z Z Z Z Z Z Z zo (fun y hy b1 off ro cs ly hb1 hp1 hrel1=>?_);obtain⟨ya,yn,yc,hly,hya⟩:=id hrel1;subst hly;refine zC4 ?_;refine WT.idxL hT hv2 Z Z Z Z Z Z Z Z Z zo (fun x hx b2 off2 ro2 cs2 lx hb2 hp2 hrel2=>?_);obtain⟨xa,xn,xc,hlx,hxa⟩:=id hrel2;subst hlx;refine zC4 ?_;refine WT.callC Tryd.func77 Z Z Z Z Z Z Z Z (npackCmp_spec _ y x hrel1 hrel2) (fun v hv=>?_);subst hv;have hno:=hs cx _ x y zo hx hy;refine zC4 ?_;refine AW.cond Z (fun _=>?_) (fun h=>absurd h (by simpa using hno));refine zC4 ?_;exact⟨cx+1,by omega,sM,OwnLe.refl _,by omega,by omega⟩
     ·have h2:u=r:=by simp at h2;omega
      subst h2;refine AW.exit ?_;refine zC4 ?_;rcases hP with ⟨hq,_,hu⟩ | ⟨hq,_,hu⟩
      ·subst hu;have he:u+m-u=m:=by omega
       refine WT.split 181 Z (fun e=>?_) (fun e=>absurd e (by simp;omega));refine zC4 ?_;refine AW.cond Z (fun e=>absurd e (by simp)) (fun _=>?_);refine zC4 ?_;refine WT.split 195 Z (fun e=>?_) (fun e=>absurd e (by simp;omega));refine zC4 ?_;refine AW.cond Z (fun e=>absurd e (by simp)) (fun _=>?_);refine zC4 ?_;refine WT.split 209 Z (fun e=>?_) (fun e=>absurd e (by simp;omega));refine zC4 ?_;refine AW.cond Z (fun _=>?_) (fun e=>absurd e (by simp;omega));rw[he];refine zC4 ?_;refine WT.callV Tryd.func99 Z Z Z Z Z Z (symP_spec hs N _ hv2 u m b zo zo hmb hb hm) (fun v hv=>?_);refine zC4 ?_
       refine⟨_,[],rfl,zsb,rfl,rfl⟩
      ·subst hu;have he:mid+u-u=mid:=by omega
       refine WT.split 181 Z (fun e=>absurd e (by simp)) (fun e=>?_);refine zC4 ?_;refine AW.cond Z (fun e=>absurd e (by simp)) (fun _=>?_);refine zC4 ?_;refine WT.split 195 Z (fun e=>?_) (fun e=>absurd e (by simp;omega));refine zC4 ?_;rw[he];refine AW.cond Z (fun e=>?_) (fun e=>?_)
       ·have e:u<mid:=by simpa using e
        refine zC4 ?_;refine WT.callV Tryd.func99 Z Z Z Z Z Z (symP_spec hs N _ hv2 a u mid zo ham e zo hm) (fun v hv=>?_);refine zC4 ?_;refine WT.split 209 Z (fun e=>absurd e (by simp)) (fun e=>?_);refine zC4 ?_;refine AW.cond Z (fun e=>absurd e (by simp)) (fun _=>?_);refine zC4 ?_;refine⟨_,[],rfl,zsb,rfl,rfl⟩
       ·refine zC4 ?_;refine WT.split 209 Z (fun e=>absurd e (by simp)) (fun e=>?_);refine zC4 ?_;refine AW.cond Z (fun e=>absurd e (by simp)) (fun _=>?_);refine zC4 ?_;refine⟨_,[],rfl,zsb,rfl,rfl⟩
theorem stableP_spec(F:Frz){a0:Option Addr}{m c:Nat}{xs:List NPack}(hv:Arr tNPack F a0 m c xs)(hs:PSorted xs)(hm:m≤1000000) :
  Abs.Spec CC 87 [.slice a0 m c,.int .i64 m,.func (.func 77) ⟨[]⟩ ⟨[]⟩] F [] fun F' v o=>o=[]∧v=.tuple ⟨[]⟩:=by
 have hvl:=hv.len;refine Abs.Spec.fn (n:=63) Tryd.func87 rfl rfl fun own=>?_;refine zC4 ?_;refine AW.block ?_;refine AW.loopR (S:=Nat) (fun s=>[(7,.int .i64 (s:Nat)),(8,.int .i64 ((s+20:Nat):Int))]) (fun s=>own) (fun s G=>s≤m) (fun s=>m-s) 0
  sM oR (Nat.zero_le _) ?_
 intro s F1 hF1 hP;have hv1:=hv.mono hF1;refine zC4 ?_;refine AW.cond Z (fun h2=>?_) (fun h2=>?_)
 ·have h2:s+20≤m:=by simp at h2;omega
  refine zC4 ?_;refine AW.block ?_;refine zC4 ?_;refine WT.callV Tryd.func98 Z Z Z Z Z Z (insP_spec _ hv1 hs s (s+20) zo h2 hm) (fun v hv'=>?_);refine zC4 ?_;exact⟨s+20,by omega,sM,OwnLe.refl _,h2⟩
 ·refine AW.exit ?_;refine zC4 ?_;refine WT.callV Tryd.func98 Z Z Z Z Z Z (insP_spec _ hv1 hs s m zo (Nat.le_refl _) hm) (fun v hv'=>?_);refine zC4 ?_;refine AW.block ?_;refine AW.loopR (S:=Nat×Nat×Nat) (fun s=>[(6,.int .i64 (s.1:Nat)),(7,.int .i64 (s.2.1:Nat)),(8,.int .i64 (s.2.2:Nat))]) (fun s=>own) (fun s G=>0<s.1) (fun s=>m-s.1) (20,s,s+20)
   sM oR (show 0<20 by decide) ?_
  intro u F2 hF2 hP2;have hv2:=hv1.mono hF2;obtain⟨bs,ua,ub⟩:=u;dsimp only at hP2 ⊢;refine zC4 ?_;refine AW.cond Z (fun h3=>?_) (fun h3=>?_)
  ·have h3:bs<m:=by simpa using h3
   refine zC4 ?_;refine AW.block ?_;refine zC4 ?_;refine AW.block ?_;refine AW.loopR (S:=Nat×Nat) (fun s=>[(7,.int .i64 (s.1:Nat)),(8,.int .i64 (s.2:Nat))]) (fun s=>own) (fun s G=>s.1≤m∧s.2=s.1+2*bs) (fun s=>m-s.1) (0,2*bs)
    sM oR ⟨Nat.zero_le _,by omega⟩ ?_
   intro z F3 hF3 hP3;have hv3:=hv2.mono hF3;obtain⟨za,zb⟩:=z;dsimp only at hP3 ⊢;obtain⟨hz1,hz2⟩:=hP3;subst hz2;refine zC4 ?_;refine AW.cond Z (fun h4=>?_) (fun h4=>?_)
   ·have h4:za+2*bs≤m:=by simp at h4;omega
    refine zC4 ?_;refine AW.block ?_;refine zC4 ?_;refine WT.callV Tryd.func99 Z Z Z Z Z Z (symP_spec hs _ _ hv3 za (za+bs) (za+2*bs) (Nat.lt_succ_self _) zo zo h4 hm) (fun v hv'=>?_);refine zC4 ?_;exact⟨(za+2*bs,za+2*bs+2*bs),by dsimp only;omega,sM,OwnLe.refl _,h4,rfl⟩
   ·have h4:m<za+2*bs:=by simp at h4;omega
    refine AW.exit ?_;refine zC4 ?_;refine AW.cond Z (fun h5=>?_) (fun h5=>?_)
    ·have h5:za+bs<m:=by simp at h5;omega
     refine zC4 ?_;refine WT.callV Tryd.func99 Z Z Z Z Z Z (symP_spec hs _ _ hv3 za (za+bs) m (Nat.lt_succ_self _) zo h5 (Nat.le_refl _) hm) (fun v hv'=>?_);refine zC4 ?_;refine WT.mulL 2 Z Z Z Z Z Z zo ?_;refine zC4 ?_;exact⟨(bs*2,za,za+2*bs),by dsimp only;omega,sM,OwnLe.refl _,by dsimp only;omega⟩
    ·refine zC4 ?_;refine WT.mulL 2 Z Z Z Z Z Z zo ?_;refine zC4 ?_;exact⟨(bs*2,za,za+2*bs),by dsimp only;omega,sM,OwnLe.refl _,by dsimp only;omega⟩
  ·refine AW.exit ?_;refine⟨_,[],rfl,zsb,rfl,rfl⟩
theorem sortStableP_spec(F:Frz){a0:Option Addr}{m c:Nat}{xs:List NPack}(hv:Arr tNPack F a0 m c xs)(hs:PSorted xs)(hm:m≤1000000) :
  Abs.Spec CC 76 [.slice a0 m c,.func (.func 77) ⟨[]⟩ ⟨[]⟩] F [] fun F' v o=>o=[]∧v=.tuple ⟨[]⟩:=by
 refine Abs.Spec.fn (n:=9) Tryd.func76 rfl rfl fun own=>?_;refine zC4 ?_;refine WT.callV Tryd.func87 Z Z Z Z Z Z (stableP_spec _ hv hs hm) (fun v hv'=>?_);refine zC4 ?_;refine⟨_,[],rfl,zsb,rfl,rfl⟩
inductive Reachable(g:Gram)(w:List Nat)(E:List (List Nat))(root:Key):Key→Prop
 | root:Reachable g w E root root
 | kid {k q:Key} {p:KPack}:Reachable g w E root k→p∈packsOf g w E k→q∈p.kids→Reachable g w E root q
def GoodKey(g:Gram)(w:List Nat)(k:Key):Prop:=SymOk g.terms g.nons k.sym∧k.frm≤w.length∧k.to≤w.length
theorem splits_mem{w:List Nat}{E:List (List Nat)}{to:Nat}:∀{l:List Sym} {i:Nat} {ks:List Key},ks∈splits w E to l i→i≤w.length→to≤w.length→∀q∈ks,q.sym∈l∧q.frm≤w.length∧q.to≤w.length
 | [],i,ks,h,_,_,q,hq=>by
  unfold splits at h;split at h
  ·rw[List.mem_singleton.1 h] at hq;cases hq
  ·cases h
 | s::l,i,ks,h,hi,hto,q,hq=>by
  unfold splits at h;obtain⟨m,hm1,hm⟩:=List.mem_flatMap.1 h;have hm1:=List.mem_range.1 hm1;split at hm
  ·obtain⟨ks',h2,rfl⟩:=List.mem_map.1 hm;rcases List.mem_cons.1 hq with rfl | hq
   ·exact⟨List.mem_cons_self ..,hi,by show m≤_;omega⟩
   ·have:=splits_mem h2 zo hto q hq;exact⟨List.mem_cons_of_mem _ this.1,this.2⟩
  ·cases hm
theorem mem_packsOf{g:Gram}{w:List Nat}{E:List (List Nat)}{k:Key}{p:KPack}:p∈packsOf g w E k↔∃r,g.rules[p.rule]?=some r∧r.left=k.sym.n∧k.sym.term=false∧p.kids∈splits w E k.to r.right k.frm:=by
 unfold packsOf;rw[List.mem_flatMap];constructor
 ·rintro⟨i,hi,hp⟩;unfold packsAt at hp;split at hp
  ·rename_i r hr;split at hp
   ·rename_i hc;obtain⟨ks,hks,rfl⟩:=List.mem_map.1 hp;exact⟨r,hr,hc.1,hc.2,hks⟩
   ·cases hp
  ·cases hp
 ·rintro⟨r,hr,h1,h2,h3⟩;refine⟨p.rule,List.mem_range.2 (gS hr).1,?_⟩;unfold packsAt;rw[hr];simp only;rw[if_pos ⟨h1,h2⟩];exact List.mem_map.2 ⟨p.kids,h3,by cases p;rfl⟩
theorem good_kid{g:Gram}(hg:Valid g){w:List Nat}{E:List (List Nat)}{k q:Key}{p:KPack}(hk:GoodKey g w k)(hp:p∈packsOf g w E k)(hq:q∈p.kids):GoodKey g w q:=by
 obtain⟨r,hr,_,_,h3⟩:=mem_packsOf.1 hp;obtain⟨h4,h5,h6⟩:=splits_mem h3 hk.2.1 hk.2.2 q hq;exact⟨(hg.right r (gM hr)).2.2 _ h4,h5,h6⟩
theorem Reachable.good{g:Gram}(hg:Valid g){w:List Nat}{E:List (List Nat)}{root k:Key}(h:Reachable g w E root k)(hr:GoodKey g w root):GoodKey g w k:=by
 induction h with
 | root=>exact hr
 | kid _ hp hq ih=>exact good_kid hg ih hp hq
def keyCode(k:Key):Nat:=(if k.sym.term=true then 100 else 0)*961+k.sym.n*961+k.frm*31+k.to
theorem good_few{g:Gram}(hg:Valid g){w:List Nat}(hw:w.length≤30){L:List Key}(hL:∀k∈L,GoodKey g w k)(hn:L.Nodup):L.length≤200000:=by
 have hgr:=hg.range;have bd:∀k∈L,k.sym.n<10∧k.frm≤30∧k.to≤30:=fun k hk=>by
  obtain⟨h1,h2,h3⟩:=hL k hk;unfold SymOk at h1;have:=hgr.terms;have:=hgr.nons;split at h1<;>exact⟨by omega,by omega,by omega⟩
 have h:=nodup_lt 200000 (L.map keyCode) ?_ ?_
 ·rwa [List.length_map] at h
 ·rw[List.nodup_iff_pairwise_ne,List.pairwise_map];refine(List.nodup_iff_pairwise_ne.1 hn).imp_of_mem ?_;intro a b ha hb hne he;apply hne;have h1:=bd a ha;have h2:=bd b hb;obtain⟨⟨at_,an⟩,af,ao⟩:=a;obtain⟨⟨bt,bn⟩,bf,bo⟩:=b;unfold keyCode at he;simp only at he h1 h2;simp only[Key.mk.injEq,Sym.mk.injEq];cases at_<;>cases bt<;>simp at he ⊢<;>omega
 ·intro x hx;obtain⟨k,hk,rfl⟩:=List.mem_map.1 hx;have h1:=bd k hk;unfold keyCode;split<;>omega
inductive KLt:List Key→List Key→Prop
 | here {a b:Key} {l m:List Key}:a.sym=b.sym→a.frm=b.frm→a.to<b.to→KLt (a::l) (b::m)
 | next {a:Key} {l m:List Key}:KLt l m→KLt (a::l) (a::m)
theorem splits_sorted{w:List Nat}{E:List (List Nat)}{to:Nat}:∀(l:List Sym) (i:Nat),(splits w E to l i).Pairwise KLt
 | [],i=>by unfold splits;split<;>simp
 | s::l,i=>by
  unfold splits;rw[List.pairwise_flatMap];constructor
  ·intro m _;split
   ·rw[List.pairwise_map];exact(splits_sorted l m).imp .next
   ·exact .nil
  ·refine List.pairwise_lt_range.imp ?_;intro m m' hm x hx y hy;split at hx
   ·split at hy
    ·obtain⟨x',_,rfl⟩:=List.mem_map.1 hx;obtain⟨y',_,rfl⟩:=List.mem_map.1 hy;exact .here rfl rfl hm
    ·cases hy
   ·cases hx
def PLt(p q:KPack):Prop:=p.rule<q.rule∨(p.rule=q.rule∧KLt p.kids q.kids)
theorem packs_sorted(g:Gram)(w:List Nat)(E:List (List Nat))(k:Key):(packsOf g w E k).Pairwise PLt:=by
 unfold packsOf;rw[List.pairwise_flatMap];constructor
 ·intro i _;unfold packsAt;split
  ·split
   ·rw[List.pairwise_map];exact(splits_sorted _ _).imp fun h=>.inr ⟨rfl,h⟩
   ·exact .nil
  ·exact .nil
 ·refine List.pairwise_lt_range.imp ?_;intro i j hij x hx y hy;have at_:∀{i:Nat} {x:KPack},x∈packsAt g w E k i→x.rule=i:=by
   intro i x hx;unfold packsAt at hx;split at hx
   ·split at hx
    ·obtain⟨_,_,rfl⟩:=List.mem_map.1 hx;rfl
    ·cases hx
   ·cases hx
  left;rw[at_ hx,at_ hy];exact hij
structure Node where
 key:Key
 packs:List NPack
def tNode:Ty Node where
 size:=5
 rel:=fun F l x=>∃a n c,l=[.bool x.key.sym.term,.int .i64 x.key.sym.n,.int .i64 x.key.frm,.int .i64 x.key.to,.slice a n c]∧Arr tNPack F a n c x.packs
 len:=fun _ _ _ h=>by obtain⟨a,n,c,rfl,_⟩:=h;rfl
 one:=fun _ _ _ h=>by obtain⟨a,n,c,rfl,_⟩:=h;rfl
 mono:=fun _ _ _ _ hF h=>by obtain⟨a,n,c,e,h⟩:=h;exact⟨a,n,c,e,h.mono hF⟩
def place(S:List Key)(k:Key):Nat:=S.idxOf k
def numPack(S:List Key)(p:KPack):NPack:=⟨p.rule,p.kids.map (place S)⟩
def mkNode(g:Gram)(w:List Nat)(E:List (List Nat))(S:List Key)(k:Key):Node:=⟨k,(packsOf g w E k).map (numPack S)⟩
theorem place_at{S:List Key}{k:Key}(h:k∈S):S[place S k]?=some k:=by
 unfold place;rw[gE (List.idxOf_lt_length_of_mem h),List.getElem_idxOf]
theorem place_of{S:List Key}(hn:S.Nodup){k:Key}{i:Nat}(h:S[i]?=some k):place S k=i:=by
 have h1:=place_at (gM h);obtain⟨h2,h3⟩:=gS h;obtain⟨h4,h5⟩:=gS h1;rcases Nat.lt_trichotomy (place S k) i with h6 | h6 | h6
 ·exact absurd (h5.trans h3.symm) (List.pairwise_iff_getElem.1 (List.nodup_iff_pairwise_ne.1 hn) _ _ h4 h2 h6)
 ·exact h6
 ·exact absurd (h3.trans h5.symm) (List.pairwise_iff_getElem.1 (List.nodup_iff_pairwise_ne.1 hn) _ _ h2 h4 h6)
theorem place_lt{S:List Key}(hs:S.Pairwise (fun x y=>ltKey x y=true)){a b:Key}(ha:a∈S)(hb:b∈S)(h:ltKey a b=true):place S a<place S b:=by
 have h1:=place_at ha;have h2:=place_at hb;obtain⟨h3,h4⟩:=gS h1;obtain⟨h5,h6⟩:=gS h2;rcases Nat.lt_trichotomy (place S a) (place S b) with h7 | h7 | h7
 ·exact h7
 ·have:a=b:=by rw[←h4,←h6];simp only[h7]
  subst this;rw[ltKey_swo.irrefl] at h;cases h
 ·have:=List.pairwise_iff_getElem.1 hs _ _ h5 h3 h7;rw[h4,h6] at this;have h8:=ltKey_swo.trans _ _ _ h this;rw[ltKey_swo.irrefl] at h8;cases h8
theorem klt_cmp{S:List Key}(hs:S.Pairwise (fun x y=>ltKey x y=true)):∀{l m:List Key},KLt l m→(∀q∈l,q∈S)→(∀q∈m,q∈S)→0<cmpNats (m.map (place S)) (l.map (place S))∧cmpNats (l.map (place S)) (m.map (place S))<0:=by
 intro l m h
 induction h with
 | @here a b l m h1 h2 h3=>
  intro hl hm;have hlt:place S a<place S b:=place_lt hs (hl a me) (hm b me) (by rw[ltKey_iff];right;exact⟨h2,.inl h3⟩);simp only[List.map_cons,cmpNats];have e1:cmpInt (place S b:Nat) (place S a:Nat)=1:=by unfold cmpInt;rw[if_neg zo,if_pos zo]
  have e2:cmpInt (place S a:Nat) (place S b:Nat)=-1:=by unfold cmpInt;rw[if_pos zo]
  rw[e1,e2];simp
 | @next a l m _ ih=>
  intro hl hm;have e:cmpInt (place S a:Nat) (place S a:Nat)=0:=by unfold cmpInt;rw[if_neg zo,if_neg zo]
  simp only[List.map_cons,cmpNats,e,if_true];exact ih (fun q hq=>hl q (List.mem_cons_of_mem _ hq)) (fun q hq=>hm q (List.mem_cons_of_mem _ hq))
structure Keys(g:Gram)(w:List Nat)(E:List (List Nat))(root:Key)(S:List Key):Prop where
 sorted:S.Pairwise (fun x y=>ltKey x y=true)
 reach:∀k∈S,Reachable g w E root k
 first:root∈S
 closed:∀k∈S,∀p∈packsOf g w E k,∀q∈p.kids,q∈S
theorem Keys.nodup{g:Gram}{w:List Nat}{E:List (List Nat)}{root:Key}{S:List Key}(h:Keys g w E root S):S.Nodup:=by
 rw[List.nodup_iff_pairwise_ne];refine h.sorted.imp ?_;rintro a b hab rfl;rw[ltKey_swo.irrefl] at hab;cases hab
theorem Keys.all{g:Gram}{w:List Nat}{E:List (List Nat)}{root:Key}{S:List Key}(h:Keys g w E root S){k:Key}(hk:Reachable g w E root k):k∈S:=by
 induction hk with
 | root=>exact h.first
 | kid _ hp hq ih=>exact h.closed _ ih _ hp _ hq
theorem plt_cmp{S:List Key}(hs:S.Pairwise (fun x y=>ltKey x y=true)){p q:KPack}(h:PLt p q)(hp:∀x∈p.kids,x∈S)(hq:∀x∈q.kids,x∈S):0<cmpNPack (numPack S q) (numPack S p)∧cmpNPack (numPack S p) (numPack S q)<0:=by
 unfold cmpNPack numPack;simp only[orInt];rcases h with h | ⟨h1,h2⟩
 ·have e1:cmpInt (q.rule:Nat) (p.rule:Nat)=1:=by unfold cmpInt;rw[if_neg zo,if_pos zo]
  have e2:cmpInt (p.rule:Nat) (q.rule:Nat)=-1:=by unfold cmpInt;rw[if_pos zo]
  rw[e1,e2];simp
 ·have e1:cmpInt (q.rule:Nat) (p.rule:Nat)=0:=by unfold cmpInt;rw[if_neg zo,if_neg zo]
  have e2:cmpInt (p.rule:Nat) (q.rule:Nat)=0:=by unfold cmpInt;rw[if_neg zo,if_neg zo]
  obtain⟨h3,h4⟩:=klt_cmp hs h2 hp hq;simp only[e1,e2,if_true];rw[if_neg zo,if_neg zo];exact⟨h3,h4⟩
theorem node_sorted{g:Gram}{w:List Nat}{E:List (List Nat)}{root:Key}{S:List Key}(h:Keys g w E root S){k:Key}(hk:k∈S):((packsOf g w E k).map (numPack S)).Pairwise fun x y=>0<cmpNPack y x∧cmpNPack x y<0:=by
 rw[List.pairwise_map];refine(packs_sorted g w E k).imp_of_mem ?_;intro a b ha hb hab;exact plt_cmp h.sorted hab (fun x hx=>h.closed k hk a ha x hx) (fun x hx=>h.closed k hk b hb x hx)
theorem node_psorted{g:Gram}{w:List Nat}{E:List (List Nat)}{root:Key}{S:List Key}(h:Keys g w E root S){k:Key}(hk:k∈S):PSorted ((packsOf g w E k).map (numPack S)):=by
 intro i j x y hij hx hy;obtain⟨h1,h2⟩:=gS hx;obtain⟨h3,h4⟩:=gS hy;have:=List.pairwise_iff_getElem.1 (node_sorted h hk) i j h1 h3 hij;rw[h2,h4] at this;omega
theorem kkey_eq(x y:Key):(((x.sym.term==y.sym.term)&&(((x.sym.n:Int)==(y.sym.n:Int))&&true))&&(((x.frm:Int)==(y.frm:Int))&&(((x.to:Int)==(y.to:Int))&&true)))=decide (x=y):=by
 rw[Bool.eq_iff_iff];obtain⟨⟨xt,xn⟩,xf,xo⟩:=x;obtain⟨⟨yt,yn⟩,yf,yo⟩:=y;simp only[Bool.and_eq_true,beq_iff_eq,decide_eq_true_eq,Key.mk.injEq,Sym.mk.injEq,and_true];constructor
 ·rintro⟨⟨rfl,h1⟩,h2,h3⟩;exact⟨⟨rfl,by omega⟩,by omega,by omega⟩
 ·rintro⟨⟨rfl,rfl⟩,rfl,rfl⟩;exact⟨⟨rfl,rfl⟩,rfl,rfl⟩
noncomputable def keyK:KeyTy CC 122 Key where
 key:=fun x=>.agg ⟨[.bool x.sym.term,.int .i64 x.sym.n,.int .i64 x.frm,.int .i64 x.to]⟩
 ok:=fun p=>keyT_ok hT 8 _ _ rfl
 eq:=fun p q=>by
  have h:eqA CC 8 122 (.agg ⟨[.bool p.sym.term,.int .i64 p.sym.n,.int .i64 p.frm,.int .i64 p.to]⟩) (.agg ⟨[.bool q.sym.term,.int .i64 q.sym.n,.int .i64 q.frm,.int .i64 q.to]⟩)=some (decide (p=q)):=by
   rw[←kkey_eq];exact eqT_ok hT 8 _ _ _ _ rfl
  by_cases e:p=q
  ·exact .inl ⟨e,by rw[h];simp[e]⟩
  ·exact .inr ⟨e,by rw[h];simp[e]⟩
def packSum(g:Gram)(w:List Nat)(E:List (List Nat))(L:List Key):Nat:=(L.map fun k=>(packsOf g w E k).length).sum
structure IS where
 L:List Key
 a:Option Addr
 c:Nat
 B:List (Nat×Blk)
 se:Ents Key
structure KS where
 a:Option Addr
 n:Nat
 c:Nat
 B:List (Nat×Blk)
structure BS where
 i:Nat
 L:List Key
 a:Option Addr
 c:Nat
 B:List (Nat×Blk)
 pe:Ents Key
 se:Ents Key
 cnt:Nat
structure LInv(g:Gram)(w:List Nat)(E:List (List Nat))(root:Key)(L:List Key)(se:Ents Key):Prop where
 nd:L.Nodup
 first:root∈L
 reach:∀k∈L,Reachable g w E root k
 seen:∀k,Abs.look se k=if k∈L then some (.bool true) else none
structure BInv(g:Gram)(w:List Nat)(E:List (List Nat))(root:Key)(F:Frz)(s:BS):Prop where
 l:LInv g w E root s.L s.se
 packs:∀j k,j<s.i→s.L[j]?=some k→∃a n c,Abs.look s.pe k=some (.slice a n c)∧Arr tKPack F a n c (packsOf g w E k)
 closed:∀j k,j<s.i→s.L[j]?=some k→∀p∈packsOf g w E k,∀q∈p.kids,q∈s.L
 cnt:s.cnt=packSum g w E (s.L.take s.i)
 le:s.i≤s.L.length
theorem BInv.mono{g:Gram}{w:List Nat}{E:List (List Nat)}{root:Key}{F G:Frz}{s:BS}(h:BInv g w E root F s)(hF:Frz.le F G):BInv g w E root G s:=
 ⟨h.l,fun j k h1 h2=>by obtain⟨a,n,c,h3,h4⟩:=h.packs j k h1 h2;exact⟨a,n,c,h3,h4.mono hF⟩,h.closed,h.cnt,h.le⟩
theorem LInv.add{g:Gram}{w:List Nat}{E:List (List Nat)}{root:Key}{L:List Key}{se:Ents Key}(h:LInv g w E root L se){k:Key}(hk:k∉L)(hr:Reachable g w E root k):LInv g w E root (L++[k]) (mset se k (.bool true)) where
 nd:=by
  rw[List.nodup_append];exact⟨h.nd,by simp,fun a ha b hb e=>by rw[List.mem_singleton.1 hb] at e;exact hk (e▸ha)⟩
 first:=List.mem_append_left _ h.first
 reach:=fun q hq=>by
  rcases List.mem_append.1 hq with hq | hq
  ·exact h.reach q hq
  ·rw[List.mem_singleton.1 hq];exact hr
 seen:=fun q=>by
  rw[Abs.look_mset,h.seen];by_cases e:q=k
  ·subst e;simp
  ·simp[e]
theorem packsOf_len{g:Gram}(hg:Valid g){w:List Nat}{E:List (List Nat)}{k:Key}(hk:k.to≤30):(packsOf g w E k).length≤32*923521:=by
 unfold packsOf;have:=flat_len (packsAt g w E k) 923521 (List.range g.rules.length) fun i _=>packsAt_len (fun r hr=>(hg.right r hr).2.1) hk i;rw[List.length_range] at this;exact Nat.le_trans this (Nat.mul_le_mul_right _ (hg.range.rules))
theorem packsOf_len12{g:Gram}(hg:Valid g){w:List Nat}{E:List (List Nat)}{k:Key}(hk:k.to≤12):(packsOf g w E k).length≤913952:=by
 unfold packsOf;have:=flat_len (packsAt g w E k) 28561 (List.range g.rules.length) fun i _=>by
  unfold packsAt;split
  ·rename_i r hr;split
   ·rw[List.length_map];have h1:=splits_len (w:=w) (E:=E) (to:=k.to) (l:=r.right) (i:=k.frm);have h2:(k.to+1) ^ r.right.length≤13 ^ 4:=Nat.le_trans (Nat.pow_le_pow_left zo _) (Nat.pow_le_pow_right (by decide) (hg.right r (gM hr)).2.1);have h3:13 ^ 4=28561:=by decide
    omega
   ·simp
  ·simp
 rw[List.length_range] at this;exact Nat.le_trans this (Nat.le_trans (Nat.mul_le_mul_right _ (hg.range.rules)) (by decide))
theorem packSum_take{g:Gram}{w:List Nat}{E:List (List Nat)}{L:List Key}{i:Nat}{k:Key}(h:L[i]?=some k):packSum g w E (L.take (i+1))=packSum g w E (L.take i)+(packsOf g w E k).length:=by
 unfold packSum;rw[List.take_add_one,h];simp
theorem packSum_le{g:Gram}(hg:Valid g){w:List Nat}{E:List (List Nat)}:∀(L:List Key),(∀k∈L,k.to≤30)→packSum g w E L≤L.length*(32*923521)
 | [],_=>by simp[packSum]
 | k::L,h=>by
  have h1:=packSum_le hg (E:=E) (w:=w) L fun k hk=>h k (List.mem_cons_of_mem _ hk);have h2:=packsOf_len hg (E:=E) (w:=w) (h k me);unfold packSum at h1 ⊢;rw[List.map_cons,List.sum_cons,List.length_cons,Nat.add_mul,Nat.one_mul];omega
def BuildRes(g:Gram)(w:List Nat)(E:List (List Nat))(root:Key)(most:Nat)(F:Frz)(v:Value):Prop:=
 (∃S a n c,v=.tuple ⟨[.agg ⟨[.slice a n c,.int .i64 (place S root:Nat)]⟩,.bool true]⟩∧Keys g w E root S∧Arr tNode F a n c (S.map (mkNode g w E S))∧packSum g w E S≤most)∨
 (v=.tuple ⟨[.agg ⟨[.slice none 0 0,.int .i64 0]⟩,.bool false]⟩∧∃L:List Key,L.Nodup∧(∀k∈L,Reachable g w E root k)∧most<packSum g w E L)
theorem build_spec(F:Frz)(hL:Laid F)(g:Gram)(hg:Valid g){ga:Option Addr}{gm gc:Nat}(hr:Arr tRule F ga gm gc g.rules){b:Option Addr}{n d:Nat}{w:List Nat}(hw:Arr tNat F b n d w)(hw12:w.length≤12)
  {a:Option Addr} {m c:Nat} {E:List (List Nat)} (hE:Arr (tList tU32) F a m c E) (hE2:EndsOk g.nons w.length E) (most:Nat) (hmost:most≤4611686018427387904) :
  Abs.Spec CC 64 [.agg ⟨gramCells g ga gm gc⟩,.slice b n d,.slice a m c,.int .i64 most] F [] fun F' v o=>o=[]∧
   ((stepB w E ⟨false,g.start⟩ 0 w.length=false∧v=.tuple ⟨[.agg ⟨[.slice none 0 0,.int .i64 (-1)]⟩,.bool true]⟩)∨
    (stepB w E ⟨false,g.start⟩ 0 w.length=true∧BuildRes g w E ⟨⟨false,g.start⟩,0,w.length⟩ most F' v)):=by
 unfold gramCells;have hw1:w.length≤30:=by omega
 have hrl:=hr.len;have hwl:=hw.len;subst hwl;have hgr:=hg.range;have hgs:=hgr.start;have hEl:=hE2.size;refine Abs.Spec.fn (n:=187) Tryd.func64 rfl rfl fun own=>?_;refine AW.seq (AW.reg ?_);refine WT.boxT Z Z Z Z Z Z (fun i4 hi4=>?_);refine WT.allocT hT Z Z Z Z Z Z (fun i8 hi8=>?_);refine zB4 ?_;refine WT.callV Tryd.func31 Z Z Z Z Z Z (gN_spec _ _) (fun v hv=>?_);subst hv;refine zB4 ?_;refine WT.allocT hT Z Z Z Z Z Z (fun i10 hi10=>?_);refine zB4 ?_;refine WT.idxL hT hE Z Z Z Z Z Z Z Z Z zo (fun row hrow b1 off ro cs lx hb1 hp1 hrel=>?_);obtain⟨a2,n2,c2,rfl,hrow2⟩:=hrel
 have hrwl:=hE2.row row (gM hrow);refine zB4 ?_;refine WT.idxL (j:=0) hT hrow2 Z Z Z Z Z Z Z Z Z zo (fun x hx b3 off3 ro3 cs3 lx3 hb3 hp3 hrel3=>?_);obtain rfl:lx3=_:=hrel3;have hxb:=hE2.bit row (gM hrow) x (gM hx);have pwl:2 ^ (w.length+1)≤4294967296:=Nat.pow_le_pow_right (j:=32) (by decide) zo;have hstep:stepB w E ⟨false,g.start⟩ 0 w.length=x.testBit w.length:=by
  unfold stepB;simp only[hrow,hx];simp
 refine zB4 ?_;refine WT.shr32 (x:=x) (y:=w.length) Z Z Z Z Z Z zo ?_;refine WT.and32 (x:=x / 2 ^ w.length) (y:=1) Z Z Z Z Z Z (Nat.lt_of_le_of_lt (Nat.div_le_self _ _) zo) (by decide) ?_;rw[shift_bit,←hstep];refine zB4 ?_;refine AW.cond Z (fun h=>?_) (fun h=>?_)
 ·have h0:stepB w E ⟨false,g.start⟩ 0 w.length=false:=by
   cases e:stepB w E ⟨false,g.start⟩ 0 w.length with
   | false=>rfl
   | true=>rw[e] at h;simp at h
  refine zB4 ?_;exact AW.ret ⟨_,[],⟨_,_,⟨_,rfl,fun G h0 s0=>loadA_cells (s0.has (p:=1) rfl me) (readT_ok hT rfl)⟩,⟨_,_,rfl,rfl,rfl⟩,rfl⟩,zsb,rfl,.inl ⟨h0,rfl⟩⟩
 ·have h1:stepB w E ⟨false,g.start⟩ 0 w.length=true:=by
   cases e:stepB w E ⟨false,g.start⟩ 0 w.length with
   | false=>rw[e] at h;simp at h
   | true=>rfl
  have hroot:GoodKey g w ⟨⟨false,g.start⟩,0,w.length⟩:=⟨by unfold SymOk;simpa using hgs,Nat.zero_le _,Nat.le_refl _⟩;generalize hrt:(⟨⟨false,g.start⟩,0,w.length⟩:Key)=root at hroot ⊢;refine zB4 ?_;refine WT.makeMap Z Z Z Z (fun im him=>?_);refine zB4 ?_;refine WT.buildT hT Z Z Z Z Z Z Z Z Z Z Z Z Z Z (fun il hil=>?_);refine zB4 ?_;refine WT.makeMap Z Z Z Z (fun is his=>?_);refine zB4 ?_;refine WT.mapIns keyK (key:=⟨⟨false,g.start⟩,0,w.length⟩) (m:=[]) hT 0 0 Z Z Z Z Z Z Z Z Z Z Z Z ?_;refine zB4 ?_;refine AW.block ?_
  refine AW.loopR (S:=BS) (fun s=>[(12,.slice s.a s.L.length s.c),(14,.int .i64 (s.cnt:Nat)),(15,.int .i64 (s.i:Nat))])
   (fun s=>[(is,.map (entsV keyK s.se))]::s.B::[(im,.map (entsV keyK s.pe))]::[(i10,.cells false [.bool false,.int .i64 g.start,.int .i64 0,.int .i64 w.length])]::[(i8,.cells false [.slice none 0 0,.int .i64 0])]::[(i4,.cells false [.int .i64 g.terms,.int .i64 g.nons,.int .i64 g.start,.slice ga gm gc])]::own)
   (fun s G=>Bld tKey G s.a s.L.length s.c s.B s.L∧BInv g w E root G s∧s.cnt≤most) (fun s=>200001-s.i) ⟨0,[root],some ⟨il,0,none⟩,4,[(il,.cells false [.bool false,.int .i64 g.start,.int .i64 0,.int .i64 w.length])],[],mset [] root (.bool true),0⟩
   sM (OwnLe.flat (by rw[←hrt];exact List.Perm.refl _)) ⟨⟨rfl,.inr ⟨il,_,rfl,rfl,rfl,Cells.single (R:=tKey) (x:=root) (by rw[←hrt];rfl),by decide⟩⟩,?_⟩ ?_
  ·refine⟨⟨⟨by simp,List.mem_singleton.2 rfl,fun k hk=>by rw[List.mem_singleton.1 hk];exact .root,fun k=>?_⟩,fun j k hj _=>absurd hj (Nat.not_lt_zero _),fun j k hj _=>absurd hj (Nat.not_lt_zero _),rfl,Nat.zero_le _⟩,Nat.zero_le _⟩;show Abs.look (mset [] root (.bool true)) k=_;rw[Abs.look_mset];simp[Abs.look]
  ·intro s F1 hF1 hP;obtain⟨hb,hI,hlim⟩:=hP;have hgood:∀k∈s.L,GoodKey g w k:=fun k hk=>(hI.l.reach k hk).good hg hroot;have hfew:=good_few hg hw1 hgood hI.l.nd;have hr1:=hr.mono hF1;have hw1':=hw.mono hF1;have hE1:=hE.mono hF1;have hL1:=hL.mono hF1;refine zB8 ?_;refine AW.cond Z (fun h2=>?_) (fun h2=>?_)
   ·have h2:s.i<s.L.length:=by simpa using h2
    obtain⟨k,hk⟩:∃k,s.L[s.i]?=some k:=⟨_,gE h2⟩;have hkg:=hgood k (gM hk);have hkr:=hI.l.reach k (gM hk);have hpl:=packsOf_len hg (E:=E) (w:=w) (show k.to≤30 by have:=hkg.2.2;omega);have hsum:=packSum_le hg (E:=E) (w:=w) (s.L.take s.i) (fun q hq=>by have:=(hgood q (List.mem_of_mem_take hq)).2.2;omega);rw[List.length_take,←hI.cnt] at hsum;have hcnt:s.cnt≤200000*29552672:=Nat.le_trans hsum (Nat.mul_le_mul zo (by decide));refine zB8 ?_;refine AW.block ?_;refine zB8 ?_;refine WT.vidx hT hb.vec Z Z Z Z Z Z Z Z Z zo (fun b5 hb5=>?_)
    refine WT.vldS hT 1 hb.vec hb5 hk Z Z Z Z Z Z Z Z Z (fun l5 hl5=>?_);obtain rfl:l5=_:=hl5;refine WT.callF0 Tryd.func67 Z Z Z Z Z Z (packs_spec _ hL1 g hg hr1 hw1' hw1 hE1 hE2 k hkg.2.1 (by have:=hkg.2.2;omega)) (fun F2 v hF2 hv=>?_);obtain⟨pa,pn,pc,rfl,hpk⟩:=hv;have hpkl:=hpk.len;have hb2:=hb.mono hF2;have hI2:=hI.mono hF2;refine zB8 ?_;refine AW.cond Z (fun h3=>?_) (fun h3=>?_)
    ·have h3:most<s.cnt+pn:=by simp at h3;omega
     refine zB8 ?_;refine AW.ret ⟨_,[],⟨_,_,⟨_,rfl,fun G h0 s0=>loadA_cells (s0.has (p:=4) Z me) (readT_ok hT rfl)⟩,⟨_,_,rfl,rfl,rfl⟩,rfl⟩,zsb,rfl,.inr ⟨h1,.inr ⟨rfl,s.L.take (s.i+1),?_,fun q hq=>hI.l.reach q (List.mem_of_mem_take hq),?_⟩⟩⟩
     ·exact(hI.l.nd).sublist (List.take_sublist ..)
     ·rw[packSum_take hk,←hI.cnt,←hpkl];exact h3
    ·have h3:s.cnt+pn≤most:=by simp at h3;omega
     refine zB8 ?_;refine WT.vidx hT hb2.vec Z Z Z Z Z Z Z Z Z zo (fun b6 hb6=>?_);refine WT.vldS hT 1 hb2.vec hb6 hk Z Z Z Z Z Z Z Z Z (fun l6 hl6=>?_);obtain rfl:l6=_:=hl6;refine zB8 ?_;refine WT.mapSet keyK (key:=k) hT 2 0 Z Z Z Z Z Z Z Z Z Z Z Z ?_;refine zB8 ?_
     refine AW.range (S:=IS) (fun u=>[(12,.slice u.a u.L.length u.c)]) (fun u=>[(is,.map (entsV keyK u.se))]::u.B::[(im,.map (entsV keyK (mset s.pe k (.slice pa pn pc))))]::[(i10,.cells false [.bool false,.int .i64 g.start,.int .i64 0,.int .i64 w.length])]::[(i8,.cells false [.slice none 0 0,.int .i64 0])]::[(i4,.cells false [.int .i64 g.terms,.int .i64 g.nons,.int .i64 g.start,.slice ga gm gc])]::own)
      (fun j u G=>Bld tKey G u.a u.L.length u.c u.B u.L∧LInv g w E root u.L u.se∧(∃x,u.L=s.L++x)∧∀p∈(packsOf g w E k).take j,∀q∈p.kids,q∈u.L) pn ⟨s.L,s.a,s.c,s.B,s.se⟩
      Z Z Z Z Z Z Z Z Z zo rfl rfl (fun _=>rfl) (fun _=>rfl) sM oR ⟨hb2,hI.l,⟨[],by simp⟩,by simp⟩ ?_ ?_
     ·intro j u F3 hF3 hj hP3;obtain⟨hb3,hl3,hx3,hc3⟩:=hP3;have hpk3:=hpk.mono hF3;refine zB9 ?_;refine WT.idxL hT hpk3 Z Z Z Z Z Z Z Z Z zo (fun p hpj b7 off7 ro7 cs7 lx7 hb7 hp7 hrel7=>?_);obtain⟨ka,kn,kc,rfl,hka⟩:=hrel7;have hkal:=hka.len;have hpm:=gM hpj;have hkl4:p.kids.length≤4:=by
       obtain⟨r,hr0,_,_,h4⟩:=mem_packsOf.1 hpm;rw[splits_kids h4];exact(hg.right r (gM hr0)).2.1
      refine zB9 ?_;refine WT.allocT hT Z Z Z Z Z Z (fun i18 hi18=>?_);refine zB9 ?_;refine AW.range (S:=IS) (fun u=>[(12,.slice u.a u.L.length u.c)]) (fun u=>[(i18,.cells false [.int .i64 p.rule,.slice ka kn kc])]::[(is,.map (entsV keyK u.se))]::u.B::[(im,.map (entsV keyK (mset s.pe k (.slice pa pn pc))))]::[(i10,.cells false [.bool false,.int .i64 g.start,.int .i64 0,.int .i64 w.length])]::[(i8,.cells false [.slice none 0 0,.int .i64 0])]::[(i4,.cells false [.int .i64 g.terms,.int .i64 g.nons,.int .i64 g.start,.slice ga gm gc])]::own)
       (fun q u G=>Bld tKey G u.a u.L.length u.c u.B u.L∧LInv g w E root u.L u.se∧(∃x,u.L=s.L++x)∧(∀p∈(packsOf g w E k).take j,∀q∈p.kids,q∈u.L)∧∀x∈p.kids.take q,x∈u.L) kn u
       Z Z Z Z Z Z Z Z Z zo rfl rfl (fun _=>rfl) (fun _=>rfl) sM oR ⟨hb3,hl3,hx3,hc3,by simp⟩ ?_ ?_
      ·intro q z F4 hF4 hq hP4;obtain⟨hb4,hl4,hx4,hc4,hd4⟩:=hP4;have hka4:=hka.mono hF4;have hgz:∀k∈z.L,GoodKey g w k:=fun k hk=>(hl4.reach k hk).good hg hroot;have hfz:=good_few hg hw1 hgz hl4.nd;refine zB9 ?_;refine WT.idxL hT hka4 Z Z Z Z Z Z Z Z Z zo (fun x hxq b8 off8 ro8 cs8 lx8 hb8 hp8 hrel8=>?_);obtain rfl:lx8=_:=hrel8;have hxr:Reachable g w E root x:=.kid hkr hpm (gM hxq);refine zB9 ?_;refine WT.allocT hT Z Z Z Z Z Z (fun i20 hi20=>?_);refine zB9 ?_;refine WT.lookup1 keyK (key:=x) hT 2 Z Z Z Z Z Z Z me Z Z Z ?_;refine WT.know (v':=.bool (decide (x∈z.L))) 101 Z ?_ ?_
       ·rw[hl4.seen];by_cases e:x∈z.L<;>simp[e]
       refine zB9 ?_;refine AW.cond Z (fun h4=>?_) (fun h4=>?_)
       ·have h4:x∉z.L:=by simpa using h4
        refine zB9 ?_;refine WT.mapSet keyK (key:=x) hT 2 0 Z Z Z Z Z Z Z Z Z Z Z Z ?_;refine zB9 ?_;refine WT.buildT hT Z Z Z Z Z Z Z Z Z Z Z Z Z Z (fun i9 hi9=>?_);refine WT.appendT (ys:=[x]) hT 4 hb4 Z (fun _=>rfl) Z Z Z Z Z Z Z Z Z Z Z (fun h0 s0=>news_own hT s0 0 Z Z Z Z) (Cells.single (R:=tKey) (x:=x) rfl) Z (by decide) zom (fun a5 c5 B5 hB5=>?_);refine zB9 ?_;have hl1:z.L.length+1=(z.L++[x]).length:=by simp
        rw[hl1] at hB5 ⊢;refine⟨⟨z.L++[x],a5,c5,B5,mset z.se x (.bool true)⟩,sM,OwnLe.skip _ (OwnLe.skip _ oR),hB5,hl4.add h4 hxr,?_,fun p' hp' q' hq'=>List.mem_append_left _ (hc4 p' hp' q' hq'),?_⟩
        ·obtain⟨y,hy⟩:=hx4;exact⟨y++[x],by dsimp only;rw[hy,List.append_assoc]⟩
        ·intro x' hx';rw[List.take_add_one,hxq] at hx';rcases List.mem_append.1 hx' with hx' | hx'
         ·exact List.mem_append_left _ (hd4 x' hx')
         ·obtain rfl:=List.mem_singleton.1 hx';exact List.mem_append_right _ (List.mem_singleton.2 rfl)
       ·have h4:x∈z.L:=by simpa using h4
        refine zB9 ?_;refine⟨z,sM,OwnLe.skip _ oR,hb4,hl4,hx4,hc4,?_⟩;intro x' hx';rw[List.take_add_one,hxq] at hx';rcases List.mem_append.1 hx' with hx' | hx'
        ·exact hd4 x' hx'
        ·obtain rfl:=List.mem_singleton.1 hx';exact h4
      ·intro z F4 hF4 hP4;obtain⟨hb4,hl4,hx4,hc4,hd4⟩:=hP4;rw[List.take_of_length_le zo] at hd4;refine⟨z,sM,zow,hb4,hl4,hx4,?_⟩;rw[List.take_add_one,hpj];intro p' hp' q' hq';rcases List.mem_append.1 hp' with hp' | hp'
       ·exact hc4 p' hp' q' hq'
       ·obtain rfl:=List.mem_singleton.1 hp';exact hd4 q' hq'
     ·intro u F3 hF3 hP3;obtain⟨hb3,hl3,⟨x3,hx3⟩,hc3⟩:=hP3;rw[List.take_of_length_le zo] at hc3;have hpre:∀(j:Nat) (q:Key),s.L[j]?=some q→u.L[j]?=some q:=fun j q hq=>by
       rw[hx3,List.getElem?_append_left (gS hq).1];exact hq
      have hpre2:∀(j:Nat) (q:Key),j<s.i+1→u.L[j]?=some q→s.L[j]?=some q:=fun j q hj hq=>by
       rw[hx3,List.getElem?_append_left zo] at hq;exact hq
      refine zB9 ?_;refine⟨⟨s.i+1,u.L,u.a,u.c,u.B,mset s.pe k (.slice pa pn pc),u.se,s.cnt+pn⟩,?_,sM,OwnLe.refl _,hb3,?_⟩
      ·dsimp only;omega
      ·refine⟨⟨hl3,fun j q hj hq=>?_,fun j q hj hq=>?_,?_,?_⟩,h3⟩
       ·have hq:=hpre2 j q hj hq;dsimp only;rw[Abs.look_mset];by_cases e:q=k
        ·subst e;exact⟨pa,pn,pc,by simp,hpk.mono hF3⟩
        ·rw[if_neg e];rcases Nat.lt_succ_iff_lt_or_eq.1 hj with hj | hj
         ·obtain⟨a9,n9,c9,h9,h10⟩:=hI2.packs j q hj hq;exact⟨a9,n9,c9,h9,h10.mono hF3⟩
         ·subst hj;rw[hk] at hq;exact absurd (Option.some.inj hq).symm e
       ·have hq:=hpre2 j q hj hq;intro p hp x hx;dsimp only;rcases Nat.lt_succ_iff_lt_or_eq.1 hj with hj | hj
        ·rw[hx3];exact List.mem_append_left _ (hI.closed j q hj hq p hp x hx)
        ·subst hj;rw[hk] at hq;obtain rfl:=Option.some.inj hq;exact hc3 p hp x hx
       ·dsimp only;have e:u.L.take (s.i+1)=s.L.take (s.i+1):=by
         rw[hx3,List.take_append_of_le_length zo]
        rw[e,packSum_take hk,←hI.cnt,←hpkl]
       ·dsimp only;have:=(gS (hpre _ _ hk)).1;omega
   ·have h2:s.i=s.L.length:=by
     have:=hI.le;simp at h2;omega
    refine AW.exit ?_;refine zB8 ?_;refine WT.call1F 1 Tryd.func74 Z Z Z Z Z Z Z (fun _=>rfl) (kySort_spec _ (keyOrder_cmp _) hb.vec zo) (fun F2 v B2 hF2 hv=>?_);refine WT.freezeAll 1 Z Z (fun F3 hF3 hB3=>?_);have hSa:=hv.arr hF3 hB3;obtain⟨hperm,hpw⟩:=sort_facts ltKey_swo s.L;have hF13:=hF2.trans hF3;generalize (Go.Sort.sort ltKey s.L.toArray).toList=S at hSa hperm hpw;have hSl:S.length=s.L.length:=hperm.length_eq;have hmem:∀k,k∈S↔k∈s.L:=fun k=>hperm.mem_iff;have hK:Keys g w E root S:=by
     refine⟨?_,fun k hk=>hI.l.reach k ((hmem k).1 hk),(hmem _).2 hI.l.first,fun k hk p hp q hq=>?_⟩
     ·have hnd:S.Nodup:=hperm.nodup_iff.2 hI.l.nd;have:=hpw.and (List.nodup_iff_pairwise_ne.1 hnd);refine this.imp ?_;rintro x y ⟨h3,h4⟩;cases h5:ltKey x y with
      | true=>rfl
      | false=>exact absurd (ltKey_anti x y h5 h3) h4
     ·obtain⟨j,hj⟩:=List.mem_iff_getElem?.1 ((hmem k).1 hk);have hjl:=(gS hj).1;exact(hmem q).2 (hI.closed j k zo hj p hp q hq)
    have hpk:∀k∈S,∃a n c,Abs.look s.pe k=some (.slice a n c)∧Arr tKPack F3 a n c (packsOf g w E k):=fun k hk=>by
     obtain⟨j,hj⟩:=List.mem_iff_getElem?.1 ((hmem k).1 hk);have hjl:=(gS hj).1;obtain⟨a9,n9,c9,h9,h10⟩:=hI.packs j k zo hj;exact⟨a9,n9,c9,h9,h10.mono hF13⟩
    have hsumS:packSum g w E S≤most:=by
     have e1:packSum g w E S=packSum g w E s.L:=(hperm.map _).sum_nat;have e2:=hI.cnt;rw[h2,List.take_length] at e2;omega
    refine zB8 ?_;refine WT.makeMap Z Z Z Z (fun inn hinn=>?_);refine zB8 ?_;refine AW.range (S:=Ents Key) (fun _=>[]) (fun ne=>[(inn,.map (entsV keyK ne))]::[(is,.map (entsV keyK s.se))]::[]::[(im,.map (entsV keyK s.pe))]::[(i10,.cells false [.bool false,.int .i64 g.start,.int .i64 0,.int .i64 w.length])]::[(i8,.cells false [.slice none 0 0,.int .i64 0])]::[(i4,.cells false [.int .i64 g.terms,.int .i64 g.nons,.int .i64 g.start,.slice ga gm gc])]::own)
     (fun j ne G=>∀k,Abs.look ne k=if k∈S.take j then some (.int .i64 (place S k:Nat)) else none) s.L.length []
     Z Z Z Z Z Z Z Z Z zo rfl rfl (fun _=>rfl) (fun _=>rfl) sM oR (fun k=>by simp[Abs.look]) ?_ ?_
    ·intro j ne F4 hF4 hj hne;have hSa4:=hSa.mono hF4;refine zB9 ?_;refine WT.idxL hT hSa4 Z Z Z Z Z Z Z Z Z zo (fun k hkj b8 off8 ro8 cs8 lx8 hb8 hp8 hrel8=>?_);obtain rfl:lx8=_:=hrel8;refine zB9 ?_;refine WT.allocT hT Z Z Z Z Z Z (fun i23 hi23=>?_);refine zB9 ?_;refine WT.mapSet keyK (key:=k) hT 1 0 Z Z Z Z Z Z Z Z Z Z Z Z ?_;refine zB9 ?_;refine⟨mset ne k (.int .i64 (j:Nat)),sM,OwnLe.skip _ oR,fun q=>?_⟩;rw[Abs.look_mset,hne,List.take_add_one,hkj];by_cases e:q=k
     ·subst e;rw[place_of hK.nodup hkj];simp
     ·simp[e]
    ·intro ne F4 hF4 hne;rw[List.take_of_length_le zo] at hne;have hSa4:=hSa.mono hF4;have hpk4:∀k∈S,∃a n c,Abs.look s.pe k=some (.slice a n c)∧Arr tKPack F4 a n c (packsOf g w E k):=fun k hk=>by
      obtain⟨a9,n9,c9,h9,h10⟩:=hpk k hk;exact⟨a9,n9,c9,h9,h10.mono hF4⟩
     refine zB9 ?_;refine WT.lookup1 keyK (key:=⟨⟨false,g.start⟩,0,w.length⟩) hT 0 Z Z Z Z Z Z Z me Z Z Z ?_;refine WT.know (v':=.int .i64 (place S root:Nat)) 127 Z (by rw[hrt,hne,if_pos hK.first];rfl) ?_
     refine zB9 ?_;refine WT.allocT hT Z Z Z Z Z Z (fun i24 hi24=>?_);refine zB9 ?_;refine AW.range (S:=KS) (fun _=>[]) (fun u=>u.B::[(i24,.cells false [.slice u.a u.n u.c,.int .i64 (place S root:Nat)])]::[(inn,.map (entsV keyK ne))]::[(is,.map (entsV keyK s.se))]::[]::[(im,.map (entsV keyK s.pe))]::[(i10,.cells false [.bool false,.int .i64 g.start,.int .i64 0,.int .i64 w.length])]::[(i8,.cells false [.slice none 0 0,.int .i64 0])]::[(i4,.cells false [.int .i64 g.terms,.int .i64 g.nons,.int .i64 g.start,.slice ga gm gc])]::own)
      (fun j u G=>Bld tNode G u.a u.n u.c u.B ((S.take j).map (mkNode g w E S))) s.L.length ⟨none,0,0,[]⟩
      Z Z Z Z Z Z Z Z Z zo rfl rfl (fun _=>rfl) (fun _=>rfl) sM (OwnLe.flat (List.Perm.refl _)) (by simpa using Bld.nil_ _ _) ?_ ?_
     ·intro j u F5 hF5 hj hu;have hSa5:=hSa4.mono hF5;have hul:=hu.len;rw[List.length_map,List.length_take] at hul;refine zB12 ?_;refine WT.idxL hT hSa5 Z Z Z Z Z Z Z Z Z zo (fun k hkj b8 off8 ro8 cs8 lx8 hb8 hp8 hrel8=>?_);obtain rfl:lx8=_:=hrel8;have hkS:=gM hkj;obtain⟨pa,pn,pc,hlk,hpa⟩:=hpk4 k hkS;have hpa5:=hpa.mono hF5;have hpal:=hpa.len;have hkg:=(hK.reach k hkS).good hg hroot;have hpl:=packsOf_len12 hg (E:=E) (w:=w) (show k.to≤12 by have:=hkg.2.2;omega);refine zB12 ?_;refine WT.allocT hT Z Z Z Z Z Z (fun i26 hi26=>?_);refine zB12 ?_;refine WT.allocT hT Z Z Z Z Z Z (fun i27 hi27=>?_)
      refine zB12 ?_;refine WT.lookup1 keyK (key:=k) hT 7 Z Z Z Z Z Z Z me Z Z Z ?_;rw[hlk];refine WT.know (v':=.slice pa pn pc) 144 Z Z ?_;refine zB12 ?_
      refine AW.range (S:=KS) (fun _=>[]) (fun z=>z.B::[(i27,.cells false [.bool k.sym.term,.int .i64 k.sym.n,.int .i64 k.frm,.int .i64 k.to,.slice z.a z.n z.c])]::[(i26,.cells false [.bool k.sym.term,.int .i64 k.sym.n,.int .i64 k.frm,.int .i64 k.to])]::u.B::[(i24,.cells false [.slice u.a u.n u.c,.int .i64 (place S root:Nat)])]::[(inn,.map (entsV keyK ne))]::[(is,.map (entsV keyK s.se))]::[]::[(im,.map (entsV keyK s.pe))]::[(i10,.cells false [.bool false,.int .i64 g.start,.int .i64 0,.int .i64 w.length])]::[(i8,.cells false [.slice none 0 0,.int .i64 0])]::[(i4,.cells false [.int .i64 g.terms,.int .i64 g.nons,.int .i64 g.start,.slice ga gm gc])]::own)
       (fun q z G=>Bld tNPack G z.a z.n z.c z.B (((packsOf g w E k).take q).map (numPack S))) pn ⟨none,0,0,[]⟩
       Z Z Z Z Z Z Z Z Z zo rfl rfl (fun _=>rfl) (fun _=>rfl) sM (OwnLe.flat (List.Perm.refl _)) (by simpa using Bld.nil_ _ _) ?_ ?_
      ·intro q z F6 hF6 hq hz;have hpa6:=hpa5.mono hF6;have hzl:=hz.len;rw[List.length_map,List.length_take] at hzl;refine zB14 ?_;refine WT.idxL hT hpa6 Z Z Z Z Z Z Z Z Z zo (fun p hpq b9 off9 ro9 cs9 lx9 hb9 hp9 hrel9=>?_);obtain⟨ka,kn,kc,rfl,hka⟩:=hrel9;have hkal:=hka.len;have hpm:=gM hpq;have hkl4:p.kids.length≤4:=by
        obtain⟨r,hr0,_,_,h4⟩:=mem_packsOf.1 hpm;rw[splits_kids h4];exact(hg.right r (gM hr0)).2.1
       refine zB14 ?_;refine WT.allocT hT Z Z Z Z Z Z (fun i29 hi29=>?_);refine zB14 ?_;refine WT.allocT hT Z Z Z Z Z Z (fun i30 hi30=>?_);refine zB14 ?_
       refine AW.range (S:=KS) (fun _=>[]) (fun y=>y.B::[(i30,.cells false [.int .i64 p.rule,.slice y.a y.n y.c])]::[(i29,.cells false [.int .i64 p.rule,.slice ka kn kc])]::z.B::[(i27,.cells false [.bool k.sym.term,.int .i64 k.sym.n,.int .i64 k.frm,.int .i64 k.to,.slice z.a z.n z.c])]::[(i26,.cells false [.bool k.sym.term,.int .i64 k.sym.n,.int .i64 k.frm,.int .i64 k.to])]::u.B::[(i24,.cells false [.slice u.a u.n u.c,.int .i64 (place S root:Nat)])]::[(inn,.map (entsV keyK ne))]::[(is,.map (entsV keyK s.se))]::[]::[(im,.map (entsV keyK s.pe))]::[(i10,.cells false [.bool false,.int .i64 g.start,.int .i64 0,.int .i64 w.length])]::[(i8,.cells false [.slice none 0 0,.int .i64 0])]::[(i4,.cells false [.int .i64 g.terms,.int .i64 g.nons,.int .i64 g.start,.slice ga gm gc])]::own)
        (fun e y G=>Bld tNat G y.a y.n y.c y.B ((p.kids.take e).map (place S))) kn ⟨none,0,0,[]⟩
        Z Z Z Z Z Z Z Z Z zo rfl rfl (fun _=>rfl) (fun _=>rfl) sM (OwnLe.flat (List.Perm.refl _)) (by simpa using Bld.nil_ _ _) ?_ ?_
       ·intro e y F7 hF7 he hy;have hka7:=hka.mono hF7;have hyl:=hy.len;rw[List.length_map,List.length_take] at hyl;refine zB16 ?_;refine WT.idxL hT hka7 Z Z Z Z Z Z Z Z Z zo (fun x hxe b10 off10 ro10 cs10 lx10 hb10 hp10 hrel10=>?_);obtain rfl:lx10=_:=hrel10;have hxS:=hK.closed k hkS p hpm x (gM hxe);refine zB16 ?_;refine WT.allocT hT Z Z Z Z Z Z (fun i32 hi32=>?_);refine zB16 ?_;refine AW.draw (ps:=[(1,5)]) Z Z ?_;refine zB16 ?_;refine WT.lookup1 keyK (key:=x) hT 9 Z Z Z Z Z Z Z me Z Z Z ?_;refine WT.know (v':=.int .i64 (place S x:Nat)) 164 Z (by rw[hne,if_pos hxS];rfl) ?_
        refine WT.buildT hT Z Z Z Z Z Z Z Z Z Z Z Z Z Z (fun i9 hi9=>?_);refine WT.appendT (ys:=[place S x]) hT 2 hy Z (fun _=>rfl) Z Z Z Z Z Z Z Z Z Z Z (fun h0 s0=>news_own hT s0 0 Z Z Z Z) (Cells.single (R:=tNat) (x:=place S x) rfl) Z (by decide) zom (fun a5 c5 B5 hB5=>?_);refine zB16 ?_;refine⟨zrC,?_⟩;refine⟨⟨a5,y.n+1,c5,B5⟩,sM,OwnLe.skip _ (OwnLe.skip _ oR),?_⟩;dsimp only;rw[List.take_add_one,hxe,List.map_append];exact hB5
       ·intro y F7 hF7 hy;rw[List.take_of_length_le zo] at hy;refine AW.freezeAll 0 Z Z (fun F8 hF8 hB8=>?_);have hyk:=hy.frozen hF8 hB8;have hz8:=(hz.mono hF7).mono hF8;refine zB16 ?_;refine WT.buildT hT Z Z Z Z Z Z Z Z Z Z Z Z Z Z (fun i9 hi9=>?_);refine WT.appendT (ys:=[numPack S p]) hT 4 hz8 Z (fun _=>rfl) Z Z Z Z Z Z Z Z Z Z Z (fun h0 s0=>news_own hT s0 0 Z Z Z Z) (Cells.single (R:=tNPack) (x:=numPack S p) ⟨_,_,_,rfl,hyk,by show (p.kids.map (place S)).length≤_;rw[List.length_map];omega⟩) Z (by decide) zom (fun a5 c5 B5 hB5=>?_);refine zB16 ?_
        refine⟨⟨a5,z.n+1,c5,B5⟩,sM,OwnLe.skip _ (OwnLe.skip _ (OwnLe.skip _ (OwnLe.skip _ oR))),?_⟩;dsimp only;rw[List.take_add_one,hpq,List.map_append];exact hB5
      ·intro z F6 hF6 hz;rw[List.take_of_length_le zo] at hz;refine AW.freezeAll 0 Z Z (fun F7 hF7 hB7=>?_);have hzk:=hz.frozen hF7 hB7;have hu7:=(hu.mono hF6).mono hF7;have hzl:=hzk.len;rw[List.length_map] at hzl;refine zB14 ?_;refine WT.callV Tryd.func76 Z Z Z Z Z Z (sortStableP_spec _ hzk (node_psorted hK hkS) zo) (fun v hv=>?_);refine zB14 ?_;refine WT.buildT hT Z Z Z Z Z Z Z Z Z Z Z Z Z Z (fun i9 hi9=>?_)
       refine WT.appendT (ys:=[mkNode g w E S k]) hT 4 hu7 Z (fun _=>rfl) Z Z Z Z Z Z Z Z Z Z Z (fun h0 s0=>news_own hT s0 0 Z Z Z Z) (Cells.single (R:=tNode) (x:=mkNode g w E S k) ⟨_,_,_,rfl,hzk⟩) Z (by decide) zom (fun a5 c5 B5 hB5=>?_);refine zB14 ?_;refine⟨⟨a5,u.n+1,c5,B5⟩,sM,OwnLe.skip _ (OwnLe.skip _ (OwnLe.skip _ (OwnLe.skip _ oR))),?_⟩;dsimp only;rw[List.take_add_one,hkj,List.map_append];exact hB5
     ·intro u F5 hF5 hu;rw[List.take_of_length_le zo] at hu;refine AW.freezeAll 0 Z Z (fun F6 hF6 hB6=>?_);have huk:=hu.frozen hF6 hB6;refine zB14 ?_;exact AW.ret ⟨_,[],⟨_,_,⟨_,rfl,fun G h0 s0=>loadA_cells (s0.has (p:=7) rfl me) (readT_ok hT rfl)⟩,⟨_,_,rfl,rfl,rfl⟩,rfl⟩,zsb,rfl,.inr ⟨h1,.inl ⟨S,u.a,u.n,u.c,rfl,hK,huk,hsumS⟩⟩⟩
def prodN:List Nat→Nat
 | []=>1
 | a::l=>a*prodN l
theorem prodN_le{α:Type}{f h:α→Nat}:∀(l:List α),(∀x∈l,f x≤h x)→prodN (l.map f)≤prodN (l.map h)
 | [],_=>Nat.le_refl _
 | a::l,hl=>Nat.mul_le_mul (hl a me) (prodN_le l fun x hx=>hl x (List.mem_cons_of_mem _ hx))
theorem sumN_le{α:Type}{f h:α→Nat}:∀(l:List α),(∀x∈l,f x≤h x)→(l.map f).sum≤(l.map h).sum
 | [],_=>Nat.le_refl _
 | a::l,hl=>by
  simp only[List.map_cons,List.sum_cons];exact Nat.add_le_add (hl a me) (sumN_le l fun x hx=>hl x (List.mem_cons_of_mem _ hx))
theorem prodN_pos{α:Type}{f:α→Nat}:∀(l:List α),(∀x∈l,1≤f x)→1≤prodN (l.map f)
 | [],_=>Nat.le_refl _
 | a::l,hl=>Nat.mul_le_mul (hl a me) (prodN_pos l fun x hx=>hl x (List.mem_cons_of_mem _ hx))
theorem prodN_app:∀(l m:List Nat),prodN (l++m)=prodN l*prodN m
 | [],m=>by simp[prodN]
 | a::l,m=>by simp only[List.cons_append,prodN,prodN_app l m,Nat.mul_assoc]
theorem prodN_zero{l:List Nat}(h:0∈l):prodN l=0:=by
 induction l with
 | nil=>cases h
 | cons a l ih=>
  rcases List.mem_cons.1 h with h | h
  ·simp[prodN,←h]
  ·simp[prodN,ih h]
theorem sumN_mem{α:Type}{f:α→Nat}:∀{l:List α} {x:α},x∈l→f x≤(l.map f).sum
 | a::l,x,h=>by
  simp only[List.map_cons,List.sum_cons];rcases List.mem_cons.1 h with rfl | h
  ·omega
  ·have:=sumN_mem (f:=f) h;omega
theorem prodN_ge{l:List Nat}{x:Nat}(h:x∈l)(hp:∀y∈l,1≤y):x≤prodN l:=by
 induction l with
 | nil=>cases h
 | cons a l ih=>
  have h1:1≤prodN l:=by
   have:=prodN_pos (f:=id) l fun y hy=>hp y (List.mem_cons_of_mem _ hy);simpa using this
  rcases List.mem_cons.1 h with rfl | h
  ·exact Nat.le_trans zo (Nat.mul_le_mul_left _ h1)
  ·have:=ih h fun y hy=>hp y (List.mem_cons_of_mem _ hy);have h2:=hp a me;exact Nat.le_trans zo (Nat.mul_le_mul h2 this)
def leafN(x:Node):Nat:=if x.key.sym.term=true then 1 else 0
def packN(f:Nat→Nat)(p:NPack):Nat:=prodN (p.kids.map f)
def nodeT(Ns:List Node):Nat→Nat→Nat
 | 0,_=>0
 | d+1,v=>match Ns[v]? with
  | some x=>leafN x+(x.packs.map (packN (nodeT Ns d))).sum
  | none=>0
theorem nodeT_mono(Ns:List Node):∀(d v:Nat),nodeT Ns d v≤nodeT Ns (d+1) v
 | 0,v=>Nat.zero_le _
 | d+1,v=>by
  show nodeT Ns (d+1) v≤nodeT Ns (d+1+1) v;unfold nodeT;split
  ·exact Nat.add_le_add_left (sumN_le _ fun p _=>prodN_le _ fun u _=>nodeT_mono Ns d u) _
  ·exact Nat.le_refl _
theorem nodeT_le(Ns:List Node){d e:Nat}(h:d≤e)(v:Nat):nodeT Ns d v≤nodeT Ns e v:=by
 induction e with
 | zero => obtain rfl : d = 0 := by omega
           exact Nat.le_refl _
 | succ e ih=>
  rcases Nat.lt_or_ge d (e+1) with h2 | h2
  ·exact Nat.le_trans (ih zo) (nodeT_mono Ns e v)
  ·obtain rfl:d=e+1:=by omega
   exact Nat.le_refl _
def Still(T:Nat→Nat)(c:Nat):Prop:=∃D,∀d,D≤d→T d=c
theorem Still.uniq{T:Nat→Nat}{a b:Nat}(h:Still T a)(h2:Still T b):a=b:=by
 obtain⟨D,h⟩:=h;obtain⟨D2,h2⟩:=h2;rw[←h (max D D2) zo,h2 (max D D2) zo]
noncomputable def limN(T:Nat→Nat):Nat:=@dite _ (∃c,Still T c) (Classical.propDecidable _) (fun h=>h.choose) (fun _=>0)
theorem Still.lim{T:Nat→Nat}{c:Nat}(h:Still T c):Still T (limN T):=by
 unfold limN;rw[dif_pos ⟨c,h⟩];exact(⟨c,h⟩:∃c,Still T c).choose_spec
theorem still_all{α:Type}{T:α→Nat→Nat}{c:α→Nat}:∀(l:List α),(∀x∈l,Still (T x) (c x))→∃D,∀d,D≤d→∀x∈l,T x d=c x
 | [],_=>⟨0,fun _ _ x hx=>by cases hx⟩
 | a::l,h=>by
  obtain⟨D1,h1⟩:=h a me;obtain⟨D2,h2⟩:=still_all l fun x hx=>h x (List.mem_cons_of_mem _ hx);refine⟨max D1 D2,fun d hd x hx=>?_⟩;rcases List.mem_cons.1 hx with rfl | hx
  ·exact h1 d zo
  ·exact h2 d zo x hx
def Kid(Ns:List Node)(u v:Nat):Prop:=∃x p,Ns[v]?=some x∧p∈x.packs∧u∈p.kids
theorem still_node{Ns:List Node}{v:Nat}{x:Node}(hx:Ns[v]?=some x)(c:Nat→Nat)(h:∀u,Kid Ns u v→Still (fun d=>nodeT Ns d u) (c u)) :
  Still (fun d=>nodeT Ns d v) (leafN x+(x.packs.map (packN c)).sum):=by
 obtain⟨D,hD⟩:=still_all (T:=fun u d=>nodeT Ns d u) (c:=c) (x.packs.flatMap (·.kids)) fun u hu=>by
  obtain⟨p,hp,hu⟩:=List.mem_flatMap.1 hu;exact h u ⟨x,p,hx,hp,hu⟩
 refine⟨D+1,fun d hd=>?_⟩;obtain⟨d,rfl⟩:∃d',d=d'+1:=⟨d-1,by omega⟩;show nodeT Ns (d+1) v=_;unfold nodeT;rw[hx];simp only;congr 2;apply List.map_congr_left;intro p hp;unfold packN;congr 1;apply List.map_congr_left;intro u hu;exact hD d zo u (List.mem_flatMap.2 ⟨p,hp,hu⟩)
inductive Path(Ns:List Node):Nat→Nat→Prop
 | one {v u:Nat}:Kid Ns u v→Path Ns v u
 | step {v u z:Nat}:Path Ns v u→Kid Ns z u→Path Ns v z
theorem Path.trans{Ns:List Node}{a b c:Nat}(h:Path Ns a b)(h2:Path Ns b c):Path Ns a c:=by
 induction h2 with
 | one k=>exact .step h k
 | step _ k ih=>exact .step ih k
def Unbound(T:Nat→Nat):Prop:=∀B,∃d,B≤T d
section
variable {Ns:List Node}(hpr:∀v,v<Ns.length→∃d,1≤nodeT Ns d v)(hkid:∀u v,Kid Ns u v→u<Ns.length)
include hpr hkid
omit hkid in
theorem all_prod:∃D,∀d,D≤d→∀v,v<Ns.length→1≤nodeT Ns d v:=by
 have:∀n,n≤Ns.length→∃D,∀d,D≤d→∀v,v<n→1≤nodeT Ns d v:=by
  intro n
  induction n with
  | zero=>intro _;exact⟨0,fun _ _ v hv=>absurd hv (Nat.not_lt_zero _)⟩
  | succ n ih=>
   intro hn;obtain⟨D,hD⟩:=ih zo;obtain⟨e,he⟩:=hpr n zo;refine⟨max D e,fun d hd v hv=>?_⟩;rcases Nat.lt_or_ge v n with h | h
   ·exact hD d zo v h
   ·obtain rfl:v=n:=by omega
    exact Nat.le_trans he (nodeT_le Ns zo v)
 exact this _ (Nat.le_refl _)
omit hpr in
theorem kid_le{D:Nat}(hD:∀d,D≤d→∀v,v<Ns.length→1≤nodeT Ns d v){u v:Nat}(hk:Kid Ns u v){d:Nat}(hd:D≤d):nodeT Ns d u≤nodeT Ns (d+1) v:=by
 obtain⟨x,p,hx,hp,hu⟩:=hk;show _≤nodeT Ns (d+1) v
 conv=>rhs;unfold nodeT
 rw[hx];simp only;refine Nat.le_trans ?_ (Nat.le_trans (sumN_mem (f:=packN (nodeT Ns d)) hp) (Nat.le_add_left _ _));refine prodN_ge (List.mem_map_of_mem hu) ?_;intro y hy;obtain⟨z,hz,rfl⟩:=List.mem_map.1 hy;exact hD d hd z (hkid z v ⟨x,p,hx,hp,hz⟩)
omit hpr in
theorem path_le{D:Nat}(hD:∀d,D≤d→∀v,v<Ns.length→1≤nodeT Ns d v){u v:Nat}(h:Path Ns v u):∃L,1≤L∧∀d,D≤d→nodeT Ns d u≤nodeT Ns (d+L) v:=by
 induction h with
 | one k=>exact⟨1,Nat.le_refl _,fun d hd=>kid_le hkid hD k hd⟩
 | @step u z _ k ih=>
  obtain⟨L,h1,h2⟩:=ih;refine⟨L+1,by omega,fun d hd=>?_⟩;have h3:=kid_le hkid hD k hd;have h4:=h2 (d+1) zo;rw[show d+1+L=d+(L+1) by omega] at h4;exact Nat.le_trans h3 h4
omit hkid in
theorem least_depth{v:Nat}(hv:v<Ns.length):∃m,nodeT Ns m v=0∧1≤nodeT Ns (m+1) v:=by
 obtain⟨d,hd⟩:=hpr v hv
 induction d with
 | zero=>exact absurd hd (by simp[nodeT])
 | succ d ih=>
  by_cases h:1≤nodeT Ns d v
  ·exact ih h
  ·exact⟨d,by omega,hd⟩
omit hpr in
theorem kid_more{D:Nat}(hD:∀d,D≤d→∀v,v<Ns.length→1≤nodeT Ns d v){u v:Nat}(hk:Kid Ns u v){m:Nat}(hm:1≤nodeT Ns (m+1) v)(hu0:nodeT Ns m u=0){d:Nat}(hd:D≤d)(hdm:m≤d) :
  nodeT Ns d u+1≤nodeT Ns (d+1) v:=by
 obtain⟨x,p,hx,hp,hu⟩:=hk;have hm':=hm;unfold nodeT at hm';rw[hx] at hm';simp only at hm';have hnext:nodeT Ns (d+1) v=leafN x+(x.packs.map (packN (nodeT Ns d))).sum:=by
  show nodeT Ns (d+1) v=_
  conv=>lhs;unfold nodeT
  rw[hx]
 rw[hnext];obtain⟨l1,l2,hl⟩:=List.append_of_mem hp;have hp0:packN (nodeT Ns m) p=0:=prodN_zero (by rw[←hu0];exact List.mem_map_of_mem hu);have hpd:nodeT Ns d u≤packN (nodeT Ns d) p:=by
  refine prodN_ge (List.mem_map_of_mem hu) ?_;intro y hy;obtain⟨z,hz,rfl⟩:=List.mem_map.1 hy;exact hD d hd z (hkid z v ⟨x,p,hx,hp,hz⟩)
 have mono:∀l:List NPack,(l.map (packN (nodeT Ns m))).sum≤(l.map (packN (nodeT Ns d))).sum:=fun l=>sumN_le l fun q _=>prodN_le _ fun z _=>nodeT_le Ns hdm z;have m1:=mono l1;have m2:=mono l2;rw[hl] at hm' ⊢;simp only[List.map_append,List.map_cons,List.sum_append,List.sum_cons] at hm' ⊢;omega
theorem cycle_unbound{u:Nat}(h:Path Ns u u):∃z,Path Ns u z∧(Unbound fun d=>nodeT Ns d z):=by
 obtain⟨D,hD⟩:=all_prod hpr;have main:∀{a b:Nat},Path Ns a b→∀ma mb,nodeT Ns ma a=0→1≤nodeT Ns (ma+1) a→nodeT Ns mb b=0→1≤nodeT Ns (mb+1) b→ma≤mb→
   ∃v z m,(a=v∨Path Ns a v)∧Kid Ns z v∧(z=b∨Path Ns z b)∧1≤nodeT Ns (m+1) v∧nodeT Ns m z=0:=by
  intro a b hab
  induction hab with
  | @one b k=>
   intro ma mb h1 h2 h3 h4 h5;exact⟨a,b,ma,.inl rfl,k,.inl rfl,h2,by have:=nodeT_le Ns h5 b;omega⟩
  | @step c b hac k ih=>
   intro ma mb h1 h2 h3 h4 h5;have hcl:c<Ns.length:=by cases hac with
    | one k=>exact hkid _ _ k
    | step _ k=>exact hkid _ _ k
   obtain⟨mc,g1,g2⟩:=least_depth hpr hcl;by_cases hmc:ma≤mc
   ·obtain⟨v,z,m,q1,q2,q3,q4,q5⟩:=ih ma mc h1 h2 g1 g2 hmc;refine⟨v,z,m,q1,q2,.inr ?_,q4,q5⟩;rcases q3 with rfl | q3
    ·exact .one k
    ·exact .step q3 k
   ·exact⟨c,b,mc,.inr hac,k,.inl rfl,g2,by have:=nodeT_le Ns (show mc≤mb by omega) b;omega⟩
 have hul:u<Ns.length:=by cases h with
  | one k=>exact hkid _ _ k
  | step _ k=>exact hkid _ _ k
 obtain⟨mu,g1,g2⟩:=least_depth hpr hul;obtain⟨v,z,m,q1,q2,q3,q4,q5⟩:=main h mu mu g1 g2 g1 g2 (Nat.le_refl _);have hzv:z=v∨Path Ns z v:=by
  rcases q3 with rfl | q3
  ·rcases q1 with rfl | q1
   ·exact .inl rfl
   ·exact .inr q1
  ·rcases q1 with rfl | q1
   ·exact .inr q3
   ·exact .inr (q3.trans q1)
 obtain⟨L,hL⟩:∃L,∀d,D≤d→nodeT Ns d v≤nodeT Ns (d+L) z:=by
  rcases hzv with rfl | hzv
  ·exact⟨0,fun d _=>Nat.le_refl _⟩
  ·obtain⟨L,_,h2⟩:=path_le hkid hD hzv;exact⟨L,h2⟩
 refine⟨z,?_,fun B=>?_⟩
 ·rcases q1 with rfl | q1
  ·exact .one q2
  ·exact .step q1 q2
 ·have:∃d,D≤d∧m≤d∧B≤nodeT Ns d z:=by
   induction B with
   | zero=>exact⟨max D m,by omega,by omega,Nat.zero_le _⟩
   | succ B ih=>
    obtain⟨d,h1,h2,h3⟩:=ih;refine⟨d+1+L,by omega,by omega,?_⟩;have h4:=kid_more hkid hD q2 q4 q5 h1 h2;have h5:=hL (d+1) zo;omega
  obtain⟨d,_,_,h⟩:=this;exact⟨d,h⟩
theorem path_unbound{v u:Nat}(h:Path Ns v u)(hu:Unbound fun d=>nodeT Ns d u):Unbound fun d=>nodeT Ns d v:=by
 obtain⟨D,hD⟩:=all_prod hpr;obtain⟨L,_,hL⟩:=path_le hkid hD h;intro B;obtain⟨d,hd⟩:=hu B;refine⟨max d D+L,?_⟩;have h1:=hL (max d D) zo;have h2:=nodeT_le Ns (show d≤max d D by omega) u;dsimp only at hd ⊢;omega
end
def MAXC:Nat:=1000000000
def CountVal(T:Nat→Nat)(c:Int):Prop:=(∃n,Still T n∧c=(min n MAXC:Nat))∨(Unbound T∧c=-1)
theorem min_mul(a b:Nat):min (min a MAXC*min b MAXC) MAXC=min (a*b) MAXC:=by
 rcases Nat.eq_zero_or_pos a with rfl | ha
 ·simp
 rcases Nat.eq_zero_or_pos b with rfl | hb
 ·simp
 have h1:MAXC=1000000000:=rfl;by_cases h:a≤MAXC
 ·by_cases h2:b≤MAXC
  ·rw[Nat.min_eq_left h,Nat.min_eq_left h2]
  ·have h3:MAXC≤a*b:=Nat.le_trans zo (Nat.le_mul_of_pos_left b ha);have h4:MAXC≤min a MAXC*min b MAXC:=by
    rw[Nat.min_eq_left h,Nat.min_eq_right zo];exact Nat.le_mul_of_pos_left _ ha
   rw[Nat.min_eq_right h3,Nat.min_eq_right h4]
 ·have h3:MAXC≤a*b:=Nat.le_trans zo (Nat.le_mul_of_pos_right a hb);have h4:MAXC≤min a MAXC*min b MAXC:=by
   rw[Nat.min_eq_right (by omega:MAXC≤a)];exact Nat.le_mul_of_pos_right _ zo
  rw[Nat.min_eq_right h3,Nat.min_eq_right h4]
theorem min_add(a b:Nat):min (min a MAXC+min b MAXC) MAXC=min (a+b) MAXC:=by omega
abbrev ci(x:Nat):Value:=.int .i64 (x:Int)
structure CntC(F:Frz)(i1 i2 i3 i4 is ic cap:Nat)(na:Option Addr)(nn nc:Nat)(root:Int):Prop where
 st:F i1=some (.cells false [.slice (some ⟨is,0,none⟩) nn cap])
 f:F i2=some (.cells false [.slice na nn nc,.int .i64 root])
 ct:F i3=some (.cells false [.slice (some ⟨ic,0,none⟩) nn cap])
 self:F i4=some (.cells false [.func (.func 63) ⟨[]⟩ ⟨[.pointer (some ⟨i1,0,none⟩),.pointer (some ⟨i2,0,none⟩),.pointer (some ⟨i3,0,none⟩),.pointer (some ⟨i4,0,none⟩)]⟩])
theorem CntC.mono{F G:Frz}{i1 i2 i3 i4 is ic cap:Nat}{na:Option Addr}{nn nc:Nat}{root:Int}(h:CntC F i1 i2 i3 i4 is ic cap na nn nc root)(hF:Frz.le F G):CntC G i1 i2 i3 i4 is ic cap na nn nc root:=
 ⟨hF _ _ h.st,hF _ _ h.f,hF _ _ h.ct,hF _ _ h.self⟩
structure CInv(Ns:List Node)(st ct:List Nat):Prop where
 l1:st.length=Ns.length
 l2:ct.length=Ns.length
 zero:∀u:Nat,st[u]?=some 0→ct[u]?=some 0
 done:∀u:Nat,st[u]?=some 2→∃c,Still (fun d=>nodeT Ns d u) c∧ct[u]?=some (min c MAXC)
 vals:∀(u x:Nat),st[u]?=some x→x≤2
 bnd:∀(u x:Nat),ct[u]?=some x→x≤MAXC
structure Visited(Ns:List Node)(st ct st' ct':List Nat)(v:Nat):Prop where
 inv:CInv Ns st' ct'
 at_:st'[v]?=some 2
 old:∀(u x:Nat),st[u]?=some x→x≠0→st'[u]?=some x∧ct'[u]?=ct[u]?
 new:∀u:Nat,st'[u]?=some 1→st[u]?=some 1
 fewer:st'.count 0≤st.count 0
def CntB(is ic:Nat)(st ct:List Nat):List (Nat×Blk):=[(is,.cells false (st.map ci)),(ic,.cells false (ct.map ci))]
structure FOk(Ns:List Node):Prop where
 few:Ns.length≤1000000
 packs:∀x∈Ns,x.packs.length≤1000000
 kid:∀u v,Kid Ns u v→u<Ns.length
structure VLoop(Ns:List Node)(st ct:List Nat)(v:Nat)(s c:List Nat)(val:Nat):Prop where
 inv:CInv Ns s c
 at_:s[v]?=some 1
 old:∀(u y:Nat),st[u]?=some y→y≠0→s[u]?=some y∧c[u]?=ct[u]?
 new:∀u:Nat,s[u]?=some 1→u=v∨st[u]?=some 1
 fewer:s.count 0<st.count 0
 val:c[v]?=some (min val MAXC)
theorem VLoop.visit{Ns:List Node}{st ct:List Nat}{v:Nat}{s c s' c':List Nat}{val u:Nat}(h:VLoop Ns st ct v s c val)(hv:Visited Ns s c s' c' u):VLoop Ns st ct v s' c' val where
 inv:=hv.inv
 at_:=(hv.old v 1 h.at_ (by decide)).1
 old:=fun u y h1 h2=>by
  obtain⟨h3,h4⟩:=h.old u y h1 h2;obtain⟨h5,h6⟩:=hv.old u y h3 h2;exact⟨h5,h6.trans h4⟩
 new:=fun u h1=>h.new u (hv.new u h1)
 fewer:=Nat.lt_of_le_of_lt hv.fewer h.fewer
 val:=by rw[(hv.old v 1 h.at_ (by decide)).2];exact h.val
noncomputable def limT(Ns:List Node)(u:Nat):Nat:=limN fun d=>nodeT Ns d u
theorem CInv.lim{Ns:List Node}{s c:List Nat}(h:CInv Ns s c){u:Nat}(hu:s[u]?=some 2):Still (fun d=>nodeT Ns d u) (limT Ns u)∧c[u]?=some (min (limT Ns u) MAXC):=by
 obtain⟨x,h1,h2⟩:=h.done u hu;have h3:=h1.lim;have e:limN (fun d=>nodeT Ns d u)=x:=h3.uniq h1;unfold limT;rw[e];exact⟨h1,h2⟩
theorem VLoop.start{Ns:List Node}{st ct:List Nat}{v:Nat}(hI:CInv Ns st ct)(hv:v<Ns.length)(hx:st[v]?=some 0)(hst1:(st.set v 1).count 0<st.count 0)(x:Nat)(hx1:x≤1):VLoop Ns st ct v (st.set v 1) (ct.set v x) x where
 inv:=by
  have l1:=hI.l1;have l2:=hI.l2;refine⟨by simp[hI.l1],by simp[hI.l2],fun u hu=>?_,fun u hu=>?_,fun u y hu=>?_,fun u y hu=>?_⟩
  ·by_cases e:u=v
   ·subst e;rw[List.getElem?_set_self zo] at hu;cases hu
   ·rw[List.getElem?_set_ne (Ne.symm e)] at hu ⊢;exact hI.zero u hu
  ·by_cases e:u=v
   ·subst e;rw[List.getElem?_set_self zo] at hu;cases hu
   ·rw[List.getElem?_set_ne (Ne.symm e)] at hu ⊢;exact hI.done u hu
  ·by_cases e:u=v
   ·subst e;rw[List.getElem?_set_self zo] at hu;cases hu;decide
   ·rw[List.getElem?_set_ne (Ne.symm e)] at hu;exact hI.vals u y hu
  ·by_cases e:u=v
   ·subst e;rw[List.getElem?_set_self zo] at hu;cases hu;exact Nat.le_trans hx1 (by decide)
   ·rw[List.getElem?_set_ne (Ne.symm e)] at hu;exact hI.bnd u y hu
 at_:=by rw[List.getElem?_set_self (by rw[hI.l1];exact hv)]
 old:=fun u y h1 h2=>by
  have e:u≠v:=by rintro rfl;rw[hx] at h1;exact h2 (Option.some.inj h1).symm
  rw[List.getElem?_set_ne (Ne.symm e),List.getElem?_set_ne (Ne.symm e)];exact⟨h1,rfl⟩
 new:=fun u h1=>by
  by_cases e:u=v
  ·exact .inl e
  ·rw[List.getElem?_set_ne (Ne.symm e)] at h1;exact .inr h1
 fewer:=hst1
 val:=by
  rw[List.getElem?_set_self (by rw[hI.l2];exact hv)];rw[Nat.min_eq_left (Nat.le_trans hx1 (by decide))]
theorem VLoop.bump{Ns:List Node}{st ct:List Nat}{v:Nat}{s c:List Nat}{val:Nat}(h:VLoop Ns st ct v s c val)(hx:st[v]?=some 0)(x:Nat):VLoop Ns st ct v s (c.set v (min (min val MAXC+min x MAXC) MAXC)) (val+x) where
 inv:=by
  have l2:=h.inv.l2;have hv:v<c.length:=(gS h.val).1;refine⟨h.inv.l1,by simp[l2],fun u hu=>?_,fun u hu=>?_,h.inv.vals,fun u y hu=>?_⟩
  ·have e:u≠v:=by rintro rfl;rw[h.at_] at hu;cases hu
   rw[List.getElem?_set_ne (Ne.symm e)];exact h.inv.zero u hu
  ·have e:u≠v:=by rintro rfl;rw[h.at_] at hu;cases hu
   rw[List.getElem?_set_ne (Ne.symm e)];exact h.inv.done u hu
  ·by_cases e:u=v
   ·subst e;rw[List.getElem?_set_self hv] at hu;cases hu;exact Nat.min_le_right _ _
   ·rw[List.getElem?_set_ne (Ne.symm e)] at hu;exact h.inv.bnd u y hu
 at_:=h.at_
 old:=fun u y h1 h2=>by
  have e:u≠v:=by rintro rfl;rw[hx] at h1;exact h2 (Option.some.inj h1).symm
  rw[List.getElem?_set_ne (Ne.symm e)];exact h.old u y h1 h2
 new:=h.new
 fewer:=h.fewer
 val:=by rw[List.getElem?_set_self (gS h.val).1,min_add]
theorem VLoop.finish{Ns:List Node}{st ct:List Nat}{v:Nat}{s c:List Nat}{val:Nat}(h:VLoop Ns st ct v s c val)(hx:st[v]?=some 0)(hs:Still (fun d=>nodeT Ns d v) val):Visited Ns st ct (s.set v 2) c v:=by
 have hv:v<s.length:=(gS h.at_).1;refine⟨⟨by simp[h.inv.l1],h.inv.l2,fun u hu=>?_,fun u hu=>?_,fun u y hu=>?_,h.inv.bnd⟩,by rw[List.getElem?_set_self hv],fun u y h1 h2=>?_,fun u h1=>?_,?_⟩
 ·by_cases e:u=v
  ·subst e;rw[List.getElem?_set_self hv] at hu;cases hu
  ·rw[List.getElem?_set_ne (Ne.symm e)] at hu;exact h.inv.zero u hu
 ·by_cases e:u=v
  ·subst e;exact⟨val,hs,h.val⟩
  ·rw[List.getElem?_set_ne (Ne.symm e)] at hu;exact h.inv.done u hu
 ·by_cases e:u=v
  ·subst e;rw[List.getElem?_set_self hv] at hu;cases hu;decide
  ·rw[List.getElem?_set_ne (Ne.symm e)] at hu;exact h.inv.vals u y hu
 ·have e:u≠v:=by rintro rfl;rw[hx] at h1;exact h2 (Option.some.inj h1).symm
  rw[List.getElem?_set_ne (Ne.symm e)];exact h.old u y h1 h2
 ·by_cases e:u=v
  ·subst e;rw[List.getElem?_set_self hv] at h1;cases h1
  ·rw[List.getElem?_set_ne (Ne.symm e)] at h1;rcases h.new u h1 with h3 | h3
   ·exact absurd h3 e
   ·exact h3
 ·have:=List.count_set (a:=2) (b:=0) hv;have h5:s[v]=1:=by have:=h.at_;rw[gE hv] at this;exact Option.some.inj this
  rw[this,h5];simp;exact Nat.le_of_lt h.fewer
structure VSt where
 st:List Nat
 ct:List Nat
 x:Nat
theorem ci_at{l:List Nat}{v x:Nat}(h:l[v]?=some x):(l.map ci)[0+v*1]?=some (ci x):=by
 rw[Nat.zero_add,Nat.mul_one,List.getElem?_map,h];rfl
theorem ci_set(l:List Nat)(v x:Nat):(l.map ci).set (0+v*1) (ci x)=(l.set v x).map ci:=by
 rw[Nat.zero_add,Nat.mul_one,List.map_set]
theorem visit_spec{i1 i2 i3 i4 is ic cap:Nat}{na:Option Addr}{nn nc:Nat}{root:Int}{Ns:List Node}(hok:FOk Ns) :
  ∀(N:Nat) (F:Frz) (hC:CntC F i1 i2 i3 i4 is ic cap na nn nc root) (hN:Arr tNode F na nn nc Ns) (st ct:List Nat) (hI:CInv Ns st ct) (hz:st.count 0<N) (v:Nat) (hv:v<Ns.length) (hpre:∀u:Nat,st[u]?=some 1→Path Ns u v),
  Abs.Spec CC 63 [.int .i64 v,.pointer (some ⟨i1,0,none⟩),.pointer (some ⟨i2,0,none⟩),.pointer (some ⟨i3,0,none⟩),.pointer (some ⟨i4,0,none⟩)] F [CntB is ic st ct]
   fun F' r o=>∃B',o=[B']∧∃st' ct' b,B'=CntB is ic st' ct'∧r=.bool b∧(b=true→Visited Ns st ct st' ct' v)∧(b=false→∃u,(u=v∨Path Ns v u)∧Path Ns u u)
 | 0,F,hC,hN,st,ct,hI,hz,v,hv,hpre=>absurd hz (Nat.not_lt_zero _)
 | N+1,F,hC,hN,st,ct,hI,hz,v,hv,hpre=>by
  obtain⟨h1,h2,h3,h4⟩:=id hC;have hNl:=hN.len;have hfew:=hok.few;unfold CntB;obtain⟨x,hx⟩:∃x,st[v]?=some x:=⟨_,gE (by rw[hI.l1];exact hv)⟩;have hx2:=hI.vals v x hx;refine Abs.Spec.fn (n:=77) Tryd.func63 rfl rfl fun own=>?_;refine zB4 ?_;refine WT.idxA (j:=v) (s:=1) hT Z Z Z Z Z Z Z Z Z zo ?_;refine WT.loadAt hT 0 Z Z Z Z Z Z me Z Z (ci_at hx) ?_;refine zB4 ?_;refine AW.cond Z (fun h=>?_) (fun h=>?_)
  ·have h:0<x:=by simp at h;omega
   refine zB4 ?_;refine WT.idxA (j:=v) (s:=1) hT Z Z Z Z Z Z Z Z Z zo ?_;refine WT.loadAt hT 0 Z Z Z Z Z Z me Z Z (ci_at hx) ?_;refine zB4 ?_;refine AW.ret ⟨_,[_],⟨_,_,rfl,rfl,rfl⟩,zsb,_,rfl,st,ct,_,rfl,rfl,fun hb=>?_,fun hb=>?_⟩
   ·have hb:x=2:=by simp at hb;omega
    subst hb;exact⟨hI,hx,fun u y h1 _=>⟨h1,rfl⟩,fun u h=>h,Nat.le_refl _⟩
   ·have hb:x=1:=by simp at hb;omega
    subst hb;exact⟨v,.inl rfl,hpre v hx⟩
  ·have h:x=0:=by simp at h;omega
   subst h;have hvl:v<st.length:=by rw[hI.l1];exact hv
   have hvl2:v<ct.length:=by rw[hI.l2];exact hv
   have hst1:(st.set v 1).count 0<st.count 0:=by
    have:=List.count_set (a:=1) (b:=0) hvl;have h5:st[v]=0:=by rw[gE hvl] at hx;exact Option.some.inj hx
    have h6:0<st.count 0:=List.count_pos_iff.2 (gM hx);rw[this,h5];simp;omega
   obtain⟨nd,hnd⟩:∃nd,Ns[v]?=some nd:=⟨_,gE hv⟩;have hndp:=hok.packs nd (gM hnd);refine zB4 ?_;refine WT.idxA (j:=v) (s:=1) hT Z Z Z Z Z Z Z Z Z zo ?_;refine WT.storeAt hT 0 0 Z Z Z Z Z Z Z Z Z Z (by simp;omega) Z Z ?_;rw[show (st.map ci).set (0+v*1) (.int .i64 1)=(st.set v 1).map ci from ci_set st v 1];refine zB4 ?_;refine WT.idxL hT hN Z Z Z Z Z Z Z Z Z zo (fun nd' hnd' b5 off5 ro5 cs5 lx5 hb5 hp5 hrel5=>?_);obtain rfl:nd'=nd:=by rw[hnd] at hnd';exact(Option.some.inj hnd').symm
   obtain⟨pa,pn,pc,rfl,hpa⟩:=hrel5;have hpal:=hpa.len;refine zB4 ?_;refine WT.allocT hT Z Z Z Z Z Z (fun i7 hi7=>?_);refine zB4 ?_;refine AW.jnT (S:=Unit) (fun _=>[]) (fun _=>[(i7,.cells false [.bool nd'.key.sym.term,.int .i64 nd'.key.sym.n,.int .i64 nd'.key.frm,.int .i64 nd'.key.to,.slice pa pn pc])]::CntB is ic (st.set v 1) (ct.set v (leafN nd'))::own) (fun _ _=>True) ?_ (fun _ F1 hF1 _=>?_)
   ·refine AW.cond Z (fun h=>?_) (fun h=>?_)
    ·have hle:leafN nd'=1:=by unfold leafN;rw[if_pos h]
     refine zB4 ?_;refine WT.idxA (j:=v) (s:=1) hT Z Z Z Z Z Z Z Z Z zo ?_;refine WT.storeAt hT 1 1 Z Z Z Z Z Z Z Z Z Z (by simp;omega) Z Z ?_;refine zB4 ?_;refine⟨(),sM,?_,trivial⟩;rw[hle];unfold CntB;rw[←show (ct.map ci).set (0+v*1) (.int .i64 1)=(ct.set v 1).map ci from ci_set ct v 1];exact OwnLe.refl _
    ·have hle:leafN nd'=0:=by unfold leafN;rw[if_neg (by simpa using h)]
     refine zB4 ?_;refine⟨(),sM,?_,trivial⟩;have h0:ct.set v 0=ct:=by
      apply List.ext_getElem?;intro j;by_cases hj:j=v
      ·subst hj;rw[List.getElem?_set_self hvl2,hI.zero _ hx]
      ·rw[List.getElem?_set_ne (Ne.symm hj)]
     rw[hle,h0];exact OwnLe.refl _
   ·have hC1:=hC.mono hF1;have hN1:=hN.mono hF1;have hpa1:=hpa.mono hF1;refine zB4 ?_;refine AW.range (S:=VSt) (fun _=>[]) (fun z=>[(i7,.cells false [.bool nd'.key.sym.term,.int .i64 nd'.key.sym.n,.int .i64 nd'.key.frm,.int .i64 nd'.key.to,.slice pa pn pc])]::CntB is ic z.st z.ct::own)
     (fun j z G=>VLoop Ns st ct v z.st z.ct (leafN nd'+((nd'.packs.take j).map (packN (limT Ns))).sum)∧∀p∈nd'.packs.take j,∀u∈p.kids,z.st[u]?=some 2) pn ⟨st.set v 1,ct.set v (leafN nd'),0⟩
     Z Z Z Z Z Z Z Z Z zo rfl rfl (fun _=>rfl) (fun _=>rfl) sM oR ⟨by simpa using VLoop.start hI hv hx hst1 (leafN nd') (by unfold leafN;split<;>omega),by simp⟩ ?_ ?_
    ·intro j z F2 hF2 hj hz2;obtain⟨hz2,hz3⟩:=hz2;have hC2:=hC1.mono hF2;have hN2:=hN1.mono hF2;have hpa2:=hpa1.mono hF2;refine zB4 ?_;refine WT.idxL hT hpa2 Z Z Z Z Z Z Z Z Z zo (fun p hpj b6 off6 ro6 cs6 lx6 hb6 hp6 hrel6=>?_);obtain⟨ka,kn,kc,rfl,hka,hkb⟩:=hrel6;have hkal:=hka.len;have hpm:=gM hpj;refine zB4 ?_;refine WT.allocT hT Z Z Z Z Z Z (fun i9 hi9=>?_);refine zB4 ?_
     refine AW.range (S:=VSt) (fun z=>[(10,.int .i64 (z.x:Nat))]) (fun z=>[(i9,.cells false [.int .i64 p.rule,.slice ka kn kc])]::[(i7,.cells false [.bool nd'.key.sym.term,.int .i64 nd'.key.sym.n,.int .i64 nd'.key.frm,.int .i64 nd'.key.to,.slice pa pn pc])]::CntB is ic z.st z.ct::own)
      (fun q z G=>VLoop Ns st ct v z.st z.ct (leafN nd'+((nd'.packs.take j).map (packN (limT Ns))).sum)∧(∀p∈nd'.packs.take j,∀u∈p.kids,z.st[u]?=some 2)∧(∀u∈p.kids.take q,z.st[u]?=some 2)∧z.x=min (prodN ((p.kids.take q).map (limT Ns))) MAXC) kn ⟨z.st,z.ct,1⟩
      Z Z Z Z Z Z Z Z Z zo rfl rfl (fun _=>rfl) (fun _=>rfl) sM oR ⟨hz2,hz3,by simp,by simp[prodN];decide⟩ ?_ ?_
     ·intro q y F3 hF3 hq hy;obtain⟨hy2,hy3,hy4,hy5⟩:=hy;obtain⟨g1,g2,g3,g4⟩:=id (hC2.mono hF3);have hN3:=hN2.mono hF3;have hka3:=hka.mono hF3;refine zB4 ?_;refine WT.idxL hT hka3 Z Z Z Z Z Z Z Z Z zo (fun u huq b8 off8 ro8 cs8 lx8 hb8 hp8 hrel8=>?_);obtain rfl:lx8=_:=hrel8;have hkid:Kid Ns u v:=⟨nd',p,hnd,hpm,gM huq⟩;refine zB4 ?_;refine WT.callC1F 2 Tryd.func63 Z Z Z Z Z Z Z Z Z (fun _=>rfl) (visit_spec hok N F3 (hC2.mono hF3) hN3 y.st y.ct hy2.inv (by have:=hy2.fewer;omega) u (hok.kid u v hkid) (fun u' hu'=>?_)) (fun F4 r B4 hF4 hr=>?_)
      ·rcases hy2.new u' hu' with rfl | h5
       ·exact .one hkid
       ·exact .step (hpre u' h5) hkid
      ·obtain⟨st',ct',bb,rfl,rfl,hbt,hbf⟩:=hr;cases bb with
       | false=>
        refine zB4 ?_;refine AW.cond Z (fun _=>?_) (fun e=>(by cases e));refine zB4 ?_;refine AW.ret ⟨_,[_],⟨_,_,rfl,rfl,rfl⟩,zsb,_,rfl,st',ct',false,rfl,rfl,fun e=>(by cases e),fun _=>?_⟩;obtain⟨x1,hx1,hx2⟩:=hbf rfl;refine⟨x1,.inr ?_,hx2⟩;rcases hx1 with rfl | hx1
        ·exact .one hkid
        ·exact Path.trans (.one hkid) hx1
       | true=>
        have hV:=hbt rfl;obtain⟨hs1,hs2⟩:=hV.inv.lim hV.at_;have hy6:=hy2.visit hV;have hul:u<Ns.length:=hok.kid u v hkid;have hyx:y.x≤MAXC:=by rw[hy5];exact Nat.min_le_right _ _
        have hMC:MAXC=1000000000:=rfl;have hml:min (limT Ns u) MAXC≤MAXC:=Nat.min_le_right _ _;have hmm:y.x*min (limT Ns u) MAXC≤1000000000*1000000000:=Nat.mul_le_mul zo zo;unfold CntB;have g3:=hF4 _ _ g3;refine zB4 ?_;refine AW.cond Z (fun e=>(by cases e)) (fun _=>?_);refine zB4 ?_;refine WT.idxA (j:=u) (s:=1) hT Z Z Z Z Z Z Z Z Z zo ?_;refine WT.loadAt hT 2 Z Z Z Z Z Z (List.mem_cons_of_mem _ me) Z Z (ci_at hs2) ?_;refine WT.mulT Z Z Z Z Z Z zo ?_;refine WT.know (v':=.int .i64 ((y.x*min (limT Ns u) MAXC:Nat):Int)) 60 Z (by congr 1) ?_
        refine WT.minT (x:=y.x*min (limT Ns u) MAXC) (y:=MAXC) Z Z Z Z Z Z ?_;refine zB4 ?_;refine⟨⟨st',ct',min (y.x*min (limT Ns u) MAXC) MAXC⟩,sM,OwnLe.refl _,hy6,fun p' hp' u' hu'=>(hV.old u' 2 (hy3 p' hp' u' hu') (by decide)).1,fun u' hu'=>?_,?_⟩
        ·rw[List.take_add_one,huq] at hu';rcases List.mem_append.1 hu' with hu' | hu'
         ·exact(hV.old u' 2 (hy4 u' hu') (by decide)).1
         ·obtain rfl:=List.mem_singleton.1 hu';exact hV.at_
        ·dsimp only;rw[List.take_add_one,huq,List.map_append,prodN_app,hy5,min_mul];simp[prodN]
     ·intro y F3 hF3 hy;obtain⟨hy2,hy3,hy4,hy5⟩:=hy;rw[List.take_of_length_le zo] at hy4 hy5;obtain⟨g1,g2,g3,g4⟩:=id (hC2.mono hF3);have hMC:MAXC=1000000000:=rfl;have hyx:y.x≤MAXC:=by rw[hy5];exact Nat.min_le_right _ _
      have hvl:min (leafN nd'+((nd'.packs.take j).map (packN (limT Ns))).sum) MAXC≤MAXC:=Nat.min_le_right _ _;have hyl:=hy2.inv.l2;unfold CntB;refine zB4 ?_;refine WT.idxA (j:=v) (s:=1) hT Z Z Z Z Z Z Z Z Z zo ?_;refine WT.loadAt hT 2 Z Z Z Z Z Z (List.mem_cons_of_mem _ me) Z Z (ci_at hy2.val) ?_;refine zB4 ?_;obtain⟨vv,hvv⟩:∃vv,min (leafN nd'+((nd'.packs.take j).map (packN (limT Ns))).sum) MAXC=vv:=⟨_,rfl⟩;rw[hvv];refine WT.know (v':=.int .i64 ((vv+y.x:Nat):Int)) 70 Z (by congr 1) ?_;refine WT.minT (x:=vv+y.x) (y:=MAXC) Z Z Z Z Z Z ?_;refine WT.idxA (j:=v) (s:=1) hT Z Z Z Z Z Z Z Z Z zo ?_
      refine WT.storeAt hT 2 1 Z Z Z Z Z Z Z Z Z Z (by simp;omega) Z Z ?_;rw[show (y.ct.map ci).set (0+v*1) (.int .i64 ((Nat.min (vv+y.x) MAXC:Nat):Int))=(y.ct.set v (min (vv+y.x) MAXC)).map ci from ci_set y.ct v _];refine zB4 ?_;refine⟨⟨y.st,y.ct.set v (min (vv+y.x) MAXC),0⟩,sM,OwnLe.skip _ oR,?_,fun p' hp' u' hu'=>?_⟩
      ·dsimp only;rw[List.take_add_one,hpj,←hvv,hy5,List.map_append,List.sum_append,←Nat.add_assoc];have:=hy2.bump hx (packN (limT Ns) p);simpa [packN] using this
      ·rw[List.take_add_one,hpj] at hp';rcases List.mem_append.1 hp' with hp' | hp'
       ·exact hy3 p' hp' u' hu'
       ·obtain rfl:=List.mem_singleton.1 hp';exact hy4 u' hu'
    ·intro z F2 hF2 hz2;obtain⟨hz2,hz3⟩:=hz2;rw[List.take_of_length_le zo] at hz2 hz3;obtain⟨g1,g2,g3,g4⟩:=id (hC1.mono hF2);have hzl:=hz2.inv.l1;unfold CntB;refine zB4 ?_;refine WT.idxA (j:=v) (s:=1) hT Z Z Z Z Z Z Z Z Z zo ?_;refine WT.storeAt hT 1 0 Z Z Z Z Z Z Z Z Z Z (by simp;omega) Z Z ?_;rw[show (z.st.map ci).set (0+v*1) (.int .i64 2)=(z.st.set v 2).map ci from ci_set z.st v 2];refine zB4 ?_;refine AW.ret ⟨_,[_],⟨_,_,rfl,rfl,rfl⟩,zsb,_,rfl,z.st.set v 2,z.ct,true,rfl,rfl,fun _=>?_,fun e=>(by cases e)⟩;refine hz2.finish hx (still_node hnd (limT Ns) fun u hu=>?_);obtain⟨x',p',h5,h6,h7⟩:=hu
     rw[hnd] at h5;obtain rfl:=Option.some.inj h5;exact(hz2.inv.lim (hz3 p' h6 u h7)).1
def Prod(Ns:List Node):Prop:=∀v,v<Ns.length→∃d,1≤nodeT Ns d v
theorem count_spec(F:Frz){Ns:List Node}(hok:FOk Ns)(hpr:Prod Ns){na:Option Addr}{nn nc:Nat}(hN:Arr tNode F na nn nc Ns)(root:Nat)(hroot:root<Ns.length) :
  Abs.Spec CC 38 [.agg ⟨[.slice na nn nc,.int .i64 root]⟩] F [] fun F' r o=>o=[]∧∃c,r=.int .i64 c∧CountVal (fun d=>nodeT Ns d root) c:=by
 have hNl:=hN.len;have hfew:=hok.few;refine Abs.Spec.fn (n:=28) Tryd.func38 rfl rfl fun own=>?_;refine AW.seq (AW.reg ?_);refine WT.boxT Z Z Z Z Z Z (fun i1 hi1=>?_);refine zB4 ?_;refine AW.cond Z (fun h=>(by simp at h;omega)) (fun _=>?_);refine zB4 ?_;refine WT.makeT (l:=nn) hT Z Z Z Z Z Z Z Z Z Z Z Z zom (fun ic hic=>?_);rw[cap_eq];refine WT.allocT hT Z Z Z Z Z Z (fun i3 hi3=>?_);refine zB4 ?_;refine WT.makeT (l:=nn) hT Z Z Z Z Z Z Z Z Z Z Z Z zom (fun is his=>?_);rw[cap_eq];refine WT.allocT hT Z Z Z Z Z Z (fun i4 hi4=>?_);refine zB8 ?_;refine WT.allocT hT Z Z Z Z Z Z (fun i5 hi5=>?_)
 refine zB8 ?_;refine WT.freezeAll 0 Z Z (fun G1 hG1 hB1=>?_);refine WT.freezeAll 1 Z Z (fun G2 hG2 hB2=>?_);refine WT.freezeAll 3 Z Z (fun G3 hG3 hB3=>?_);refine WT.freezeAll 5 Z Z (fun G4 hG4 hB4=>?_);have f5:=hG4 _ _ (hG3 _ _ (hG2 _ _ (hB1 i5 _ me)));have f4:=hG4 _ _ (hG3 _ _ (hB2 i4 _ me));have f3:=hG4 _ _ (hB3 i3 _ me);have f1:=hB4 i1 _ me;have hG:=hG1.trans (hG2.trans (hG3.trans hG4));have e0:CntB is ic (List.replicate nn 0) (List.replicate nn 0)=[(is,.cells false (List.replicate nn (.int .i64 0))),(ic,.cells false (List.replicate nn (.int .i64 0)))]:=by
  unfold CntB;rw[List.map_replicate];rfl
 refine WT.le (own2:=CntB is ic (List.replicate nn 0) (List.replicate nn 0)::own) (by rw[e0];exact OwnLe.flat (List.Perm.refl _)) ?_;have hrep:∀(u x:Nat),(List.replicate nn 0)[u]?=some x→x=0:=fun u x h=>List.eq_of_mem_replicate (gM h);have hI0:CInv Ns (List.replicate nn 0) (List.replicate nn 0):=by
  refine⟨by simp;omega,by simp;omega,fun u h=>h,fun u h=>?_,fun u x h=>?_,fun u x h=>?_⟩
  ·have:=hrep u 2 h;omega
  ·rw[hrep u x h];omega
  ·rw[hrep u x h];exact Nat.zero_le _
 refine WT.callC1F 0 Tryd.func63 Z Z Z Z Z Z Z Z Z (fun _=>rfl) (visit_spec hok _ G4 ⟨f4,f1,f3,f5⟩ (hN.mono hG) _ _ hI0 (Nat.lt_succ_self _) root hroot (fun u h=>by have:=hrep u 1 h;omega)) (fun F4 r B4 hF4 hr=>?_);obtain⟨st',ct',bb,rfl,rfl,hbt,hbf⟩:=hr;have f1:=hF4 _ _ f1;have f3:=hF4 _ _ f3;cases bb with
 | false=>
  refine zB4 ?_;refine AW.cond Z (fun _=>?_) (fun e=>(by cases e));refine zB4 ?_;refine AW.ret ⟨_,[],⟨_,_,rfl,rfl,rfl⟩,zsb,rfl,-1,rfl,.inr ⟨?_,rfl⟩⟩;obtain⟨u,hu1,hu2⟩:=hbf rfl;obtain⟨z,hz1,hz2⟩:=cycle_unbound hpr hok.kid hu2;refine path_unbound hpr hok.kid ?_ hz2;rcases hu1 with rfl | hu1
  ·exact hz1
  ·exact hu1.trans hz1
 | true=>
  have hV:=hbt rfl;obtain⟨hs1,hs2⟩:=hV.inv.lim hV.at_;unfold CntB;refine zB4 ?_;refine AW.cond Z (fun e=>(by cases e)) (fun _=>?_);refine zB4 ?_;refine WT.idxA (j:=root) (s:=1) hT Z Z Z Z Z Z Z Z Z zo ?_;refine WT.loadAt hT 0 Z Z Z Z Z Z (List.mem_cons_of_mem _ me) Z Z (ci_at hs2) ?_;refine zB4 ?_;exact AW.ret ⟨_,[],⟨_,_,rfl,rfl,rfl⟩,zsb,rfl,_,rfl,.inl ⟨_,hs1,rfl⟩⟩
def listT(f:Sym→Nat→Nat→Nat):List Sym→Nat→Nat→Nat
 | [],i,j=>if i=j then 1 else 0
 | s::l,i,j=>((List.range (j+1)).map fun m=>f s i m*listT f l m j).sum
def symT(g:Gram)(w:List Nat):Nat→Sym→Nat→Nat→Nat
 | 0,_,_,_=>0
 | d+1,s,i,j=>if s.term=true then (if w[i]?=some s.n∧j=i+1 then 1 else 0)
   else (g.rules.map fun r=>if r.left=s.n then listT (symT g w d) r.right i j else 0).sum
theorem sum_pos{l:List Nat}(h:1≤l.sum):∃x∈l,1≤x:=by
 induction l with
 | nil=>simp at h
 | cons a l ih=>
  by_cases ha:1≤a
  ·exact⟨a,List.mem_cons_self ..,ha⟩
  ·rw[List.sum_cons] at h;obtain⟨x,hx,h2⟩:=ih zo;exact⟨x,List.mem_cons_of_mem _ hx,h2⟩
theorem listT_pos{g:Gram}{w:List Nat}{f:Sym→Nat→Nat→Nat}(hf:∀s i j,1≤f s i j→Der g w s i j):∀{l:List Sym} {i j:Nat},1≤listT f l i j→Ders g w l i j
 | [],i,j,h=>by
  unfold listT at h;split at h
  ·rename_i e;subst e;exact .nil
  ·omega
 | s::l,i,j,h=>by
  unfold listT at h;obtain⟨x,hx,h2⟩:=sum_pos h;obtain⟨m,_,rfl⟩:=List.mem_map.1 hx;have h3:1≤f s i m:=by
   rcases Nat.eq_zero_or_pos (f s i m) with e | e
   ·rw[e,Nat.zero_mul] at h2;omega
   ·exact e
  have h4:1≤listT f l m j:=by
   rcases Nat.eq_zero_or_pos (listT f l m j) with e | e
   ·rw[e,Nat.mul_zero] at h2;omega
   ·exact e
  exact .cons (hf s i m h3) (listT_pos hf h4)
theorem symT_der{g:Gram}{w:List Nat}:∀{d:Nat} {s:Sym} {i j:Nat},1≤symT g w d s i j→Der g w s i j
 | 0,s,i,j,h=>absurd h (by simp[symT])
 | d+1,s,i,j,h=>by
  obtain⟨st,sn⟩:=s;unfold symT at h;cases st with
  | true=>
   simp only[if_true] at h;split at h
   ·rename_i e;obtain⟨e1,rfl⟩:=e;exact .term e1
   ·omega
  | false=>
   simp only[Bool.false_eq_true,if_false] at h;obtain⟨x,hx,h2⟩:=sum_pos h;obtain⟨r,hr,rfl⟩:=List.mem_map.1 hx;split at h2
   ·rename_i e;subst e;exact .non hr (listT_pos (fun s i j h=>symT_der h) h2)
   ·omega
theorem listT_mono{f h:Sym→Nat→Nat→Nat}(hf:∀s i j,f s i j≤h s i j):∀(l:List Sym) (i j:Nat),listT f l i j≤listT h l i j
 | [],i,j=>Nat.le_refl _
 | s::l,i,j=>sumN_le _ fun m _=>Nat.mul_le_mul (hf s i m) (listT_mono hf l m j)
theorem symT_mono(g:Gram)(w:List Nat):∀(d:Nat) (s:Sym) (i j:Nat),symT g w d s i j≤symT g w (d+1) s i j
 | 0,s,i,j=>Nat.zero_le _
 | d+1,s,i,j=>by
  show symT g w (d+1) s i j≤symT g w (d+1+1) s i j;unfold symT;split
  ·exact Nat.le_refl _
  ·refine sumN_le _ fun r _=>?_;split
   ·exact listT_mono (fun s i j=>symT_mono g w d s i j) _ _ _
   ·exact Nat.le_refl _
theorem symT_le(g:Gram)(w:List Nat){d e:Nat}(h:d≤e)(s:Sym)(i j:Nat):symT g w d s i j≤symT g w e s i j:=by
 induction e with
 | zero => obtain rfl : d = 0 := by omega
           exact Nat.le_refl _
 | succ e ih=>
  rcases Nat.lt_or_ge d (e+1) with h2 | h2
  ·exact Nat.le_trans (ih zo) (symT_mono g w e s i j)
  ·obtain rfl:d=e+1:=by omega
   exact Nat.le_refl _
theorem der_symT{g:Gram}{w:List Nat}{s:Sym}{i j:Nat}(h:Der g w s i j):∃d,1≤symT g w d s i j:=by
 refine Der.rec (motive_1:=fun s i j _=>∃d,1≤symT g w d s i j) (motive_2:=fun l i j _=>∃d,1≤listT (symT g w d) l i j) ?_ ?_ ?_ ?_ h
 ·intro t i h;exact⟨1,by unfold symT;simp[h]⟩
 ·intro r i j hr _ ih;obtain⟨d,hd⟩:=ih;refine⟨d+1,?_⟩;unfold symT;simp only[Bool.false_eq_true,if_false];refine Nat.le_trans ?_ (sumN_mem (f:=fun r':Rule=>if r'.left=r.left then listT (symT g w d) r'.right i j else 0) hr);simpa using hd
 ·intro i;exact⟨0,by simp[listT]⟩
 ·intro s l i m j h1 h2 ih1 ih2;obtain⟨d1,h3⟩:=ih1;obtain⟨d2,h4⟩:=ih2;have hmj:=ders_le h2;refine⟨max d1 d2,?_⟩;unfold listT;refine Nat.le_trans ?_ (sumN_mem (f:=fun m=>symT g w (max d1 d2) s i m*listT (symT g w (max d1 d2)) l m j) (List.mem_range.2 (show m<j+1 by omega)));exact Nat.mul_le_mul (Nat.le_trans h3 (symT_le g w zo s i m)) (Nat.le_trans h4 (listT_mono (fun s i j=>symT_le g w zo s i j) l m j))
theorem sum_flat{α β:Type}(f:α→List β)(h:β→Nat):∀l:List α,((l.flatMap f).map h).sum=(l.map fun a=>((f a).map h).sum).sum
 | []=>rfl
 | a::l=>by rw[List.flatMap_cons,List.map_append,List.sum_append,List.map_cons,List.sum_cons,sum_flat f h l]
theorem splits_sum{w:List Nat}{E:List (List Nat)}{to:Nat}{f:Sym→Nat→Nat→Nat}(hf:∀s i m,stepB w E s i m=false→i≤w.length→m≤to→f s i m=0)(hto:to≤w.length):∀(l:List Sym) (i:Nat),i≤w.length→
  ((splits w E to l i).map fun ks=>prodN (ks.map fun q=>f q.sym q.frm q.to)).sum=listT f l i to
 | [],i,hi=>by
  unfold splits listT;split<;>simp[prodN]
 | s::l,i,hi=>by
  unfold splits listT;rw[sum_flat];congr 1;apply List.map_congr_left;intro m hm;have hm:=List.mem_range.1 hm;split
  ·rw[List.map_map,←splits_sum hf hto l m zo];clear hf;generalize splits w E to l m=L
   induction L with
   | nil=>simp
   | cons a L ih=>
    simp only[List.map_cons,List.sum_cons,Function.comp_apply,prodN,Nat.mul_add];simp only[Function.comp_def] at ih;rw[←ih];simp[Function.comp_def,prodN]
  ·rename_i h;rw[hf s i m (by simpa using h) hi zo];simp
theorem rules_sum{α:Type}(h:α→Nat)(f:Nat→Rule→List α):∀(rs:List Rule) (k:Nat),(((List.range rs.length).flatMap fun i=>match rs[i]? with | some r=>f (k+i) r | none=>[]).map h).sum=(rs.zipIdx k |>.map fun p=>((f p.2 p.1).map h).sum).sum
 | [],k=>by simp
 | r::rs,k=>by
  have ih:=rules_sum h f rs (k+1);rw[List.length_cons,List.range_succ_eq_map,List.flatMap_cons,List.map_append,List.sum_append,List.zipIdx_cons,List.map_cons,List.sum_cons,←ih];simp only[List.getElem?_cons_zero,Nat.add_zero,List.flatMap_map];congr 4;funext i;simp only[List.getElem?_cons_succ,Nat.succ_eq_add_one];rw[show k+(i+1)=k+1+i by omega]
theorem zip_sum{f:Rule→Nat}:∀(rs:List Rule) (k:Nat),(rs.zipIdx k |>.map fun p=>f p.1).sum=(rs.map f).sum
 | [],k=>by simp
 | r::rs,k=>by rw[List.zipIdx_cons,List.map_cons,List.map_cons,List.sum_cons,List.sum_cons,zip_sum rs (k+1)]
def StepK(w:List Nat)(E:List (List Nat))(k:Key):Prop:=stepB w E k.sym k.frm k.to=true
theorem splits_step{w:List Nat}{E:List (List Nat)}{to:Nat}:∀{l:List Sym} {i:Nat} {ks:List Key},ks∈splits w E to l i→∀q∈ks,StepK w E q
 | [],i,ks,h,q,hq=>by
  unfold splits at h;split at h
  ·rw[List.mem_singleton.1 h] at hq;cases hq
  ·cases h
 | s::l,i,ks,h,q,hq=>by
  unfold splits at h;obtain⟨m,_,hm⟩:=List.mem_flatMap.1 h;split at hm
  ·rename_i hs;obtain⟨ks',h2,rfl⟩:=List.mem_map.1 hm;rcases List.mem_cons.1 hq with rfl | hq
   ·exact hs
   ·exact splits_step h2 q hq
  ·cases hm
theorem Reachable.step{g:Gram}{w:List Nat}{E:List (List Nat)}{root k:Key}(h:Reachable g w E root k)(hr:StepK w E root):StepK w E k:=by
 cases h with
 | root=>exact hr
 | kid _ hp hq=>
  obtain⟨r,_,_,_,h3⟩:=mem_packsOf.1 hp;exact splits_step h3 _ hq
theorem step_der{g:Gram}{w:List Nat}{E:List (List Nat)}(hE:EndsOf g w E){s:Sym}{i j:Nat}(hi:i≤w.length):stepB w E s i j=true↔Der g w s i j:=by
 rw[stepB_iff];unfold Step;obtain⟨b,n⟩:=s;cases b with
 | true=>simp only[if_true];rw[der_term]
 | false=>
  simp only[Bool.false_eq_true,if_false];exact hE.iff n i j hi
theorem packs_sum{g:Gram}{w:List Nat}{E:List (List Nat)}{k:Key}(hk:k.sym.term=false){f:Sym→Nat→Nat→Nat}(hf:∀s i m,stepB w E s i m=false→i≤w.length→m≤k.to→f s i m=0)(hi:k.frm≤w.length)(hto:k.to≤w.length) :
  ((packsOf g w E k).map fun p=>prodN (p.kids.map fun q=>f q.sym q.frm q.to)).sum=(g.rules.map fun r=>if r.left=k.sym.n then listT f r.right k.frm k.to else 0).sum:=by
 have e:packsOf g w E k=(List.range g.rules.length).flatMap fun i=>match g.rules[i]? with | some r=>(if r.left=k.sym.n∧k.sym.term=false then (splits w E k.to r.right k.frm).map (KPack.mk (0+i)) else []) | none=>[]:=by
  unfold packsOf;congr 1;funext i;unfold packsAt;rw[Nat.zero_add];cases g.rules[i]?<;>rfl
 rw[e];refine(rules_sum (fun p:KPack=>prodN (p.kids.map fun q=>f q.sym q.frm q.to)) (fun i r=>if r.left=k.sym.n∧k.sym.term=false then (splits w E k.to r.right k.frm).map (KPack.mk i) else []) g.rules 0).trans ?_;rw[←zip_sum g.rules 0];congr 1;apply List.map_congr_left;intro p _;by_cases h:p.1.left=k.sym.n
 ·rw[if_pos ⟨h,hk⟩,if_pos h,←splits_sum hf hto p.1.right k.frm hi,List.map_map];rfl
 ·rw[if_neg (fun h2=>h h2.1),if_neg h];rfl
theorem node_sym{g:Gram}(hg:Valid g){w:List Nat}{E:List (List Nat)}(hE:EndsOf g w E){root:Key}{S:List Key}(hK:Keys g w E root S)(hroot:GoodKey g w root)(hrs:StepK w E root) :
  ∀(d:Nat) (k:Key),k∈S→nodeT (S.map (mkNode g w E S)) d (place S k)=symT g w d k.sym k.frm k.to
 | 0,k,_=>rfl
 | d+1,k,hk=>by
  have hgood:=(hK.reach k hk).good hg hroot;have hstep:=(hK.reach k hk).step hrs;have hat:(S.map (mkNode g w E S))[place S k]?=some (mkNode g w E S k):=by rw[List.getElem?_map,place_at hk];rfl
  have hsum:((mkNode g w E S k).packs.map (packN (nodeT (S.map (mkNode g w E S)) d))).sum=((packsOf g w E k).map fun p=>prodN (p.kids.map fun q=>symT g w d q.sym q.frm q.to)).sum:=by
   unfold mkNode;simp only;rw[List.map_map];congr 1;apply List.map_congr_left;intro p hp;simp only[Function.comp_apply,packN,numPack,List.map_map];congr 1;apply List.map_congr_left;intro q hq;exact node_sym hg hE hK hroot hrs d q (hK.closed k hk p hp q hq)
  rw[nodeT,hat];simp only;rw[hsum,symT];unfold leafN;cases ht:k.sym.term with
  | true=>
   have hno:packsOf g w E k=[]:=by
    rw[List.eq_nil_iff_forall_not_mem];intro p hp;obtain⟨_,_,_,h3,_⟩:=mem_packsOf.1 hp;rw[ht] at h3;cases h3
   have h2:=(stepB_iff.1 hstep);unfold Step at h2;rw[if_pos ht] at h2;rw[hno];simp[mkNode,ht,h2]
  | false=>
   rw[packs_sum ht (fun s i m h1 h2 _=>?_) hgood.2.1 hgood.2.2]
   ·simp[mkNode,ht]
   ·rcases Nat.eq_zero_or_pos (symT g w d s i m) with e | e
    ·exact e
    ·have:=(step_der hE h2).2 (symT_der e);rw[h1] at this;cases this
theorem nodes_prod{g:Gram}(hg:Valid g){w:List Nat}{E:List (List Nat)}(hE:EndsOf g w E){root:Key}{S:List Key}(hK:Keys g w E root S)(hroot:GoodKey g w root)(hrs:StepK w E root):Prod (S.map (mkNode g w E S)):=by
 intro v hv;rw[List.length_map] at hv;obtain⟨k,hk⟩:∃k,S[v]?=some k:=⟨_,gE hv⟩;have hkm:=gM hk;have hgood:=(hK.reach k hkm).good hg hroot;obtain⟨d,hd⟩:=der_symT ((step_der hE hgood.2.1).1 ((hK.reach k hkm).step hrs));refine⟨d,?_⟩;rw[←place_of hK.nodup hk,node_sym hg hE hK hroot hrs d k hkm];exact hd
theorem nodes_ok{g:Gram}(hg:Valid g){w:List Nat}(hw:w.length≤12){E:List (List Nat)}{root:Key}{S:List Key}(hK:Keys g w E root S)(hroot:GoodKey g w root):FOk (S.map (mkNode g w E S)) where
 few:=by
  rw[List.length_map];exact Nat.le_trans (good_few hg zo (fun k hk=>(hK.reach k hk).good hg hroot) hK.nodup) (by decide)
 packs:=fun x hx=>by
  obtain⟨k,hk,rfl⟩:=List.mem_map.1 hx;have hgood:=(hK.reach k hk).good hg hroot;have:=packsOf_len12 hg (E:=E) (w:=w) (show k.to≤12 by have:=hgood.2.2;omega);unfold mkNode;rw[List.length_map];omega
 kid:=fun u v h=>by
  obtain⟨x,p,hx,hp,hu⟩:=h;rw[List.getElem?_map] at hx;cases hk:S[v]? with
  | none=>rw[hk] at hx;cases hx
  | some k=>
   rw[hk] at hx;obtain rfl:=Option.some.inj hx;obtain⟨p',hp',rfl⟩:=List.mem_map.1 hp;obtain⟨q,hq,rfl⟩:=List.mem_map.1 hu;have:=hK.closed k (gM hk) p' hp' q hq;rw[List.length_map];exact List.idxOf_lt_length_of_mem this
theorem packSum_le12{g:Gram}(hg:Valid g){w:List Nat}{E:List (List Nat)}:∀(L:List Key),(∀k∈L,k.to≤12)→packSum g w E L≤L.length*913952
 | [],_=>by simp[packSum]
 | k::L,h=>by
  have h1:=packSum_le12 hg (E:=E) (w:=w) L fun k hk=>h k (List.mem_cons_of_mem _ hk);have h2:=packsOf_len12 hg (E:=E) (w:=w) (h k me);unfold packSum at h1 ⊢;rw[List.map_cons,List.sum_cons,List.length_cons,Nat.add_mul,Nat.one_mul];omega
def rootKey(g:Gram)(w:List Nat):Key:=⟨⟨false,g.start⟩,0,w.length⟩
theorem root_good{g:Gram}(hg:Valid g)(w:List Nat):GoodKey g w (rootKey g w):=⟨by unfold SymOk rootKey;simpa using hg.range.start,Nat.zero_le _,Nat.le_refl _⟩
def ForestV(g:Gram)(w:List Nat)(E:List (List Nat))(F:Frz)(v:Value):Prop:=
 (stepB w E ⟨false,g.start⟩ 0 w.length=false∧v=.agg ⟨[.slice none 0 0,.int .i64 (-1)]⟩)∨
 (stepB w E ⟨false,g.start⟩ 0 w.length=true∧∃S a n c,v=.agg ⟨[.slice a n c,.int .i64 (place S (rootKey g w):Nat)]⟩∧Keys g w E (rootKey g w) S∧Arr tNode F a n c (S.map (mkNode g w E S)))
theorem ForestV.mono{g:Gram}{w:List Nat}{E:List (List Nat)}{F G:Frz}{v:Value}(h:ForestV g w E F v)(hF:Frz.le F G):ForestV g w E G v:=by
 rcases h with h | ⟨h1,S,a,n,c,h2,h3,h4⟩
 ·exact .inl h
 ·exact .inr ⟨h1,S,a,n,c,h2,h3,h4.mono hF⟩
theorem few_packs{g:Gram}(hg:Valid g){w:List Nat}(hw:w.length≤12){E:List (List Nat)}{L:List Key}(hn:L.Nodup)(hr:∀k∈L,Reachable g w E (rootKey g w) k):packSum g w E L≤200000*913952:=by
 have hgood:∀k∈L,GoodKey g w k:=fun k hk=>(hr k hk).good hg (root_good hg w);refine Nat.le_trans (packSum_le12 hg L fun k hk=>by have:=(hgood k hk).2.2;omega) ?_;exact Nat.mul_le_mul_right _ (good_few hg zo hgood hn)
theorem countNone_spec(F:Frz):Abs.Spec CC 38 [.agg ⟨[.slice none 0 0,.int .i64 (-1)]⟩] F [] fun F' r o=>o=[]∧r=.int .i64 0:=by
 refine Abs.Spec.fn (n:=28) Tryd.func38 rfl rfl fun own=>?_;refine AW.seq (AW.reg ?_);refine WT.boxT Z Z Z Z Z Z (fun i1 hi1=>?_);refine zB4 ?_;refine AW.cond Z (fun _=>?_) (fun h=>(by cases h));refine zB4 ?_;exact AW.ret ⟨_,[],⟨_,_,rfl,rfl,rfl⟩,zsb,rfl,rfl⟩
theorem meanOf_spec(F:Frz)(hL:Laid F)(g:Gram)(hg:Valid g){ga:Option Addr}{gm gc:Nat}(hr:Arr tRule F ga gm gc g.rules){b:Option Addr}{n d:Nat}{w:List Nat}(hw:Arr tNat F b n d w)(hw12:w.length≤12) :
  Abs.Spec CC 39 [.agg ⟨gramCells g ga gm gc⟩,.slice b n d] F [] fun F' v o=>o=[]∧∃E,EndsOf g w E∧ForestV g w E F' v:=by
 unfold gramCells;refine Abs.Spec.fn (n:=17) Tryd.func39 rfl rfl fun own=>?_;refine AW.seq (AW.reg ?_);refine WT.boxT Z Z Z Z Z Z (fun i2 hi2=>?_);refine WT.allocT hT Z Z Z Z Z Z (fun i4 hi4=>?_);refine zB4 ?_;refine AW.draw (ps:=[(0,4),(0,9),(2,9)]) Z Z ?_;refine zB4 ?_;refine WT.callF0 Tryd.func49 Z Z Z Z Z Z (ends_spec _ hL g hg hr hw zo) (fun F1 v hF1 hv=>?_);obtain⟨ea,ec,E,rfl,hE,hE2⟩:=hv;have hEl:=hE2.ok.size;refine WT.callF0 Tryd.func64 Z Z Z Z Z Z (build_spec _ (hL.mono hF1) g hg (hr.mono hF1) (hw.mono hF1) hw12 hE hE2.ok 1099511627776 (by decide)) (fun F2 v hF2 hv=>?_)
 have hres:∃x,v=.tuple ⟨[.agg ⟨x⟩,.bool true]⟩∧ForestV g w E F2 (.agg ⟨x⟩)∧∃a n c r,x=[.slice a n c,.int .i64 r]:=by
  rcases hv with ⟨h1,rfl⟩ | ⟨h1,h2⟩
  ·exact⟨_,rfl,.inl ⟨h1,rfl⟩,_,_,_,_,rfl⟩
  ·rcases h2 with ⟨S,a,n,c,rfl,hK,hA,_⟩ | ⟨_,L,h3,h4,h5⟩
   ·exact⟨_,rfl,.inr ⟨h1,S,a,n,c,rfl,hK,hA⟩,_,_,_,_,rfl⟩
   ·have:=few_packs hg hw12 h3 h4;omega
 clear hv;obtain⟨x,rfl,hx,xa,xn,xc,xr,rfl⟩:=hres;refine zB4 ?_;refine WT.allocT hT Z Z Z Z Z Z (fun i5 hi5=>?_);refine zB4 ?_;refine⟨zrC,?_⟩;refine zB4 ?_;exact AW.ret ⟨_,[],⟨_,_,⟨_,rfl,fun G h0 s0=>loadA_cells (s0.has (p:=1) rfl me) (readT_ok hT rfl)⟩,rfl,rfl⟩,zsb,rfl,E,hE2,hx⟩
theorem still_zero{T:Nat→Nat}(h:∀d,T d=0):Still T 0:=⟨0,fun d _=>h d⟩
theorem mcount_spec(F:Frz)(hL:Laid F)(g:Gram)(hg:Valid g){ga:Option Addr}{gm gc:Nat}(hr:Arr tRule F ga gm gc g.rules){b:Option Addr}{n d:Nat}{w:List Nat}(hw:Arr tNat F b n d w)(hw12:w.length≤12)(hw2:∀t∈w,t<g.terms) :
  Abs.Spec CC 13 [.agg ⟨gramCells g ga gm gc⟩,.slice b n d] F [] fun F' v o=>o=[]∧∃c,v=.tuple ⟨[.int .i64 c,.int .i64 0]⟩∧CountVal (fun d=>symT g w d ⟨false,g.start⟩ 0 w.length) c:=by
 unfold gramCells;refine Abs.Spec.fn (n:=17) Tryd.func13 rfl rfl fun own=>?_;refine AW.seq (AW.reg ?_);refine WT.boxT Z Z Z Z Z Z (fun i2 hi2=>?_);refine zB4 ?_;refine WT.callV Tryd.func37 Z Z Z Z Z Z (mcheck_spec _ g hg hr hw hw12 hw2) (fun v hv=>?_);subst hv;refine zB4 ?_;refine AW.cond Z (fun h=>(by cases h)) (fun h=>?_);refine zB4 ?_;refine WT.callF0 Tryd.func39 Z Z Z Z Z Z (meanOf_spec _ hL g hg hr hw hw12) (fun F2 v hF2 hv=>?_);obtain⟨E,hE,hv⟩:=hv;rcases hv with ⟨h1,rfl⟩ | ⟨h1,S,a,n',c,rfl,hK,hA⟩
 ·refine WT.callV Tryd.func38 Z Z Z Z Z Z (countNone_spec _) (fun v hv=>?_);subst hv;refine zB4 ?_;refine AW.ret ⟨_,[],⟨_,_,rfl,⟨_,_,rfl,rfl,rfl⟩,rfl⟩,zsb,rfl,0,rfl,.inl ⟨0,still_zero fun d=>?_,rfl⟩⟩;rcases Nat.eq_zero_or_pos (symT g w d ⟨false,g.start⟩ 0 w.length) with e | e
  ·exact e
  ·have:=(step_der hE (Nat.zero_le _)).2 (symT_der e);rw[h1] at this;cases this
 ·have hroot:=root_good hg w;have hrm:=hK.first
  have hpl:=place_at hrm;have hlt:=(gS hpl).1;refine WT.callV Tryd.func38 Z Z Z Z Z Z (count_spec _ (nodes_ok hg hw12 hK hroot) (nodes_prod hg hE hK hroot h1) hA (place S (rootKey g w)) (by rw[List.length_map];exact hlt)) (fun v hv=>?_);obtain⟨c',rfl,hc⟩:=hv;refine zB4 ?_;refine AW.ret ⟨_,[],⟨_,_,rfl,⟨_,_,rfl,rfl,rfl⟩,rfl⟩,zsb,rfl,c',rfl,?_⟩;have:(fun d=>nodeT (S.map (mkNode g w E S)) d (place S (rootKey g w)))=fun d=>symT g w d ⟨false,g.start⟩ 0 w.length:=by
   funext d;exact node_sym hg hE hK hroot h1 d _ hrm
  rw[this] at hc;exact hc
mutual
def Tree.pre:Tree→List Int
 | .mk r _ ks=>r::preL ks
def preL:List Tree→List Int
 | []=>[]
 | t::ts=>t.pre++preL ts
end
structure Fo where
 n:Nat
 leaf:Nat→Option Nat
 packs:Nat→List NPack
mutual
inductive NT(f:Fo):Nat→Tree→Prop
 | leaf {v t:Nat}:v<f.n→f.leaf v=some t→NT f v (.mk (-1) t [])
 | node {v:Nat} {p:NPack} {ts:List Tree}:v<f.n→f.leaf v=none→p∈f.packs v→NTs f p.kids ts→NT f v (.mk p.rule 0 ts)
inductive NTs(f:Fo):List Nat→List Tree→Prop
 | nil:NTs f [] []
 | cons {k:Nat} {t:Tree} {ks:List Nat} {ts:List Tree}:NT f k t→NTs f ks ts→NTs f (k::ks) (t::ts)
end
structure Fo.Good(f:Fo):Prop where
 kids:∀v,v<f.n→∀p∈f.packs v,p.kids.length≤4∧∀k∈p.kids,k<f.n
 dec:∀v T T',NT f v T→NT f v T'→T.pre=T'.pre→T=T'
 uniq:∀v,v<f.n→f.leaf v=none→∀(a b:Nat) (p q:NPack),(f.packs v)[a]?=some p→(f.packs v)[b]?=some q→p.rule=q.rule→∀ts,NTs f p.kids ts→NTs f q.kids ts→a=b
structure Cand where
 node:Nat
 pack:Nat
 r0:Nat
 r1:Nat
 r2:Nat
 r3:Nat
deriving DecidableEq
def pick(L:Nat→List Tree):List Nat→List Nat→Option (List Tree)
 | [],_=>some []
 | k::ks,r::rs=>match (L k)[r]? with
  | some t=>match pick L ks rs with
   | some ts=>some (t::ts)
   | none=>none
  | none=>none
 | _::_,[]=>none
structure Lr where
 rule:Nat
 dot:Nat
deriving DecidableEq,Inhabited
structure LCt where
 i:Nat
 q:Nat
 ys:List Lr
 B:List (Nat×Blk)
def afterL(g:Gram)(x:Lr):Option Sym:=
 if x.rule=g.rules.length then (if x.dot=0 then some ⟨false,g.start⟩ else none) else match g.rules[x.rule]? with
  | some r=>r.right[x.dot]?
  | none=>none
inductive Clos(g:Gram)(l:List Lr):Lr→Prop
 | base {x:Lr}:x∈l→Clos g l x
 | more {x:Lr} {n k:Nat} {r:Rule}:Clos g l x→afterL g x=some ⟨false,n⟩→g.rules[k]?=some r→r.left=n→Clos g l ⟨k,0⟩
structure ClInv(g:Gram)(l xs:List Lr):Prop where
 ad:∃ad:List Nat,xs=l++ad.map (fun k=>⟨k,0⟩)∧ad.Nodup∧∀k∈ad,k<g.rules.length
 clos:∀x∈xs,Clos g l x
structure KSt where
 i:Nat
 xs:List Lr
 a:Option Addr
 c:Nat
 B:List (Nat×Blk)
end Go.Proofs.D