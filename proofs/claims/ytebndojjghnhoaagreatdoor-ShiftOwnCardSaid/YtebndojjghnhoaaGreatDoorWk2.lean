/-
  Walks: what functions of the program do, over the abstract machine.
-/
import Derived.Test.YtebndojjghnhoaaGreatDoorWk1
import Derived.Sort.Walk13a
set_option linter.unusedVariables false
set_option maxRecDepth 20000
set_option maxHeartbeats 0
open Go Go.Abs Go.Proofs Go.Proofs.D
namespace Go.Proofs.D
theorem lrIns_spec(F:Frz){lt:Lr→Lr→Bool}{g:Nat}{first capt:List Value}(hc:CmpOk tLr lt F g first capt){a0:Option Addr}{m c:Nat}{B:List (Nat×Blk)}{d:Array Lr}(hv:Vec tLr F a0 m c B d.toList)(a b:Nat)(ha:a≤1000000)(hb:b≤m)(hm:m≤1000000) :
  Abs.Spec CC 192 [.slice a0 m c,.int .i64 a,.int .i64 b,.func (.func g) ⟨first⟩ ⟨capt⟩] F [B] fun F' v o=>∃B',o=[B']∧Vec tLr F' a0 m c B' (Go.Sort.insertionSort lt d a b).toList:=by
 obtain⟨⟨fn,hg,hgb⟩,hcmp⟩:=hc;refine Abs.Spec.fn (n:=53) Tryz.func192 rfl rfl fun own=>?_;refine zC4 ?_;refine AW.block ?_;refine AW.loopR (S:=VS Lr) (fun s=>[(8,.int .i64 (s.i:Nat))]) (fun s=>s.B::own) (fun s G=>Vec tLr G a0 m c s.B s.d.toList∧Go.Sort.insOuter lt a b s.i s.d=Go.Sort.insertionSort lt d a b) (fun s=>b-s.i) ⟨a+1,d,B⟩
  sM oR ⟨hv,rfl⟩ ?_
 intro s F1 hF1 hP;obtain⟨hv1,heq1⟩:=hP;refine zC4 ?_;refine AW.cond Z (fun h=>?_) (fun h=>?_)
 ·have h:s.i<b:=by simpa using h
  refine zC4 ?_;refine AW.block ?_;refine zC4 ?_;refine AW.block ?_;refine AW.loopR (S:=VS Lr) (fun u=>[(9,.int .i64 (u.i:Nat))]) (fun u=>u.B::own) (fun u G=>Vec tLr G a0 m c u.B u.d.toList∧u.i≤s.i∧Go.Sort.insInner lt a u.i u.d=Go.Sort.insInner lt a s.i s.d) (fun u=>u.i) ⟨s.i,s.d,s.B⟩
   sM oR ⟨hv1,Nat.le_refl _,rfl⟩ ?_
  intro u F2 hF2 hP2;obtain⟨hv2,hui,heq2⟩:=hP2;have hsz:m=u.d.size:=hv2.len;have stop:(a<u.i→lt u.d[u.i]! u.d[u.i-1]! = false)→Go.Sort.insOuter lt a b (s.i+1) u.d=Go.Sort.insertionSort lt d a b:=by
   intro h1;rw[←heq1];have e:Go.Sort.insInner lt a s.i s.d=u.d:=by
    rw[←heq2];cases hi:u.i with
    | zero=>rfl
    | succ j=>
     rw[hi] at h1;simp only[Nat.add_sub_cancel] at h1;rw[Go.Sort.insInner];by_cases h2:a<j+1
     ·rw[h1 h2];simp
     ·simp[h2]
   conv=>rhs;rw[Go.Sort.insOuter]
   rw[if_pos h,e]
  refine zC4 ?_;refine WT.split 21 Z (fun hja=>?_) (fun hja=>?_)
  ·have hja:a<u.i:=by simp at hja;omega
   refine zC4 ?_;refine WT.vidx hT hv2 Z Z Z Z Z Z Z Z Z zo (fun bl1 hbl1=>?_);refine WT.vldS hT 0 hv2 hbl1 (arr_at zo) Z Z Z Z Z Z Z Z Z (fun l1 hl1=>?_);refine zC4 ?_;refine WT.vidx hT hv2 Z Z Z Z Z Z Z Z Z zo (fun bl2 hbl2=>?_);refine WT.vldS hT 0 hv2 hbl2 (arr_at zo) Z Z Z Z Z Z Z Z Z (fun l2 hl2=>?_);refine WT.callC hg hgb Z Z Z Z Z Z Z (hcmp F2 (hF1.trans hF2) l1 l2 _ _ hl1 hl2) (fun v hvz=>?_);obtain⟨z,rfl,hz⟩:=hvz;refine zC4 ?_;refine AW.cond Z (fun hc=>?_) (fun hc=>?_)
   ·have hlt:lt u.d[u.i]! u.d[u.i-1]! = true:=hz.1 (by simpa using hc);refine zC4 ?_;refine AW.block ?_;refine AW.draw (ps:=[(4,15)]) Z Z ?_;refine zC4 ?_;refine WT.vidx hT hv2 Z Z Z Z Z Z Z Z Z zo (fun bl3 hbl3=>?_);refine WT.vldS hT 0 hv2 hbl3 (arr_at zo) Z Z Z Z Z Z Z Z Z (fun l3 hl3=>?_);refine zC4 ?_;refine WT.vidx hT hv2 Z Z Z Z Z Z Z Z Z zo (fun bl4 hbl4=>?_);refine WT.vldS hT 0 hv2 hbl4 (arr_at zo) Z Z Z Z Z Z Z Z Z (fun l4 hl4=>?_);refine WT.vidx hT hv2 Z Z Z Z Z Z Z Z Z zo (fun bl5 hbl5=>?_)
    refine WT.vst (y:=u.d[u.i-1]!) hT 0 hv2 hbl5 (gE (by simp;omega)) Z Z Z Z Z hl3 Z (fun _=>rfl) Z (fun Bl5 hBl5=>?_);refine WT.vidx hT hBl5 Z Z Z Z Z Z Z Z Z zo (fun bl6 hbl6=>?_);refine WT.vst (y:=u.d[u.i]!) hT 0 hBl5 hbl6 (gE (by simp;omega)) Z Z Z Z Z hl4 Z (fun _=>rfl) Z (fun Bl6 hBl6=>?_);rw[←swp_list] at hBl6;refine zC4 ?_;refine⟨zrC,?_⟩;refine zC4 ?_;refine⟨⟨u.i-1,Go.Sort.swp u.d u.i (u.i-1),Bl6⟩,by dsimp only;omega,sM,OwnLe.refl _,hBl6,by dsimp only;omega,?_⟩;rw[←heq2];show Go.Sort.insInner lt a (u.i-1) (Go.Sort.swp u.d u.i (u.i-1))=_;cases hi:u.i with
    | zero=>omega
    | succ j=>
     rw[hi] at hlt;simp only[Nat.add_sub_cancel] at hlt ⊢
     conv=>rhs;rw[Go.Sort.insInner]
     rw[if_pos (by simp[hlt];omega)]
   ·have hlt:lt u.d[u.i]! u.d[u.i-1]! = false:=by
     cases hh:lt u.d[u.i]! u.d[u.i-1]! with
     | false=>rfl
     | true=>exact absurd (hz.2 hh) (by simpa using hc)
    refine AW.exit ?_;refine zC4 ?_;exact⟨⟨s.i+1,u.d,u.B⟩,by dsimp only;omega,sM,OwnLe.refl _,hv2,stop (fun _=>hlt)⟩
  ·have hja:¬a<u.i:=by simp at hja;omega
   refine zC4 ?_;refine AW.cond Z (fun h=>(by cases h)) (fun _=>?_);refine AW.exit ?_;refine zC4 ?_;exact⟨⟨s.i+1,u.d,u.B⟩,by dsimp only;omega,sM,OwnLe.refl _,hv2,stop (fun h=>absurd h hja)⟩
 ·have h:¬s.i<b:=by simpa using h
  refine AW.exit ?_;refine⟨_,[_],rfl,zsb,_,rfl,?_⟩;rw[←heq1,Go.Sort.insOuter,if_neg h];exact hv1
theorem lrSift_spec(F:Frz){lt:Lr→Lr→Bool}{g:Nat}{first capt:List Value}(hc:CmpOk tLr lt F g first capt){a0:Option Addr}{m c:Nat}{B:List (Nat×Blk)}{d:Array Lr}(hv:Vec tLr F a0 m c B d.toList)(lo hi fst:Nat)(hlo:lo≤1000000)(hb:fst+hi≤m)(hm:m≤1000000) :
  Abs.Spec CC 211 [.slice a0 m c,.int .i64 lo,.int .i64 hi,.int .i64 fst,.func (.func g) ⟨first⟩ ⟨capt⟩] F [B] fun F' v o=>∃B',o=[B']∧Vec tLr F' a0 m c B' (Go.Sort.siftDown lt hi fst lo d).toList:=by
 obtain⟨⟨fn,hg,hgb⟩,hcmp⟩:=hc;refine Abs.Spec.fn (n:=82) Tryz.func211 rfl rfl fun own=>?_;refine zC4 ?_;refine AW.block ?_;refine AW.loopR (S:=VS Lr) (fun s=>[(10,.int .i64 (s.i:Nat))]) (fun s=>s.B::own) (fun s G=>Vec tLr G a0 m c s.B s.d.toList∧s.i≤1000000∧Go.Sort.siftDown lt hi fst s.i s.d=Go.Sort.siftDown lt hi fst lo d) (fun s=>hi-s.i) ⟨lo,d,B⟩
  sM oR ⟨hv,hlo,rfl⟩ ?_
 intro u F1 hF1 hP;obtain⟨hv2,hui,heq⟩:=hP;have hsz:m=u.d.size:=hv2.len;refine AW.block ?_;refine zC4 ?_;refine AW.cond Z (fun h=>?_) (fun h=>?_)
 ·have h:hi≤2*u.i+1:=by simp at h;omega
  refine AW.exit ?_;refine⟨_,[_],rfl,zsb,_,rfl,?_⟩;rw[←heq,Go.Sort.siftDown,dif_pos h];exact hv2
 ·have h:2*u.i+1<hi:=by simp at h;omega
  refine AW.skip ?_;refine AW.jn (S:=Nat) (fun ch=>[(11,.int .i64 (ch:Nat))]) (fun _=>u.B::own) (fun ch _=>u.i<ch∧ch<hi∧Go.Sort.siftDown lt hi fst u.i u.d=if (!lt u.d[fst+u.i]! u.d[fst+ch]!)=true then u.d else Go.Sort.siftDown lt hi fst ch (Go.Sort.swp u.d (fst+u.i) (fst+ch))) ?_ (fun ch F3 hF3 hch=>?_)
  ·have e1:(decide (2*u.i+1+1<hi)&&lt u.d[fst+(2*u.i+1)]! u.d[fst+(2*u.i+1)+1]!)=false→Go.Sort.siftDown lt hi fst u.i u.d=if (!lt u.d[fst+u.i]! u.d[fst+(2*u.i+1)]!)=true then u.d else Go.Sort.siftDown lt hi fst (2*u.i+1) (Go.Sort.swp u.d (fst+u.i) (fst+(2*u.i+1))):=by
    intro h1
    conv=>lhs;rw[Go.Sort.siftDown]
    rw[dif_neg zo];simp only[Bool.and_eq_true,decide_eq_true_eq,Bool.and_eq_false_imp] at h1 ⊢;rw[if_neg (fun h2=>by have:=h1 h2.1;rw[h2.2] at this;cases this)]
   refine zC4 ?_;refine WT.split 23 Z (fun h2=>?_) (fun h2=>?_)
   ·have h2:2*u.i+1+1<hi:=by simp at h2;omega
    refine zC4 ?_;refine WT.vidx hT hv2 Z Z Z Z Z Z Z Z Z zo (fun bl1 hbl1=>?_);refine WT.vldS hT 0 hv2 hbl1 (arr_at zo) Z Z Z Z Z Z Z Z Z (fun l1 hl1=>?_);refine zC4 ?_;refine WT.vidx hT hv2 Z Z Z Z Z Z Z Z Z zo (fun bl2 hbl2=>?_);refine WT.vldS hT 0 hv2 hbl2 (arr_at zo) Z Z Z Z Z Z Z Z Z (fun l2 hl2=>?_);refine WT.callC hg hgb Z Z Z Z Z Z Z (hcmp F1 hF1 l1 l2 _ _ hl1 hl2) (fun v hvz=>?_);obtain⟨z,rfl,hz⟩:=hvz;refine zC4 ?_;refine AW.cond Z (fun hc=>?_) (fun hc=>?_)
    ·have hlt:=hz.1 (by simpa using hc);refine zC4 ?_;refine⟨2*u.i+1+1,sM,OwnLe.refl _,by omega,h2,?_⟩
     conv=>lhs;rw[Go.Sort.siftDown]
     rw[dif_neg zo,if_pos (by simp[h2,hlt])];rw[dif_pos (show 2*u.i+2<hi by omega)]
    ·have hlt:lt u.d[fst+(2*u.i+1)]! u.d[fst+(2*u.i+1)+1]! = false:=by
      cases hh:lt u.d[fst+(2*u.i+1)]! u.d[fst+(2*u.i+1)+1]! with
      | false=>rfl
      | true=>exact absurd (hz.2 hh) (by simpa using hc)
     refine AW.skip ?_;exact⟨2*u.i+1,sM,OwnLe.refl _,by omega,h,e1 (by rw[hlt];simp)⟩
   ·have h2:¬2*u.i+1+1<hi:=by simp at h2;omega
    refine zC4 ?_;refine AW.cond Z (fun h=>(by cases h)) (fun _=>?_);refine AW.skip ?_;exact⟨2*u.i+1,sM,OwnLe.refl _,by omega,h,e1 (by simp[h2])⟩
  ·obtain⟨hc1,hc2,hceq⟩:=hch;have hv3:=hv2.mono hF3;refine zC4 ?_;refine WT.vidx hT hv3 Z Z Z Z Z Z Z Z Z zo (fun bl1 hbl1=>?_);refine WT.vldS hT 0 hv3 hbl1 (arr_at zo) Z Z Z Z Z Z Z Z Z (fun l1 hl1=>?_);refine zC4 ?_;refine WT.vidx hT hv3 Z Z Z Z Z Z Z Z Z zo (fun bl2 hbl2=>?_);refine WT.vldS hT 0 hv3 hbl2 (arr_at zo) Z Z Z Z Z Z Z Z Z (fun l2 hl2=>?_);refine WT.callC hg hgb Z Z Z Z Z Z Z (hcmp F3 (hF1.trans hF3) l1 l2 _ _ hl1 hl2) (fun v hvz=>?_);obtain⟨z,rfl,hz⟩:=hvz;refine zC4 ?_;refine AW.cond Z (fun hc=>?_) (fun hc=>?_)
   ·have hlt:lt u.d[fst+u.i]! u.d[fst+ch]! = false:=by
     cases hh:lt u.d[fst+u.i]! u.d[fst+ch]! with
     | false=>rfl
     | true=>exact absurd (hz.2 hh) (by simpa using hc)
    refine AW.ret ⟨_,[_],rfl,zsb,_,rfl,?_⟩;rw[←heq,hceq,hlt,if_pos (by decide)];exact hv3
   ·have hlt:=hz.1 (by simpa using hc);refine zC4 ?_;refine AW.draw (ps:=[(7,21)]) Z Z ?_;refine zC4 ?_;refine WT.vidx hT hv3 Z Z Z Z Z Z Z Z Z zo (fun bl3 hbl3=>?_);refine WT.vldS hT 0 hv3 hbl3 (arr_at zo) Z Z Z Z Z Z Z Z Z (fun l3 hl3=>?_);refine zC4 ?_;refine WT.vidx hT hv3 Z Z Z Z Z Z Z Z Z zo (fun bl4 hbl4=>?_);refine WT.vldS hT 0 hv3 hbl4 (arr_at zo) Z Z Z Z Z Z Z Z Z (fun l4 hl4=>?_);refine WT.vidx hT hv3 Z Z Z Z Z Z Z Z Z zo (fun bl5 hbl5=>?_);refine WT.vst (y:=u.d[fst+ch]!) hT 0 hv3 hbl5 (gE (by simp;omega)) Z Z Z Z Z hl3 Z (fun _=>rfl) Z (fun Bl5 hBl5=>?_)
    refine WT.vidx hT hBl5 Z Z Z Z Z Z Z Z Z zo (fun bl6 hbl6=>?_);refine WT.vst (y:=u.d[fst+u.i]!) hT 0 hBl5 hbl6 (gE (by simp;omega)) Z Z Z Z Z hl4 Z (fun _=>rfl) Z (fun Bl6 hBl6=>?_);rw[←swp_list] at hBl6;refine zC4 ?_;refine⟨zrC,?_⟩;refine zC4 ?_;refine⟨⟨ch,Go.Sort.swp u.d (fst+u.i) (fst+ch),Bl6⟩,by dsimp only;omega,sM,OwnLe.refl _,hBl6,by dsimp only;omega,?_⟩;rw[←heq,hceq,hlt,if_neg (by simp)]
theorem lrHeap_spec(F:Frz){lt:Lr→Lr→Bool}{g:Nat}{first capt:List Value}(hc:CmpOk tLr lt F g first capt){a0:Option Addr}{m c:Nat}{B:List (Nat×Blk)}{d:Array Lr}(hv:Vec tLr F a0 m c B d.toList)(a b:Nat)(hab:a<b)(hb:b≤m)(hm:m≤1000000) :
  Abs.Spec CC 193 [.slice a0 m c,.int .i64 a,.int .i64 b,.func (.func g) ⟨first⟩ ⟨capt⟩] F [B] fun F' v o=>∃B',o=[B']∧Vec tLr F' a0 m c B' (Go.Sort.heapSort lt d a b).toList:=by
 refine Abs.Spec.fn (n:=60) Tryz.func193 rfl rfl fun own=>?_;refine zC4 ?_;refine WT.quoL 2 Z Z Z Z Z Z (by decide) zo ?_;refine zC4 ?_;refine AW.know (v':=.int .i64 ((((b-a-1) / 2+1:Nat):Int)-1)) 11 Z (by congr 1;omega) ?_;refine AW.jnT (S:=VS Lr) (fun _=>[(11,.int .i64 (((0:Nat):Int)-1))]) (fun s=>s.B::own) (fun s G=>Vec tLr G a0 m c s.B s.d.toList∧s.d=Go.Sort.heapBuild lt (b-a) a ((b-a-1) / 2+1) d) ?_ (fun s F1 hF1 hP=>?_)
 ·refine AW.block ?_;refine AW.loopR (S:=VS Lr) (fun s=>[(11,.int .i64 ((s.i:Int)-1))]) (fun s=>s.B::own) (fun s G=>Vec tLr G a0 m c s.B s.d.toList∧s.i≤1000000∧Go.Sort.heapBuild lt (b-a) a s.i s.d=Go.Sort.heapBuild lt (b-a) a ((b-a-1) / 2+1) d) (fun s=>s.i) ⟨(b-a-1) / 2+1,d,B⟩
   sM oR ⟨hv,by dsimp only;omega,rfl⟩ ?_
  intro u F2 hF2 hP2;obtain⟨hv2,hui,heq⟩:=hP2;refine zC4 ?_;refine AW.cond Z (fun h=>?_) (fun h=>?_)
  ·have h:1≤u.i:=by simp at h;omega
   refine zC4 ?_;refine AW.block ?_;refine zC4 ?_;refine WT.know (v':=.int .i64 ((u.i-1:Nat):Int)) 25 Z (by congr 1;omega) ?_;refine WT.call1F 0 Tryz.func211 Z Z Z Z Z Z Z (fun _=>rfl) (lrSift_spec _ (hc.mono hF2) hv2 (u.i-1) (b-a) a zo zo hm) (fun F3 v B3 hF3 hv3=>?_);refine WT.nil ?_;refine AW.reg ?_;refine WT.easy hT Z Z Z Z Z ?_;refine WT.subT Z Z Z Z Z Z zo ?_;refine WT.know (v':=.int .i64 (((u.i-1:Nat):Int)-1)) 23 Z (by congr 1;omega) ?_;refine zC4 ?_;refine⟨⟨u.i-1,_,B3⟩,by dsimp only;omega,sM,OwnLe.refl _,hv3,by dsimp only;omega,?_⟩;rw[←heq];cases hi:u.i with
   | zero=>omega
   | succ j=>rfl
  ·have h:u.i=0:=by simp at h;omega
   refine AW.exit ?_;refine⟨⟨0,u.d,u.B⟩,SubK.of_map (by rw[h];rfl),OwnLe.refl _,hv2,?_⟩;rw[←heq,h];rfl
 ·obtain⟨hv1,hd1⟩:=hP;refine zC4 ?_;refine AW.know (v':=.int .i64 (((b-a:Nat):Int)-1)) 12 Z (by congr 1;omega) ?_;refine AW.block ?_;refine AW.loopR (S:=VS Lr) (fun s=>[(12,.int .i64 ((s.i:Int)-1))]) (fun s=>s.B::own) (fun s G=>Vec tLr G a0 m c s.B s.d.toList∧s.i≤b-a∧Go.Sort.heapPop lt a s.i s.d=Go.Sort.heapSort lt d a b) (fun s=>s.i) ⟨b-a,s.d,s.B⟩
   sM oR ⟨hv1,Nat.le_refl _,by dsimp only;rw[hd1];rfl⟩ ?_
  intro u F2 hF2 hP2;obtain⟨hv2,hui,heq⟩:=hP2;have hsz:m=u.d.size:=hv2.len;refine zC4 ?_;refine AW.cond Z (fun h=>?_) (fun h=>?_)
  ·have h:1≤u.i:=by simp at h;omega
   refine zC4 ?_;refine AW.block ?_;refine AW.seq (AW.draw (ps:=[(5,17)]) Z Z ?_);refine zC4 ?_;refine WT.know (v':=.int .i64 ((a+(u.i-1):Nat):Int)) 41 Z (by congr 1;omega) ?_;refine WT.know (v':=.int .i64 ((a+(u.i-1):Nat):Int)) 45 Z (by congr 1;omega) ?_;refine WT.vidx hT hv2 Z Z Z Z Z Z Z Z Z zo (fun bl3 hbl3=>?_);refine WT.vldS hT 0 hv2 hbl3 (arr_at zo) Z Z Z Z Z Z Z Z Z (fun l3 hl3=>?_);refine zC4 ?_;refine WT.vidx hT hv2 Z Z Z Z Z Z Z Z Z zo (fun bl4 hbl4=>?_);refine WT.vldS hT 0 hv2 hbl4 (arr_at zo) Z Z Z Z Z Z Z Z Z (fun l4 hl4=>?_)
   refine WT.vidx hT hv2 Z Z Z Z Z Z Z Z Z zo (fun bl5 hbl5=>?_);refine WT.vst (y:=u.d[a+(u.i-1)]!) hT 0 hv2 hbl5 (gE (by simp;omega)) Z Z Z Z Z hl3 Z (fun _=>rfl) Z (fun Bl5 hBl5=>?_);refine WT.vidx hT hBl5 Z Z Z Z Z Z Z Z Z zo (fun bl6 hbl6=>?_);refine WT.vst (y:=u.d[a]!) hT 0 hBl5 hbl6 (gE (by simp;omega)) Z Z Z Z Z hl4 Z (fun _=>rfl) Z (fun Bl6 hBl6=>?_);rw[←swp_list] at hBl6;refine zC4 ?_;refine⟨zrC,?_⟩;refine zC4 ?_;refine WT.know (v':=.int .i64 ((u.i-1:Nat):Int)) 56 Z (by congr 1;omega) ?_;refine WT.know (v':=.int .i64 ((0:Nat):Int)) 55 Z Z ?_
   refine WT.call1F 0 Tryz.func211 Z Z Z Z Z Z Z (fun _=>rfl) (lrSift_spec _ ((hc.mono hF1).mono hF2) hBl6 0 (u.i-1) a zo zo hm) (fun F3 v B3 hF3 hv3=>?_);refine WT.nil ?_;refine AW.reg ?_;refine WT.easy hT Z Z Z Z Z ?_;refine WT.subT Z Z Z Z Z Z zo ?_;refine WT.know (v':=.int .i64 (((u.i-1:Nat):Int)-1)) 35 Z (by congr 1;omega) ?_;refine zC4 ?_;refine⟨⟨u.i-1,_,B3⟩,by dsimp only;omega,sM,OwnLe.refl _,hv3,by dsimp only;omega,?_⟩;rw[←heq];cases hi:u.i with
   | zero=>omega
   | succ j=>rfl
  ·have h:u.i=0:=by simp at h;omega
   refine AW.exit ?_;refine⟨_,[_],rfl,zsb,_,rfl,?_⟩;rw[←heq,h];exact hv2
theorem lrRev_spec(F:Frz){cv:Value}{a0:Option Addr}{m c:Nat}{B:List (Nat×Blk)}{d:Array Lr}(hv:Vec tLr F a0 m c B d.toList)(a b:Nat)(hab:a<b)(hb:b≤m)(hm:m≤1000000) :
  Abs.Spec CC 196 [.slice a0 m c,.int .i64 a,.int .i64 b,cv] F [B] fun F' v o=>∃B',o=[B']∧Vec tLr F' a0 m c B' (Go.Sort.reverseRange d a b).toList:=by
 refine Abs.Spec.fn (n:=34) Tryz.func196 rfl rfl fun own=>?_;refine zC4 ?_;refine AW.block ?_;refine AW.loopR (S:=Nat×VS Lr) (fun s=>[(8,.int .i64 (s.2.i:Nat)),(9,.int .i64 (s.1:Nat))]) (fun s=>s.2.B::own) (fun s G=>Vec tLr G a0 m c s.2.B s.2.d.toList∧s.1<m∧s.2.i≤m∧Go.Sort.reverseLoop s.2.i s.1 s.2.d=Go.Sort.reverseRange d a b) (fun s=>s.1-s.2.i) (b-1,⟨a,d,B⟩)
  sM oR ⟨hv,by dsimp only;omega,by dsimp only;omega,rfl⟩ ?_
 intro u F2 hF2 hP2;obtain⟨hv2,hj,hi,heq⟩:=hP2;have hsz:m=u.2.d.size:=hv2.len;refine zC4 ?_;refine AW.cond Z (fun h=>?_) (fun h=>?_)
 ·have h:u.2.i<u.1:=by simp at h;omega
  refine zC4 ?_;refine AW.block ?_;refine zC4 ?_;refine WT.vidx hT hv2 Z Z Z Z Z Z Z Z Z zo (fun bl3 hbl3=>?_);refine WT.vldS hT 0 hv2 hbl3 (arr_at zo) Z Z Z Z Z Z Z Z Z (fun l3 hl3=>?_);refine zC4 ?_;refine WT.vidx hT hv2 Z Z Z Z Z Z Z Z Z zo (fun bl4 hbl4=>?_);refine WT.vldS hT 0 hv2 hbl4 (arr_at zo) Z Z Z Z Z Z Z Z Z (fun l4 hl4=>?_);refine WT.vidx hT hv2 Z Z Z Z Z Z Z Z Z zo (fun bl5 hbl5=>?_);refine WT.vst (y:=u.2.d[u.1]!) hT 0 hv2 hbl5 (gE (by simp;omega)) Z Z Z Z Z hl3 Z (fun _=>rfl) Z (fun Bl5 hBl5=>?_);refine WT.vidx hT hBl5 Z Z Z Z Z Z Z Z Z zo (fun bl6 hbl6=>?_)
  refine WT.vst (y:=u.2.d[u.2.i]!) hT 0 hBl5 hbl6 (gE (by simp;omega)) Z Z Z Z Z hl4 Z (fun _=>rfl) Z (fun Bl6 hBl6=>?_);rw[←swp_list] at hBl6;refine zC4 ?_;refine⟨(u.1-1,⟨u.2.i+1,Go.Sort.swp u.2.d u.2.i u.1,Bl6⟩),by dsimp only;omega,sM,OwnLe.refl _,hBl6,by dsimp only;omega,by dsimp only;omega,?_⟩;rw[←heq]
  conv=>rhs;rw[Go.Sort.reverseLoop]
  rw[if_pos h]
 ·have h:¬u.2.i<u.1:=by simp at h;omega
  refine AW.exit ?_;refine⟨_,[_],rfl,zsb,_,rfl,?_⟩;rw[←heq,Go.Sort.reverseLoop,if_neg h];exact hv2
theorem shE9{p:Prop} (h:p:=by
 refine zC4 ?_;refine WT.vidx hT hv6 Z Z Z Z Z Z Z Z Z zo (fun bl5 hbl5=>?_);refine WT.vldS hT 0 hv6 hbl5 (arr_at zo) Z Z Z Z Z Z Z Z Z (fun l5 hl5=>?_);refine zC4 ?_;refine WT.vidx hT hv6 Z Z Z Z Z Z Z Z Z zo (fun bl6 hbl6=>?_);refine WT.vldS hT 0 hv6 hbl6 (arr_at zo) Z Z Z Z Z Z Z Z Z (fun l6 hl6=>?_);refine WT.vidx hT hv6 Z Z Z Z Z Z Z Z Z zo (fun bl7 hbl7=>?_);refine WT.vst (y:=u.2.d[j2]!) hT 0 hv6 hbl7 (gE (by simp;omega)) Z Z Z Z Z hl5 Z (fun _=>rfl) Z (fun Bl7 hBl7=>?_);refine WT.vidx hT hBl7 Z Z Z Z Z Z Z Z Z zo (fun bl8 hbl8=>?_)
 refine WT.vst (y:=u.2.d[i2]!) hT 0 hBl7 hbl8 (gE (by simp;omega)) Z Z Z Z Z hl6 Z (fun _=>rfl) Z (fun Bl8 hBl8=>?_);rw[←swp_list] at hBl8;refine zC4 ?_;refine⟨(i2+1,⟨j2-1,Go.Sort.swp u.2.d i2 j2,Bl8⟩),by dsimp only;omega,sM,OwnLe.refl _,hBl8,by dsimp only;omega,by dsimp only;omega,by dsimp only;omega,?_⟩;rw[hloop,if_neg h]):p:=h
theorem lrPart_spec(F:Frz){lt:Lr→Lr→Bool}{g:Nat}{first capt:List Value}(hc:CmpOk tLr lt F g first capt){a0:Option Addr}{m c:Nat}{B:List (Nat×Blk)}{d:Array Lr}(hv:Vec tLr F a0 m c B d.toList)(a b pivot:Nat)(hp1:a≤pivot)(hp2:pivot<b)(hb:b≤m)(hm:m≤1000000) :
  Abs.Spec CC 199 [.slice a0 m c,.int .i64 a,.int .i64 b,.int .i64 pivot,.func (.func g) ⟨first⟩ ⟨capt⟩] F [B] fun F' v o=>∃B',o=[B']∧v=.tuple ⟨[.int .i64 ((Go.Sort.partition lt d a b pivot).1:Nat),.bool (Go.Sort.partition lt d a b pivot).2.1]⟩∧Vec tLr F' a0 m c B' (Go.Sort.partition lt d a b pivot).2.2.toList:=by
 obtain⟨⟨fn,hg,hgb⟩,hcmp⟩:=hc;have hsz:m=d.size:=hv.len;refine Abs.Spec.fn (n:=178) Tryz.func199 rfl rfl fun own=>?_;refine zC4 ?_;refine WT.vidx hT hv Z Z Z Z Z Z Z Z Z zo (fun bl1 hbl1=>?_);refine WT.vldS hT 0 hv hbl1 (arr_at zo) Z Z Z Z Z Z Z Z Z (fun l1 hl1=>?_);refine zC4 ?_;refine WT.vidx hT hv Z Z Z Z Z Z Z Z Z zo (fun bl2 hbl2=>?_);refine WT.vldS hT 0 hv hbl2 (arr_at zo) Z Z Z Z Z Z Z Z Z (fun l2 hl2=>?_);refine WT.vidx hT hv Z Z Z Z Z Z Z Z Z zo (fun bl3 hbl3=>?_);refine WT.vst (y:=d[pivot]!) hT 0 hv hbl3 (gE (by simp;omega)) Z Z Z Z Z hl1 Z (fun _=>rfl) Z (fun Bl3 hBl3=>?_)
 refine WT.vidx hT hBl3 Z Z Z Z Z Z Z Z Z zo (fun bl4 hbl4=>?_);refine WT.vst (y:=d[a]!) hT 0 hBl3 hbl4 (gE (by simp;omega)) Z Z Z Z Z hl2 Z (fun _=>rfl) Z (fun Bl4 hBl4=>?_);rw[←swp_list] at hBl4;obtain⟨d1,hd1⟩:∃d1,Go.Sort.swp d a pivot=d1:=⟨_,rfl⟩;rw[hd1] at hBl4;have hsz1:m=d1.size:=hBl4.len;refine zC4 ?_;obtain⟨i1,hi1⟩:∃i1,Go.Sort.scanUp (fun x=>lt x d1[a]!) d1 (b-1) (a+1)=i1:=⟨_,rfl⟩;obtain⟨j1,hj1⟩:∃j1,Go.Sort.scanDown (fun x=>!lt x d1[a]!) d1 i1 (b-1)=j1:=⟨_,rfl⟩;obtain⟨u1,u2,u3,u4⟩:=Go.Sort.scanUp_spec (fun x=>lt x d1[a]!) d1 (b-1) _ (a+1) rfl
 obtain⟨v1,v2,v3,v4⟩:=Go.Sort.scanDown_spec (fun x=>!lt x d1[a]!) d1 i1 (b-1);rw[hi1] at u1 u2 u4;rw[hj1] at v1 v2 v4;have u2:=u2 zo;have v2:=v2 zo;refine AW.jnT (S:=Unit) (fun _=>[(12,.int .i64 (Go.Sort.scanUp (fun x=>lt x d1[a]!) d1 (b-1) (a+1):Nat))]) (fun _=>(Bl4::own)) (fun _ _=>True) ?_ (fun _ F1 hF1 _=>?_)
 ·refine AW.block ?_;refine AW.loopR (S:=Nat) (fun i=>[(12,.int .i64 (i:Nat))]) (fun _=>(Bl4::own)) (fun i _=>(a+1)≤i∧i≤(b-1)+1∧Go.Sort.scanUp (fun x=>lt x d1[a]!) d1 (b-1) i=Go.Sort.scanUp (fun x=>lt x d1[a]!) d1 (b-1) (a+1)) (fun i=>(b-1)+1-i) (a+1) sM oR ⟨Nat.le_refl _,by omega,rfl⟩ ?_;intro i G hG hP;obtain⟨hi1,hi2,hi3⟩:=hP;have hvG:=hBl4.mono hG;refine zC4 ?_;refine WT.split 35 Z (fun h=>?_) (fun h=>?_)
  ·have h:i≤(b-1):=by simp at h;omega
   refine zC4 ?_;refine WT.vidx hT hvG Z Z Z Z Z Z Z Z Z zo (fun bl1 hbl1=>?_);refine WT.vldS hT 0 hvG hbl1 (arr_at zo) Z Z Z Z Z Z Z Z Z (fun l1 hl1=>?_);refine zC4 ?_;refine WT.vidx hT hvG Z Z Z Z Z Z Z Z Z zo (fun bl2 hbl2=>?_);refine WT.vldS hT 0 hvG hbl2 (arr_at zo) Z Z Z Z Z Z Z Z Z (fun l2 hl2=>?_);refine WT.callC hg hgb Z Z Z Z Z Z Z (hcmp G ((Frz.le.refl F).trans hG) l1 l2 _ _ hl1 hl2) (fun v hvz=>?_);obtain⟨z,rfl,hz⟩:=hvz;refine zC4 ?_;refine AW.cond Z (fun hc=>?_) (fun hc=>?_)
   ·have hlt:=hz.1 (by simpa using hc);refine zC4 ?_;refine AW.block ?_;refine zC4 ?_;refine⟨i+1,by omega,sM,OwnLe.refl _,by omega,by omega,?_⟩;rw[←hi3]
    conv=>rhs;rw[Go.Sort.scanUp]
    rw[if_pos (by simp[h,hlt])]
   ·have hlt:=(Bool.eq_false_iff.2 (fun hh=>absurd (hz.2 hh) (by simpa using hc)):lt d1[i]! d1[a]! = false);refine AW.exit ?_;refine⟨(),SubK.of_map (by rw[←hi3,Go.Sort.scanUp,if_neg (by simp[hlt])];rfl),OwnLe.refl _,trivial⟩
  ·have h:¬i≤(b-1):=by simp at h;omega
   refine zC4 ?_;refine AW.cond Z (fun h=>(by cases h)) (fun _=>?_);refine AW.exit ?_;refine⟨(),SubK.of_map (by rw[←hi3,Go.Sort.scanUp,if_neg (by simp[h])];rfl),OwnLe.refl _,trivial⟩
 rw[hi1];have hv1:=hBl4.mono hF1;refine AW.seq ?_;refine AW.jnT (S:=Unit) (fun _=>[(13,.int .i64 (Go.Sort.scanDown (fun x=>!lt x d1[a]!) d1 i1 (b-1):Nat))]) (fun _=>(Bl4::own)) (fun _ _=>True) ?_ (fun _ F2 hF2 _=>?_)
 ·refine AW.block ?_;refine AW.loopR (S:=Nat) (fun j=>[(13,.int .i64 (j:Nat))]) (fun _=>(Bl4::own)) (fun j _=>j≤(b-1)∧i1≤j+1∧Go.Sort.scanDown (fun x=>!lt x d1[a]!) d1 i1 j=Go.Sort.scanDown (fun x=>!lt x d1[a]!) d1 i1 (b-1)) (fun j=>j) (b-1) sM oR ⟨Nat.le_refl _,by omega,rfl⟩ ?_;intro j G hG hP;obtain⟨hj1,hj2,hj3⟩:=hP;have hvG:=hv1.mono hG;have one:∀q,i1≤j→(fun x=>!lt x d1[a]!) d1[j]! = q→Go.Sort.scanDown (fun x=>!lt x d1[a]!) d1 i1 j=if q=true then Go.Sort.scanDown (fun x=>!lt x d1[a]!) d1 i1 (j-1) else j:=by
   intro q h1 h2;cases j with
   | zero=>omega
   | succ k=>
    rw[Go.Sort.scanDown,Nat.add_sub_cancel];subst h2;simp[h1]
  refine zC4 ?_;refine WT.split 53 Z (fun h=>?_) (fun h=>?_)
  ·have h:i1≤j:=by simp at h;omega
   refine zC4 ?_;refine WT.vidx hT hvG Z Z Z Z Z Z Z Z Z zo (fun bl1 hbl1=>?_);refine WT.vldS hT 0 hvG hbl1 (arr_at zo) Z Z Z Z Z Z Z Z Z (fun l1 hl1=>?_);refine zC4 ?_;refine WT.vidx hT hvG Z Z Z Z Z Z Z Z Z zo (fun bl2 hbl2=>?_);refine WT.vldS hT 0 hvG hbl2 (arr_at zo) Z Z Z Z Z Z Z Z Z (fun l2 hl2=>?_);refine WT.callC hg hgb Z Z Z Z Z Z Z (hcmp G (hF1.trans hG) l1 l2 _ _ hl1 hl2) (fun v hvz=>?_);obtain⟨z,rfl,hz⟩:=hvz;refine zC4 ?_;refine AW.cond Z (fun hc=>?_) (fun hc=>?_)
   ·have hlt:=(Bool.eq_false_iff.2 (fun hh=>absurd (hz.2 hh) (by simpa using hc)):lt d1[j]! d1[a]! = false);refine zC4 ?_;refine AW.block ?_;refine zC4 ?_;refine⟨j-1,by omega,sM,OwnLe.refl _,by omega,by omega,?_⟩;rw[←hj3,one true h (by simp[hlt]),if_pos rfl]
   ·have hlt:=hz.1 (by simpa using hc);refine AW.exit ?_;refine⟨(),SubK.of_map (by rw[←hj3,one false h (by simp[hlt]),if_neg (by decide)];rfl),OwnLe.refl _,trivial⟩
  ·have h:¬i1≤j:=by simp at h;omega
   refine zC4 ?_;refine AW.cond Z (fun h=>(by cases h)) (fun _=>?_);refine AW.exit ?_;have e:Go.Sort.scanDown (fun x=>!lt x d1[a]!) d1 i1 j=j:=by
    cases j with
    | zero=>rfl
    | succ k=>rw[Go.Sort.scanDown,if_neg (by simp;omega)]
   refine⟨(),SubK.of_map (by rw[←hj3,e];rfl),OwnLe.refl _,trivial⟩
 rw[hj1];have hv2:=hv1.mono hF2;refine zC4 ?_;have hpart:Go.Sort.partition lt d a b pivot=if i1 > j1 then (j1,true,Go.Sort.swp d1 j1 a) else
   ((Go.Sort.partLoop lt a (i1+1) (j1-1) (Go.Sort.swp d1 i1 j1)).1,false,Go.Sort.swp (Go.Sort.partLoop lt a (i1+1) (j1-1) (Go.Sort.swp d1 i1 j1)).2 (Go.Sort.partLoop lt a (i1+1) (j1-1) (Go.Sort.swp d1 i1 j1)).1 a):=by
  simp only[Go.Sort.partition,hd1,hi1,hj1]
 refine AW.cond Z (fun h=>?_) (fun h=>?_)
 ·have h:j1<i1:=by simp at h;omega
  refine zC4 ?_;refine WT.vidx hT hv2 Z Z Z Z Z Z Z Z Z zo (fun bl1 hbl1=>?_);refine WT.vldS hT 0 hv2 hbl1 (arr_at zo) Z Z Z Z Z Z Z Z Z (fun l1 hl1=>?_);refine zC4 ?_;refine WT.vidx hT hv2 Z Z Z Z Z Z Z Z Z zo (fun bl2 hbl2=>?_);refine WT.vldS hT 0 hv2 hbl2 (arr_at zo) Z Z Z Z Z Z Z Z Z (fun l2 hl2=>?_);refine WT.vidx hT hv2 Z Z Z Z Z Z Z Z Z zo (fun bl3 hbl3=>?_);refine WT.vst (y:=d1[a]!) hT 0 hv2 hbl3 (gE (by simp;omega)) Z Z Z Z Z hl1 Z (fun _=>rfl) Z (fun Bl3 hBl3=>?_);refine WT.vidx hT hBl3 Z Z Z Z Z Z Z Z Z zo (fun bl4 hbl4=>?_)
  refine WT.vst (y:=d1[j1]!) hT 0 hBl3 hbl4 (gE (by simp;omega)) Z Z Z Z Z hl2 Z (fun _=>rfl) Z (fun Bl4 hBl4=>?_);rw[←swp_list] at hBl4;refine zC4 ?_;refine AW.ret ⟨_,[_],⟨_,_,rfl,⟨_,_,rfl,rfl,rfl⟩,rfl⟩,zsb,_,rfl,?_,?_⟩
  ·rw[hpart,if_pos h];rfl
  ·rw[hpart,if_pos h];exact hBl4
 ·have h:¬j1<i1:=by simp at h;omega
  have hlt1:i1<j1:=by
   rcases Nat.lt_or_ge i1 j1 with h1 | h1
   ·exact h1
   ·obtain rfl:i1=j1:=by omega
    have e1:=u4 zo;have e2:=v4 (Nat.le_refl _) zo;rw[e1] at e2;cases e2
  rw[if_neg h] at hpart;refine zC4 ?_;refine WT.vidx hT hv2 Z Z Z Z Z Z Z Z Z zo (fun bl1 hbl1=>?_);refine WT.vldS hT 0 hv2 hbl1 (arr_at zo) Z Z Z Z Z Z Z Z Z (fun l1 hl1=>?_);refine zC4 ?_;refine WT.vidx hT hv2 Z Z Z Z Z Z Z Z Z zo (fun bl2 hbl2=>?_);refine WT.vldS hT 0 hv2 hbl2 (arr_at zo) Z Z Z Z Z Z Z Z Z (fun l2 hl2=>?_);refine WT.vidx hT hv2 Z Z Z Z Z Z Z Z Z zo (fun bl3 hbl3=>?_);refine WT.vst (y:=d1[j1]!) hT 0 hv2 hbl3 (gE (by simp;omega)) Z Z Z Z Z hl1 Z (fun _=>rfl) Z (fun Bl3 hBl3=>?_);refine WT.vidx hT hBl3 Z Z Z Z Z Z Z Z Z zo (fun bl4 hbl4=>?_)
  refine WT.vst (y:=d1[i1]!) hT 0 hBl3 hbl4 (gE (by simp;omega)) Z Z Z Z Z hl2 Z (fun _=>rfl) Z (fun Bl4 hBl4=>?_);rw[←swp_list] at hBl4;refine zC4 ?_;refine AW.jnT (S:=Nat×VS Lr) (fun s=>[(12,.int .i64 (s.1:Nat)),(13,.int .i64 (s.2.i:Nat))]) (fun s=>s.2.B::own) (fun s G=>Vec tLr G a0 m c s.2.B s.2.d.toList∧a≤s.2.i∧s.2.i<b∧(s.2.i,s.2.d)=Go.Sort.partLoop lt a (i1+1) (j1-1) (Go.Sort.swp d1 i1 j1)) ?_ (fun s F3 hF3 hP=>?_)
  ·refine AW.block ?_;refine AW.loopR (S:=Nat×VS Lr) (fun s=>[(12,.int .i64 (s.1:Nat)),(13,.int .i64 (s.2.i:Nat))]) (fun s=>s.2.B::own) (fun s G=>Vec tLr G a0 m c s.2.B s.2.d.toList∧a<s.1∧s.1≤s.2.i+1∧s.2.i<b∧Go.Sort.partLoop lt a s.1 s.2.i s.2.d=Go.Sort.partLoop lt a (i1+1) (j1-1) (Go.Sort.swp d1 i1 j1)) (fun s=>s.2.i+1-s.1) (i1+1,⟨j1-1,Go.Sort.swp d1 i1 j1,Bl4⟩)
    sM oR ⟨hBl4,by dsimp only;omega,by dsimp only;omega,by dsimp only;omega,rfl⟩ ?_
   intro u F4 hF4 hP4;obtain⟨hv4,ha4,hij4,hb4,heq4⟩:=hP4;have hF4':=(hF1.trans hF2).trans hF4;have hsz4:m=u.2.d.size:=hv4.len;obtain⟨i2,hi2⟩:∃i2,Go.Sort.scanUp (fun x=>lt x u.2.d[a]!) u.2.d u.2.i u.1=i2:=⟨_,rfl⟩;obtain⟨j2,hj2⟩:∃j2,Go.Sort.scanDown (fun x=>!lt x u.2.d[a]!) u.2.d i2 u.2.i=j2:=⟨_,rfl⟩;obtain⟨w1,w2,w3,w4⟩:=Go.Sort.scanUp_spec (fun x=>lt x u.2.d[a]!) u.2.d u.2.i _ u.1 rfl;obtain⟨x1,x2,x3,x4⟩:=Go.Sort.scanDown_spec (fun x=>!lt x u.2.d[a]!) u.2.d i2 u.2.i;rw[hi2] at w1 w2 w4;rw[hj2] at x1 x2 x4;have w2:=w2 hij4;have x2:=x2 zo;have hloop:=Go.Sort.partLoop_eq lt a u.1 u.2.i u.2.d
   rw[hi2,hj2,heq4] at hloop;refine AW.block ?_;refine AW.seq ?_;refine AW.jnT (S:=Unit) (fun _=>[(12,.int .i64 (Go.Sort.scanUp (fun x=>lt x u.2.d[a]!) u.2.d u.2.i u.1:Nat))]) (fun _=>(u.2.B::own)) (fun _ _=>True) ?_ (fun _ F5 hF5 _=>?_)
   ·refine AW.block ?_;refine AW.loopR (S:=Nat) (fun i=>[(12,.int .i64 (i:Nat))]) (fun _=>(u.2.B::own)) (fun i _=>u.1≤i∧i≤u.2.i+1∧Go.Sort.scanUp (fun x=>lt x u.2.d[a]!) u.2.d u.2.i i=Go.Sort.scanUp (fun x=>lt x u.2.d[a]!) u.2.d u.2.i u.1) (fun i=>u.2.i+1-i) u.1 sM oR ⟨Nat.le_refl _,by omega,rfl⟩ ?_;intro i G hG hP;obtain⟨hi1,hi2,hi3⟩:=hP;have hvG:=hv4.mono hG;refine zC4 ?_;refine WT.split 108 Z (fun h=>?_) (fun h=>?_)
    ·have h:i≤u.2.i:=by simp at h;omega
     refine zC4 ?_;refine WT.vidx hT hvG Z Z Z Z Z Z Z Z Z zo (fun bl1 hbl1=>?_);refine WT.vldS hT 0 hvG hbl1 (arr_at zo) Z Z Z Z Z Z Z Z Z (fun l1 hl1=>?_);refine zC4 ?_;refine WT.vidx hT hvG Z Z Z Z Z Z Z Z Z zo (fun bl2 hbl2=>?_);refine WT.vldS hT 0 hvG hbl2 (arr_at zo) Z Z Z Z Z Z Z Z Z (fun l2 hl2=>?_);refine WT.callC hg hgb Z Z Z Z Z Z Z (hcmp G (hF4'.trans hG) l1 l2 _ _ hl1 hl2) (fun v hvz=>?_);obtain⟨z,rfl,hz⟩:=hvz;refine zC4 ?_;refine AW.cond Z (fun hc=>?_) (fun hc=>?_)
     ·have hlt:=hz.1 (by simpa using hc);refine zC4 ?_;refine AW.block ?_;refine zC4 ?_;refine⟨i+1,by omega,sM,OwnLe.refl _,by omega,by omega,?_⟩;rw[←hi3]
      conv=>rhs;rw[Go.Sort.scanUp]
      rw[if_pos (by simp[h,hlt])]
     ·have hlt:=(Bool.eq_false_iff.2 (fun hh=>absurd (hz.2 hh) (by simpa using hc)):lt u.2.d[i]! u.2.d[a]! = false);refine AW.exit ?_;refine⟨(),SubK.of_map (by rw[←hi3,Go.Sort.scanUp,if_neg (by simp[hlt])];rfl),OwnLe.refl _,trivial⟩
    ·have h:¬i≤u.2.i:=by simp at h;omega
     refine zC4 ?_;refine AW.cond Z (fun h=>(by cases h)) (fun _=>?_);refine AW.exit ?_;refine⟨(),SubK.of_map (by rw[←hi3,Go.Sort.scanUp,if_neg (by simp[h])];rfl),OwnLe.refl _,trivial⟩
   rw[hi2];have hv5:=hv4.mono hF5;have hF5':=hF4'.trans hF5;refine AW.seq ?_;refine AW.jnT (S:=Unit) (fun _=>[(13,.int .i64 (Go.Sort.scanDown (fun x=>!lt x u.2.d[a]!) u.2.d i2 u.2.i:Nat))]) (fun _=>(u.2.B::own)) (fun _ _=>True) ?_ (fun _ F6 hF6 _=>?_)
   ·refine AW.block ?_;refine AW.loopR (S:=Nat) (fun j=>[(13,.int .i64 (j:Nat))]) (fun _=>(u.2.B::own)) (fun j _=>j≤u.2.i∧i2≤j+1∧Go.Sort.scanDown (fun x=>!lt x u.2.d[a]!) u.2.d i2 j=Go.Sort.scanDown (fun x=>!lt x u.2.d[a]!) u.2.d i2 u.2.i) (fun j=>j) u.2.i sM oR ⟨Nat.le_refl _,by omega,rfl⟩ ?_;intro j G hG hP;obtain⟨hj1,hj2,hj3⟩:=hP;have hvG:=hv5.mono hG;have one:∀q,i2≤j→(fun x=>!lt x u.2.d[a]!) u.2.d[j]! = q→Go.Sort.scanDown (fun x=>!lt x u.2.d[a]!) u.2.d i2 j=if q=true then Go.Sort.scanDown (fun x=>!lt x u.2.d[a]!) u.2.d i2 (j-1) else j:=by
     intro q h1 h2;cases j with
     | zero=>omega
     | succ k=>
      rw[Go.Sort.scanDown,Nat.add_sub_cancel];subst h2;simp[h1]
    refine zC4 ?_;refine WT.split 126 Z (fun h=>?_) (fun h=>?_)
    ·have h:i2≤j:=by simp at h;omega
     refine zC4 ?_;refine WT.vidx hT hvG Z Z Z Z Z Z Z Z Z zo (fun bl1 hbl1=>?_);refine WT.vldS hT 0 hvG hbl1 (arr_at zo) Z Z Z Z Z Z Z Z Z (fun l1 hl1=>?_);refine zC4 ?_;refine WT.vidx hT hvG Z Z Z Z Z Z Z Z Z zo (fun bl2 hbl2=>?_);refine WT.vldS hT 0 hvG hbl2 (arr_at zo) Z Z Z Z Z Z Z Z Z (fun l2 hl2=>?_);refine WT.callC hg hgb Z Z Z Z Z Z Z (hcmp G (hF5'.trans hG) l1 l2 _ _ hl1 hl2) (fun v hvz=>?_);obtain⟨z,rfl,hz⟩:=hvz;refine zC4 ?_;refine AW.cond Z (fun hc=>?_) (fun hc=>?_)
     ·have hlt:=(Bool.eq_false_iff.2 (fun hh=>absurd (hz.2 hh) (by simpa using hc)):lt u.2.d[j]! u.2.d[a]! = false);refine zC4 ?_;refine AW.block ?_;refine zC4 ?_;refine⟨j-1,by omega,sM,OwnLe.refl _,by omega,by omega,?_⟩;rw[←hj3,one true h (by simp[hlt]),if_pos rfl]
     ·have hlt:=hz.1 (by simpa using hc);refine AW.exit ?_;refine⟨(),SubK.of_map (by rw[←hj3,one false h (by simp[hlt]),if_neg (by decide)];rfl),OwnLe.refl _,trivial⟩
    ·have h:¬i2≤j:=by simp at h;omega
     refine zC4 ?_;refine AW.cond Z (fun h=>(by cases h)) (fun _=>?_);refine AW.exit ?_;have e:Go.Sort.scanDown (fun x=>!lt x u.2.d[a]!) u.2.d i2 j=j:=by
      cases j with
      | zero=>rfl
      | succ k=>rw[Go.Sort.scanDown,if_neg (by simp;omega)]
     refine⟨(),SubK.of_map (by rw[←hj3,e];rfl),OwnLe.refl _,trivial⟩
   rw[hj2];have hv6:=hv5.mono hF6;refine zC4 ?_;refine AW.cond Z (fun h=>?_) (fun h=>?_)
   ·have h:j2<i2:=by simp at h;omega
    refine AW.exit ?_;refine⟨(i2,⟨j2,u.2.d,u.2.B⟩),sM,OwnLe.refl _,hv6,by dsimp only;omega,by dsimp only;omega,?_⟩;rw[hloop,if_pos h]
   ·have h:¬j2<i2:=by simp at h;omega
    have hlt2:i2<j2:=by
     rcases Nat.lt_or_ge i2 j2 with h1 | h1
     ·exact h1
     ·obtain rfl:i2=j2:=by omega
      have e1:=w4 zo;have e2:=x4 (Nat.le_refl _) zo;rw[e1] at e2;cases e2
    exact shE9
  ·obtain⟨hv3,ha3,hb3,heq3⟩:=hP;have hsz3:m=s.2.d.size:=hv3.len;rw[←heq3] at hpart;refine zC4 ?_;refine WT.vidx hT hv3 Z Z Z Z Z Z Z Z Z zo (fun bl5 hbl5=>?_);refine WT.vldS hT 0 hv3 hbl5 (arr_at zo) Z Z Z Z Z Z Z Z Z (fun l5 hl5=>?_);refine zC4 ?_;refine WT.vidx hT hv3 Z Z Z Z Z Z Z Z Z zo (fun bl6 hbl6=>?_);refine WT.vldS hT 0 hv3 hbl6 (arr_at zo) Z Z Z Z Z Z Z Z Z (fun l6 hl6=>?_);refine WT.vidx hT hv3 Z Z Z Z Z Z Z Z Z zo (fun bl7 hbl7=>?_);refine WT.vst (y:=s.2.d[a]!) hT 0 hv3 hbl7 (gE (by simp;omega)) Z Z Z Z Z hl5 Z (fun _=>rfl) Z (fun Bl7 hBl7=>?_)
   refine WT.vidx hT hBl7 Z Z Z Z Z Z Z Z Z zo (fun bl8 hbl8=>?_);refine WT.vst (y:=s.2.d[s.2.i]!) hT 0 hBl7 hbl8 (gE (by simp;omega)) Z Z Z Z Z hl6 Z (fun _=>rfl) Z (fun Bl8 hBl8=>?_);rw[←swp_list] at hBl8;refine zC4 ?_;refine AW.ret ⟨_,[_],⟨_,_,rfl,⟨_,_,rfl,rfl,rfl⟩,rfl⟩,zsb,_,rfl,?_,?_⟩
   ·rw[hpart];rfl
   ·rw[hpart];exact hBl8
theorem lrPartEq_spec(F:Frz){lt:Lr→Lr→Bool}{g:Nat}{first capt:List Value}(hc:CmpOk tLr lt F g first capt){a0:Option Addr}{m c:Nat}{B:List (Nat×Blk)}{d:Array Lr}(hv:Vec tLr F a0 m c B d.toList)(a b pivot:Nat)(hp1:a≤pivot)(hp2:pivot<b)(hb:b≤m)(hm:m≤1000000) :
  Abs.Spec CC 198 [.slice a0 m c,.int .i64 a,.int .i64 b,.int .i64 pivot,.func (.func g) ⟨first⟩ ⟨capt⟩] F [B] fun F' v o=>∃B',o=[B']∧v=.int .i64 ((Go.Sort.partitionEqual lt d a b pivot).1:Nat)∧Vec tLr F' a0 m c B' (Go.Sort.partitionEqual lt d a b pivot).2.toList:=by
 obtain⟨⟨fn,hg,hgb⟩,hcmp⟩:=hc;have hsz:m=d.size:=hv.len;refine Abs.Spec.fn (n:=90) Tryz.func198 rfl rfl fun own=>?_;refine zC4 ?_;refine WT.vidx hT hv Z Z Z Z Z Z Z Z Z zo (fun bl1 hbl1=>?_);refine WT.vldS hT 0 hv hbl1 (arr_at zo) Z Z Z Z Z Z Z Z Z (fun l1 hl1=>?_);refine zC4 ?_;refine WT.vidx hT hv Z Z Z Z Z Z Z Z Z zo (fun bl2 hbl2=>?_);refine WT.vldS hT 0 hv hbl2 (arr_at zo) Z Z Z Z Z Z Z Z Z (fun l2 hl2=>?_);refine WT.vidx hT hv Z Z Z Z Z Z Z Z Z zo (fun bl3 hbl3=>?_);refine WT.vst (y:=d[pivot]!) hT 0 hv hbl3 (gE (by simp;omega)) Z Z Z Z Z hl1 Z (fun _=>rfl) Z (fun Bl3 hBl3=>?_)
 refine WT.vidx hT hBl3 Z Z Z Z Z Z Z Z Z zo (fun bl4 hbl4=>?_);refine WT.vst (y:=d[a]!) hT 0 hBl3 hbl4 (gE (by simp;omega)) Z Z Z Z Z hl2 Z (fun _=>rfl) Z (fun Bl4 hBl4=>?_);rw[←swp_list] at hBl4;obtain⟨d1,hd1⟩:∃d1,Go.Sort.swp d a pivot=d1:=⟨_,rfl⟩;rw[hd1] at hBl4;have hpart:Go.Sort.partitionEqual lt d a b pivot=Go.Sort.partEqLoop lt a (a+1) (b-1) d1:=by rw[Go.Sort.partitionEqual,hd1]
 refine zC4 ?_;refine AW.jnT (S:=Nat×VS Lr) (fun s=>[(11,.int .i64 (s.1:Nat)),(12,.int .i64 (s.2.i:Nat))]) (fun s=>s.2.B::own) (fun s G=>Vec tLr G a0 m c s.2.B s.2.d.toList∧(s.1,s.2.d)=Go.Sort.partEqLoop lt a (a+1) (b-1) d1) ?_ (fun s F3 hF3 hP=>?_)
 ·refine AW.block ?_;refine AW.loopR (S:=Nat×VS Lr) (fun s=>[(11,.int .i64 (s.1:Nat)),(12,.int .i64 (s.2.i:Nat))]) (fun s=>s.2.B::own) (fun s G=>Vec tLr G a0 m c s.2.B s.2.d.toList∧a<s.1∧s.1≤s.2.i+1∧s.2.i<b∧Go.Sort.partEqLoop lt a s.1 s.2.i s.2.d=Go.Sort.partEqLoop lt a (a+1) (b-1) d1) (fun s=>s.2.i+1-s.1) (a+1,⟨b-1,d1,Bl4⟩)
   sM oR ⟨hBl4,by dsimp only;omega,by dsimp only;omega,by dsimp only;omega,rfl⟩ ?_
  intro u F4 hF4 hP4;obtain⟨hv4,ha4,hij4,hb4,heq4⟩:=hP4;have hsz4:m=u.2.d.size:=hv4.len;obtain⟨i2,hi2⟩:∃i2,Go.Sort.scanUp (fun x=>!lt u.2.d[a]! x) u.2.d u.2.i u.1=i2:=⟨_,rfl⟩;obtain⟨j2,hj2⟩:∃j2,Go.Sort.scanDown (fun x=>lt u.2.d[a]! x) u.2.d i2 u.2.i=j2:=⟨_,rfl⟩;obtain⟨w1,w2,w3,w4⟩:=Go.Sort.scanUp_spec (fun x=>!lt u.2.d[a]! x) u.2.d u.2.i _ u.1 rfl;obtain⟨x1,x2,x3,x4⟩:=Go.Sort.scanDown_spec (fun x=>lt u.2.d[a]! x) u.2.d i2 u.2.i;rw[hi2] at w1 w2 w4;rw[hj2] at x1 x2 x4;have w2:=w2 hij4;have x2:=x2 zo;have hloop:=Go.Sort.partEqLoop_eq lt a u.1 u.2.i u.2.d;rw[hi2,hj2,heq4] at hloop
  refine AW.block ?_;refine AW.seq ?_;refine AW.jnT (S:=Unit) (fun _=>[(11,.int .i64 (Go.Sort.scanUp (fun x=>!lt u.2.d[a]! x) u.2.d u.2.i u.1:Nat))]) (fun _=>(u.2.B::own)) (fun _ _=>True) ?_ (fun _ F5 hF5 _=>?_)
  ·refine AW.block ?_;refine AW.loopR (S:=Nat) (fun i=>[(11,.int .i64 (i:Nat))]) (fun _=>(u.2.B::own)) (fun i _=>u.1≤i∧i≤u.2.i+1∧Go.Sort.scanUp (fun x=>!lt u.2.d[a]! x) u.2.d u.2.i i=Go.Sort.scanUp (fun x=>!lt u.2.d[a]! x) u.2.d u.2.i u.1) (fun i=>u.2.i+1-i) u.1 sM oR ⟨Nat.le_refl _,by omega,rfl⟩ ?_;intro i G hG hP;obtain⟨hi1,hi2,hi3⟩:=hP;have hvG:=hv4.mono hG;refine zC4 ?_;refine WT.split 34 Z (fun h=>?_) (fun h=>?_)
   ·have h:i≤u.2.i:=by simp at h;omega
    refine zC4 ?_;refine WT.vidx hT hvG Z Z Z Z Z Z Z Z Z zo (fun bl1 hbl1=>?_);refine WT.vldS hT 0 hvG hbl1 (arr_at zo) Z Z Z Z Z Z Z Z Z (fun l1 hl1=>?_);refine zC4 ?_;refine WT.vidx hT hvG Z Z Z Z Z Z Z Z Z zo (fun bl2 hbl2=>?_);refine WT.vldS hT 0 hvG hbl2 (arr_at zo) Z Z Z Z Z Z Z Z Z (fun l2 hl2=>?_);refine WT.callC hg hgb Z Z Z Z Z Z Z (hcmp G (hF4.trans hG) l1 l2 _ _ hl1 hl2) (fun v hvz=>?_);obtain⟨z,rfl,hz⟩:=hvz;refine zC4 ?_;refine AW.cond Z (fun hc=>?_) (fun hc=>?_)
    ·have hlt:=(Bool.eq_false_iff.2 (fun hh=>absurd (hz.2 hh) (by simpa using hc)):lt u.2.d[a]! u.2.d[i]! = false);refine zC4 ?_;refine AW.block ?_;refine zC4 ?_;refine⟨i+1,by omega,sM,OwnLe.refl _,by omega,by omega,?_⟩;rw[←hi3]
     conv=>rhs;rw[Go.Sort.scanUp]
     rw[if_pos (by simp[h,hlt])]
    ·have hlt:=hz.1 (by simpa using hc);refine AW.exit ?_;refine⟨(),SubK.of_map (by rw[←hi3,Go.Sort.scanUp,if_neg (by simp[hlt])];rfl),OwnLe.refl _,trivial⟩
   ·have h:¬i≤u.2.i:=by simp at h;omega
    refine zC4 ?_;refine AW.cond Z (fun h=>(by cases h)) (fun _=>?_);refine AW.exit ?_;refine⟨(),SubK.of_map (by rw[←hi3,Go.Sort.scanUp,if_neg (by simp[h])];rfl),OwnLe.refl _,trivial⟩
  rw[hi2];have hv5:=hv4.mono hF5;have hF5':=hF4.trans hF5;refine AW.seq ?_;refine AW.jnT (S:=Unit) (fun _=>[(12,.int .i64 (Go.Sort.scanDown (fun x=>lt u.2.d[a]! x) u.2.d i2 u.2.i:Nat))]) (fun _=>(u.2.B::own)) (fun _ _=>True) ?_ (fun _ F6 hF6 _=>?_)
  ·refine AW.block ?_;refine AW.loopR (S:=Nat) (fun j=>[(12,.int .i64 (j:Nat))]) (fun _=>(u.2.B::own)) (fun j _=>j≤u.2.i∧i2≤j+1∧Go.Sort.scanDown (fun x=>lt u.2.d[a]! x) u.2.d i2 j=Go.Sort.scanDown (fun x=>lt u.2.d[a]! x) u.2.d i2 u.2.i) (fun j=>j) u.2.i sM oR ⟨Nat.le_refl _,by omega,rfl⟩ ?_;intro j G hG hP;obtain⟨hj1,hj2,hj3⟩:=hP;have hvG:=hv5.mono hG;have one:∀q,i2≤j→(fun x=>lt u.2.d[a]! x) u.2.d[j]! = q→Go.Sort.scanDown (fun x=>lt u.2.d[a]! x) u.2.d i2 j=if q=true then Go.Sort.scanDown (fun x=>lt u.2.d[a]! x) u.2.d i2 (j-1) else j:=by
    intro q h1 h2;cases j with
    | zero=>omega
    | succ k=>
     rw[Go.Sort.scanDown,Nat.add_sub_cancel];subst h2;simp[h1]
   refine zC4 ?_;refine WT.split 53 Z (fun h=>?_) (fun h=>?_)
   ·have h:i2≤j:=by simp at h;omega
    refine zC4 ?_;refine WT.vidx hT hvG Z Z Z Z Z Z Z Z Z zo (fun bl1 hbl1=>?_);refine WT.vldS hT 0 hvG hbl1 (arr_at zo) Z Z Z Z Z Z Z Z Z (fun l1 hl1=>?_);refine zC4 ?_;refine WT.vidx hT hvG Z Z Z Z Z Z Z Z Z zo (fun bl2 hbl2=>?_);refine WT.vldS hT 0 hvG hbl2 (arr_at zo) Z Z Z Z Z Z Z Z Z (fun l2 hl2=>?_);refine WT.callC hg hgb Z Z Z Z Z Z Z (hcmp G (hF5'.trans hG) l1 l2 _ _ hl1 hl2) (fun v hvz=>?_);obtain⟨z,rfl,hz⟩:=hvz;refine zC4 ?_;refine AW.cond Z (fun hc=>?_) (fun hc=>?_)
    ·have hlt:=hz.1 (by simpa using hc);refine zC4 ?_;refine AW.block ?_;refine zC4 ?_;refine⟨j-1,by omega,sM,OwnLe.refl _,by omega,by omega,?_⟩;rw[←hj3,one true h (by simp[hlt]),if_pos rfl]
    ·have hlt:=(Bool.eq_false_iff.2 (fun hh=>absurd (hz.2 hh) (by simpa using hc)):lt u.2.d[a]! u.2.d[j]! = false);refine AW.exit ?_;refine⟨(),SubK.of_map (by rw[←hj3,one false h (by simp[hlt]),if_neg (by decide)];rfl),OwnLe.refl _,trivial⟩
   ·have h:¬i2≤j:=by simp at h;omega
    refine zC4 ?_;refine AW.cond Z (fun h=>(by cases h)) (fun _=>?_);refine AW.exit ?_;have e:Go.Sort.scanDown (fun x=>lt u.2.d[a]! x) u.2.d i2 j=j:=by
     cases j with
     | zero=>rfl
     | succ k=>rw[Go.Sort.scanDown,if_neg (by simp;omega)]
    refine⟨(),SubK.of_map (by rw[←hj3,e];rfl),OwnLe.refl _,trivial⟩
  rw[hj2];have hv6:=hv5.mono hF6;refine zC4 ?_;refine AW.cond Z (fun h=>?_) (fun h=>?_)
  ·have h:j2<i2:=by simp at h;omega
   refine AW.exit ?_;refine⟨(i2,⟨j2,u.2.d,u.2.B⟩),sM,OwnLe.refl _,hv6,?_⟩;rw[hloop,if_pos h]
  ·have h:¬j2<i2:=by simp at h;omega
   have hlt2:i2<j2:=by
    rcases Nat.lt_or_ge i2 j2 with h1 | h1
    ·exact h1
    ·obtain rfl:i2=j2:=by omega
     have e1:=w4 zo;have e2:=x4 (Nat.le_refl _) zo;rw[e2] at e1;cases e1
   exact shE9
 ·obtain⟨hv3,heq3⟩:=hP;refine zC4 ?_;refine AW.ret ⟨_,[_],⟨_,_,rfl,rfl,rfl⟩,zsb,_,rfl,?_,?_⟩
  ·rw[hpart,←heq3];rfl
  ·rw[hpart,←heq3];exact hv3
theorem lrOrder2_spec(F:Frz){lt:Lr→Lr→Bool}{g:Nat}{first capt:List Value}(hc:CmpOk tLr lt F g first capt){a0:Option Addr}{m c:Nat}{d:Array Lr}(hv:Arr tLr F a0 m c d.toList)(a b:Nat)(ha:a<m)(hb:b<m)(hm:m≤1000000){ip sw:Nat}(hsw:sw≤1000) :
  Abs.Spec CC 217 [.slice a0 m c,.int .i64 a,.int .i64 b,.pointer (some ⟨ip,0,none⟩),.func (.func g) ⟨first⟩ ⟨capt⟩] F [[(ip,.cells false [.int .i64 sw])]] fun F' v o=>∃B',o=[B']∧v=.tuple ⟨[.int .i64 ((Go.Sort.order2 lt d a b sw).1:Nat),.int .i64 ((Go.Sort.order2 lt d a b sw).2.1:Nat)]⟩∧B'=[(ip,.cells false [.int .i64 ((Go.Sort.order2 lt d a b sw).2.2:Nat)])]:=by
 obtain⟨⟨fn,hg,hgb⟩,hcmp⟩:=hc;have hsz:m=d.size:=hv.len;refine Abs.Spec.fn (n:=32) Tryz.func217 rfl rfl fun own=>?_;refine zC4 ?_;refine WT.idxL hT hv Z Z Z Z Z Z Z Z Z (by simp;omega) (fun x1 hx1 b1 off1 ro1 cs1 l1 hb1 hp1 hl1=>?_);obtain rfl:x1=d[b]!:=by rw[arr_at zo] at hx1;exact(Option.some.inj hx1).symm
 refine WT.loadS hT hb1 hp1 Z Z Z Z Z Z Z Z ?_;refine zC4 ?_;refine WT.idxL hT hv Z Z Z Z Z Z Z Z Z (by simp;omega) (fun x2 hx2 b2 off2 ro2 cs2 l2 hb2 hp2 hl2=>?_);obtain rfl:x2=d[a]!:=by rw[arr_at zo] at hx2;exact(Option.some.inj hx2).symm
 refine WT.loadS hT hb2 hp2 Z Z Z Z Z Z Z Z ?_;refine WT.callC hg hgb Z Z Z Z Z Z Z (hcmp F (Frz.le.refl F) l1 l2 _ _ hl1 hl2) (fun v hvz=>?_);obtain⟨z,rfl,hz⟩:=hvz;refine zC4 ?_;refine AW.cond Z (fun hc=>?_) (fun hc=>?_)
 ·have hlt:=hz.1 (by simpa using hc);have e:Go.Sort.order2 lt d a b sw=(b,a,sw+1):=by rw[Go.Sort.order2,if_pos hlt]
  refine zC4 ?_;exact AW.ret ⟨_,[_],⟨_,_,rfl,⟨_,_,rfl,rfl,rfl⟩,rfl⟩,zsb,_,rfl,(by rw[e];first | done | rfl),(by rw[e];first | done | rfl)⟩
 ·have hlt:lt d[b]! d[a]! = false:=Bool.eq_false_iff.2 (fun hh=>absurd (hz.2 hh) (by simpa using hc));have e:Go.Sort.order2 lt d a b sw=(a,b,sw):=by rw[Go.Sort.order2,if_neg (by rw[hlt];decide)]
  refine zC4 ?_;exact AW.ret ⟨_,[_],⟨_,_,rfl,⟨_,_,rfl,rfl,rfl⟩,rfl⟩,zsb,_,rfl,(by rw[e];first | done | rfl),(by rw[e];first | done | rfl)⟩
theorem lrMedian_spec(F:Frz){lt:Lr→Lr→Bool}{g:Nat}{first capt:List Value}(hc:CmpOk tLr lt F g first capt){a0:Option Addr}{m c0:Nat}{d:Array Lr}(hv:Arr tLr F a0 m c0 d.toList)(a b c:Nat)(ha:a<m)(hb:b<m)(hcm:c<m)(hm:m≤1000000){ip sw:Nat}(hsw:sw≤900) :
  Abs.Spec CC 213 [.slice a0 m c0,.int .i64 a,.int .i64 b,.int .i64 c,.pointer (some ⟨ip,0,none⟩),.func (.func g) ⟨first⟩ ⟨capt⟩] F [[(ip,.cells false [.int .i64 sw])]] fun F' v o=>∃B',o=[B']∧v=.int .i64 ((Go.Sort.median lt d a b c sw).1:Nat)∧B'=[(ip,.cells false [.int .i64 ((Go.Sort.median lt d a b c sw).2:Nat)])]:=by
 obtain⟨r1,hr1⟩:∃r,Go.Sort.order2 lt d a b sw=r:=⟨_,rfl⟩;obtain⟨r2,hr2⟩:∃r,Go.Sort.order2 lt d r1.2.1 c r1.2.2=r:=⟨_,rfl⟩;obtain⟨r3,hr3⟩:∃r,Go.Sort.order2 lt d r1.1 r2.1 r2.2.2=r:=⟨_,rfl⟩;have hmed:Go.Sort.median lt d a b c sw=(r3.2.1,r3.2.2):=by simp only[Go.Sort.median,hr1,hr2,hr3]
 have m1:=Go.Sort.order2_mem lt d a b sw;have m2:=Go.Sort.order2_mem lt d r1.2.1 c r1.2.2;have n1:=Go.Sort.order2_count lt d a b sw;have n2:=Go.Sort.order2_count lt d r1.2.1 c r1.2.2;rw[hr1] at m1 n1;rw[hr2] at m2 n2;have b1:r1.1<m∧r1.2.1<m:=by omega
 have b2:r2.1<m∧r2.2.1<m:=by omega
 refine Abs.Spec.fn (n:=41) Tryz.func213 rfl rfl fun own=>?_;refine zC4 ?_;refine WT.call1F 0 Tryz.func217 Z Z Z Z Z Z Z (fun _=>rfl) (lrOrder2_spec _ hc hv a b ha hb hm zo) (fun F1 v B1 hF1 hv1=>?_);obtain⟨rfl,rfl⟩:=hv1;rw[hr1];refine zC4 ?_;refine WT.call1F 0 Tryz.func217 Z Z Z Z Z Z Z (fun _=>rfl) (lrOrder2_spec _ (hc.mono hF1) (hv.mono hF1) r1.2.1 c b1.2 hcm hm (sw:=r1.2.2) zo) (fun F2 v B2 hF2 hv2=>?_);obtain⟨rfl,rfl⟩:=hv2;rw[hr2];refine zC4 ?_
 refine WT.call1F 0 Tryz.func217 Z Z Z Z Z Z Z (fun _=>rfl) (lrOrder2_spec _ ((hc.mono hF1).mono hF2) ((hv.mono hF1).mono hF2) r1.1 r2.1 b1.1 b2.1 hm (sw:=r2.2.2) zo) (fun F3 v B3 hF3 hv3=>?_);obtain⟨rfl,rfl⟩:=hv3;rw[hr3];refine zC4 ?_;exact AW.ret ⟨_,[_],⟨_,_,rfl,rfl,rfl⟩,zsb,_,rfl,(by rw[hmed];first | done | rfl),(by rw[hmed])⟩
theorem lrMedAdj_spec(F:Frz){lt:Lr→Lr→Bool}{g:Nat}{first capt:List Value}(hc:CmpOk tLr lt F g first capt){a0:Option Addr}{m c0:Nat}{d:Array Lr}(hv:Arr tLr F a0 m c0 d.toList)(a:Nat)(ha:1≤a)(hb:a+1<m)(hm:m≤1000000){ip sw:Nat}(hsw:sw≤900) :
  Abs.Spec CC 212 [.slice a0 m c0,.int .i64 a,.pointer (some ⟨ip,0,none⟩),.func (.func g) ⟨first⟩ ⟨capt⟩] F [[(ip,.cells false [.int .i64 sw])]] fun F' v o=>∃B',o=[B']∧v=.int .i64 ((Go.Sort.medianAdjacent lt d a sw).1:Nat)∧B'=[(ip,.cells false [.int .i64 ((Go.Sort.medianAdjacent lt d a sw).2:Nat)])]:=by
 refine Abs.Spec.fn (n:=18) Tryz.func212 rfl rfl fun own=>?_;refine zC4 ?_;refine WT.call1F 0 Tryz.func213 Z Z Z Z Z Z Z (fun _=>rfl) (lrMedian_spec _ hc hv (a-1) a (a+1) zo zo zo hm hsw) (fun F1 v B1 hF1 hv1=>?_);obtain⟨rfl,rfl⟩:=hv1;refine zC4 ?_;exact AW.ret ⟨_,[_],⟨_,_,rfl,rfl,rfl⟩,zsb,_,rfl,rfl,rfl⟩
theorem lrPivot_spec(F:Frz){lt:Lr→Lr→Bool}{g:Nat}{first capt:List Value}(hc:CmpOk tLr lt F g first capt){a0:Option Addr}{m c0:Nat}{d:Array Lr}(hv:Arr tLr F a0 m c0 d.toList)(a b:Nat)(hab:a+13≤b)(hb:b≤m)(hm:m≤1000000) :
  Abs.Spec CC 195 [.slice a0 m c0,.int .i64 a,.int .i64 b,.func (.func g) ⟨first⟩ ⟨capt⟩] F [] fun F' v o=>o=[]∧v=.tuple ⟨[.int .i64 ((Go.Sort.choosePivot lt d a b).1:Nat),.int .i64 (Go.Sort.hintCode (Go.Sort.choosePivot lt d a b).2)]⟩:=by
 have hd4:(b-a) / 4*4≤b-a:=Nat.div_mul_le_self _ _;have hd3:3≤(b-a) / 4:=by omega
 obtain⟨e,he⟩:∃e,(b-a) / 4=e:=⟨_,rfl⟩;rw[he] at hd4 hd3;refine Abs.Spec.fn (n:=63) Tryz.func195 rfl rfl fun own=>?_;refine zC4 ?_;refine WT.allocT hT Z Z Z Z Z Z (fun i11 hi11=>?_);refine zC4 ?_;refine WT.quoL 4 Z Z Z Z Z Z (by decide) zo ?_;refine WT.mulL 1 Z Z Z Z Z Z zo ?_;rw[he];refine zC4 ?_;refine WT.quoL 4 Z Z Z Z Z Z (by decide) zo ?_;refine WT.mulL 2 Z Z Z Z Z Z zo ?_;rw[he];refine zC4 ?_;refine WT.quoL 4 Z Z Z Z Z Z (by decide) zo ?_;refine WT.mulL 3 Z Z Z Z Z Z zo ?_;rw[he];refine zC4 ?_;refine AW.cond Z (fun _=>?_) (fun h=>(by simp at h;omega))
 refine AW.jn (S:=Nat×Nat×Nat×Nat) (fun s=>[(12,.int .i64 (s.1:Nat)),(13,.int .i64 (s.2.1:Nat)),(14,.int .i64 (s.2.2.1:Nat))]) (fun s=>[(i11,.cells false [.int .i64 (s.2.2.2:Nat)])]::own) (fun s _=>s.1<m∧s.2.1<m∧s.2.2.1<m∧s.2.2.2≤9∧Go.Sort.rawPivot lt d a b=Go.Sort.median lt d s.1 s.2.1 s.2.2.1 s.2.2.2) ?_ (fun s F5 hF5 hP=>?_)
 ·refine zC4 ?_;refine AW.cond Z (fun h=>?_) (fun h=>?_)
  ·have h:50≤b-a:=by simp at h;omega
   have h12:12≤e:=by omega
   obtain⟨r1,hr1⟩:∃r,Go.Sort.medianAdjacent lt d (a+e*1) 0=r:=⟨_,rfl⟩;obtain⟨r2,hr2⟩:∃r,Go.Sort.medianAdjacent lt d (a+e*2) r1.2=r:=⟨_,rfl⟩;obtain⟨r3,hr3⟩:∃r,Go.Sort.medianAdjacent lt d (a+e*3) r2.2=r:=⟨_,rfl⟩;have m1:=Go.Sort.medianAdjacent_mem lt d (a+e*1) 0;have m2:=Go.Sort.medianAdjacent_mem lt d (a+e*2) r1.2;have m3:=Go.Sort.medianAdjacent_mem lt d (a+e*3) r2.2;have n1:=Go.Sort.medianAdjacent_count lt d (a+e*1) 0;have n2:=Go.Sort.medianAdjacent_count lt d (a+e*2) r1.2;have n3:=Go.Sort.medianAdjacent_count lt d (a+e*3) r2.2;rw[hr1] at m1 n1;rw[hr2] at m2 n2;rw[hr3] at m3 n3;refine zC4 ?_
   refine WT.call1F 0 Tryz.func212 Z Z Z Z Z Z Z (fun _=>rfl) (lrMedAdj_spec _ hc hv (a+e*1) zo zo hm (sw:=0) zo) (fun F1 v B1 hF1 hv1=>?_);obtain⟨rfl,rfl⟩:=hv1;rw[hr1];refine zC4 ?_;refine WT.call1F 0 Tryz.func212 Z Z Z Z Z Z Z (fun _=>rfl) (lrMedAdj_spec _ (hc.mono hF1) (hv.mono hF1) (a+e*2) zo zo hm (sw:=r1.2) zo) (fun F2 v B2 hF2 hv2=>?_);obtain⟨rfl,rfl⟩:=hv2;rw[hr2];refine zC4 ?_;refine WT.call1F 0 Tryz.func212 Z Z Z Z Z Z Z (fun _=>rfl) (lrMedAdj_spec _ ((hc.mono hF1).mono hF2) ((hv.mono hF1).mono hF2) (a+e*3) zo zo hm (sw:=r2.2) zo) (fun F3 v B3 hF3 hv3=>?_);obtain⟨rfl,rfl⟩:=hv3;rw[hr3]
   refine zC4 ?_;refine⟨(r1.1,r2.1,r3.1,r3.2),sM,OwnLe.refl _,by dsimp only;omega,by dsimp only;omega,by dsimp only;omega,by dsimp only;omega,?_⟩;rw[Go.Sort.rawPivot,if_pos zo,if_pos h,he,hr1,hr2,hr3]
  ·have h:¬50≤b-a:=by simp at h;omega
   refine AW.skip ?_;refine⟨(a+e*1,a+e*2,a+e*3,0),sM,OwnLe.refl _,by dsimp only;omega,by dsimp only;omega,by dsimp only;omega,by dsimp only;omega,?_⟩;rw[Go.Sort.rawPivot,if_pos zo,if_neg zo,he]
 ·obtain⟨q1,q2,q3,q4,q5⟩:=hP;obtain⟨r,hr⟩:∃r,Go.Sort.median lt d s.1 s.2.1 s.2.2.1 s.2.2.2=r:=⟨_,rfl⟩;have n1:=Go.Sort.median_count lt d s.1 s.2.1 s.2.2.1 s.2.2.2;rw[hr] at n1 q5;have hch:Go.Sort.choosePivot lt d a b=(r.1,Go.Sort.hintOf r.2):=by rw[Go.Sort.choosePivot_eq,q5]
  refine zC4 ?_;refine WT.call1F 0 Tryz.func213 Z Z Z Z Z Z Z (fun _=>rfl) (lrMedian_spec _ (hc.mono hF5) (hv.mono hF5) s.1 s.2.1 s.2.2.1 q1 q2 q3 hm (sw:=s.2.2.2) zo) (fun F6 v B6 hF6 hv6=>?_);obtain⟨rfl,rfl⟩:=hv6;rw[hr];refine zC4 ?_;refine AW.block ?_;refine zC4 ?_;refine AW.cond Z (fun h=>?_) (fun h=>?_)
  ·have h:r.2=0:=by simp at h;omega
   refine zC4 ?_;refine AW.ret ⟨_,[],⟨_,_,rfl,⟨_,_,rfl,rfl,rfl⟩,rfl⟩,zsb,rfl,?_⟩;rw[hch,h];rfl
  ·have h:r.2≠0:=by simp at h;omega
   refine zC4 ?_;refine AW.cond Z (fun h2=>?_) (fun h2=>?_)
   ·have h2:r.2=12:=by simp at h2;omega
    refine zC4 ?_;refine AW.ret ⟨_,[],⟨_,_,rfl,⟨_,_,rfl,rfl,rfl⟩,rfl⟩,zsb,rfl,?_⟩;rw[hch,h2];rfl
   ·have h2:r.2≠12:=by simp at h2;omega
    refine zC4 ?_;refine AW.ret ⟨_,[],⟨_,_,rfl,⟨_,_,rfl,rfl,rfl⟩,rfl⟩,zsb,rfl,?_⟩;rw[hch,show Go.Sort.hintOf r.2=.unknown by rw[Go.Sort.hintOf,if_neg h,if_neg h2]];rfl
theorem lrPIns_spec(F:Frz){lt:Lr→Lr→Bool}{g:Nat}{first capt:List Value}(hc:CmpOk tLr lt F g first capt){a0:Option Addr}{m c:Nat}{B:List (Nat×Blk)}{d:Array Lr}(hv:Vec tLr F a0 m c B d.toList)(a b:Nat)(hab:a<b)(hb:b≤m)(hm:m≤1000000) :
  Abs.Spec CC 197 [.slice a0 m c,.int .i64 a,.int .i64 b,.func (.func g) ⟨first⟩ ⟨capt⟩] F [B] fun F' v o=>∃B',o=[B']∧v=.bool (Go.Sort.partialInsertionSort lt d a b).2∧Vec tLr F' a0 m c B' (Go.Sort.partialInsertionSort lt d a b).1.toList:=by
 obtain⟨⟨fn,hg,hgb⟩,hcmp⟩:=hc;refine Abs.Spec.fn (n:=141) Tryz.func197 rfl rfl fun own=>?_;refine zC4 ?_;refine AW.block ?_;refine AW.loopR (S:=Nat×VS Lr) (fun s=>[(10,.int .i64 (s.1:Nat)),(9,.int .i64 (s.2.i:Nat))]) (fun s=>s.2.B::own) (fun s G=>Vec tLr G a0 m c s.2.B s.2.d.toList∧s.1≤5∧a+1≤s.2.i∧s.2.i≤b∧Go.Sort.partialIns lt a b (5-s.1) s.2.i s.2.d=Go.Sort.partialInsertionSort lt d a b) (fun s=>5-s.1) (0,⟨a+1,d,B⟩)
  sM oR ⟨hv,Nat.zero_le _,Nat.le_refl _,hab,rfl⟩ ?_
 intro u F1 hF1 hP;obtain⟨hv1,hk,hi1,hi2,heq⟩:=hP;refine zC4 ?_;refine AW.cond Z (fun h=>?_) (fun h=>?_)
 ·have h:u.1<5:=by simp at h;omega
  obtain⟨i2,hsc⟩:∃i2,Go.Sort.scanSorted lt u.2.d b u.2.i=i2:=⟨_,rfl⟩;rw[show 5-u.1=(5-(u.1+1))+1 by omega,Go.Sort.partialIns_succ,hsc] at heq;refine AW.skip ?_;refine AW.seq ?_;refine AW.block ?_;refine AW.jn (S:=Unit) (fun _=>[(9,.int .i64 (i2:Nat))]) (fun _=>u.2.B::own) (fun _ _=>u.2.i≤i2∧i2≤b) ?_ (fun _ F2 hF2 hi2'=>?_)
  ·refine AW.block ?_;refine AW.loopR (S:=Nat) (fun i=>[(9,.int .i64 (i:Nat))]) (fun _=>u.2.B::own) (fun i _=>u.2.i≤i∧i≤b∧Go.Sort.scanSorted lt u.2.d b i=i2) (fun i=>b-i) u.2.i sM oR ⟨Nat.le_refl _,hi2,hsc⟩ ?_;intro i G hG hP;obtain⟨j1,j2,j3⟩:=hP;have hvG:=hv1.mono hG;have hsz:m=u.2.d.size:=hv1.len;refine zC4 ?_;refine WT.split 22 Z (fun h=>?_) (fun h=>?_)
   ·have h:i<b:=by simp at h;omega
    refine zC4 ?_;refine WT.vidx hT hvG Z Z Z Z Z Z Z Z Z zo (fun bl1 hbl1=>?_);refine WT.vldS hT 0 hvG hbl1 (arr_at zo) Z Z Z Z Z Z Z Z Z (fun l1 hl1=>?_);refine zC4 ?_;refine WT.vidx hT hvG Z Z Z Z Z Z Z Z Z zo (fun bl2 hbl2=>?_);refine WT.vldS hT 0 hvG hbl2 (arr_at zo) Z Z Z Z Z Z Z Z Z (fun l2 hl2=>?_);refine WT.callC hg hgb Z Z Z Z Z Z Z (hcmp G (hF1.trans hG) l1 l2 _ _ hl1 hl2) (fun v hvz=>?_);obtain⟨z,rfl,hz⟩:=hvz;refine zC4 ?_;refine AW.cond Z (fun hc=>?_) (fun hc=>?_)
    ·have hlt:lt u.2.d[i]! u.2.d[i-1]! = false:=Bool.eq_false_iff.2 (fun hh=>absurd (hz.2 hh) (by simpa using hc));refine zC4 ?_;refine AW.block ?_;refine zC4 ?_;refine⟨i+1,by omega,sM,OwnLe.refl _,by omega,by omega,?_⟩;rw[←j3]
     conv=>rhs;rw[Go.Sort.scanSorted]
     rw[if_pos (by simp[h,hlt])]
    ·have hlt:=hz.1 (by simpa using hc);refine AW.exit ?_;have e:i=i2:=by rw[←j3,Go.Sort.scanSorted,if_neg (by simp[hlt])]
     exact⟨(),SubK.of_map (by rw[e];rfl),OwnLe.refl _,by omega,by omega⟩
   ·have h:¬i<b:=by simp at h;omega
    refine zC4 ?_;refine AW.cond Z (fun h=>(by cases h)) (fun _=>?_);refine AW.exit ?_;have e:i=i2:=by rw[←j3,Go.Sort.scanSorted,if_neg (by simp[h])]
    exact⟨(),SubK.of_map (by rw[e];rfl),OwnLe.refl _,by omega,by omega⟩
  ·obtain⟨j1,j2⟩:=hi2';have hv2:=hv1.mono hF2;have hsz:m=u.2.d.size:=hv1.len;have hF2':=hF1.trans hF2;refine zC4 ?_;refine AW.cond Z (fun h=>?_) (fun h=>?_)
   ·have h:i2=b:=by simp at h;omega
    refine zC4 ?_;refine AW.ret ⟨_,[_],⟨_,_,rfl,rfl,rfl⟩,zsb,_,rfl,?_,?_⟩
    ·rw[←heq,if_pos h];rfl
    ·rw[←heq,if_pos h];exact hv2
   ·have h:i2≠b:=by simp at h;omega
    rw[if_neg h] at heq;refine zC4 ?_;refine AW.cond Z (fun h5=>?_) (fun h5=>?_)
    ·have h5:b-a<50:=by simp at h5;omega
     refine zC4 ?_;refine AW.ret ⟨_,[_],⟨_,_,rfl,rfl,rfl⟩,zsb,_,rfl,?_,?_⟩
     ·rw[←heq,if_pos h5];rfl
     ·rw[←heq,if_pos h5];exact hv2
    ·have h5:¬b-a<50:=by simp at h5;omega
     rw[if_neg h5] at heq;refine zC4 ?_;refine AW.draw (ps:=[(4,15)]) Z Z ?_;refine zC4 ?_;refine WT.vidx hT hv2 Z Z Z Z Z Z Z Z Z zo (fun bl3 hbl3=>?_);refine WT.vldS hT 0 hv2 hbl3 (arr_at zo) Z Z Z Z Z Z Z Z Z (fun l3 hl3=>?_);refine zC4 ?_;refine WT.vidx hT hv2 Z Z Z Z Z Z Z Z Z zo (fun bl4 hbl4=>?_);refine WT.vldS hT 0 hv2 hbl4 (arr_at zo) Z Z Z Z Z Z Z Z Z (fun l4 hl4=>?_);refine WT.vidx hT hv2 Z Z Z Z Z Z Z Z Z zo (fun bl5 hbl5=>?_);refine WT.vst (y:=u.2.d[i2-1]!) hT 0 hv2 hbl5 (gE (by simp;omega)) Z Z Z Z Z hl3 Z (fun _=>rfl) Z (fun Bl5 hBl5=>?_)
     refine WT.vidx hT hBl5 Z Z Z Z Z Z Z Z Z zo (fun bl6 hbl6=>?_);refine WT.vst (y:=u.2.d[i2]!) hT 0 hBl5 hbl6 (gE (by simp;omega)) Z Z Z Z Z hl4 Z (fun _=>rfl) Z (fun Bl6 hBl6=>?_);rw[←swp_list] at hBl6;obtain⟨d1,hd1⟩:∃d1,Go.Sort.swp u.2.d i2 (i2-1)=d1:=⟨_,rfl⟩;rw[hd1] at heq hBl6;refine zC4 ?_;refine⟨zrC,?_⟩;refine AW.jn (S:=VS Lr) (fun _=>[]) (fun s=>s.B::own) (fun s G=>Vec tLr G a0 m c s.B s.d.toList∧s.d=Go.Sort.fixDown lt a i2 d1) ?_ (fun s F3 hF3 hP3=>?_)
     ·refine zC4 ?_;refine AW.cond Z (fun h2=>?_) (fun h2=>?_)
      ·have h2:2≤i2-a:=by simp at h2;omega
       rw[Go.Sort.fixDown,if_pos h2];refine zC4 ?_;refine AW.block ?_;refine AW.loopR (S:=VS Lr) (fun s=>[(11,.int .i64 (s.i:Nat))]) (fun s=>s.B::own) (fun s G=>Vec tLr G a0 m c s.B s.d.toList∧s.i<m∧Go.Sort.shiftDown lt s.i s.d=Go.Sort.shiftDown lt (i2-1) d1) (fun s=>s.i) ⟨i2-1,d1,Bl6⟩ sM oR ⟨hBl6,by dsimp only;omega,rfl⟩ ?_;intro w G hG hP4;obtain⟨hw,hwi,hwe⟩:=hP4;have hszw:m=w.d.size:=hw.len;refine zC4 ?_;refine AW.cond Z (fun h3=>?_) (fun h3=>?_)
       ·have h3:1≤w.i:=by simp at h3;omega
        have one:Go.Sort.shiftDown lt w.i w.d=if lt w.d[w.i]! w.d[w.i-1]! = true then Go.Sort.shiftDown lt (w.i-1) (Go.Sort.swp w.d w.i (w.i-1)) else w.d:=by
         cases hi:w.i with
         | zero=>omega
         | succ k=>
          rw[Go.Sort.shiftDown,Nat.add_sub_cancel];cases lt w.d[k+1]! w.d[k]!<;>simp
        refine zC4 ?_;refine AW.block ?_;refine zC4 ?_;refine WT.vidx hT hw Z Z Z Z Z Z Z Z Z zo (fun bl7 hbl7=>?_);refine WT.vldS hT 0 hw hbl7 (arr_at zo) Z Z Z Z Z Z Z Z Z (fun l7 hl7=>?_);refine zC4 ?_;refine WT.vidx hT hw Z Z Z Z Z Z Z Z Z zo (fun bl8 hbl8=>?_);refine WT.vldS hT 0 hw hbl8 (arr_at zo) Z Z Z Z Z Z Z Z Z (fun l8 hl8=>?_);refine WT.callC hg hgb Z Z Z Z Z Z Z (hcmp G (hF2'.trans hG) l7 l8 _ _ hl7 hl8) (fun v hvz=>?_);obtain⟨z,rfl,hz⟩:=hvz;refine zC4 ?_;refine AW.cond Z (fun hc=>?_) (fun hc=>?_)
        ·have hlt:lt w.d[w.i]! w.d[w.i-1]! = false:=Bool.eq_false_iff.2 (fun hh=>absurd (hz.2 hh) (by simpa using hc));refine AW.exit ?_;refine⟨⟨0,w.d,w.B⟩,sM,OwnLe.refl _,hw,?_⟩;rw[←hwe,one,if_neg (by rw[hlt];decide)]
        ·have hlt:=hz.1 (by simpa using hc);refine zC4 ?_;refine AW.draw (ps:=[(4,15)]) Z Z ?_;refine zC4 ?_;refine WT.vidx hT hw Z Z Z Z Z Z Z Z Z zo (fun bl9 hbl9=>?_);refine WT.vldS hT 0 hw hbl9 (arr_at zo) Z Z Z Z Z Z Z Z Z (fun l9 hl9=>?_);refine zC4 ?_;refine WT.vidx hT hw Z Z Z Z Z Z Z Z Z zo (fun bl10 hbl10=>?_);refine WT.vldS hT 0 hw hbl10 (arr_at zo) Z Z Z Z Z Z Z Z Z (fun l10 hl10=>?_);refine WT.vidx hT hw Z Z Z Z Z Z Z Z Z zo (fun bl11 hbl11=>?_);refine WT.vst (y:=w.d[w.i-1]!) hT 0 hw hbl11 (gE (by simp;omega)) Z Z Z Z Z hl9 Z (fun _=>rfl) Z (fun Bl11 hBl11=>?_)
         refine WT.vidx hT hBl11 Z Z Z Z Z Z Z Z Z zo (fun bl12 hbl12=>?_);refine WT.vst (y:=w.d[w.i]!) hT 0 hBl11 hbl12 (gE (by simp;omega)) Z Z Z Z Z hl10 Z (fun _=>rfl) Z (fun Bl12 hBl12=>?_);rw[←swp_list] at hBl12;refine zC4 ?_;refine⟨zrC,?_⟩;refine zC4 ?_;refine⟨⟨w.i-1,Go.Sort.swp w.d w.i (w.i-1),Bl12⟩,by dsimp only;omega,sM,OwnLe.refl _,hBl12,by dsimp only;omega,?_⟩;rw[←hwe,one,if_pos hlt]
       ·have h3:w.i=0:=by simp at h3;omega
        refine AW.exit ?_;refine⟨⟨0,w.d,w.B⟩,sM,OwnLe.refl _,hw,?_⟩;rw[←hwe,h3];rfl
      ·have h2:¬2≤i2-a:=by simp at h2;omega
       rw[Go.Sort.fixDown,if_neg h2];refine AW.skip ?_;exact⟨⟨0,d1,Bl6⟩,sM,OwnLe.refl _,hBl6,rfl⟩
     ·obtain⟨hs,hsd⟩:=hP3;have hszs:m=s.d.size:=hs.len;have hF3':=hF2'.trans hF3;rw[←hsd] at heq;refine zC4 ?_;refine AW.cond Z (fun h2=>?_) (fun h2=>?_)
      ·have h2:2≤b-i2:=by simp at h2;omega
       rw[Go.Sort.fixUp,if_pos h2] at heq;refine zC4 ?_;refine AW.block ?_;refine AW.loopR (S:=VS Lr) (fun s=>[(12,.int .i64 (s.i:Nat))]) (fun s=>s.B::own) (fun w G=>Vec tLr G a0 m c w.B w.d.toList∧i2+1≤w.i∧Go.Sort.shiftUp lt b w.i w.d=Go.Sort.shiftUp lt b (i2+1) s.d) (fun s=>b-s.i) ⟨i2+1,s.d,s.B⟩ sM oR ⟨hs,Nat.le_refl _,rfl⟩ ?_;intro w G hG hP4;obtain⟨hw,hwi,hwe⟩:=hP4;have hszw:m=w.d.size:=hw.len;refine zC4 ?_;refine AW.cond Z (fun h3=>?_) (fun h3=>?_)
       ·have h3:w.i<b:=by simp at h3;omega
        have one:Go.Sort.shiftUp lt b w.i w.d=if lt w.d[w.i]! w.d[w.i-1]! = true then Go.Sort.shiftUp lt b (w.i+1) (Go.Sort.swp w.d w.i (w.i-1)) else w.d:=by
         conv=>lhs;rw[Go.Sort.shiftUp]
         rw[if_pos h3];cases lt w.d[w.i]! w.d[w.i-1]!<;>simp
        refine zC4 ?_;refine AW.block ?_;refine zC4 ?_;refine WT.vidx hT hw Z Z Z Z Z Z Z Z Z zo (fun bl7 hbl7=>?_);refine WT.vldS hT 0 hw hbl7 (arr_at zo) Z Z Z Z Z Z Z Z Z (fun l7 hl7=>?_);refine zC4 ?_;refine WT.vidx hT hw Z Z Z Z Z Z Z Z Z zo (fun bl8 hbl8=>?_);refine WT.vldS hT 0 hw hbl8 (arr_at zo) Z Z Z Z Z Z Z Z Z (fun l8 hl8=>?_);refine WT.callC hg hgb Z Z Z Z Z Z Z (hcmp G (hF3'.trans hG) l7 l8 _ _ hl7 hl8) (fun v hvz=>?_);obtain⟨z,rfl,hz⟩:=hvz;refine zC4 ?_;refine AW.cond Z (fun hc=>?_) (fun hc=>?_)
        ·have hlt:lt w.d[w.i]! w.d[w.i-1]! = false:=Bool.eq_false_iff.2 (fun hh=>absurd (hz.2 hh) (by simpa using hc));refine AW.exit ?_;refine zC4 ?_;refine⟨(u.1+1,⟨i2,w.d,w.B⟩),by dsimp only;omega,sM,OwnLe.refl _,hw,by dsimp only;omega,by dsimp only;omega,j2,?_⟩;rw[←heq,←hwe,one,if_neg (by rw[hlt];decide)]
        ·have hlt:=hz.1 (by simpa using hc);refine zC4 ?_;refine AW.draw (ps:=[(4,15)]) Z Z ?_;refine zC4 ?_;refine WT.vidx hT hw Z Z Z Z Z Z Z Z Z zo (fun bl9 hbl9=>?_);refine WT.vldS hT 0 hw hbl9 (arr_at zo) Z Z Z Z Z Z Z Z Z (fun l9 hl9=>?_);refine zC4 ?_;refine WT.vidx hT hw Z Z Z Z Z Z Z Z Z zo (fun bl10 hbl10=>?_);refine WT.vldS hT 0 hw hbl10 (arr_at zo) Z Z Z Z Z Z Z Z Z (fun l10 hl10=>?_);refine WT.vidx hT hw Z Z Z Z Z Z Z Z Z zo (fun bl11 hbl11=>?_);refine WT.vst (y:=w.d[w.i-1]!) hT 0 hw hbl11 (gE (by simp;omega)) Z Z Z Z Z hl9 Z (fun _=>rfl) Z (fun Bl11 hBl11=>?_)
         refine WT.vidx hT hBl11 Z Z Z Z Z Z Z Z Z zo (fun bl12 hbl12=>?_);refine WT.vst (y:=w.d[w.i]!) hT 0 hBl11 hbl12 (gE (by simp;omega)) Z Z Z Z Z hl10 Z (fun _=>rfl) Z (fun Bl12 hBl12=>?_);rw[←swp_list] at hBl12;refine zC4 ?_;refine⟨zrC,?_⟩;refine zC4 ?_;refine⟨⟨w.i+1,Go.Sort.swp w.d w.i (w.i-1),Bl12⟩,by dsimp only;omega,sM,OwnLe.refl _,hBl12,by dsimp only;omega,?_⟩;rw[←hwe,one,if_pos hlt]
       ·have h3:¬w.i<b:=by simp at h3;omega
        refine AW.exit ?_;refine zC4 ?_;refine⟨(u.1+1,⟨i2,w.d,w.B⟩),by dsimp only;omega,sM,OwnLe.refl _,hw,by dsimp only;omega,by dsimp only;omega,j2,?_⟩;rw[←heq,←hwe,Go.Sort.shiftUp,if_neg h3]
      ·have h2:¬2≤b-i2:=by simp at h2;omega
       rw[Go.Sort.fixUp,if_neg h2] at heq;refine zC4 ?_;exact⟨(u.1+1,⟨i2,s.d,s.B⟩),by dsimp only;omega,sM,OwnLe.refl _,hs,by dsimp only;omega,by dsimp only;omega,j2,heq⟩
 ·have h:u.1=5:=by simp at h;omega
  refine AW.exit ?_;refine zC4 ?_;rw[h] at heq;refine AW.ret ⟨_,[_],⟨_,_,rfl,rfl,rfl⟩,zsb,_,rfl,?_,?_⟩
  ·rw[←heq];rfl
  ·rw[←heq];exact hv1
theorem lrBreak_spec(F:Frz){cv:Value}{a0:Option Addr}{m c:Nat}{B:List (Nat×Blk)}{d:Array Lr}(hv:Vec tLr F a0 m c B d.toList)(a b:Nat)(hab:a+13≤b)(hb:b≤m)(hm:m≤1000000) :
  Abs.Spec CC 194 [.slice a0 m c,.int .i64 a,.int .i64 b,cv] F [B] fun F' v o=>∃B',o=[B']∧Vec tLr F' a0 m c B' (Go.Sort.breakPatterns d a b).toList:=by
 obtain⟨l,hl⟩:∃l,b-a=l:=⟨_,rfl⟩;obtain⟨e,he⟩:∃e,l / 4=e:=⟨_,rfl⟩;obtain⟨p2,hp2⟩:∃p,2 ^ Go.Sort.bitsLen l=p:=⟨_,rfl⟩;have h1p:=Go.Sort.two_pow_bitsLen_le (n:=l) zo;have h2p:=Go.Sort.lt_two_pow_bitsLen l;rw[hp2] at h1p h2p;have hbr:Go.Sort.breakPatterns d a b=(bsN a l p2 (a+e*2-1) (UInt64.ofNat l,d) 3).2:=by
  unfold Go.Sort.breakPatterns;simp only[hl];rw[if_pos zo,he,Nat.one_shiftLeft,hp2];rfl
 refine Abs.Spec.fn (n:=67) Tryz.func194 rfl rfl fun own=>?_;refine zC4 ?_;rw[hl];refine AW.cond Z (fun _=>?_) (fun h=>(by simp at h;omega));refine zC4 ?_;refine WT.conv hT (k2:=.u64) Z Z Z Z Z Z Z Z (wrapU64 zo) ?_
 refine WT.allocT hT Z Z Z Z Z Z (fun i9 hi9=>?_);refine zC4 ?_;refine WT.callV Tryz.func201 Z Z Z Z Z Z (npow_spec _ l zo) (fun v hv'=>?_);rw[hp2] at hv';subst hv';refine zC4 ?_;refine WT.quoL 4 Z Z Z Z Z Z (by decide) zo ?_;rw[he];refine WT.mulL 2 Z Z Z Z Z Z zo ?_;refine zC4 ?_;refine AW.block ?_
 refine AW.loopR (S:=VS Lr) (fun s=>[(11,.int .i64 ((a+e*2-1+s.i:Nat):Int))]) (fun s=>[(i9,.cells false [.int .u64 ((bsN a l p2 (a+e*2-1) (UInt64.ofNat l,d) s.i).1.toNat:Nat)])]::s.B::own) (fun s G=>Vec tLr G a0 m c s.B s.d.toList∧s.i≤3∧s.d=(bsN a l p2 (a+e*2-1) (UInt64.ofNat l,d) s.i).2) (fun s=>3-s.i) ⟨0,d,B⟩
  sM (OwnLe.flat (List.Perm.of_eq ?_)) ⟨hv,Nat.zero_le _,rfl⟩ ?_
 ·rw[show (bsN a l p2 (a+e*2-1) (UInt64.ofNat l,d) 0).1.toNat=l from by
   show (UInt64.ofNat l).toNat=l;rw[UInt64.toNat_ofNat']
   exact Nat.mod_eq_of_lt (by have : 2 ^ 64 = 18446744073709551616 := rfl
                              omega)]
  rfl
 intro u F2 hF2 hP2;obtain⟨hv2,hi,heq⟩:=hP2;have hsz:m=u.d.size:=hv2.len;have hr64:=(bsN a l p2 (a+e*2-1) (UInt64.ofNat l,d) u.i).1.toNat_lt;rw[show (2:Nat) ^ 64=18446744073709551616 from rfl] at hr64;obtain⟨r,hr⟩:∃r,(bsN a l p2 (a+e*2-1) (UInt64.ofNat l,d) u.i).1.toNat=r:=⟨_,rfl⟩;have hnext:(bsN a l p2 (a+e*2-1) (UInt64.ofNat l,d) (u.i+1)).1.toNat=Go.Sort.xorNextN r:=by
  rw[←hr,←Go.Sort.xorNext_toNat];rfl
 rw[hr] at hr64;rw[hr];have hx64:=Go.Sort.xorNextN_lt r hr64;obtain⟨o0,ho0⟩:∃o0,Go.Sort.xorNextN r &&& (p2-1)=o0:=⟨_,rfl⟩;have ho1:o0≤p2-1:=by rw[←ho0];exact Nat.and_le_right
 have hswap:(bsN a l p2 (a+e*2-1) (UInt64.ofNat l,d) (u.i+1)).2=Go.Sort.swp u.d (a+e*2-1+u.i) (a+(if o0≥l then o0-l else o0)):=by
  show (Go.Sort.breakStep a l p2 (bsN a l p2 (a+e*2-1) (UInt64.ofNat l,d) u.i) (a+e*2-1+u.i)).2=_;unfold Go.Sort.breakStep;simp only[Go.Sort.xorNext_toNat,hr,ho0,←heq]
 have hel:e*4≤l:=by rw[←he];exact Nat.div_mul_le_self _ _
 have he3:3≤e:=by rw[←he];omega
 refine zC4 ?_;refine WT.quoL 4 Z Z Z Z Z Z (by decide) zo ?_;rw[he];refine WT.mulL 2 Z Z Z Z Z Z zo ?_;refine zC4 ?_;refine AW.cond Z (fun h=>?_) (fun h=>?_)
 ·have h:u.i<3:=by simp at h;omega
  refine zC4 ?_;refine AW.block ?_;refine zC4 ?_;refine WT.call1F 0 Tryz.func202 Z Z Z Z Z Z Z (fun _=>rfl) (xorn_spec _ i9 r hr64) (fun F3 v B3 hF3 hv3=>?_);obtain⟨rfl,rfl⟩:=hv3;have hv3:=hv2.mono hF3;refine zC4 ?_;refine WT.binV Z Z Z Z Z Z (by decide) (sub64 (x:=p2) (y:=1) zo zo) ?_;refine WT.binV Z Z Z Z Z Z (by decide) (and64 hx64 zo) ?_;rw[ho0];refine WT.conv hT (k2:=.i64) Z Z Z Z Z Z Z Z (wrap64 zo) ?_
  refine zC4 ?_;refine AW.jnT (S:=Unit) (fun _=>[(12,.int .i64 ((if o0≥l then o0-l else o0:Nat):Int))]) (fun _=>[(i9,.cells false [.int .u64 (Go.Sort.xorNextN r:Nat)])]::u.B::own) (fun _ _=>True) ?_ (fun _ F4 hF4 _=>?_)
  ·refine AW.cond Z (fun h=>?_) (fun h=>?_)
   ·have h:l≤o0:=by simp at h;omega
    refine zC4 ?_;refine⟨(),SubK.of_map (by rw[if_pos h];rfl),OwnLe.refl _,trivial⟩
   ·have h:¬l≤o0:=by simp at h;omega
    refine AW.skip ?_;refine⟨(),SubK.of_map (by rw[if_neg h];rfl),OwnLe.refl _,trivial⟩
  ·obtain⟨o1,ho2⟩:∃o1,(if o0≥l then o0-l else o0)=o1:=⟨_,rfl⟩;have ho3:o1<l:=by rw[←ho2];split<;>omega
   rw[ho2] at hswap ⊢;have hv4:=hv3.mono hF4;refine AW.draw (ps:=[(5,17)]) Z Z ?_;refine zC4 ?_;refine WT.vidx hT hv4 Z Z Z Z Z Z Z Z Z zo (fun bl3 hbl3=>?_);refine WT.vldS hT 1 hv4 hbl3 (arr_at zo) Z Z Z Z Z Z Z Z Z (fun l3 hl3=>?_);refine zC4 ?_;refine WT.vidx hT hv4 Z Z Z Z Z Z Z Z Z zo (fun bl4 hbl4=>?_);refine WT.vldS hT 1 hv4 hbl4 (arr_at zo) Z Z Z Z Z Z Z Z Z (fun l4 hl4=>?_);refine WT.vidx hT hv4 Z Z Z Z Z Z Z Z Z zo (fun bl5 hbl5=>?_);refine WT.vst (y:=u.d[a+o1]!) hT 1 hv4 hbl5 (gE (by simp;omega)) Z Z Z Z Z hl3 Z (fun _=>rfl) Z (fun Bl5 hBl5=>?_)
   refine WT.vidx hT hBl5 Z Z Z Z Z Z Z Z Z zo (fun bl6 hbl6=>?_);refine WT.vst (y:=u.d[a+e*2-1+u.i]!) hT 1 hBl5 hbl6 (gE (by simp;omega)) Z Z Z Z Z hl4 Z (fun _=>rfl) Z (fun Bl6 hBl6=>?_);rw[←swp_list] at hBl6;refine zC4 ?_;refine⟨zrC,?_⟩;refine zC4 ?_;refine⟨⟨u.i+1,_,Bl6⟩,by dsimp only;omega,sM,OwnLe.flat (List.Perm.of_eq (by rw[hnext])),hBl6,by dsimp only;omega,hswap.symm⟩
 ·have h:u.i=3:=by simp at h;omega
  refine AW.exit ?_;refine⟨_,[_],rfl,zsb,_,rfl,?_⟩;rw[hbr,←h,←heq];exact hv2
theorem lrPdqR_spec{lt:Lr→Lr→Bool}{g:Nat}{first capt:List Value}:∀(N:Nat) (F:Frz) (hc:CmpOk tLr lt F g first capt) {a0:Option Addr} {m c:Nat} {B:List (Nat×Blk)} {d:Array Lr} (hv:Vec tLr F a0 m c B d.toList) (a b limit:Nat) (hN:b-a<N) (hab:a≤b) (hb:b≤m) (hm:m≤1000000) (hlim:limit≤1000000),
  Abs.Spec CC 172 [.slice a0 m c,.int .i64 a,.int .i64 b,.int .i64 limit,.func (.func g) ⟨first⟩ ⟨capt⟩] F [B] fun F' v o=>∃B',o=[B']∧Vec tLr F' a0 m c B' (Go.Sort.pdq lt d a b limit true true).toList
 | 0,_,_,_,_,_,_,_,_,_,_,_,h,_,_,_,_=>absurd h (Nat.not_lt_zero _)
 | N+1,F,hc,a0,m,c,B,d,hv,a,b,limit,hN,hab,hb,hm,hlim=>by
  obtain⟨⟨fn,hg,hgb⟩,hcmp⟩:=id hc;refine Abs.Spec.fn (n:=148) Tryz.func172 rfl rfl fun own=>?_;refine zC4 ?_;refine AW.block ?_;refine AW.loopR (S:=PS Lr) (fun s=>[(1,.int .i64 (s.a:Nat)),(2,.int .i64 (s.b:Nat)),(3,.int .i64 (s.lim:Nat)),(10,.bool s.wb),(11,.bool s.wp)]) (fun s=>s.B::own)
   (fun s G=>Vec tLr G a0 m c s.B s.d.toList∧s.a≤s.b∧s.b≤m∧s.b-s.a≤b-a∧s.lim≤1000000∧Go.Sort.pdq lt s.d s.a s.b s.lim s.wb s.wp=Go.Sort.pdq lt d a b limit true true) (fun s=>s.b-s.a) ⟨a,b,limit,true,true,d,B⟩
   sM oR ⟨hv,hab,hb,Nat.le_refl _,hlim,rfl⟩ ?_
  intro s F1 hF1 hP;obtain⟨hv1,hab1,hb1,hle1,hlim1,heq⟩:=hP;have hc1:=hc.mono hF1;refine AW.block ?_;refine zC4 ?_;refine AW.cond Z (fun h=>?_) (fun h=>?_)
  ·have h:s.b-s.a≤12:=by simp at h;omega
   refine zC4 ?_;refine WT.call1F 0 Tryz.func192 Z Z Z Z Z Z Z (fun _=>rfl) (lrIns_spec _ hc1 hv1 s.a s.b zo hb1 hm) (fun F2 v B2 hF2 hv2=>?_);refine zC4 ?_;refine AW.ret ⟨_,[_],rfl,zsb,_,rfl,?_⟩;rw[←heq,Go.Sort.pdq_small h];exact hv2
  ·have h:¬s.b-s.a≤12:=by simp at h;omega
   refine zC4 ?_;refine AW.cond Z (fun h0=>?_) (fun h0=>?_)
   ·have h0:s.lim=0:=by simp at h0;omega
    refine zC4 ?_;refine WT.call1F 0 Tryz.func193 Z Z Z Z Z Z Z (fun _=>rfl) (lrHeap_spec _ hc1 hv1 s.a s.b zo hb1 hm) (fun F2 v B2 hF2 hv2=>?_);refine zC4 ?_;refine AW.ret ⟨_,[_],rfl,zsb,_,rfl,?_⟩;rw[←heq,Go.Sort.pdq_heap h h0];exact hv2
   ·have h0:¬s.lim=0:=by simp at h0;omega
    obtain⟨R,hR⟩:∃R,Go.Sort.rd lt s.d s.a s.b s.lim s.wb s.wp=R:=⟨_,rfl⟩;refine AW.skip ?_;refine AW.jn (S:=VS Lr) (fun t=>[(3,.int .i64 (t.i:Nat))]) (fun t=>t.B::own) (fun t G=>Vec tLr G a0 m c t.B t.d.toList∧t.i=R.lim∧t.d=R.d1) ?_ (fun t F2 hF2 hP2=>?_)
    ·refine zC4 ?_;cases hwb:s.wb with
     | true=>
      refine AW.cond Z (fun h=>(by cases h)) (fun _=>?_);refine AW.skip ?_;exact⟨⟨s.lim,s.d,s.B⟩,sM,OwnLe.refl _,hv1,by rw[←hR,hwb];rfl,by rw[←hR,hwb];rfl⟩
     | false=>
      refine AW.cond Z (fun _=>?_) (fun h=>(by cases h));refine zC4 ?_;refine WT.call1F 0 Tryz.func194 Z Z Z Z Z Z Z (fun _=>rfl) (lrBreak_spec _ hv1 s.a s.b zo hb1 hm) (fun F2 v B2 hF2 hv2=>?_);refine zC4 ?_;exact⟨⟨s.lim-1,_,B2⟩,sM,OwnLe.refl _,hv2,by rw[←hR,hwb];rfl,by rw[←hR,hwb];rfl⟩
    ·obtain⟨hv2,hlm,hd1⟩:=hP2;have hc2:=hc1.mono hF2;have hsz2:m=t.d.size:=hv2.len;have hcc:Go.Sort.choosePivot lt t.d s.a s.b=R.c:=by rw[hd1,←hR];rfl
     have hcr:=Go.Sort.choosePivot_holds lt t.d s.a s.b zo;rw[hcc] at hcr;have hlim2:R.lim≤s.lim:=by rw[←hR];exact Go.Sort.rd_lim_le
     refine zC4 ?_;refine WT.callLend 0 Tryz.func195 Z Z Z Z Z Z Z (fun G hG hBG=>lrPivot_spec G (hc2.mono hG) (hv2.arr hG hBG) s.a s.b zo hb1 hm) (fun v hv'=>?_);rw[hcc] at hv';subst hv'
     (iterate 5 (refine WT.easy hT Z Z Z Z Z ?_))
     refine WT.nil ?_;refine AW.jn (S:=Nat×Go.Sort.Hint×VS Lr) (fun u=>[(13,.int .i64 (u.1:Nat)),(14,.int .i64 (Go.Sort.hintCode u.2.1))]) (fun u=>u.2.2.B::own) (fun u G=>Vec tLr G a0 m c u.2.2.B u.2.2.d.toList∧u.1=R.pivot∧u.2.1=R.hint∧u.2.2.d=R.d2∧s.a≤u.1∧u.1<s.b) ?_ (fun u F3 hF3 hP3=>?_)
     ·refine zC4 ?_;refine AW.cond Z (fun hh=>?_) (fun hh=>?_)
      ·have hdec:R.c.2=.decreasing:=by
        cases e:R.c.2 with
        | decreasing=>rfl
        | increasing=>rw[e] at hh;cases hh
        | unknown=>rw[e] at hh;cases hh
       obtain⟨q1,q2,q3⟩:=Go.Sort.rd_dec (lt:=lt) (d:=s.d) (a:=s.a) (b:=s.b) (limit:=s.lim) (wb:=s.wb) (wp:=s.wp) (by rw[hR];exact hdec);rw[hR] at q1 q2 q3;refine zC4 ?_;refine WT.call1F 0 Tryz.func196 Z Z Z Z Z Z Z (fun _=>rfl) (lrRev_spec _ hv2 s.a s.b zo hb1 hm) (fun F3 v B3 hF3 hv3=>?_);refine zC4 ?_;refine⟨(s.b-1-(R.c.1-s.a),.increasing,⟨0,_,B3⟩),sM,OwnLe.refl _,hv3,q2.symm,q3.symm,(by rw[q1,hd1];rfl),by dsimp only;omega,by dsimp only;omega⟩
      ·have hdec:R.c.2≠.decreasing:=by intro e;rw[e] at hh;cases hh
       obtain⟨q1,q2,q3⟩:=Go.Sort.rd_not (lt:=lt) (d:=s.d) (a:=s.a) (b:=s.b) (limit:=s.lim) (wb:=s.wb) (wp:=s.wp) (by rw[hR];exact hdec);rw[hR] at q1 q2 q3;refine AW.skip ?_;exact⟨(R.c.1,R.c.2,⟨0,t.d,t.B⟩),sM,OwnLe.refl _,hv2,q2.symm,q3.symm,by rw[q1,hd1],hcr.1,hcr.2⟩
     ·obtain⟨hv3,hpv,hhint,hd2,hpa,hpb⟩:=hP3;have hc3:=hc2.mono hF3;have hno:(s.wb&&s.wp&&decide (R.hint=.increasing))=false→R.pi=(R.d2,false):=fun h=>by
       have:=Go.Sort.rd_pi_no (lt:=lt) (d:=s.d) (a:=s.a) (b:=s.b) (limit:=s.lim) (wb:=s.wb) (wp:=s.wp) (by rw[hR];exact h);rw[hR] at this;exact this
      have hyes:(s.wb&&s.wp&&decide (R.hint=.increasing))=true→R.pi=Go.Sort.partialInsertionSort lt R.d2 s.a s.b:=fun h=>by
       have:=Go.Sort.rd_pi_yes (lt:=lt) (d:=s.d) (a:=s.a) (b:=s.b) (limit:=s.lim) (wb:=s.wb) (wp:=s.wp) (by rw[hR];exact h);rw[hR] at this;exact this
      refine AW.jn (S:=VS Lr) (fun _=>[]) (fun w=>w.B::own) (fun w G=>Vec tLr G a0 m c w.B w.d.toList∧R.pi=(w.d,false)) ?_ (fun w F4 hF4 hP4=>?_)
      ·refine AW.split 10 Z (fun hwb=>?_) (fun hwb=>?_)
       ·refine AW.split 11 Z (fun hwp=>?_) (fun hwp=>?_)
        ·refine zC4 ?_;refine AW.cond Z (fun hh=>?_) (fun hh=>?_)
         ·have hinc:R.hint=.increasing:=by
           rw[←hhint];cases e:u.2.1 with
           | increasing=>rfl
           | decreasing=>rw[e] at hh;cases hh
           | unknown=>rw[e] at hh;cases hh
          have hpi:=hyes (by rw[hwb,hwp,hinc];rfl);refine zC4 ?_;refine WT.call1F 0 Tryz.func197 Z Z Z Z Z Z Z (fun _=>rfl) (lrPIns_spec _ hc3 hv3 s.a s.b zo hb1 hm) (fun F4 v B4 hF4 hv4=>?_);obtain⟨rfl,hv4⟩:=hv4;rw[hd2,←hpi] at hv4 ⊢;refine zC4 ?_;refine AW.cond Z (fun hp2=>?_) (fun hp2=>?_)
          ·have hp2:R.pi.2=true:=hp2;refine AW.ret ⟨_,[_],rfl,zsb,_,rfl,?_⟩;rw[←heq,Go.Sort.pdq_done h h0 (by rw[hR];exact hp2),hR];exact hv4
          ·have hp2:R.pi.2=false:=hp2;refine AW.skip ?_;exact⟨⟨0,R.pi.1,B4⟩,SubK.of_map (by rw[hwb,hwp];rfl),OwnLe.refl _,hv4,by rw[←hp2]⟩
         ·have hinc:R.hint≠.increasing:=by intro e;rw[←hhint] at e;rw[e] at hh;cases hh
          refine AW.skip ?_;exact⟨⟨0,u.2.2.d,u.2.2.B⟩,SubK.of_map (by rw[hwb,hwp];rfl),OwnLe.refl _,hv3,by rw[hno (by simp[hinc]),hd2]⟩
        ·refine zC4 ?_;refine AW.cond Z (fun hh=>(by cases hh)) (fun hh=>?_);refine AW.skip ?_;exact⟨⟨0,u.2.2.d,u.2.2.B⟩,SubK.of_map (by rw[hwb,hwp];rfl),OwnLe.refl _,hv3,by rw[hno (by simp[hwp]),hd2]⟩
       ·refine zC4 ?_;refine AW.cond Z (fun hh=>(by cases hh)) (fun hh=>?_);refine AW.skip ?_;exact⟨⟨0,u.2.2.d,u.2.2.B⟩,SubK.of_map (by rw[hwb];rfl),OwnLe.refl _,hv3,by rw[hno (by simp[hwb]),hd2]⟩
      ·obtain⟨hv4,hpi⟩:=hP4;have hc4:=hc3.mono hF4;have hsz4:m=w.d.size:=hv4.len;have hp2:(Go.Sort.rd lt s.d s.a s.b s.lim s.wb s.wp).pi.2=false:=by rw[hR,hpi]
       have hcm:=hc4.2;refine AW.jn (S:=Unit) (fun _=>[]) (fun _=>w.B::own) (fun _ _=>(decide (s.a > 0)&&!lt w.d[s.a-1]! w.d[u.1]!)=false) ?_ (fun _ F5 hF5 hx=>?_)
       ·refine zC4 ?_;refine WT.split 83 Z (fun ha0=>?_) (fun ha0=>?_)
        ·have ha0:0<s.a:=by simp at ha0;omega
         refine zC4 ?_;refine WT.vidx hT hv4 Z Z Z Z Z Z Z Z Z zo (fun bl1 hbl1=>?_);refine WT.vldS hT 0 hv4 hbl1 (arr_at zo) Z Z Z Z Z Z Z Z Z (fun l1 hl1=>?_);refine zC4 ?_;refine WT.vidx hT hv4 Z Z Z Z Z Z Z Z Z zo (fun bl2 hbl2=>?_);refine WT.vldS hT 0 hv4 hbl2 (arr_at zo) Z Z Z Z Z Z Z Z Z (fun l2 hl2=>?_);refine WT.callC hg hgb Z Z Z Z Z Z Z (hcm F4 (Frz.le.refl F4) l1 l2 _ _ hl1 hl2) (fun v hvz=>?_);obtain⟨z,rfl,hz⟩:=hvz;refine zC4 ?_;refine AW.cond Z (fun hq=>?_) (fun hq=>?_)
         ·have hlt:lt w.d[s.a-1]! w.d[u.1]! = false:=Bool.eq_false_iff.2 (fun hh=>absurd (hz.2 hh) (by simpa using hq));have hrange:=partEq_range lt w.d (a:=s.a) (b:=s.b) (p:=u.1) hpa hpb zo;have e:=Go.Sort.pdq_eq (lt:=lt) h h0 hp2 (by rw[hR,hpi,←hpv];simp[ha0,hlt]) (by rw[hR,hpi,←hpv];exact hrange);rw[hR,hpi,←hpv,←hlm] at e;obtain⟨pe,hpe⟩:∃pe,Go.Sort.partitionEqual lt w.d s.a s.b u.1=pe:=⟨_,rfl⟩;rw[hpe] at hrange;refine zC4 ?_;refine WT.call1F 0 Tryz.func198 Z Z Z Z Z Z Z (fun _=>rfl) (lrPartEq_spec _ hc4 hv4 s.a s.b u.1 hpa hpb hb1 hm) (fun F5 v B5 hF5 hv5=>?_);obtain⟨rfl,hv5⟩:=hv5
          rw[hpe] at hv5 ⊢;refine zC4 ?_;refine AW.exit ?_;refine⟨⟨pe.1,s.b,t.i,s.wb,s.wp,pe.2,B5⟩,by dsimp only;omega,sM,OwnLe.refl _,hv5,hrange.2,hb1,by dsimp only;omega,by dsimp only;omega,?_⟩;rw[←heq,e,hpe]
         ·have hlt:=hz.1 (by simpa using hq);refine AW.skip ?_;exact⟨(),sM,OwnLe.refl _,by rw[hlt];simp⟩
        ·have ha0:¬0<s.a:=by simp at ha0;omega
         refine zC4 ?_;refine AW.cond Z (fun hq=>(by cases hq)) (fun hq=>?_);refine AW.skip ?_;exact⟨(),sM,OwnLe.refl _,by simp[ha0]⟩
       ·have hv5:=hv4.mono hF5;have hc5:=hc4.mono hF5;have hrange:=part_range lt w.d (a:=s.a) (b:=s.b) (p:=u.1) hpa hpb zo;have hx':(decide (s.a > 0)&&!lt (Go.Sort.rd lt s.d s.a s.b s.lim s.wb s.wp).pi.1[s.a-1]! (Go.Sort.rd lt s.d s.a s.b s.lim s.wb s.wp).pi.1[(Go.Sort.rd lt s.d s.a s.b s.lim s.wb s.wp).pivot]!)=false:=by rw[hR,hpi,←hpv];exact hx
        have hr':s.a≤(Go.Sort.partition lt (Go.Sort.rd lt s.d s.a s.b s.lim s.wb s.wp).pi.1 s.a s.b (Go.Sort.rd lt s.d s.a s.b s.lim s.wb s.wp).pivot).1∧(Go.Sort.partition lt (Go.Sort.rd lt s.d s.a s.b s.lim s.wb s.wp).pi.1 s.a s.b (Go.Sort.rd lt s.d s.a s.b s.lim s.wb s.wp).pivot).1<s.b:=by rw[hR,hpi,←hpv];exact hrange
        have eL:=Go.Sort.pdq_left (lt:=lt) h h0 hp2 hx' hr';have eR:=Go.Sort.pdq_right (lt:=lt) h h0 hp2 hx' hr';rw[hR,hpi,←hpv,←hlm] at eL eR;obtain⟨pp,hpp⟩:∃pp,Go.Sort.partition lt w.d s.a s.b u.1=pp:=⟨_,rfl⟩;simp only[hpp] at hrange eL eR;refine zC4 ?_;refine WT.call1F 0 Tryz.func199 Z Z Z Z Z Z Z (fun _=>rfl) (lrPart_spec _ hc5 hv5 s.a s.b u.1 hpa hpb hb1 hm) (fun F6 v B6 hF6 hv6=>?_);obtain⟨rfl,hv6⟩:=hv6;rw[hpp] at hv6 ⊢;have hc6:=hc5.mono hF6;refine zC4 ?_;refine WT.quoL 8 Z Z Z Z Z Z (by decide) zo ?_;refine zC4 ?_;refine AW.cond Z (fun hl=>?_) (fun hl=>?_)
        ·have hl:pp.1-s.a<s.b-pp.1:=by simp at hl;omega
         refine zC4 ?_;refine WT.know (v':=.bool (decide (pp.1-s.a≥(s.b-s.a) / 8))) 10 Z (by congr 1;rw[decide_eq_decide];omega) ?_;refine WT.call1F 0 Tryz.func172 Z Z Z Z Z Z Z (fun _=>rfl) (lrPdqR_spec N _ hc6 hv6 s.a pp.1 t.i zo hrange.1 zo hm zo) (fun F7 v B7 hF7 hv7=>?_);refine zC4 ?_;refine⟨⟨pp.1+1,s.b,t.i,decide (pp.1-s.a≥(s.b-s.a) / 8),pp.2.1,_,B7⟩,by dsimp only;omega,sM,OwnLe.refl _,hv7,by dsimp only;omega,hb1,by dsimp only;omega,by dsimp only;omega,?_⟩;rw[←heq,eL hl]
        ·have hl:¬pp.1-s.a<s.b-pp.1:=by simp at hl;omega
         refine zC4 ?_;refine WT.know (v':=.bool (decide (s.b-pp.1≥(s.b-s.a) / 8))) 10 Z (by congr 1;rw[decide_eq_decide];omega) ?_;refine WT.call1F 0 Tryz.func172 Z Z Z Z Z Z Z (fun _=>rfl) (lrPdqR_spec N _ hc6 hv6 (pp.1+1) s.b t.i zo zo hb1 hm zo) (fun F7 v B7 hF7 hv7=>?_);refine zC4 ?_;refine⟨⟨s.a,pp.1,t.i,decide (s.b-pp.1≥(s.b-s.a) / 8),pp.2.1,_,B7⟩,by dsimp only;omega,sM,OwnLe.refl _,hv7,by dsimp only;omega,by dsimp only;omega,by dsimp only;omega,by dsimp only;omega,?_⟩;rw[←heq,eR hl]
theorem lrSort_spec(F:Frz){lt:Lr→Lr→Bool}{g:Nat}{first capt:List Value}(hc:CmpOk tLr lt F g first capt){a0:Option Addr}{m c:Nat}{B:List (Nat×Blk)}{xs:List Lr}(hv:Vec tLr F a0 m c B xs)(hm:m≤1000000) :
  Abs.Spec CC 157 [.slice a0 m c,.func (.func g) ⟨first⟩ ⟨capt⟩] F [B] fun F' v o=>∃B',o=[B']∧Vec tLr F' a0 m c B' (Go.Sort.sort lt xs.toArray).toList:=by
 have hl:=hv.len
 have hb : Go.Sort.bitsLen m ≤ 20 := (Go.Sort.bitsLen_le_iff _ _).2 (by have : 2 ^ 20 = 1048576 := rfl
                                                                        omega)
 refine Abs.Spec.fn (n:=14) Tryz.func157 rfl rfl fun own=>?_;refine zC4 ?_;refine WT.conv hT (k2:=.u64) Z Z Z Z Z Z Z Z (wrapU64 zo) ?_
 refine WT.callV Tryz.func164 Z Z Z Z Z Z (blen_spec _ m zo) (fun v hv'=>?_);subst hv';refine zC4 ?_;refine WT.call1F 0 Tryz.func172 Z Z Z Z Z Z Z (fun _=>rfl) (lrPdqR_spec (m+1) _ hc (d:=xs.toArray) hv 0 m (Go.Sort.bitsLen m) zo (Nat.zero_le _) (Nat.le_refl _) hm zo) (fun F7 v B7 hF7 hv7=>?_);refine zC4 ?_;refine⟨_,[_],rfl,zsb,_,rfl,?_⟩;rw[Go.Sort.sort,show xs.toArray.size=m from by simp[hl]];exact hv7
def Asc(l:List Lr):Prop:=l.Pairwise (fun x y=>ltLr y x=false)
def Strict(l:List Lr):Prop:=l.Pairwise (fun x y=>ltLr x y=true)
theorem asc_step{xs:List Lr}(h:Asc xs){j:Nat}{x p z:Lr}(hx:xs[j]?=some x)(hp:xs[j-1]?=some p)(hj:0<j)(hne:x≠p)(hz:z∈xs.take j):ltLr z x=true:=by
 unfold Asc at h;rw[List.pairwise_iff_getElem] at h;obtain⟨hjl,hx⟩:=gS hx;obtain⟨hpl,hp⟩:=gS hp;have h1:=h (j-1) j hpl hjl zo;rw[hx,hp] at h1;have h2:ltLr p x=true:=by
  cases e:ltLr p x with
  | true=>rfl
  | false=>exact absurd (ltLr_anti _ _ h1 e) hne
 obtain⟨i,hi,rfl⟩:=List.getElem_of_mem hz;rw[List.length_take] at hi;rw[List.getElem_take];have hil:i<xs.length:=by omega
 rcases Nat.lt_or_ge i (j-1) with h3 | h3
 ·have h4:=h i (j-1) hil hpl h3;rw[hp] at h4;rw[ltLr_not] at h4;rw[ltLr_iff] at h2 ⊢;omega
 ·obtain rfl:i=j-1:=by omega
  rw[hp];exact h2
theorem take_more{xs:List Lr}{j:Nat}{x:Lr}(hx:xs[j]?=some x):xs.take (j+1)=xs.take j++[x]:=by rw[List.take_add_one,hx];rfl
theorem mem_prev{xs:List Lr}{j:Nat}{p:Lr}(hp:xs[j-1]?=some p)(hj:0<j):p∈xs.take j:=by
 refine gM (i:=j-1) ?_;rw[List.getElem?_take,if_pos zo,hp]
structure LCt where
 i:Nat
 q:Nat
 ys:List Lr
 B:List (Nat×Blk)
theorem lrCompact_spec(F:Frz){a:Option Addr}{m c:Nat}{B:List (Nat×Blk)}{xs:List Lr}(hv:Vec tLr F a m c B xs)(hm:m≤1000000)(hs:Asc xs) :
  Abs.Spec CC 159 [.slice a m c] F [B] fun F' v o=>o=[]∧∃a' m' c' zs,v=.slice a' m' c'∧Arr tLr F' a' m' c' zs∧m'≤m∧Strict zs∧∀z,z∈zs↔z∈xs:=by
 have hl:=hv.len;refine Abs.Spec.fn (n:=61) Tryz.func159 rfl rfl fun own=>?_;refine zC4 ?_;refine AW.cond Z (fun h=>?_) (fun h=>?_)
 ·have h:m<2:=by simp at h;omega
  refine AW.freezeAll 0 Z Z (fun F1 hF1 hB1=>?_);refine zC4 ?_;refine AW.ret ⟨_,[],⟨_,_,rfl,rfl,rfl⟩,zsb,rfl,a,m,c,xs,rfl,hv.arr hF1 hB1,Nat.le_refl _,?_,fun _=>Iff.rfl⟩
  match xs,hl with
  | [],_=>exact List.Pairwise.nil
  | [x],_=>exact List.pairwise_singleton _ _
  | _::_::_,hl=>simp at hl;omega
 have h:2≤m:=by simp at h;omega
 obtain⟨x0,hx0⟩:∃x,xs[0]?=some x:=⟨_,gE zo⟩;obtain⟨ib,cs0,rfl,rfl,hcs0,_⟩:=hv.at_ hx0;obtain rfl:c=2:=by
  rcases hv.cap with h5 | h5
  ·have:=hv.zero h5;omega
  ·exact h5
 refine zC4 ?_;refine AW.block ?_;refine AW.loopR (S:=Nat) (fun i=>[(3,.int .i64 (i:Nat))]) (fun _=>_) (fun i G=>1≤i∧i≤m∧Strict (xs.take i)) (fun i=>m-i) 1
  sM oR ⟨Nat.le_refl _,by omega,?_⟩ ?_
 ·rw[take_more (j:=0) hx0];exact List.pairwise_singleton _ _
 intro i F1 hF1 hP;obtain⟨hi1,him,hst⟩:=hP;have hv1:=hv.mono hF1;refine zC4 ?_;refine AW.cond Z (fun h2=>?_) (fun h2=>?_)
 ·have h2:i<m:=by simpa using h2
  obtain⟨x,hx⟩:∃x,xs[i]?=some x:=⟨_,gE zo⟩;obtain⟨p,hp⟩:∃x,xs[i-1]?=some x:=⟨_,gE zo⟩;refine zC4 ?_;refine AW.block ?_;refine zC4 ?_;refine WT.vidx hT hv1 Z Z Z Z Z Z Z Z Z h2 (fun b5 hb5=>?_);refine WT.vldS hT 0 hv1 hb5 hx Z Z Z Z Z Z Z Z Z (fun l hl=>?_);obtain rfl:l=_:=hl;refine zC4 ?_;refine WT.vidx hT hv1 Z Z Z Z Z Z Z Z Z zo (fun b6 hb6=>?_);refine WT.vldS hT 0 hv1 hb6 hp Z Z Z Z Z Z Z Z Z (fun l hl=>?_);obtain rfl:l=_:=hl;refine zC4 ?_;refine AW.cond Z (fun h3=>?_) (fun h3=>?_)
  ·have e:x=p:=by
    simp at h3;cases x;cases p;simp only[Lr.mk.injEq] at *;omega
   subst e;refine zC4 ?_;refine WT.slice Z Z Z Z Z Z Z Z (fun h0=>sliceA_some (lo:=i) (hi:=m) hT Z Z Z Z Z zo (Nat.le_refl _) (.inr rfl) h0) ?_;refine zC4 ?_;refine AW.block ?_;refine AW.loopR (S:=LCt) (fun s=>[(3,.int .i64 (s.i:Nat)),(5,.int .i64 (s.q:Nat))]) (fun s=>s.B::own)
    (fun s G=>Vec tLr G (some ⟨ib,0,none⟩) m 2 s.B s.ys∧1≤s.q∧i+s.q≤m∧s.i+1≤i+s.q∧s.ys.drop (i+s.q-1)=xs.drop (i+s.q-1)∧Strict (s.ys.take s.i)∧∀z,z∈s.ys.take s.i↔z∈xs.take (i+s.q)) (fun s=>m-s.q) ⟨i,1,xs,_⟩
    sM oR ⟨hv1,Nat.le_refl _,by dsimp only;omega,Nat.le_refl _,rfl,hst,fun z=>?_⟩ ?_
   ·show z∈xs.take i↔z∈xs.take (i+1);rw[take_more hx,List.mem_append]
    exact⟨.inl,fun hz=>hz.elim id fun hz=>by
     have e:z=x:=by simpa using hz
     subst e;exact mem_prev hp zo⟩
   intro s F2 hF2 hP;obtain⟨hv2,hq1,hqm,hsi,hdr,hstr,hmem⟩:=hP;have hv2l:=hv2.len;refine zC4 ?_;refine AW.cond Z (fun h4=>?_) (fun h4=>?_)
   ·have h4:i+s.q<m:=by simp at h4;omega
    refine zC4 ?_;refine AW.block ?_;refine zC4 ?_;obtain⟨y,hy⟩:∃y,xs[i+s.q]?=some y:=⟨_,gE zo⟩;obtain⟨p2,hp2⟩:∃y,xs[i+s.q-1]?=some y:=⟨_,gE zo⟩;have up:∀d,s.ys[i+s.q-1+d]?=xs[i+s.q-1+d]?:=fun d=>by
     rw[←List.getElem?_drop,hdr,List.getElem?_drop]
    have hy2:s.ys[i+s.q]?=some y:=by
     have:=up 1;rw[show i+s.q-1+1=i+s.q by omega] at this;rw[this,hy]
    have hp3:s.ys[i+s.q-1]?=some p2:=by
     have:=up 0;rw[Nat.add_zero] at this;rw[this,hp2]
    have hdr2:s.ys.drop (i+s.q)=xs.drop (i+s.q):=by
     have:=congrArg (List.drop 1) hdr;rw[List.drop_drop,List.drop_drop,show i+s.q-1+1=i+s.q by omega] at this;exact this
    refine WT.idxA hT Z Z Z Z Z Z Z Z Z zo ?_;rw[show 0+i*2+s.q*2=(i+s.q)*2 by omega];refine WT.vldS hT 0 hv2 Z hy2 Z Z Z Z Z Z Z Z Z (fun l hl=>?_);obtain rfl:l=_:=hl;refine zC4 ?_;refine WT.idxA hT Z Z Z Z Z Z Z Z Z zo ?_;rw[show 0+i*2+(s.q-1)*2=(i+s.q-1)*2 by omega];refine WT.vldS hT 0 hv2 Z hp3 Z Z Z Z Z Z Z Z Z (fun l hl=>?_);obtain rfl:l=_:=hl;refine zC4 ?_;refine AW.cond Z (fun h5=>?_) (fun h5=>?_)
    ·have hne:y≠p2:=by
      rintro rfl;simp at h5
     refine zC4 ?_;refine WT.idxA hT Z Z Z Z Z Z Z Z Z zo ?_;rw[show 0+i*2+s.q*2=(i+s.q)*2 by omega];refine WT.vldS hT 0 hv2 Z hy2 Z Z Z Z Z Z Z Z Z (fun l hl=>?_);obtain rfl:l=_:=hl;refine WT.vidx hT hv2 Z Z Z Z Z Z Z Z Z zo (fun b6 hb6=>?_);obtain⟨z,hz⟩:∃z,s.ys[s.i]?=some z:=⟨_,gE zo⟩;have hil:s.i<s.ys.length:=by omega
     refine WT.vst (y:=y) hT 0 hv2 hb6 hz Z Z Z Z Z Z Z (fun _=>rfl) Z (fun B6 hB6=>?_);refine zC4 ?_;have ht:(s.ys.set s.i y).take (s.i+1)=s.ys.take s.i++[y]:=by
      rw[List.take_add_one,List.getElem?_set_self hil,List.take_set_of_le (Nat.le_refl _)];rfl
     refine⟨⟨s.i+1,s.q+1,s.ys.set s.i y,B6⟩,by dsimp only;omega,sM,zow,hB6,by dsimp only;omega,by dsimp only;omega,by dsimp only;omega,?_,?_,fun w=>?_⟩
     ·show (s.ys.set s.i y).drop (i+(s.q+1)-1)=xs.drop (i+(s.q+1)-1);rw[show i+(s.q+1)-1=i+s.q by omega,List.drop_set_of_lt zo,hdr2]
     ·show Strict ((s.ys.set s.i y).take (s.i+1));rw[ht];refine List.pairwise_append.2 ⟨hstr,List.pairwise_singleton _ _,fun w hw w2 hw2=>?_⟩;obtain rfl:w2=y:=by simpa using hw2
      exact asc_step hs hy hp2 zo hne ((hmem w).1 hw)
     ·show w∈(s.ys.set s.i y).take (s.i+1)↔w∈xs.take (i+(s.q+1));rw[ht,←Nat.add_assoc,take_more hy,List.mem_append,List.mem_append,hmem]
    ·have e:y=p2:=by
      simp at h5;cases y;cases p2;simp only[Lr.mk.injEq] at *;omega
     subst e;refine zC4 ?_;refine⟨⟨s.i,s.q+1,s.ys,s.B⟩,by dsimp only;omega,sM,zow,hv2,by dsimp only;omega,by dsimp only;omega,by dsimp only;omega,?_,hstr,fun w=>?_⟩
     ·show s.ys.drop (i+(s.q+1)-1)=xs.drop (i+(s.q+1)-1);rw[show i+(s.q+1)-1=i+s.q by omega,hdr2]
     ·show w∈s.ys.take s.i↔w∈xs.take (i+(s.q+1));rw[hmem,←Nat.add_assoc,take_more hy,List.mem_append]
      exact⟨.inl,fun hz=>hz.elim id fun hz=>by
       have e:w=y:=by simpa using hz
       subst e;exact mem_prev hp2 zo⟩
   ·have h4:i+s.q=m:=by simp at h4;omega
    refine AW.exit ?_;refine zC4 ?_;refine WT.slice Z Z Z Z Z Z Z Z (fun h0=>sliceA_some (lo:=s.i) (hi:=m) hT Z Z Z Z Z zo (Nat.le_refl _) (.inr rfl) h0) ?_;refine WT.vclear (x0:=(⟨0,0⟩:Lr)) (i:=s.i) (l:=m-s.i) hT 0 hv2 Z Z Z Z Z Z Z Z Z zo zo Z (fun _=>rfl) (fun B6 hB6=>?_);refine WT.freezeAll 0 Z Z (fun F6 hF6 hB6'=>?_);have harr:=hB6.arr hF6 hB6';obtain⟨sa,sc,hss,hsl⟩:=harr.slice (C:=CC) (lo:=0) (hi:=s.i) (Nat.zero_le _) zo hT (t:=229) Z Z Z none (some (.int .i64 (s.i:Nat))) rfl rfl;refine zC4 ?_;refine WT.slice Z Z Z Z Z Z Z Z hss ?_;refine zC4 ?_
    have e:(List.take s.i (List.take s.i s.ys++List.replicate (m-s.i) ⟨0,0⟩)).drop 0=s.ys.take s.i:=by
     rw[List.drop_zero,List.take_left' (by rw[List.length_take];omega)]
    rw[e] at hsl;refine AW.ret ⟨_,[],⟨_,_,rfl,rfl,rfl⟩,zsb,rfl,sa,_,sc,_,rfl,hsl,by omega,hstr,fun w=>?_⟩;rw[hmem,h4,List.take_of_length_le zo]
  ·have hne:x≠p:=by
    rintro rfl;simp at h3
   refine zC4 ?_;refine⟨i+1,by omega,sM,zow,by omega,by omega,?_⟩;rw[take_more hx];refine List.pairwise_append.2 ⟨hst,List.pairwise_singleton _ _,fun w hw w2 hw2=>?_⟩;obtain rfl:w2=x:=by simpa using hw2
   exact asc_step hs hx hp zo hne hw
 ·have h2:i=m:=by simp at h2;omega
  refine AW.exit ?_;refine AW.freezeAll 0 Z Z (fun F2 hF2 hB2=>?_);refine zC4 ?_;refine AW.ret ⟨_,[],⟨_,_,rfl,rfl,rfl⟩,zsb,rfl,_,m,_,xs,rfl,hv1.arr hF2 hB2,Nat.le_refl _,?_,fun _=>Iff.rfl⟩;rw[List.take_of_length_le zo] at hst;exact hst
def afterL(g:Gram)(x:Lr):Option Sym:=
 if x.rule=g.rules.length then (if x.dot=0 then some ⟨false,g.start⟩ else none) else match g.rules[x.rule]? with
  | some r=>r.right[x.dot]?
  | none=>none
theorem lrAfter_spec(F:Frz)(g:Gram)(hg4:∀r∈g.rules,r.right.length≤100){a:Option Addr}{m c:Nat}(hr:Arr tRule F a m c g.rules)(hm:m≤1000000)(x:Lr)(hx:x.rule≤m) :
  Abs.Spec CC 131 [.agg ⟨gramCells g a m c⟩,.agg ⟨[.int .i64 x.rule,.int .i64 x.dot]⟩] F [] fun _ v o=>o=[]∧∃(y:Sym) (b:Bool),v=.tuple ⟨[.agg ⟨[.bool y.term,.int .i64 y.n]⟩,.bool b]⟩∧(b=true→afterL g x=some y)∧(b=false→afterL g x=none):=by
 have hml:=hr.len;unfold gramCells;refine Abs.Spec.fn (n:=37) Tryz.func131 rfl rfl fun own=>?_;refine AW.seq (AW.reg ?_);refine WT.boxT Z Z Z Z Z Z (fun i2 hi2=>?_);refine WT.boxT Z Z Z Z Z Z (fun i3 hi3=>?_);refine WT.allocT hT Z Z Z Z Z Z (fun i4 hi4=>?_);refine zB4 ?_;refine AW.cond Z (fun h=>?_) (fun h=>?_)
 ·have h:x.rule=g.rules.length:=by simp at h;omega
  refine zB4 ?_;refine AW.draw (ps:=[(4,2),(4,6),(5,2),(5,6)]) Z Z ?_;refine zB4 ?_;refine WT.callV Tryz.func101 Z Z Z Z Z Z (gN_spec _ _) (fun v hv=>?_);subst hv;refine zB4 ?_;refine⟨zrC,?_⟩;refine AW.ret ⟨_,[],⟨_,_,⟨_,rfl,fun G h0 s0=>loadA_cells (s0.has (p:=0) Z me) (readT_ok hT rfl)⟩,⟨_,_,rfl,rfl,rfl⟩,rfl⟩,zsb,rfl,⟨false,g.start⟩,_,rfl,fun hb=>?_,fun hb=>?_⟩
  ·unfold afterL;rw[if_pos h,if_pos (by simpa using hb)]
  ·unfold afterL;rw[if_pos h,if_neg (by simpa using hb)]
 ·have h:x.rule<g.rules.length:=by simp at h;omega
  refine zB4 ?_;refine WT.idxL hT hr Z Z Z Z Z Z Z Z Z zo (fun r hrx b5 off5 ro5 cs5 lx5 hb5 hp5 hrel5=>?_);obtain⟨ra,rn,rc,rfl,hra⟩:=hrel5;have hral:=hra.len;have hr4:=hg4 r (gM hrx);have ha:afterL g x=r.right[x.dot]?:=by
   unfold afterL;rw[if_neg zo,hrx]
  refine zB4 ?_;refine AW.cond Z (fun h2=>?_) (fun h2=>?_)
  ·have h2:x.dot<rn:=by simp at h2;omega
   refine zB4 ?_;refine WT.idxL hT hra Z Z Z Z Z Z Z Z Z zo (fun y hy b6 off6 ro6 cs6 lx6 hb6 hp6 hrel6=>?_);obtain rfl:lx6=_:=hrel6;refine zB4 ?_;refine AW.ret ⟨_,[],⟨_,_,⟨_,rfl,fun G h0 s0=>loadA_cells (s0.has (p:=0) Z me) (readT_ok hT rfl)⟩,⟨_,_,rfl,rfl,rfl⟩,rfl⟩,zsb,rfl,y,true,rfl,fun _=>?_,fun hb=>by cases hb⟩;rw[ha,hy]
  ·have h2:rn≤x.dot:=by simp at h2;omega
   refine zB4 ?_;refine AW.ret ⟨_,[],⟨_,_,⟨_,rfl,fun G h0 s0=>loadA_cells (s0.has (p:=0) Z me) (readT_ok hT rfl)⟩,⟨_,_,rfl,rfl,rfl⟩,rfl⟩,zsb,rfl,⟨false,0⟩,false,rfl,fun hb=>(by cases hb),fun _=>?_⟩;rw[ha,List.getElem?_eq_none_iff];omega
theorem lrRight_spec(F:Frz)(g:Gram)(hg4:∀r∈g.rules,r.right.length≤100){a:Option Addr}{m c:Nat}(hr:Arr tRule F a m c g.rules)(hm:m≤1000000)(x:Nat)(hx:x≤m) :
  Abs.Spec CC 124 [.agg ⟨gramCells g a m c⟩,.int .i64 x] F [] fun _ v o=>o=[]∧∃b n d,v=.slice b n d∧n=(if x=m then 1 else ((g.rules[x]?).map (·.right.length)).getD 0):=by
 have hml:=hr.len;unfold gramCells;refine Abs.Spec.fn (n:=32) Tryz.func124 rfl rfl fun own=>?_;refine AW.seq (AW.reg ?_);refine WT.boxT Z Z Z Z Z Z (fun i2 hi2=>?_);refine zB4 ?_;refine AW.block ?_;refine zB4 ?_;refine AW.cond Z (fun h=>?_) (fun h=>?_)
 ·have h:x=m:=by simp at h;omega
  refine zB4 ?_;refine WT.callV Tryz.func101 Z Z Z Z Z Z (gN_spec _ _) (fun v hv=>?_);subst hv;refine WT.buildT hT Z Z Z Z Z Z Z Z Z Z Z Z Z Z (fun i5 hi5=>?_);refine zB4 ?_;refine AW.ret ⟨_,[],⟨_,_,rfl,rfl,rfl⟩,zsb,rfl,_,_,_,rfl,?_⟩;rw[if_pos h]
 ·have h:x<m:=by simp at h;omega
  refine zB4 ?_;refine AW.cond Z (fun h=>(by simp at h;omega)) (fun _=>?_);refine zB4 ?_;refine WT.idxL hT hr Z Z Z Z Z Z Z Z Z zo (fun r hrx b5 off5 ro5 cs5 lx5 hb5 hp5 hrel5=>?_);obtain⟨ra,rn,rc,rfl,hra⟩:=hrel5;have hral:=hra.len;have hr4:=hg4 r (gM hrx);refine zB4 ?_;refine WT.callN Tryz.func45 Z Z Z Z Z Z (symClone_spec _ hra zo) (fun F2 v B2 hF2 hv=>?_);obtain⟨ca,cc,rfl,_⟩:=hv;refine zB4 ?_;refine AW.ret ⟨_,[],⟨_,_,rfl,rfl,rfl⟩,zsb,rfl,_,_,_,rfl,?_⟩;rw[if_neg zo,hrx];exact hral
inductive Clos(g:Gram)(l:List Lr):Lr→Prop
 | base {x:Lr}:x∈l→Clos g l x
 | more {x:Lr} {n k:Nat} {r:Rule}:Clos g l x→afterL g x=some ⟨false,n⟩→g.rules[k]?=some r→r.left=n→Clos g l ⟨k,0⟩
structure ClInv(g:Gram)(l xs:List Lr):Prop where
 ad:∃ad:List Nat,xs=l++ad.map (fun k=>⟨k,0⟩)∧ad.Nodup∧∀k∈ad,k<g.rules.length
 clos:∀x∈xs,Clos g l x
def Fed(g:Gram)(xs:List Lr)(x:Lr):Prop:=∀n k r,afterL g x=some ⟨false,n⟩→g.rules[k]?=some r→r.left=n→(⟨k,0⟩:Lr)∈xs
theorem ClInv.few{g:Gram}{l xs:List Lr}(h:ClInv g l xs):xs.length≤l.length+g.rules.length:=by
 obtain⟨ad,rfl,hn,hk⟩:=h.ad;have:=nodup_lt _ ad hn hk;rw[List.length_append,List.length_map];omega
theorem ClInv.rule{g:Gram}{l xs:List Lr}(h:ClInv g l xs)(hl:∀x∈l,x.rule≤g.rules.length):∀x∈xs,x.rule≤g.rules.length:=by
 obtain⟨ad,rfl,hn,hk⟩:=h.ad;intro x hx;rcases List.mem_append.1 hx with h1 | h1
 ·exact hl x h1
 ·obtain⟨k,h2,rfl⟩:=List.mem_map.1 h1;exact Nat.le_of_lt (hk k h2)
theorem ClInv.add{g:Gram}{l xs:List Lr}(h:ClInv g l xs){x:Lr}(hx:x∈xs){n k:Nat}{r:Rule}(h1:afterL g x=some ⟨false,n⟩)(h2:g.rules[k]?=some r)(h3:r.left=n)(hno:(⟨k,0⟩:Lr)∉xs):ClInv g l (xs++[⟨k,0⟩]):=by
 obtain⟨ad,e,hn,hk⟩:=h.ad;refine⟨⟨ad++[k],by rw[e];simp,?_,?_⟩,?_⟩
 ·rw[List.nodup_append];refine⟨hn,by simp,fun a ha b hb=>?_⟩;obtain rfl:b=k:=by simpa using hb
  rintro rfl;exact hno (by rw[e];exact List.mem_append_right _ (List.mem_map.2 ⟨_,ha,rfl⟩))
 ·intro a ha;rcases List.mem_append.1 ha with ha | ha
  ·exact hk a ha
  ·obtain rfl:a=k:=by simpa using ha
   exact(gS h2).1
 ·intro y hy;rcases List.mem_append.1 hy with hy | hy
  ·exact h.clos y hy
  ·obtain rfl:y=⟨k,0⟩:=by simpa using hy
   exact .more (h.clos x hx) h1 h2 h3
theorem ClInv.full{g:Gram}{l xs:List Lr}(h:ClInv g l xs)(hf:∀x∈xs,Fed g xs x)(x:Lr):x∈xs↔Clos g l x:=by
 refine⟨h.clos x,fun hc=>?_⟩
 induction hc with
 | base h1=>obtain⟨ad,rfl,_⟩:=h.ad;exact List.mem_append_left _ h1
 | more _ h2 h3 h4 ih=>exact hf _ ih _ _ _ h2 h3 h4
theorem Fed.more{g:Gram}{xs:List Lr}{x y:Lr}(h:Fed g xs x):Fed g (xs++[y]) x:=fun n k r h1 h2 h3=>List.mem_append_left _ (h n k r h1 h2 h3)
structure KSt where
 i:Nat
 xs:List Lr
 a:Option Addr
 c:Nat
 B:List (Nat×Blk)
theorem closure_spec(F:Frz)(g:Gram)(hg4:∀r∈g.rules,r.right.length≤100){a:Option Addr}{m c:Nat}(hr:Arr tRule F a m c g.rules)(hm:m≤100){b:Option Addr}{n d:Nat}{l:List Lr}(hl:Arr tLr F b n d l)(hn:n≤1000)(hok:∀x∈l,x.rule≤g.rules.length) :
  Abs.Spec CC 133 [.agg ⟨gramCells g a m c⟩,.slice b n d] F [] fun F' v o=>o=[]∧∃a' m' c' zs,v=.slice a' m' c'∧Arr tLr F' a' m' c' zs∧m'≤n+m∧Strict zs∧∀z,z∈zs↔Clos g l z:=by
 have hml:=hr.len;have hll:=hl.len;unfold gramCells;refine Abs.Spec.fn (n:=65) Tryz.func133 rfl rfl fun own=>?_;refine AW.seq (AW.reg ?_);refine WT.boxT Z Z Z Z Z Z (fun i2 hi2=>?_);refine zC4 ?_;refine WT.callN Tryz.func155 Z Z Z Z Z Z (lrClone_spec _ hl zo) (fun F1 v B1 hF1 hv=>?_);obtain⟨ca,cc,rfl,hv⟩:=hv;have hr1:=hr.mono hF1;rw[hll] at hv;rw[hll];refine zC4 ?_;refine AW.block ?_;refine AW.loopR (S:=KSt) (fun s=>[(6,.int .i64 (s.i:Nat)),(5,.slice s.a s.xs.length s.c)]) (fun s=>s.B::[(i2,.cells false [.int .i64 g.terms,.int .i64 g.nons,.int .i64 g.start,.slice a m c])]::own)
  (fun s G=>Vec tLr G s.a s.xs.length s.c s.B s.xs∧ClInv g l s.xs∧s.i≤s.xs.length∧∀x∈s.xs.take s.i,Fed g s.xs x) (fun s=>n+m-s.i) ⟨0,l,ca,cc,B1⟩
  sM oR ⟨hv,⟨⟨[],by simp,List.nodup_nil,by simp⟩,fun x hx=>.base hx⟩,Nat.zero_le _,by simp⟩ ?_
 intro s F2 hF2 hP;obtain⟨hv2,hci,hil,hfed⟩:=hP;have hr2:=hr1.mono hF2;have hfew:=hci.few;have hrule:=hci.rule hok;refine zC4 ?_;refine AW.cond Z (fun h=>?_) (fun h=>?_)
 ·have h:s.i<s.xs.length:=by simpa using h
  obtain⟨x,hx⟩:∃x,s.xs[s.i]?=some x:=⟨_,gE h⟩;have hxm:=gM hx;have hxr:=hrule x hxm;refine zC4 ?_;refine AW.block ?_;refine zC4 ?_;refine AW.draw (ps:=[(0,9),(4,9)]) Z Z ?_;refine zC4 ?_;refine WT.vidx hT hv2 Z Z Z Z Z Z Z Z Z h (fun b5 hb5=>?_);refine WT.vldS hT 0 hv2 hb5 hx Z Z Z Z Z Z Z Z Z (fun l hl=>?_);obtain rfl:l=_:=hl;refine WT.callV Tryz.func131 Z Z Z Z Z Z (lrAfter_spec _ g hg4 hr2 zo x zo) (fun v hv=>?_);obtain⟨y,bo,rfl,hay,han⟩:=hv;refine zC4 ?_;refine WT.allocT hT Z Z Z Z Z Z (fun i7 hi7=>?_);refine zC4 ?_;obtain⟨jb,jcs,hja,hjB,_,_⟩:=hv2.at_ hx
  have hmb:(b5,Blk.cells false jcs)∈s.B:=by
   rw[hjB];rw[hb5] at hja;cases hja;exact List.mem_cons_self ..
  refine⟨zrA,?_⟩;refine zC4 ?_;have hnext:∀xs',s.xs.length≤xs'.length→xs'.take s.i=s.xs.take s.i→xs'[s.i]?=some x→(∀z∈s.xs.take s.i,Fed g xs' z)→Fed g xs' x→∀z∈xs'.take (s.i+1),Fed g xs' z:=fun xs' _ e1 e2 h1 h2 z hz=>by
   rw[List.take_add_one,e1,e2] at hz;rcases List.mem_append.1 hz with hz | hz
   ·exact h1 z hz
   ·obtain rfl:z=x:=by simpa using hz
    exact h2
  have hskip:Fed g s.xs x→∀z∈s.xs.take (s.i+1),Fed g s.xs z:=fun h=>hnext s.xs (Nat.le_refl _) rfl hx hfed h;cases bo
  ·have han:=han rfl;refine zC4 ?_;refine AW.cond Z (fun _=>?_) (fun h=>(by cases h));refine AW.exit ?_;refine zC4 ?_;exact⟨⟨s.i+1,s.xs,s.a,s.c,s.B⟩,by dsimp only;omega,sM,zow,hv2,hci,h,hskip (fun n k r h1 _ _=>by rw[han] at h1;cases h1)⟩
  have hay:=hay rfl;refine zC4 ?_;refine AW.cond Z (fun h3=>?_) (fun h3=>?_)
  ·have h3:y.term=true:=by simpa using h3
   refine AW.exit ?_;refine zC4 ?_;exact⟨⟨s.i+1,s.xs,s.a,s.c,s.B⟩,by dsimp only;omega,sM,zow,hv2,hci,h,hskip (fun n k r h1 _ _=>by rw[hay] at h1;injection h1 with h1;rw[h1] at h3;cases h3)⟩
  have h3:y.term=false:=by simpa using h3
  have hay2:afterL g x=some ⟨false,y.n⟩:=by rw[hay,←h3]
  refine zC4 ?_;refine AW.range (S:=KSt) (fun u=>[(5,.slice u.a u.xs.length u.c)]) (fun u=>[(i7,.cells false [.bool y.term,.int .i64 y.n])]::u.B::[(i2,.cells false [.int .i64 g.terms,.int .i64 g.nons,.int .i64 g.start,.slice a m c])]::own)
   (fun k u G=>Vec tLr G u.a u.xs.length u.c u.B u.xs∧ClInv g l u.xs∧s.xs.length≤u.xs.length∧u.xs.take s.i=s.xs.take s.i∧u.xs[s.i]?=some x∧(∀z∈s.xs.take s.i,Fed g u.xs z)∧∀k' r,k'<k→g.rules[k']?=some r→r.left=y.n→(⟨k',0⟩:Lr)∈u.xs) m ⟨0,s.xs,s.a,s.c,s.B⟩
   Z Z Z Z Z Z Z Z Z zo rfl rfl (fun _=>rfl) (fun _=>rfl) sM oR ⟨hv2,hci,Nat.le_refl _,rfl,hx,hfed,fun k' r h=>absurd h (Nat.not_lt_zero _)⟩ ?_ ?_
  ·intro j u F3 hF3 hj hP;obtain⟨hvu,hcu,hlu,htu,hxu,hfu,hku⟩:=hP;have hr3:=hr2.mono hF3;have hfewu:=hcu.few;have hxum:=gM hxu;refine zC4 ?_;refine WT.idxL hT hr3 Z Z Z Z Z Z Z Z Z zo (fun r hrj b8 off8 ro8 cs8 lx8 hb8 hp8 hrel8=>?_);obtain⟨ra,rn,rc,rfl,hra⟩:=hrel8;refine zC4 ?_;refine WT.allocT hT Z Z Z Z Z Z (fun i10 hi10=>?_);refine zC4 ?_;refine WT.allocT hT Z Z Z Z Z Z (fun i11 hi11=>?_);refine zC4 ?_;refine WT.split 50 Z (fun h4=>?_) (fun h4=>?_)
   ·have h4:r.left=y.n:=by simp at h4;omega
    refine zC4 ?_;refine WT.callLend 3 Tryz.func156 Z Z Z Z Z Z Z (fun G hG hBG=>lrContains_spec G (hvu.arr hG hBG) zo ⟨j,0⟩) (fun v hv=>?_);subst hv;refine zC4 ?_;refine AW.cond Z (fun h5=>?_) (fun h5=>?_)
    ·have h5:(⟨j,0⟩:Lr)∉u.xs:=by simpa using h5
     refine zC4 ?_;have hbu:=hvu.bld (fun e=>by rw[e] at hxum;cases hxum);refine WT.buildT hT Z Z Z Z Z Z Z Z Z Z Z Z Z Z (fun i12 hi12=>?_);refine WT.appendT (ys:=[(⟨j,0⟩:Lr)]) hT 4 hbu Z (fun _=>rfl) Z Z Z Z Z Z Z Z Z Z Z (fun h0 s0=>news_own hT s0 0 Z Z Z Z) (Cells.single (R:=tLr) (x:=(⟨j,0⟩:Lr)) rfl) Z (by decide) zom (fun a3 c3 B3 hB3=>?_);have hl2:u.xs.length+1=(u.xs++[(⟨j,0⟩:Lr)]).length:=by simp
     rw[hl2] at hB3 ⊢;refine zC4 ?_;have hil2:s.i<u.xs.length:=by omega
     refine⟨⟨0,u.xs++[⟨j,0⟩],a3,c3,B3⟩,sM,zow,hB3.vec,hcu.add hxum hay2 hrj h4 h5,by simp;omega,?_,?_,fun z hz=>(hfu z hz).more,fun k' r' h1 h2 h3=>?_⟩
     ·show (u.xs++[_]).take s.i=_;rw[List.take_append_of_le_length zo,htu]
     ·show (u.xs++[_])[s.i]?=_;rw[List.getElem?_append_left hil2,hxu]
     ·rcases Nat.lt_or_ge k' j with h6 | h6
      ·exact List.mem_append_left _ (hku k' r' h6 h2 h3)
      ·obtain rfl:k'=j:=by omega
       exact List.mem_append_right _ me
    ·have h5:(⟨j,0⟩:Lr)∈u.xs:=by simpa using h5
     refine zC4 ?_;refine⟨u,sM,zow,hvu,hcu,hlu,htu,hxu,hfu,fun k' r' h1 h2 h3=>?_⟩;rcases Nat.lt_or_ge k' j with h6 | h6
     ·exact hku k' r' h6 h2 h3
     ·obtain rfl:k'=j:=by omega
      exact h5
   ·have h4:r.left≠y.n:=by simp at h4;omega
    refine zC4 ?_;refine AW.cond Z (fun h=>(by cases h)) (fun _=>?_);refine zC4 ?_;refine⟨u,sM,zow,hvu,hcu,hlu,htu,hxu,hfu,fun k' r' h1 h2 h3=>?_⟩;rcases Nat.lt_or_ge k' j with h6 | h6
    ·exact hku k' r' h6 h2 h3
    ·obtain rfl:k'=j:=by omega
     rw[hrj] at h2;cases h2;exact absurd h3 h4
  ·intro u F3 hF3 hP;obtain⟨hvu,hcu,hlu,htu,hxu,hfu,hku⟩:=hP;have hfewu:=hcu.few;refine zC4 ?_;refine⟨⟨s.i+1,u.xs,u.a,u.c,u.B⟩,by dsimp only;omega,sM,zow,hvu,hcu,by dsimp only;omega,hnext u.xs hlu htu hxu hfu (fun n k r h1 h2 h3=>?_)⟩;rw[hay2] at h1;cases h1;have:=(gS h2).1;exact hku k r zo h2 h3
 ·have h:s.i=s.xs.length:=by simp at h;omega
  rw[h,List.take_length] at hfed;have hfull:=hci.full hfed;refine AW.exit ?_;refine zC4 ?_;obtain⟨hp,hs⟩:=sort_facts ltLr_swo s.xs;have hsl:=hp.length_eq;refine WT.call1F 0 Tryz.func157 Z Z Z Z Z Z Z (fun _=>rfl) (lrSort_spec _ (lrOrder_cmp _) hv2 zo) (fun F7 v B7 hF7 hv7=>?_);refine zC4 ?_;refine WT.callF (oin:=[B7]) Tryz.func159 Z Z Z Z Z Z (lrCompact_spec F7 hv7 zo hs) (List.Perm.refl _) (fun F8 v oout hF8 hv8=>?_);obtain⟨rfl,a8,m8,c8,zs,rfl,hz,hzm,hst,hmem⟩:=hv8;refine zC4 ?_;refine AW.ret ⟨_,[],⟨_,_,rfl,rfl,rfl⟩,zsb,rfl,a8,m8,c8,zs,rfl,hz,by omega,hst,fun z=>?_⟩;rw[hmem,hp.mem_iff,hfull]
inductive Nul(g:Gram):Nat→Prop
 | mk {r:Rule}:r∈g.rules→(∀s∈r.right,s.term=false)→(∀s∈r.right,Nul g s.n)→Nul g r.left
def NulL(g:Gram)(l:List Sym):Prop:=∀s∈l,s.term=false∧Nul g s.n
inductive Beg(g:Gram):Nat→Nat→Prop
 | term {r:Rule} {pre post:List Sym} {t:Nat}:r∈g.rules→r.right=pre++⟨true,t⟩::post→NulL g pre→Beg g r.left t
 | non {r:Rule} {pre post:List Sym} {m t:Nat}:r∈g.rules→r.right=pre++⟨false,m⟩::post→NulL g pre→Beg g m t→Beg g r.left t
def BegL(g:Gram)(l:List Sym)(t:Nat):Prop:=∃pre s post,l=pre++s::post∧NulL g pre∧(s=⟨true,t⟩∨(s.term=false∧Beg g s.n t))
theorem Nul.of{g:Gram}{r:Rule}(h:r∈g.rules)(h2:NulL g r.right):Nul g r.left:=.mk h (fun s hs=>(h2 s hs).1) (fun s hs=>(h2 s hs).2)
theorem Beg.of{g:Gram}{r:Rule}{t:Nat}(h:r∈g.rules)(h2:BegL g r.right t):Beg g r.left t:=by
 obtain⟨pre,s,post,e,hn,h3⟩:=h2;rcases h3 with rfl | ⟨h3,h4⟩
 ·exact .term h e hn
 ·obtain⟨b,n⟩:=s;obtain rfl:b=false:=h3;exact .non h e hn h4
theorem NulL.nil{g:Gram}:NulL g []:=fun _ h=>by cases h
theorem NulL.cons{g:Gram}{s:Sym}{l:List Sym}(h1:s.term=false)(h2:Nul g s.n)(h:NulL g l):NulL g (s::l):=fun x hx=>by
 rcases List.mem_cons.1 hx with rfl | hx
 ·exact⟨h1,h2⟩
 ·exact h x hx
theorem BegL.head{g:Gram}{s:Sym}{l:List Sym}{t:Nat}(h:s=⟨true,t⟩∨(s.term=false∧Beg g s.n t)):BegL g (s::l) t:=⟨[],s,l,rfl,NulL.nil,h⟩
theorem BegL.cons{g:Gram}{s:Sym}{l:List Sym}{t:Nat}(h1:s.term=false)(h2:Nul g s.n)(h:BegL g l t):BegL g (s::l) t:=by
 obtain⟨pre,x,post,e,hn,h3⟩:=h;exact⟨s::pre,x,post,by rw[e];rfl,NulL.cons h1 h2 hn,h3⟩
mutual
theorem TreeOf.begin{g:Gram}{w:List Nat}:∀{t:Tree} {s:Sym} {i j:Nat},TreeOf g w s t i j→(i=j→s.term=false∧Nul g s.n)∧(i<j→∃c,w[i]?=some c∧(s=⟨true,c⟩∨(s.term=false∧Beg g s.n c)))
 | .mk _ _ _,_,i,_,.leaf h=>⟨fun e=>by omega,fun _=>⟨_,h,.inl rfl⟩⟩
 | .mk _ _ ks,_,i,j,.node h h2=>by
  have hm:=gM h;obtain⟨h3,h4⟩:=TreesOf.begin h2;refine⟨fun e=>⟨rfl,.of hm (h3 e)⟩,fun e=>?_⟩;obtain⟨c,hc,hb⟩:=h4 e;exact⟨c,hc,.inr ⟨rfl,.of hm hb⟩⟩
theorem TreesOf.begin{g:Gram}{w:List Nat}:∀{ts:List Tree} {l:List Sym} {i j:Nat},TreesOf g w l ts i j→(i=j→NulL g l)∧(i<j→∃c,w[i]?=some c∧BegL g l c)
 | [],_,i,_,.nil=>⟨fun _=>NulL.nil,fun e=>by omega⟩
 | t::ts,_,i,j,.cons (m:=m) h1 h2=>by
  have hle1:=(TreeOf.le h1).1;have hle2:=(TreesOf.le h2).1;obtain⟨a1,a2⟩:=TreeOf.begin h1;obtain⟨b1,b2⟩:=TreesOf.begin h2;refine⟨fun e=>?_,fun e=>?_⟩
  ·obtain⟨h3,h4⟩:=a1 zo;exact NulL.cons h3 h4 (b1 zo)
  ·by_cases hm:i<m
   ·obtain⟨c,hc,h5⟩:=a2 hm;exact⟨c,hc,BegL.head h5⟩
   ·obtain rfl:i=m:=by omega
    obtain⟨h3,h4⟩:=a1 rfl;obtain⟨c,hc,h5⟩:=b2 e;exact⟨c,hc,BegL.cons h3 h4 h5⟩
end
def rightL(g:Gram)(k:Nat):List Sym:=if k=g.rules.length then [⟨false,g.start⟩] else ((g.rules[k]?).map (·.right)).getD []
theorem rightL_rule{g:Gram}{k:Nat}{r:Rule}(h:g.rules[k]?=some r):rightL g k=r.right:=by
 unfold rightL;rw[if_neg (by have:=(gS h).1;omega),h];rfl
theorem rightL_start{g:Gram}:rightL g g.rules.length=[⟨false,g.start⟩]:=if_pos rfl
theorem afterL_right{g:Gram}{x:Lr}:afterL g x=(rightL g x.rule)[x.dot]?:=by
 unfold afterL rightL;split
 ·cases hd:x.dot with
  | zero=>rfl
  | succ d=>rfl
 ·cases h:g.rules[x.rule]? with
  | none=>rfl
  | some r=>rfl
def restL(g:Gram)(x:Lr):List Sym:=(rightL g x.rule).drop (x.dot+1)
structure LRok(g:Gram)(it:Nat→Lr→Prop)(la:Nat→Lr→Nat→Prop)(go:Nat→Sym→Option Nat):Prop where
 start:it 0 ⟨g.rules.length,0⟩
 startL:la 0 ⟨g.rules.length,0⟩ g.terms
 clos:∀{s:Nat} {x:Lr} {k:Nat} {r:Rule},it s x→afterL g x=some ⟨false,r.left⟩→g.rules[k]?=some r→it s ⟨k,0⟩
 closL:∀{s:Nat} {x:Lr} {k:Nat} {r:Rule} {t u:Nat},it s x→la s x u→afterL g x=some ⟨false,r.left⟩→g.rules[k]?=some r→(BegL g (restL g x) t∨(NulL g (restL g x)∧la s x t))→la s ⟨k,0⟩ t
 step:∀{s:Nat} {x:Lr} {y:Sym},it s x→afterL g x=some y→∃s',go s y=some s'∧it s' ⟨x.rule,x.dot+1⟩∧∀t,la s x t→la s' ⟨x.rule,x.dot+1⟩ t
 back:∀{s s':Nat} {y:Sym} {k d:Nat},go s y=some s'→it s' ⟨k,d+1⟩→it s ⟨k,d⟩∧afterL g ⟨k,d⟩=some y
 fill:∀{s:Nat} {k:Nat} {r:Rule},it s ⟨k,0⟩→g.rules[k]?=some r→∃s',go s ⟨false,r.left⟩=some s'
 first:∀{s:Nat},it s ⟨g.rules.length,0⟩→s=0
 zero:∀{s:Nat} {y:Sym},go s y≠some 0
 dots:∀{x:Lr},it 0 x→x.dot=0
inductive Act where
 | no
 | shift (s:Nat)
 | red (k:Nat)
 | acc
deriving DecidableEq
inductive ActOf(g:Gram)(it:Nat→Lr→Prop)(la:Nat→Lr→Nat→Prop)(go:Nat→Sym→Option Nat)(s t:Nat):Act→Prop
 | shift {s':Nat}:t<g.terms→go s ⟨true,t⟩=some s'→ActOf g it la go s t (.shift s')
 | red {k:Nat} {r:Rule}:g.rules[k]?=some r→it s ⟨k,r.right.length⟩→la s ⟨k,r.right.length⟩ t→ActOf g it la go s t (.red k)
 | acc:it s ⟨g.rules.length,1⟩→la s ⟨g.rules.length,1⟩ t→ActOf g it la go s t .acc
structure Only(g:Gram)(it:Nat→Lr→Prop)(la:Nat→Lr→Nat→Prop)(go:Nat→Sym→Option Nat)(act:Nat→Nat→Act):Prop where
 all:∀{s t:Nat} {a:Act},ActOf g it la go s t a→act s t=a
 one:∀{s t:Nat},act s t≠.no→ActOf g it la go s t (act s t)
abbrev Conf:=List Nat×List Tree
def topS(σ:List Nat):Nat:=σ.getLast?.getD 0
def redS(g:Gram)(go:Nat→Sym→Option Nat)(act:Nat→Nat→Act)(t:Nat)(c:Conf):Conf:=match act (topS c.1) t with
 | .red k=>match g.rules[k]? with
  | some r=>(c.1.take (c.1.length-r.right.length)++[(go (topS (c.1.take (c.1.length-r.right.length))) ⟨false,r.left⟩).getD 0],
    c.2.take (c.2.length-r.right.length)++[.mk k 0 (c.2.drop (c.2.length-r.right.length))])
  | none=>c
 | _=>c
def redN(g:Gram)(go:Nat→Sym→Option Nat)(act:Nat→Nat→Act)(t:Nat):Nat→Conf→Conf
 | 0,c=>c
 | n+1,c=>redN g go act t n (redS g go act t c)
def lookW(g:Gram)(w:List Nat)(i:Nat):Nat:=(w[i]?).getD g.terms
inductive LStk(g:Gram)(go:Nat→Sym→Option Nat)(w:List Nat):List Nat→List Tree→Nat→Prop
 | nil:LStk g go w [0] [] 0
 | snoc {σ:List Nat} {τ:List Tree} {i j s s':Nat} {y:Sym} {T:Tree}:LStk g go w (σ++[s]) τ i→go s y=some s'→TreeOf g w y T i j→LStk g go w (σ++[s]++[s']) (τ++[T]) j
theorem topS_snoc(σ:List Nat)(s:Nat):topS (σ++[s])=s:=by unfold topS;rw[List.getLast?_append];rfl
theorem LStk.len{g:Gram}{go:Nat→Sym→Option Nat}{w:List Nat}{σ:List Nat}{τ:List Tree}{i:Nat}(h:LStk g go w σ τ i):σ.length=τ.length+1∧i≤w.length:=by
 induction h with
 | nil=>exact⟨rfl,Nat.zero_le _⟩
 | snoc h1 h2 h3 ih=>exact⟨by simp only[List.length_append,List.length_singleton] at ih ⊢;omega,(TreeOf.le h3).2 ih.2⟩
theorem LStk.has{g:Gram}{go:Nat→Sym→Option Nat}{w:List Nat}{σ:List Nat}{τ:List Tree}{i:Nat}(h:LStk g go w σ τ i):∃σ0 s,σ=σ0++[s]:=by
 cases h with
 | nil=>exact⟨[],0,rfl⟩
 | snoc _ _ _=>exact⟨_,_,rfl⟩
section
variable {g:Gram}{it:Nat→Lr→Prop}{la:Nat→Lr→Nat→Prop}{go:Nat→Sym→Option Nat}{act:Nat→Nat→Act}{w:List Nat}
theorem LStk.under(ok:LRok g it la go):∀(d:Nat) {σ:List Nat} {τ:List Tree} {i k:Nat},LStk g go w σ τ i→it (topS σ) ⟨k,d⟩→d≤(rightL g k).length→
  ∃σ0 s0 τ0 τ1 i0,σ.take (σ.length-d)=σ0++[s0]∧τ=τ0++τ1∧τ1.length=d∧LStk g go w (σ0++[s0]) τ0 i0∧it s0 ⟨k,0⟩∧TreesOf g w ((rightL g k).take d) τ1 i0 i
 | 0,σ,τ,i,k,h,hit,hd=>by
  obtain⟨σ0,s,rfl⟩:=h.has;rw[topS_snoc] at hit;exact⟨σ0,s,τ,[],i,by rw[Nat.sub_zero,List.take_length],(List.append_nil _).symm,rfl,h,hit,by rw[List.take_zero];exact .nil⟩
 | d+1,_,_,_,k,.nil,hit,hd=>by
  exfalso;have h0:=ok.dots (show it 0 ⟨k,d+1⟩ from hit);exact absurd h0 (Nat.succ_ne_zero d)
 | d+1,_,_,_,k,.snoc (σ:=σ) (τ:=τ) (i:=i) (j:=j) (s:=s) (s':=s') (y:=y) (T:=T) h1 h2 h3,hit,hd=>by
  rw[topS_snoc] at hit;obtain⟨h4,h5⟩:=ok.back h2 hit;obtain⟨σ0,s0,τ0,τ1,i0,e1,e2,e3,e4,e5,e6⟩:=LStk.under ok d h1 (by rw[topS_snoc];exact h4) zo;rw[afterL_right] at h5;have h5:(rightL g k)[d]?=some y:=h5;refine⟨σ0,s0,τ0,τ1++[T],i0,?_,by rw[e2,List.append_assoc],by rw[List.length_append,e3];rfl,e4,e5,?_⟩
  ·rw[←e1];have hl:=h1.len.1;rw[List.length_append,List.length_singleton] at hl;simp only[List.length_append,List.length_singleton];rw[List.take_append_of_le_length (by simp only[List.length_append,List.length_singleton];omega)];congr 1;omega
  ·rw[List.take_add_one,h5];exact TreesOf.snoc h3 e6
theorem topS_take{σ σ0:List Nat}{s0:Nat}{n:Nat}(h:σ.take n=σ0++[s0]):topS (σ.take n)=s0:=by rw[h,topS_snoc]
theorem LStk.red(ok:LRok g it la go)(on:Only g it la go act){t:Nat}{c:Conf}{i:Nat}(h:LStk g go w c.1 c.2 i):LStk g go w (redS g go act t c).1 (redS g go act t c).2 i:=by
 unfold redS;split
 ·rename_i k hk;have h1:=on.one (s:=topS c.1) (t:=t) (by rw[hk];exact Act.noConfusion);rw[hk] at h1;cases h1 with
  | red hr hit hla=>
   rename_i r;rw[hr];dsimp only;have hrl:=rightL_rule hr;obtain⟨σ0,s0,τ0,τ1,i0,e1,e2,e3,e4,e5,e6⟩:=LStk.under ok r.right.length h hit (by rw[hrl];exact Nat.le_refl _);obtain⟨s',hs'⟩:=ok.fill e5 hr;rw[topS_take e1,hs',e1];have e7:c.2.length-r.right.length=τ0.length:=by rw[e2,List.length_append,e3];omega
   rw[e7,e2,List.take_left,List.drop_left];rw[hrl,List.take_length] at e6;exact .snoc e4 hs' (.node hr e6)
 ·exact h
theorem LStk.redN(ok:LRok g it la go)(on:Only g it la go act){t:Nat}:∀(n:Nat) {c:Conf} {i:Nat},LStk g go w c.1 c.2 i→LStk g go w (redN g go act t n c).1 (redN g go act t n c).2 i
 | 0,_,_,h=>h
 | n+1,_,_,h=>LStk.redN ok on n (h.red ok on)
theorem LStk.shift(ok:LRok g it la go)(on:Only g it la go act){t s':Nat}{σ:List Nat}{τ:List Tree}{i:Nat}(h:LStk g go w σ τ i)(ha:act (topS σ) t=.shift s')(ht:w[i]?=some t):LStk g go w (σ++[s']) (τ++[.mk (-1) t []]) (i+1):=by
 have h1:=on.one (s:=topS σ) (t:=t) (by rw[ha];exact Act.noConfusion);rw[ha] at h1;cases h1 with
 | shift h2 h3=>
  obtain⟨σ0,s,rfl⟩:=h.has;rw[topS_snoc] at h3;exact .snoc h h3 (.leaf ht)
theorem LStk.bottom(ok:LRok g it la go){σ0:List Nat}{τ:List Tree}{i:Nat}(h:LStk g go w (σ0++[0]) τ i):σ0=[]∧τ=[]∧i=0:=by
 generalize hσ:σ0++[0]=σ at h;cases h with
 | nil=>exact⟨by simpa using hσ,rfl,rfl⟩
 | snoc h1 h2 h3=>
  have:=(List.append_inj' hσ rfl).2;have e:=List.head_eq_of_cons_eq this;subst e;exact absurd h2 ok.zero
theorem LStk.acc(ok:LRok g it la go)(on:Only g it la go act){t:Nat}{σ:List Nat}{τ:List Tree}{i:Nat}(h:LStk g go w σ τ i)(ha:act (topS σ) t=.acc):∃T,τ=[T]∧TreeOf g w ⟨false,g.start⟩ T 0 i:=by
 have h1:=on.one (s:=topS σ) (t:=t) (by rw[ha];exact Act.noConfusion);rw[ha] at h1;cases h1 with
 | acc hit hla=>
  obtain⟨σ0,s0,τ0,τ1,i0,e1,e2,e3,e4,e5,e6⟩:=LStk.under ok 1 h hit (by rw[rightL_start];exact Nat.le_refl _);obtain rfl:=ok.first e5
  obtain⟨rfl,rfl,rfl⟩:=e4.bottom ok;rw[rightL_start] at e6;have e6:TreesOf g w [⟨false,g.start⟩] τ1 0 i:=e6;cases e6 with
  | cons h1 h2=>
   cases h2;exact⟨_,e2,h1⟩
inductive Run(g:Gram)(go:Nat→Sym→Option Nat)(act:Nat→Nat→Act)(w:List Nat)(a:Conf×Nat):Nat→Conf×Nat→Prop
 | refl:Run g go act w a 0 a
 | red {n:Nat} {c:Conf} {i k:Nat}:Run g go act w a n (c,i)→act (topS c.1) (lookW g w i)=.red k→Run g go act w a (n+1) (redS g go act (lookW g w i) c,i)
 | shift {n:Nat} {c:Conf} {i t s':Nat}:Run g go act w a n (c,i)→w[i]?=some t→act (topS c.1) t=.shift s'→Run g go act w a n ((c.1++[s'],c.2++[.mk (-1) t []]),i+1)
theorem Run.trans{a b c:Conf×Nat}{n m:Nat}(h1:Run g go act w a n b)(h2:Run g go act w b m c):Run g go act w a (n+m) c:=by
 induction h2 with
 | refl=>exact h1
 | red h3 h4 ih=>exact .red ih h4
 | shift h3 h4 h5 ih=>exact .shift ih h4 h5
def Allowed(g:Gram)(la:Nat→Lr→Nat→Prop)(s:Nat)(x:Lr)(t:Nat):Prop:=BegL g (restL g x) t∨(NulL g (restL g x)∧la s x t)
theorem lookW_at{i t:Nat}(h:w[i]?=some t):lookW g w i=t:=by unfold lookW;rw[h];rfl
mutual
theorem TreeOf.run(ok:LRok g it la go)(on:Only g it la go act)(hw:∀t∈w,t<g.terms):∀{T:Tree} {X:Sym} {i j:Nat},TreeOf g w X T i j→∀{σ:List Nat} {τ:List Tree} {x:Lr},it (topS σ) x→(∃u,la (topS σ) x u)→afterL g x=some X→Allowed g la (topS σ) x (lookW g w j)→
  ∃s' n,go (topS σ) X=some s'∧n≤T.pre.length∧Run g go act w ((σ,τ),i) n ((σ++[s'],τ++[T]),j)
 | .mk _ t _,_,i,_,.leaf h,σ,τ,x,hx,_,ha,_=>by
  obtain⟨s',h1,h2,h3⟩:=ok.step hx ha;have hact:=on.all (.shift (hw t (gM h)) h1);exact⟨s',0,h1,Nat.zero_le _,.shift (c:=(σ,τ)) .refl h hact⟩
 | .mk _ _ ks,_,i,j,.node (k:=k) (r:=r) h h2,σ,τ,x,hx,⟨u,hu⟩,ha,hal=>by
  obtain⟨s',h3,_,_⟩:=ok.step hx ha;have hk0:=ok.clos hx ha h;have hk1:=ok.closL (t:=lookW g w j) hx hu ha h hal;obtain⟨σ',n,e1,e2,e3,e4,e5⟩:=TreesOf.run ok on hw h2 (σ:=σ) (τ:=τ) (k:=k) (d:=0) (r:=r) h hk0 hk1 (Nat.zero_le _) rfl;have hact:=on.all (.red h e2 e3);refine⟨s',n+1,h3,?_,?_⟩
  ·show n+1≤((k:Int)::preL ks).length;rw[List.length_cons];omega
  ·have hred:=Run.red e5 hact;have hsl:σ'.length=r.right.length:=by rw[e1,TreesOf.len h2]
   have e:redS g go act (lookW g w j) (σ++σ',τ++ks)=(σ++[s'],τ++[.mk k 0 ks]):=by
    unfold redS;dsimp only;rw[hact];dsimp only;rw[h];dsimp only;have e7:(σ++σ').length-r.right.length=σ.length:=by rw[List.length_append,hsl];omega
    have e8:(τ++ks).length-r.right.length=τ.length:=by rw[List.length_append,TreesOf.len h2];omega
    rw[e7,e8,List.take_left,List.take_left,List.drop_left,h3];rfl
   rw[e] at hred;exact hred
theorem TreesOf.run(ok:LRok g it la go)(on:Only g it la go act)(hw:∀t∈w,t<g.terms):∀{ts:List Tree} {l:List Sym} {i j:Nat},TreesOf g w l ts i j→∀{σ:List Nat} {τ:List Tree} {k d:Nat} {r:Rule},g.rules[k]?=some r→it (topS σ) ⟨k,d⟩→la (topS σ) ⟨k,d⟩ (lookW g w j)→d≤r.right.length→r.right.drop d=l→
  ∃σ' n,σ'.length=ts.length∧it (topS (σ++σ')) ⟨k,r.right.length⟩∧la (topS (σ++σ')) ⟨k,r.right.length⟩ (lookW g w j)∧n≤(preL ts).length∧Run g go act w ((σ,τ),i) n ((σ++σ',τ++ts),j)
 | [],_,i,_,.nil,σ,τ,k,d,r,hk,hit,hla,hdl,hd=>by
  obtain rfl:d=r.right.length:=by have:=List.drop_eq_nil_iff.1 hd;omega
  refine⟨[],0,rfl,?_,?_,Nat.zero_le _,?_⟩
  ·rw[List.append_nil];exact hit
  ·rw[List.append_nil];exact hla
  ·rw[List.append_nil,List.append_nil];exact .refl
 | T::ts,s::l,i,j,.cons (m:=m) h1 h2,σ,τ,k,d,r,hk,hit,hla,hdl,hd=>by
  have hd1:r.right[d]?=some s:=by rw[←List.head?_drop,hd];rfl
  have hd2:r.right.drop (d+1)=l:=by rw[←List.tail_drop,hd];rfl
  have hdlt:=(gS hd1).1;have haf:afterL g ⟨k,d⟩=some s:=by rw[afterL_right];show (rightL g k)[d]?=_;rw[rightL_rule hk];exact hd1
  have hrest:restL g ⟨k,d⟩=l:=by unfold restL;show (rightL g k).drop (d+1)=_;rw[rightL_rule hk];exact hd2
  obtain⟨b1,b2⟩:=TreesOf.begin h2;have hle:=(TreesOf.le h2).1;have hal:Allowed g la (topS σ) ⟨k,d⟩ (lookW g w m):=by
   unfold Allowed;rw[hrest];by_cases hm:m<j
   ·obtain⟨c,hc,h5⟩:=b2 hm;rw[lookW_at hc];exact .inl h5
   ·obtain rfl:m=j:=by omega
    exact .inr ⟨b1 rfl,hla⟩
  obtain⟨s',n1,e1,e2,e3⟩:=TreeOf.run ok on hw h1 hit ⟨_,hla⟩ haf hal;obtain⟨s2,f1,f2,f3⟩:=ok.step hit haf;rw[e1] at f1;obtain rfl:=Option.some.inj f1;obtain⟨σ',n2,g1,g2,g3,g4,g5⟩:=TreesOf.run ok on hw h2 (σ:=σ++[s']) (τ:=τ++[T]) (k:=k) (d:=d+1) (r:=r) hk (by rw[topS_snoc];exact f2) (by rw[topS_snoc];exact f3 _ hla) hdlt hd2;have e:∀x:List Nat,σ++[s']++x=σ++(s'::x):=fun x=>by simp
  have e':∀x:List Tree,τ++[T]++x=τ++(T::x):=fun x=>by simp
  rw[e] at g2 g3 g5;rw[e'] at g5;refine⟨s'::σ',n1+n2,by rw[List.length_cons,g1];rfl,g2,g3,?_,e3.trans g5⟩;show _≤(T.pre++preL ts).length;rw[List.length_append];omega
end
def confAt(g:Gram)(go:Nat→Sym→Option Nat)(act:Nat→Nat→Act)(M:Nat):List Nat→Option Conf
 | []=>some ([0],[])
 | t::v=>match confAt g go act M v with
  | none=>none
  | some c=>match act (topS (redN g go act t M c).1) t with
   | .shift s'=>some ((redN g go act t M c).1++[s'],(redN g go act t M c).2++[.mk (-1) t []])
   | _=>none
theorem redN_add(t:Nat):∀(n m:Nat) (c:Conf),redN g go act t (n+m) c=redN g go act t m (redN g go act t n c)
 | 0,m,c=>by rw[Nat.zero_add];rfl
 | n+1,m,c=>by rw[Nat.succ_add];exact redN_add t n m _
theorem redS_stay{t:Nat}{c:Conf}(h:∀k,act (topS c.1) t≠.red k):redS g go act t c=c:=by
 unfold redS;split
 ·rename_i k hk;exact absurd hk (h k)
 ·rfl
theorem redN_stay{t:Nat}{c:Conf}(h:∀k,act (topS c.1) t≠.red k):∀n,redN g go act t n c=c
 | 0=>rfl
 | n+1=>by show redN g go act t n (redS g go act t c)=c;rw[redS_stay h];exact redN_stay h n
theorem redN_end{t m M:Nat}{c d:Conf}(h:redN g go act t m c=d)(hm:m≤M)(h2:∀k,act (topS d.1) t≠.red k):redN g go act t M c=d:=by
 obtain⟨n,rfl⟩:=Nat.exists_eq_add_of_le hm;rw[redN_add,h,redN_stay h2]
theorem redN_last(t:Nat):∀(n:Nat) (c:Conf),redN g go act t (n+1) c=redS g go act t (redN g go act t n c):=fun n c=>by rw[redN_add];rfl
theorem rev_take_succ{w:List Nat}{i t:Nat}(h:w[i]?=some t):(w.take (i+1)).reverse=t::(w.take i).reverse:=by
 rw[List.take_add_one,h,List.reverse_append];rfl
theorem Run.conf{M n:Nat}{x:Conf×Nat}(h:Run g go act w (([0],[]),0) n x)(hM:n≤M):∃c0 m,confAt g go act M (w.take x.2).reverse=some c0∧m≤n∧redN g go act (lookW g w x.2) m c0=x.1:=by
 induction h with
 | refl=>exact⟨_,0,rfl,Nat.le_refl _,rfl⟩
 | red h1 h2 ih=>
  obtain⟨c0,m,e1,e2,e3⟩:=ih zo;exact⟨c0,m+1,e1,by omega,by rw[redN_last,e3]⟩
 | shift h1 h2 h3 ih=>
  obtain⟨c0,m,e1,e2,e3⟩:=ih hM;refine⟨_,0,?_,Nat.zero_le _,rfl⟩;dsimp only at e1 e2 e3 ⊢;rw[rev_take_succ h2];unfold confAt;rw[e1];dsimp only;rw[lookW_at h2] at e3;rw[redN_end e3 zo (fun k e=>by rw[h3] at e;cases e),h3]
theorem confAt_stk(ok:LRok g it la go)(on:Only g it la go act){M:Nat}:∀(i:Nat) {c:Conf},i≤w.length→confAt g go act M (w.take i).reverse=some c→LStk g go w c.1 c.2 i
 | 0,c,_,h=>by
  rw[List.take_zero] at h;cases h;exact .nil
 | i+1,c,hi,h=>by
  have ht:=gE (show i<w.length by omega);generalize w[i]=t at ht;rw[rev_take_succ ht] at h;unfold confAt at h;cases h0:confAt g go act M (w.take i).reverse with
  | none=>rw[h0] at h;cases h
  | some c0=>
   rw[h0] at h;dsimp only at h;have h1:=confAt_stk ok on i zo h0;have h2:=h1.redN ok on (t:=t) M;cases ha:act (topS (redN g go act t M c0).1) t with
   | shift s'=>
    rw[ha] at h;cases h;exact h2.shift ok on ha ht
   | no=>rw[ha] at h;cases h
   | red k=>rw[ha] at h;cases h
   | acc=>rw[ha] at h;cases h
theorem run_whole(ok:LRok g it la go)(on:Only g it la go act)(hw:∀t∈w,t<g.terms){T:Tree}(h:TreeOf g w ⟨false,g.start⟩ T 0 w.length):∃s' n,n≤T.pre.length∧Run g go act w (([0],[]),0) n (([0,s'],[T]),w.length)∧act s' g.terms=.acc:=by
 have ha:afterL g ⟨g.rules.length,0⟩=some ⟨false,g.start⟩:=by rw[afterL_right];show (rightL g g.rules.length)[0]?=_;rw[rightL_start];rfl
 have hr:restL g ⟨g.rules.length,0⟩=[]:=by unfold restL;show (rightL g g.rules.length).drop 1=_;rw[rightL_start];rfl
 have hend:lookW g w w.length=g.terms:=by unfold lookW;rw[List.getElem?_eq_none (Nat.le_refl _)];rfl
 obtain⟨s',n,e1,e2,e3⟩:=TreeOf.run ok on hw h (σ:=[0]) (τ:=[]) (x:=⟨g.rules.length,0⟩) ok.start ⟨_,ok.startL⟩ ha (by
  unfold Allowed;rw[hr,hend];exact .inr ⟨NulL.nil,ok.startL⟩)
 obtain⟨s2,f1,f2,f3⟩:=ok.step ok.start ha;rw[show topS [0]=0 from rfl,f1] at e1;obtain rfl:=Option.some.inj e1;exact⟨_,n,e2,e3,on.all (.acc f2 (f3 _ ok.startL))⟩
theorem lookW_end:lookW g w w.length=g.terms:=by unfold lookW;rw[List.getElem?_eq_none (Nat.le_refl _)];rfl
theorem parse_whole(ok:LRok g it la go)(on:Only g it la go act)(hw:∀t∈w,t<g.terms){T:Tree}(h:TreeOf g w ⟨false,g.start⟩ T 0 w.length){M:Nat}(hM:T.pre.length≤M) :
  ∃c,confAt g go act M w.reverse=some c∧(redN g go act g.terms M c).2=[T]∧act (topS (redN g go act g.terms M c).1) g.terms=.acc:=by
 obtain⟨s',n,e1,e2,e3⟩:=run_whole ok on hw h;obtain⟨c0,m,f1,f2,f3⟩:=e2.conf (M:=M) zo;dsimp only at f1 f3;rw[List.take_length] at f1;rw[lookW_end] at f3;have hs:topS [0,s']=s':=rfl;have:=redN_end (M:=M) f3 zo (fun k e=>by rw[show topS ([0,s'],[T]).1=s' from rfl,e3] at e;cases e);exact⟨c0,f1,by rw[this],by rw[this];exact e3⟩
theorem lr_one(ok:LRok g it la go)(on:Only g it la go act)(hw:∀t∈w,t<g.terms){T T':Tree}(h:TreeOf g w ⟨false,g.start⟩ T 0 w.length)(h':TreeOf g w ⟨false,g.start⟩ T' 0 w.length):T=T':=by
 obtain⟨c,e1,e2,_⟩:=parse_whole ok on hw h (M:=T.pre.length+T'.pre.length) zo;obtain⟨c',f1,f2,_⟩:=parse_whole ok on hw h' (M:=T.pre.length+T'.pre.length) zo;rw[e1] at f1;obtain rfl:=Option.some.inj f1;rw[e2] at f2;exact List.head_eq_of_cons_eq f2
end
theorem Strict.nodupL{l:List Lr}(h:Strict l):l.Nodup:=
 List.Pairwise.imp (fun {a b} hab e=>by subst e;rw[ltLr_iff] at hab;omega) h
theorem strict_uniq{l1 l2:List Lr}(h1:Strict l1)(h2:Strict l2)(h:∀z,z∈l1↔z∈l2):l1=l2:=
 List.Perm.eq_of_pairwise (le:=fun x y=>ltLr x y=true) (fun a b _ _ h1 h2=>by rw[ltLr_iff] at h1 h2;omega) h1 h2 ((List.perm_ext_iff_of_nodup h1.nodupL h2.nodupL).2 h)
def allLr(g:Gram):List Lr:=((List.range (g.rules.length+1)).map fun k=>(List.range ((rightL g k).length+1)).map fun d=>(⟨k,d⟩:Lr)).flatten
theorem mem_allLr{g:Gram}{z:Lr}:z∈allLr g↔z.rule≤g.rules.length∧z.dot≤(rightL g z.rule).length:=by
 unfold allLr;rw[List.mem_flatten];constructor
 ·rintro⟨l,hl,hz⟩;obtain⟨k,hk,rfl⟩:=List.mem_map.1 hl;obtain⟨d,hd,rfl⟩:=List.mem_map.1 hz;rw[List.mem_range] at hk hd;exact⟨by dsimp only;omega,by dsimp only;omega⟩
 ·rintro⟨h1,h2⟩;exact⟨_,List.mem_map.2 ⟨z.rule,List.mem_range.2 zo,rfl⟩,List.mem_map.2 ⟨z.dot,List.mem_range.2 zo,rfl⟩⟩
theorem pairwise_range{α:Type}{R:α→α→Prop}{f:Nat→α}:∀{n:Nat},(∀i j,i<j→j<n→R (f i) (f j))→((List.range n).map f).Pairwise R:=by
 intro n h;rw[List.pairwise_map];refine List.Pairwise.imp_of_mem ?_ (List.pairwise_lt_range);intro a b ha hb hab;exact h a b hab (List.mem_range.1 hb)
theorem allLr_strict(g:Gram):Strict (allLr g):=by
 unfold allLr Strict;rw[List.pairwise_flatten];refine⟨fun l hl=>?_,?_⟩
 ·obtain⟨k,_,rfl⟩:=List.mem_map.1 hl;exact pairwise_range fun i j h _=>ltLr_iff.2 (.inr ⟨rfl,h⟩)
 ·refine pairwise_range fun i j h _ x hx y hy=>?_;obtain⟨_,_,rfl⟩:=List.mem_map.1 hx;obtain⟨_,_,rfl⟩:=List.mem_map.1 hy;exact ltLr_iff.2 (.inl h)
noncomputable def closL(g:Gram)(l:List Lr):List Lr:=(allLr g).filter fun z=>@decide (Clos g l z) (Classical.propDecidable _)
theorem closL_strict(g:Gram)(l:List Lr):Strict (closL g l):=List.Pairwise.filter _ (allLr_strict g)
def OkLr(g:Gram)(x:Lr):Prop:=x.rule≤g.rules.length∧x.dot≤(rightL g x.rule).length
theorem Clos.okL{g:Gram}{l:List Lr}(hl:∀x∈l,OkLr g x){x:Lr}(h:Clos g l x):OkLr g x:=by
 induction h with
 | base h=>exact hl _ h
 | more _ _ h _ _=>exact⟨Nat.le_of_lt (gS h).1,Nat.zero_le _⟩
theorem mem_closL{g:Gram}{l:List Lr}(hl:∀x∈l,OkLr g x){z:Lr}:z∈closL g l↔Clos g l z:=by
 unfold closL;rw[List.mem_filter,mem_allLr];constructor
 ·rintro⟨_,h⟩;exact @of_decide_eq_true _ (Classical.propDecidable _) h
 ·intro h;exact⟨h.okL hl,@decide_eq_true _ (Classical.propDecidable _) h⟩
theorem closL_eq{g:Gram}{l zs:List Lr}(hl:∀x∈l,OkLr g x)(h1:Strict zs)(h2:∀z,z∈zs↔Clos g l z):zs=closL g l:=
 strict_uniq h1 (closL_strict g l) fun z=>by rw[h2,mem_closL hl]
section
variable {α:Type}[DecidableEq α]
def addOne(sts:List α):Option α→List α×Int
 | none=>(sts,-1)
 | some s=>if s∈sts then (sts,(sts.idxOf s:Nat)) else (sts++[s],(sts.length:Nat))
def addAll:List α→List (Option α)→List α×List Int
 | sts,[]=>(sts,[])
 | sts,o::os=>((addAll (addOne sts o).1 os).1,(addOne sts o).2::(addAll (addOne sts o).1 os).2)
def numF(most:Nat)(step:α→List (Option α)):Nat→Nat→List α→List (List Int)→Option (List α×List (List Int))
 | 0,_,_,_=>none
 | f+1,i,sts,rows=>match sts[i]? with
  | none=>some (sts,rows)
  | some st=>if (addAll sts (step st)).1.length≤most then numF most step f (i+1) (addAll sts (step st)).1 (rows++[(addAll sts (step st)).2]) else none
structure RowOf(sts:List α)(os:List (Option α))(row:List Int):Prop where
 len:row.length=os.length
 no:∀k:Nat,os[k]?=some none→row[k]?=some (-1)
 yes:∀(k:Nat) (s:α),os[k]?=some (some s)→∃j:Nat,row[k]?=some (j:Int)∧sts[j]?=some s
theorem addOne_ok(sts:List α)(o:Option α):(∃ex,(addOne sts o).1=sts++ex)∧(sts.Nodup→(addOne sts o).1.Nodup)∧(∀s∈(addOne sts o).1,s∈sts∨o=some s)∧
  (o=none→(addOne sts o).2=-1)∧(∀s,o=some s→∃j:Nat,(addOne sts o).2=(j:Int)∧(addOne sts o).1[j]?=some s):=by
 cases o with
 | none=>exact⟨⟨[],(List.append_nil _).symm⟩,fun h=>h,fun s h=>.inl h,fun _=>rfl,fun s h=>by cases h⟩
 | some s=>
  unfold addOne;by_cases h:s∈sts
  ·simp only[if_pos h];refine⟨⟨[],(List.append_nil _).symm⟩,fun h=>h,fun s h=>.inl h,fun h=>(by cases h),fun s' e=>?_⟩;cases e;exact⟨_,rfl,by rw[gE (List.idxOf_lt_length_of_mem h),List.getElem_idxOf]⟩
  ·simp only[if_neg h];refine⟨⟨[s],rfl⟩,fun hn=>?_,fun x hx=>?_,fun h=>(by cases h),fun s' e=>?_⟩
   ·rw[List.nodup_append];exact⟨hn,by simp,fun a ha b hb e=>h (by rw[List.mem_singleton] at hb;subst hb;subst e;exact ha)⟩
   ·rcases List.mem_append.1 hx with hx | hx
    ·exact .inl hx
    ·exact .inr (by rw[List.mem_singleton.1 hx])
   ·cases e;exact⟨_,rfl,by rw[List.getElem?_append_right (Nat.le_refl _),Nat.sub_self];rfl⟩
theorem addAll_ok:∀(os:List (Option α)) (sts:List α),(∃ex,(addAll sts os).1=sts++ex)∧(sts.Nodup→(addAll sts os).1.Nodup)∧(∀s∈(addAll sts os).1,s∈sts∨some s∈os)∧RowOf (addAll sts os).1 os (addAll sts os).2
 | [],sts=>⟨⟨[],(List.append_nil _).symm⟩,fun h=>h,fun s h=>.inl h,⟨rfl,fun k h=>by simp at h,fun k s h=>by simp at h⟩⟩
 | o::os,sts=>by
  obtain⟨⟨e1,h1⟩,h2,h3,h4,h5⟩:=addOne_ok sts o;obtain⟨⟨e2,g1⟩,g2,g3,g4⟩:=addAll_ok os (addOne sts o).1;have e:(addAll sts (o::os))=((addAll (addOne sts o).1 os).1,(addOne sts o).2::(addAll (addOne sts o).1 os).2):=rfl;rw[e];refine⟨⟨e1++e2,?_⟩,fun hn=>g2 (h2 hn),fun s hs=>?_,⟨?_,fun k hk=>?_,fun k s hk=>?_⟩⟩
  ·rw[g1,h1,List.append_assoc]
  ·rcases g3 s hs with hs | hs
   ·rcases h3 s hs with hs | hs
    ·exact .inl hs
    ·exact .inr (by rw[hs];exact List.mem_cons_self ..)
   ·exact .inr (List.mem_cons_of_mem _ hs)
  ·simp only[List.length_cons,g4.len]
  ·cases k with
   | zero=>simp only[List.getElem?_cons_zero] at hk ⊢;rw[h4 (Option.some.inj hk)]
   | succ k=>simp only[List.getElem?_cons_succ] at hk ⊢;exact g4.no k hk
  ·cases k with
   | zero=>
    simp only[List.getElem?_cons_zero] at hk ⊢;obtain⟨j,h6,h7⟩:=h5 s (Option.some.inj hk);refine⟨j,by rw[h6],?_⟩;show (addAll (addOne sts o).1 os).1[j]?=some s;rw[g1,List.getElem?_append_left (gS h7).1];exact h7
   | succ k=>simp only[List.getElem?_cons_succ] at hk ⊢;exact g4.yes k s hk
omit [DecidableEq α] in
theorem RowOf.more{sts ex:List α}{os:List (Option α)}{row:List Int}(h:RowOf sts os row):RowOf (sts++ex) os row:=
 ⟨h.len,h.no,fun k s hk=>let ⟨j,h1,h2⟩:=h.yes k s hk;⟨j,h1,by rw[List.getElem?_append_left (gS h2).1];exact h2⟩⟩
structure NumI(most:Nat)(step:α→List (Option α))(first:α)(i:Nat)(sts:List α)(rows:List (List Int)):Prop where
 first:sts[0]?=some first
 nodup:sts.Nodup
 few:sts.length≤most
 len:rows.length=i
 le:i≤sts.length
 row:∀(k:Nat) (st:α) (row:List Int),sts[k]?=some st→rows[k]?=some row→RowOf sts (step st) row
 from_:∀(j:Nat) (st:α),0<j→sts[j]?=some st→∃(k:Nat) (sk:α),k<j∧k<i∧sts[k]?=some sk∧some st∈step sk
theorem NumI.next{most:Nat}{step:α→List (Option α)}{first:α}{i:Nat}{sts:List α}{rows:List (List Int)}(h:NumI most step first i sts rows){st:α}(hst:sts[i]?=some st)(hm:(addAll sts (step st)).1.length≤most) :
  NumI most step first (i+1) (addAll sts (step st)).1 (rows++[(addAll sts (step st)).2]):=by
 obtain⟨⟨ex,h1⟩,h2,h3,h4⟩:=addAll_ok (step st) sts;have hi:=(gS hst).1;have hleft:∀k,k<sts.length→(addAll sts (step st)).1[k]?=sts[k]?:=fun k hk=>by rw[h1,List.getElem?_append_left hk]
 refine⟨by rw[hleft 0 zo];exact h.first,h2 h.nodup,hm,by rw[List.length_append,h.len];rfl,by rw[h1,List.length_append];omega,fun k sk row hk hr=>?_,fun j sj hj hsj=>?_⟩
 ·by_cases e:k<i
  ·rw[hleft k zo] at hk;rw[List.getElem?_append_left (by rw[h.len];exact e)] at hr;have:=h.row k sk row hk hr;rw[h1];exact this.more
  ·have hk2:k=i:=by
    have:=(gS hr).1;rw[List.length_append,h.len,List.length_singleton] at this;omega
   subst hk2;rw[hleft k hi,hst] at hk;obtain rfl:=Option.some.inj hk;rw[List.getElem?_append_right (by rw[h.len];exact Nat.le_refl _),h.len,Nat.sub_self] at hr;obtain rfl:=Option.some.inj hr;exact h4
 ·by_cases e:j<sts.length
  ·rw[hleft j e] at hsj;obtain⟨k,sk,g1,g2,g3,g4⟩:=h.from_ j sj hj hsj;exact⟨k,sk,g1,by omega,by rw[hleft k zo];exact g3,g4⟩
  ·refine⟨i,st,by omega,by omega,by rw[hleft i hi];exact hst,?_⟩;rcases h3 sj (gM hsj) with h5 | h5
   ·exfalso;obtain⟨k,hk,hk2⟩:=List.getElem_of_mem h5;have hnd:=h2 h.nodup;have e1:(addAll sts (step st)).1[k]?=some sj:=by rw[hleft k hk,gE hk,hk2]
    have e2:=(gS hsj).1;have:=(List.getElem?_inj (by rw[h1,List.length_append];omega) hnd).1 (e1.trans hsj.symm);omega
   ·exact h5
omit [DecidableEq α] in
theorem NumI.begin{most:Nat}(step:α→List (Option α))(first:α)(hm:1≤most):NumI most step first 0 [first] []:=
 ⟨rfl,by simp,hm,rfl,Nat.zero_le _,fun k st row _ h=>by simp at h,fun j st hj h=>by
  have:=(gS h).1;rw[List.length_singleton] at this;omega⟩
theorem numF_ok{most:Nat}{step:α→List (Option α)}{first:α}:∀(f i:Nat) {sts:List α} {rows:List (List Int)},NumI most step first i sts rows→∀{sts' rows'},numF most step f i sts rows=some (sts',rows')→NumI most step first sts'.length sts' rows'
 | 0,_,_,_,_,_,_,h=>by cases h
 | f+1,i,sts,rows,hI,sts',rows',h=>by
  unfold numF at h;split at h
  ·rename_i hn;cases h;have:=List.getElem?_eq_none_iff.1 hn;have hle:=hI.le;have e:i=sts.length:=by omega
   rw[←e];exact hI
  ·rename_i st hst;split at h
   ·rename_i hm;exact numF_ok f (i+1) (hI.next hst hm) h
   ·cases h
end
theorem NumI.all{α:Type}{most:Nat}{step:α→List (Option α)}{first:α}{i:Nat}{sts:List α}{rows:List (List Int)}(h:NumI most step first i sts rows){P:α→Prop}(h0:P first)(hs:∀st s,P st→some s∈step st→P s):∀(j:Nat) (st:α),sts[j]?=some st→P st:=by
 intro j
 induction j using Nat.strongRecOn with
 | _ j ih=>
  intro st hst;by_cases e:j=0
  ·subst e;rw[h.first] at hst
   obtain rfl:=Option.some.inj hst;exact h0
  ·obtain⟨k,sk,h1,_,h3,h4⟩:=h.from_ j st zo hst;exact hs sk st (ih k h1 sk h3) h4
def kern(g:Gram)(st:List Lr)(y:Sym):List Lr:=st.filterMap fun x=>if afterL g x=some y then some ⟨x.rule,x.dot+1⟩ else none
theorem mem_kern{g:Gram}{st:List Lr}{y:Sym}{z:Lr}:z∈kern g st y↔∃x∈st,afterL g x=some y∧z=⟨x.rule,x.dot+1⟩:=by
 unfold kern;rw[List.mem_filterMap];constructor
 ·rintro⟨x,hx,h⟩;split at h
  ·rename_i ha;exact⟨x,hx,ha,(Option.some.inj h).symm⟩
  ·cases h
 ·rintro⟨x,hx,ha,rfl⟩;exact⟨x,hx,by rw[if_pos ha]⟩
def symsL(g:Gram):List Sym:=((List.range g.terms).map fun t=>(⟨true,t⟩:Sym))++(List.range g.nons).map fun n=>(⟨false,n⟩:Sym)
def idxS(g:Gram)(y:Sym):Nat:=if y.term=true then y.n else y.n+g.terms
def symB(g:Gram)(y:Sym):Bool:=if y.term=true then decide (y.n<g.terms) else decide (y.n<g.nons)
theorem symB_iff{g:Gram}{y:Sym}:symB g y=true↔SymOk g.terms g.nons y:=by
 unfold symB SymOk;split<;>simp
theorem symsL_len(g:Gram):(symsL g).length=g.terms+g.nons:=by unfold symsL;simp
theorem symsL_at{g:Gram}{y:Sym}(h:SymOk g.terms g.nons y):(symsL g)[idxS g y]?=some y:=by
 obtain⟨b,n⟩:=y;unfold symsL idxS;unfold SymOk at h;cases b with
 | true=>
  have h:n<g.terms:=h;rw[if_pos rfl,List.getElem?_append_left (by simpa using h)];simp[h]
 | false=>
  have h:n<g.nons:=h;rw[if_neg (by simp),List.getElem?_append_right (by simp)];simp[h]
theorem symsL_ok{g:Gram}{k:Nat}{y:Sym}(h:(symsL g)[k]?=some y):SymOk g.terms g.nons y∧idxS g y=k:=by
 unfold symsL at h;by_cases hk:k<g.terms
 ·rw[List.getElem?_append_left (by simpa using hk)] at h;simp[hk] at h;subst h;exact⟨hk,rfl⟩
 ·rw[List.getElem?_append_right (by simp;omega)] at h;rw[List.length_map,List.length_range,List.getElem?_map] at h;cases he:(List.range g.nons)[k-g.terms]? with
  | none=>rw[he] at h;cases h
  | some n=>
   rw[he] at h;obtain rfl:=Option.some.inj h;have h1:=gS he;obtain⟨h1,h2⟩:=h1;rw[List.getElem_range] at h2;rw[List.length_range] at h1;refine⟨show n<g.nons by omega,?_⟩;show n+g.terms=k;omega
theorem afterL_sym{g:Gram}(hg:Valid g){x:Lr}{y:Sym}(h:afterL g x=some y):SymOk g.terms g.nons y:=by
 rw[afterL_right] at h;unfold rightL at h;split at h
 ·have:=gM h;rw[List.mem_singleton.1 this];exact hg.range.start
 ·cases hr:g.rules[x.rule]? with
  | none=>rw[hr] at h;simp at h
  | some r=>
   rw[hr] at h;exact(hg.right r (gM hr)).2.2 y (gM h)
theorem Clos.zero{g:Gram}{l:List Lr}{z:Lr}(h:Clos g l z):z∈l∨(z.dot=0∧z.rule<g.rules.length):=by
 cases h with
 | base h=>exact .inl h
 | more _ _ h _=>exact .inr ⟨rfl,(gS h).1⟩
structure AutoC(g:Gram)(I:List (List Lr))(rows:List (List Int)):Prop where
 len:rows.length=I.length
 ok:∀(s:Nat) (st:List Lr),I[s]?=some st→∀x∈st,OkLr g x
 zero:∃st,I[0]?=some st∧∀z,z∈st↔Clos g [⟨g.rules.length,0⟩] z
 from_:∀(s:Nat) (st:List Lr),0<s→I[s]?=some st→∃l:List Lr,(∀x∈l,0<x.dot)∧l≠[]∧∀z,z∈st↔Clos g l z
 row:∀(s:Nat) (st:List Lr) (row:List Int),I[s]?=some st→rows[s]?=some row→row.length=g.terms+g.nons
 no:∀(s k:Nat) (st:List Lr) (row:List Int) (y:Sym),I[s]?=some st→rows[s]?=some row→(symsL g)[k]?=some y→kern g st y=[]→row[k]?=some (-1)
 yes:∀(s k:Nat) (st:List Lr) (row:List Int) (y:Sym),I[s]?=some st→rows[s]?=some row→(symsL g)[k]?=some y→kern g st y≠[]→∃(j:Nat) (st':List Lr),row[k]?=some (j:Int)∧I[j]?=some st'∧∀z,z∈st'↔Clos g (kern g st y) z
def itI(I:List (List Lr))(s:Nat)(x:Lr):Prop:=∃st,I[s]?=some st∧x∈st
def goR(g:Gram)(rows:List (List Int))(s:Nat)(y:Sym):Option Nat:=if symB g y=true then (match rows[s]? with
 | some row=>(match row[idxS g y]? with
  | some j=>if 0≤j then some j.toNat else none
  | none=>none)
 | none=>none) else none
section
variable {g:Gram}{I:List (List Lr)}{rows:List (List Int)}
theorem AutoC.rowAt(h:AutoC g I rows){s:Nat}{st:List Lr}(hs:I[s]?=some st):∃row,rows[s]?=some row:=⟨_,gE (by rw[h.len];exact(gS hs).1)⟩
theorem AutoC.go(hg:Valid g)(h:AutoC g I rows){s:Nat}{st:List Lr}(hs:I[s]?=some st){y:Sym}(hy:SymOk g.terms g.nons y) :
  (kern g st y=[]→goR g rows s y=none)∧(kern g st y≠[]→∃j st',goR g rows s y=some j∧I[j]?=some st'∧∀z,z∈st'↔Clos g (kern g st y) z):=by
 obtain⟨row,hr⟩:=h.rowAt hs;have hk:=symsL_at hy;unfold goR;rw[if_pos (symB_iff.2 hy),hr];dsimp only;refine⟨fun e=>?_,fun e=>?_⟩
 ·rw[h.no s _ st row y hs hr hk e];rfl
 ·obtain⟨j,st',h1,h2,h3⟩:=h.yes s _ st row y hs hr hk e;rw[h1];exact⟨j,st',by simp,h2,h3⟩
theorem AutoC.goes(hg:Valid g)(h:AutoC g I rows){s s':Nat}{y:Sym}(hgo:goR g rows s y=some s'):∃st st',I[s]?=some st∧I[s']?=some st'∧kern g st y≠[]∧∀z,z∈st'↔Clos g (kern g st y) z:=by
 have hy:SymOk g.terms g.nons y:=by
  unfold goR at hgo;split at hgo
  ·rename_i hb;exact symB_iff.1 hb
  ·cases hgo
 obtain⟨st,hs⟩:∃st,I[s]?=some st:=by
  unfold goR at hgo;rw[if_pos (symB_iff.2 hy)] at hgo;split at hgo
  ·rename_i row hr;exact⟨_,gE (by rw[←h.len];exact(gS hr).1)⟩
  ·cases hgo
 obtain⟨h1,h2⟩:=h.go hg hs hy;by_cases e:kern g st y=[]
 ·rw[h1 e] at hgo;cases hgo
 ·obtain⟨j,st',h3,h4,h5⟩:=h2 e;rw[hgo] at h3;obtain rfl:=Option.some.inj h3;exact⟨st,st',hs,h4,e,h5⟩
theorem AutoC.lr(hg:Valid g)(h:AutoC g I rows){la:Nat→Lr→Nat→Prop}(h0:la 0 ⟨g.rules.length,0⟩ g.terms)
  (hc:∀{s:Nat} {x:Lr} {k:Nat} {r:Rule} {t u:Nat},itI I s x→la s x u→afterL g x=some ⟨false,r.left⟩→g.rules[k]?=some r→(BegL g (restL g x) t∨(NulL g (restL g x)∧la s x t))→la s ⟨k,0⟩ t)
  (hs:∀{s s':Nat} {x:Lr} {y:Sym},itI I s x→afterL g x=some y→goR g rows s y=some s'→∀t,la s x t→la s' ⟨x.rule,x.dot+1⟩ t):LRok g (itI I) la (goR g rows):=by
 obtain⟨st0,hst0,hz⟩:=h.zero;have hall:∀{s:Nat} {st:List Lr},I[s]?=some st→∃l:List Lr,(∀z,z∈st↔Clos g l z)∧((s=0∧l=[⟨g.rules.length,0⟩])∨∀x∈l,0<x.dot):=fun {s st} hst=>by
  rcases Nat.eq_zero_or_pos s with rfl | hp
  ·rw[hst0] at hst;obtain rfl:=Option.some.inj hst;exact⟨_,hz,.inl ⟨rfl,rfl⟩⟩
  ·obtain⟨l,h1,_,h3⟩:=h.from_ s st hp hst;exact⟨l,h3,.inr h1⟩
 exact {
  start:=⟨st0,hst0,(hz _).2 (.base me)⟩
  startL:=h0
  clos:=fun {s x k r} ⟨st,hst,hx⟩ ha hr=>by
   obtain⟨l,hl,_⟩:=hall hst;exact⟨st,hst,(hl _).2 (.more ((hl _).1 hx) ha hr rfl)⟩
  closL:=hc
  step:=fun {s x y} hit ha=>by
   obtain⟨st,hst,hx⟩:=id hit;have hm:(⟨x.rule,x.dot+1⟩:Lr)∈kern g st y:=mem_kern.2 ⟨x,hx,ha,rfl⟩;obtain⟨j,st',h1,h2,h3⟩:=(h.go hg hst (afterL_sym hg ha)).2 (fun e=>by rw[e] at hm;cases hm);exact⟨j,h1,⟨st',h2,(h3 _).2 (.base hm)⟩,hs hit ha h1⟩
  back:=fun {s s' y k d} hgo ⟨st2,hst2,hx⟩=>by
   obtain⟨st,st',h1,h2,_,h4⟩:=h.goes hg hgo;rw[h2] at hst2;obtain rfl:=Option.some.inj hst2;rcases ((h4 _).1 hx).zero with h5 | ⟨h5,_⟩
   ·obtain⟨z,hz1,hz2,hz3⟩:=mem_kern.1 h5;obtain⟨Z,zd⟩:=z;simp only[Lr.mk.injEq,Nat.add_right_cancel_iff] at hz3;obtain⟨rfl,rfl⟩:=hz3;exact⟨⟨st,h1,hz1⟩,hz2⟩
   ·exact absurd h5 (Nat.succ_ne_zero d)
  fill:=fun {s k r} ⟨st,hst,hx⟩ hr=>by
   obtain⟨l,hl,hl2⟩:=hall hst;have hk:=(gS hr).1;have hc:=(hl _).1 hx;cases hc with
   | base hb=>
    rcases hl2 with ⟨_,rfl⟩ | hl2
    ·have e:=List.mem_singleton.1 hb;simp only[Lr.mk.injEq,and_true] at e;omega
    ·exact absurd (hl2 _ hb) (Nat.lt_irrefl 0)
   | more h1 h2 h3 h4=>
    rw[hr] at h3;obtain rfl:=Option.some.inj h3;subst h4;have hm:=mem_kern.2 ⟨_,(hl _).2 h1,h2,rfl⟩;obtain⟨j,st',g1,_,_⟩:=(h.go hg hst (afterL_sym hg h2)).2 (fun e=>by rw[e] at hm;cases hm);exact⟨j,g1⟩
  first:=fun {s} ⟨st,hst,hx⟩=>by
   obtain⟨l,hl,hl2⟩:=hall hst;rcases hl2 with ⟨h1,_⟩ | hl2
   ·exact h1
   ·rcases ((hl _).1 hx).zero with h3 | ⟨_,h3⟩
    ·exact absurd (hl2 _ h3) (Nat.lt_irrefl 0)
    ·exact absurd h3 (Nat.lt_irrefl _)
  zero:=fun {s y} hgo=>by
   obtain⟨st,st',h1,h2,h3,h4⟩:=h.goes hg hgo;rw[hst0] at h2;obtain rfl:=Option.some.inj h2;obtain⟨z,hzk⟩:=List.exists_mem_of_ne_nil _ h3;have hd:0<z.dot:=by obtain⟨x,_,_,rfl⟩:=mem_kern.1 hzk;exact Nat.succ_pos _
   rcases ((hz z).1 ((h4 z).2 (.base hzk))).zero with h5 | ⟨h5,_⟩
   ·rw[List.mem_singleton.1 h5] at hd;exact absurd hd (Nat.lt_irrefl 0)
   ·omega
  dots:=fun {x} ⟨st,hst,hx⟩=>by
   rw[hst0] at hst;obtain rfl:=Option.some.inj hst;rcases ((hz x).1 hx).zero with h5 | ⟨h5,_⟩
   ·rw[List.mem_singleton.1 h5]
   ·exact h5 }
end
noncomputable def maskOf(P:Nat→Prop):Nat→Nat
 | 0=>0
 | n+1=>maskOf P n+(if @decide (P n) (Classical.propDecidable _)=true then 2 ^ n else 0)
theorem maskOf_lt(P:Nat→Prop):∀n,maskOf P n<2 ^ n
 | 0=>Nat.one_pos
 | n+1=>by
  have:=maskOf_lt P n;unfold maskOf;rw[Nat.pow_succ];split<;>omega
theorem maskOf_bit(P:Nat→Prop):∀(n t:Nat),(maskOf P n).testBit t=true↔t<n∧P t
 | 0,t=>by unfold maskOf;simp
 | n+1,t=>by
  have h1:=maskOf_lt P n;have h2:=maskOf_bit P n t;unfold maskOf;by_cases e:t=n
  ·subst e;have h3:(maskOf P t).testBit t=false:=Nat.testBit_lt_two_pow h1;split
   ·rename_i h;rw[Nat.add_comm,Nat.testBit_two_pow_add_eq,h3];simp only[Bool.not_false,true_iff];exact⟨Nat.lt_succ_self _,@of_decide_eq_true _ (Classical.propDecidable _) h⟩
   ·rename_i h;rw[Nat.add_zero,h3];simp only[Bool.false_eq_true,false_iff,not_and];exact fun _ hp=>h (@decide_eq_true _ (Classical.propDecidable _) hp)
  ·have h4:(t<n+1∧P t)↔(t<n∧P t):=⟨fun ⟨a,b⟩=>⟨by omega,b⟩,fun ⟨a,b⟩=>⟨by omega,b⟩⟩;rw[h4,←h2];split
   ·by_cases e2:t<n
    ·rw[Nat.add_comm,Nat.testBit_two_pow_add_gt zo]
    ·have e3:n<t:=by omega
     have a1:(maskOf P n).testBit t=false:=Nat.testBit_lt_two_pow (Nat.lt_trans h1 (Nat.pow_lt_pow_right (by decide) e3));have a2:(maskOf P n+2 ^ n).testBit t=false:=Nat.testBit_lt_two_pow (by
      have:2 ^ (n+1)≤2 ^ t:=Nat.pow_le_pow_right (by decide) e3;rw[Nat.pow_succ] at this;omega)
     rw[a1,a2]
   ·rw[Nat.add_zero]
theorem mask_uniq{P:Nat→Prop}{n m:Nat}(h1:m<2 ^ n)(h2:∀t,m.testBit t=true↔t<n∧P t):m=maskOf P n:=by
 apply Nat.eq_of_testBit_eq;intro t;have:=maskOf_bit P n t;rw[←h2] at this;cases hm:m.testBit t<;>cases hk:(maskOf P n).testBit t<;>simp[hm,hk] at this ⊢
structure Look where
 item:Lr
 set:Nat
deriving DecidableEq,Inhabited
def itemsK(l:List Look):List Lr:=l.map (·.item)
inductive LAc(g:Gram)(l:List Look):Lr→Nat→Prop
 | base {z:Lr} {m t:Nat}:⟨z,m⟩∈l→m.testBit t=true→t≤g.terms→LAc g l z t
 | beg {x:Lr} {k t:Nat} {r:Rule}:Clos g (itemsK l) x→afterL g x=some ⟨false,r.left⟩→g.rules[k]?=some r→BegL g (restL g x) t→LAc g l ⟨k,0⟩ t
 | pass {x:Lr} {k t:Nat} {r:Rule}:Clos g (itemsK l) x→afterL g x=some ⟨false,r.left⟩→g.rules[k]?=some r→NulL g (restL g x)→LAc g l x t→LAc g l ⟨k,0⟩ t
noncomputable def closeK(g:Gram)(l:List Look):List Look:=(closL g (itemsK l)).map fun z=>⟨z,maskOf (LAc g l z) (g.terms+1)⟩
theorem closeK_items(g:Gram)(l:List Look):itemsK (closeK g l)=closL g (itemsK l):=by
 unfold itemsK closeK;rw[List.map_map];have:(fun x:Look=>x.item) ∘ (fun z=>(⟨z,maskOf (LAc g l z) (g.terms+1)⟩:Look))=id:=rfl;rw[this,List.map_id];rfl
theorem mem_closeK{g:Gram}{l:List Look}(hl:∀x∈itemsK l,OkLr g x){z:Lr}{m:Nat}:⟨z,m⟩∈closeK g l↔Clos g (itemsK l) z∧m=maskOf (LAc g l z) (g.terms+1):=by
 unfold closeK;rw[List.mem_map];constructor
 ·rintro⟨x,hx,e⟩;rw[mem_closL hl] at hx;simp only[Look.mk.injEq] at e;obtain⟨rfl,rfl⟩:=e;exact⟨hx,rfl⟩
 ·rintro⟨hz,rfl⟩;exact⟨z,(mem_closL hl).2 hz,rfl⟩
theorem Beg.lt{g:Gram}(hg:Valid g){n t:Nat}(h:Beg g n t):t<g.terms:=by
 induction h with
 | term hr e _=>
  have:=(hg.right _ hr).2.2 ⟨true,_⟩ (by rw[e];exact List.mem_append_right _ me);exact this
 | non _ _ _ _ ih=>exact ih
theorem BegL.lt{g:Gram}(hg:Valid g){l:List Sym}(hl:∀s∈l,SymOk g.terms g.nons s){t:Nat}(h:BegL g l t):t<g.terms:=by
 obtain⟨pre,s,post,rfl,_,h3⟩:=h;rcases h3 with rfl | ⟨_,h4⟩
 ·exact hl _ (List.mem_append_right _ me)
 ·exact h4.lt hg
theorem rightL_ok{g:Gram}(hg:Valid g)(k:Nat):∀s∈rightL g k,SymOk g.terms g.nons s:=by
 unfold rightL;split
 ·intro s hs;rw[List.mem_singleton.1 hs];exact hg.range.start
 ·cases h:g.rules[k]? with
  | none=>intro s hs;cases hs
  | some r=>exact(hg.right r (gM h)).2.2
theorem rest_lt{g:Gram}(hg:Valid g){x:Lr}{t:Nat}(h:BegL g (restL g x) t):t<g.terms:=
 h.lt hg fun s hs=>rightL_ok hg _ s (List.mem_of_mem_drop hs)
theorem LAc.le{g:Gram}(hg:Valid g){l:List Look}{z:Lr}{t:Nat}(h:LAc g l z t):t≤g.terms:=by
 induction h with
 | base _ _ h=>exact h
 | beg _ _ _ h=>exact Nat.le_of_lt (rest_lt hg h)
 | pass _ _ _ _ _ ih=>exact ih
theorem LAc.clos{g:Gram}{l:List Look}{z:Lr}{t:Nat}(h:LAc g l z t):Clos g (itemsK l) z:=by
 cases h with
 | base h _ _=>exact .base (List.mem_map.2 ⟨_,h,rfl⟩)
 | beg h1 h2 h3 _=>exact .more h1 h2 h3 rfl
 | pass h1 h2 h3 _ _=>exact .more h1 h2 h3 rfl
theorem look_closeK{g:Gram}(hg:Valid g){l:List Look}(hl:∀x∈itemsK l,OkLr g x){z:Lr}{t:Nat}:(∃m,⟨z,m⟩∈closeK g l∧m.testBit t=true)↔LAc g l z t:=by
 constructor
 ·rintro⟨m,hm,ht⟩;obtain⟨_,rfl⟩:=(mem_closeK hl).1 hm;exact((maskOf_bit _ _ _).1 ht).2
 ·intro h;exact⟨_,(mem_closeK hl).2 ⟨h.clos,rfl⟩,(maskOf_bit _ _ _).2 ⟨Nat.lt_succ_of_le (h.le hg),h⟩⟩
noncomputable def stepI(g:Gram)(st:List Lr):List (Option (List Lr)):=(symsL g).map fun y=>if kern g st y=[] then none else some (closL g (kern g st y))
def kernK(g:Gram)(st:List Look)(y:Sym):List Look:=st.filterMap fun x=>if afterL g x.item=some y then some ⟨⟨x.item.rule,x.item.dot+1⟩,x.set⟩ else none
noncomputable def stepK(g:Gram)(st:List Look):List (Option (List Look)):=(symsL g).map fun y=>if kernK g st y=[] then none else some (closeK g (kernK g st y))
noncomputable def firstI(g:Gram):List Lr:=closL g [⟨g.rules.length,0⟩]
noncomputable def firstK(g:Gram):List Look:=closeK g [⟨⟨g.rules.length,0⟩,2 ^ g.terms⟩]
noncomputable def autoI(g:Gram):Option (List (List Lr)×List (List Int)):=numF 400 (stepI g) 401 0 [firstI g] []
noncomputable def autoK(g:Gram):Option (List (List Look)×List (List Int)):=numF 400 (stepK g) 401 0 [firstK g] []
theorem kernK_items(g:Gram)(st:List Look)(y:Sym):itemsK (kernK g st y)=kern g (itemsK st) y:=by
 unfold itemsK kernK kern
 induction st with
 | nil=>rfl
 | cons a st ih=>
  rw[List.map_cons,List.filterMap_cons,List.filterMap_cons];by_cases h:afterL g a.item=some y
  ·rw[if_pos h,if_pos h];simp only[List.map_cons,ih]
  ·rw[if_neg h,if_neg h];exact ih
theorem mem_kernK{g:Gram}{st:List Look}{y:Sym}{z:Lr}{m:Nat}:⟨z,m⟩∈kernK g st y↔∃x,⟨x,m⟩∈st∧afterL g x=some y∧z=⟨x.rule,x.dot+1⟩:=by
 unfold kernK;rw[List.mem_filterMap];constructor
 ·rintro⟨⟨x,n⟩,hx,h⟩;split at h
  ·rename_i ha;have:=Option.some.inj h;simp only[Look.mk.injEq] at this;obtain⟨rfl,rfl⟩:=this;exact⟨x,hx,ha,rfl⟩
  ·cases h
 ·rintro⟨x,hx,ha,rfl⟩;exact⟨⟨x,m⟩,hx,by rw[if_pos ha]⟩
theorem kern_ok{g:Gram}{st:List Lr}{y:Sym}:∀z∈kern g st y,OkLr g z∧0<z.dot:=by
 intro z hz;obtain⟨x,_,ha,rfl⟩:=mem_kern.1 hz;rw[afterL_right] at ha;have h2:=(gS ha).1;refine⟨⟨?_,h2⟩,Nat.succ_pos _⟩;show x.rule≤_;rcases Nat.lt_or_ge g.rules.length x.rule with h | h
 ·unfold rightL at h2;rw[if_neg zo,List.getElem?_eq_none zo] at h2;simp at h2
 ·exact h
theorem start_ok{g:Gram}:∀z∈[(⟨g.rules.length,0⟩:Lr)],OkLr g z:=by
 intro z hz;rw[List.mem_singleton.1 hz];exact⟨Nat.le_refl _,Nat.zero_le _⟩
theorem map_at{α β:Type}{f:α→β}{l:List α}{k:Nat}{a:α}(h:l[k]?=some a):(l.map f)[k]?=some (f a):=by rw[List.getElem?_map,h];rfl
theorem closL_ok{g:Gram}{l:List Lr}:∀x∈closL g l,OkLr g x:=fun x hx=>mem_allLr.1 (List.mem_filter.1 hx).1
theorem autoI_ok{g:Gram}{I:List (List Lr)}{rows:List (List Int)}(h:autoI g=some (I,rows)):AutoC g I rows∧NumI 400 (stepI g) (firstI g) I.length I rows:=by
 have hN:=numF_ok 401 0 (NumI.begin (stepI g) (firstI g) (by decide)) h;refine⟨?_,hN⟩;have hstep:∀(st:List Lr) (k:Nat) (y:Sym),(symsL g)[k]?=some y→(stepI g st)[k]?=some (if kern g st y=[] then none else some (closL g (kern g st y))):=fun st k y hk=>map_at hk;exact {
  len:=hN.len
  ok:=hN.all (P:=fun st=>∀x∈st,OkLr g x) closL_ok (fun st s _ hs=>by
   obtain⟨y,_,hy⟩:=List.mem_map.1 hs;split at hy
   ·cases hy
   ·obtain rfl:=Option.some.inj hy;exact closL_ok)
  zero:=⟨_,hN.first,fun z=>mem_closL start_ok⟩
  from_:=fun s st hp hs=>by
   obtain⟨k,sk,_,_,h3,h4⟩:=hN.from_ s st hp hs;obtain⟨y,_,hy⟩:=List.mem_map.1 h4;split at hy
   ·cases hy
   ·rename_i hne;obtain rfl:=Option.some.inj hy;exact⟨_,fun x hx=>(kern_ok x hx).2,hne,fun z=>mem_closL fun x hx=>(kern_ok x hx).1⟩
  row:=fun s st row hs hr=>by
   rw[(hN.row s st row hs hr).len];unfold stepI;rw[List.length_map,symsL_len]
  no:=fun s k st row y hs hr hk he=>(hN.row s st row hs hr).no k (by rw[hstep st k y hk,if_pos he])
  yes:=fun s k st row y hs hr hk he=>by
   obtain⟨j,h1,h2⟩:=(hN.row s st row hs hr).yes k _ (by rw[hstep st k y hk,if_neg he]);exact⟨j,_,h1,h2,fun z=>mem_closL fun x hx=>(kern_ok x hx).1⟩ }
theorem kernK_nil{g:Gram}{st:List Look}{y:Sym}:kernK g st y=[]↔kern g (itemsK st) y=[]:=by
 rw[←kernK_items];unfold itemsK;exact List.map_eq_nil_iff.symm
theorem autoK_ok{g:Gram}{S:List (List Look)}{rows:List (List Int)}(h:autoK g=some (S,rows)):AutoC g (S.map itemsK) rows∧NumI 400 (stepK g) (firstK g) S.length S rows:=by
 have hN:=numF_ok 401 0 (NumI.begin (stepK g) (firstK g) (by decide)) h;refine⟨?_,hN⟩;have hstep:∀(st:List Look) (k:Nat) (y:Sym),(symsL g)[k]?=some y→(stepK g st)[k]?=some (if kernK g st y=[] then none else some (closeK g (kernK g st y))):=fun st k y hk=>map_at hk;have hat:∀{s:Nat} {st:List Lr},(S.map itemsK)[s]?=some st→∃sk,S[s]?=some sk∧st=itemsK sk:=fun {s st} hs=>by
  rw[List.getElem?_map] at hs;cases hk:S[s]? with
  | none=>rw[hk] at hs;cases hs
  | some sk=>rw[hk] at hs;exact⟨sk,rfl,(Option.some.inj hs).symm⟩
 have hmem:∀(st:List Look) (y:Sym) (z:Lr),z∈itemsK (closeK g (kernK g st y))↔Clos g (kern g (itemsK st) y) z:=fun st y z=>by
  rw[closeK_items,kernK_items,mem_closL fun x hx=>(kern_ok x hx).1]
 exact {
  len:=by rw[List.length_map];exact hN.len
  ok:=fun s st hs=>by
   obtain⟨sk0,hs0,rfl⟩:=hat hs;refine hN.all (P:=fun st=>∀x∈itemsK st,OkLr g x) (fun x hx=>?_) (fun st s _ hs=>?_) s sk0 hs0
   ·unfold firstK at hx;rw[closeK_items] at hx;exact closL_ok x hx
   ·obtain⟨y,_,hy⟩:=List.mem_map.1 hs;split at hy
    ·cases hy
    ·obtain rfl:=Option.some.inj hy;intro x hx;rw[closeK_items] at hx;exact closL_ok x hx
  zero:=⟨_,map_at hN.first,fun z=>by
   show z∈itemsK (closeK g _)↔_;rw[closeK_items];exact mem_closL start_ok⟩
  from_:=fun s st hp hs=>by
   obtain⟨sk0,hs0,rfl⟩:=hat hs;obtain⟨k,sk,_,_,h3,h4⟩:=hN.from_ s sk0 hp hs0;obtain⟨y,_,hy⟩:=List.mem_map.1 h4;split at hy
   ·cases hy
   ·rename_i hne;obtain rfl:=Option.some.inj hy;exact⟨_,fun x hx=>(kern_ok x hx).2,fun e=>hne (kernK_nil.2 e),hmem sk y⟩
  row:=fun s st row hs hr=>by
   obtain⟨sk0,hs0,rfl⟩:=hat hs;rw[(hN.row s sk0 row hs0 hr).len];unfold stepK;rw[List.length_map,symsL_len]
  no:=fun s k st row y hs hr hk he=>by
   obtain⟨sk0,hs0,rfl⟩:=hat hs;exact(hN.row s sk0 row hs0 hr).no k (by rw[hstep sk0 k y hk,if_pos (kernK_nil.2 he)])
  yes:=fun s k st row y hs hr hk he=>by
   obtain⟨sk0,hs0,rfl⟩:=hat hs;obtain⟨j,h1,h2⟩:=(hN.row s sk0 row hs0 hr).yes k _ (by rw[hstep sk0 k y hk,if_neg (fun e=>he (kernK_nil.1 e))]);exact⟨j,_,h1,map_at h2,hmem sk0 y⟩ }
inductive Rch(g:Gram):Nat→Prop
 | start:Rch g g.start
 | more {r:Rule} {m:Nat}:r∈g.rules→Rch g r.left→⟨false,m⟩∈r.right→Rch g m
inductive Fol(g:Gram):Nat→Nat→Prop
 | start:Fol g g.start g.terms
 | beg {r:Rule} {pre post:List Sym} {m t:Nat}:r∈g.rules→Rch g r.left→r.right=pre++⟨false,m⟩::post→BegL g post t→Fol g m t
 | pass {r:Rule} {pre post:List Sym} {m t:Nat}:r∈g.rules→Rch g r.left→r.right=pre++⟨false,m⟩::post→NulL g post→Fol g r.left t→Fol g m t
def leftL(g:Gram)(k:Nat):Nat:=((g.rules[k]?).map (·.left)).getD 0
def FolA(g:Gram)(x:Lr)(t:Nat):Prop:=if x.rule<g.rules.length then Fol g (leftL g x.rule) t else t=g.terms
theorem leftL_at{g:Gram}{k:Nat}{r:Rule}(h:g.rules[k]?=some r):leftL g k=r.left:=by unfold leftL;rw[h];rfl
inductive LalA(g:Gram)(I:List (List Lr))(rows:List (List Int)):Nat→Lr→Nat→Prop
 | start:LalA g I rows 0 ⟨g.rules.length,0⟩ g.terms
 | goto {s s' t:Nat} {x:Lr} {y:Sym}:LalA g I rows s x t→itI I s x→afterL g x=some y→goR g rows s y=some s'→LalA g I rows s' ⟨x.rule,x.dot+1⟩ t
 | beg0 {x:Lr} {k t:Nat} {r:Rule}:itI I 0 x→afterL g x=some ⟨false,r.left⟩→g.rules[k]?=some r→BegL g (restL g x) t→LalA g I rows 0 ⟨k,0⟩ t
 | beg {s s' u t k:Nat} {v x:Lr} {y:Sym} {r:Rule}:LalA g I rows s v u→itI I s v→goR g rows s y=some s'→itI I s' x→afterL g x=some ⟨false,r.left⟩→g.rules[k]?=some r→BegL g (restL g x) t→LalA g I rows s' ⟨k,0⟩ t
 | pass {s t k:Nat} {x:Lr} {r:Rule}:LalA g I rows s x t→itI I s x→afterL g x=some ⟨false,r.left⟩→g.rules[k]?=some r→NulL g (restL g x)→LalA g I rows s ⟨k,0⟩ t
noncomputable def lookS(g:Gram)(I:List (List Lr))(la:Nat→Lr→Nat→Prop):List (List Look):=(List.range I.length).map fun s=>(I.getD s []).map fun x=>⟨x,maskOf (la s x) (g.terms+1)⟩
def laK(S:List (List Look))(s:Nat)(x:Lr)(t:Nat):Prop:=∃st m,S[s]?=some st∧⟨x,m⟩∈st∧m.testBit t=true
theorem lookS_at{g:Gram}{I:List (List Lr)}{la:Nat→Lr→Nat→Prop}{s:Nat}:(lookS g I la)[s]?=(I[s]?).map fun st=>st.map fun x=>⟨x,maskOf (la s x) (g.terms+1)⟩:=by
 unfold lookS;rw[List.getElem?_map];by_cases h:s<I.length
 ·rw[List.getElem?_range h,gE h,Option.map_some,Option.map_some,List.getD_eq_getElem?_getD,gE h];rfl
 ·rw[List.getElem?_eq_none (by simpa using h),List.getElem?_eq_none zo];rfl
theorem lookS_items{g:Gram}{I:List (List Lr)}{la:Nat→Lr→Nat→Prop}:(lookS g I la).map itemsK=I:=by
 apply List.ext_getElem?;intro s;rw[List.getElem?_map,lookS_at];cases I[s]? with
 | none=>rfl
 | some st=>
  rw[Option.map_some,Option.map_some];congr 1;unfold itemsK;rw[List.map_map];have:(fun x:Look=>x.item) ∘ (fun x=>(⟨x,maskOf (la s x) (g.terms+1)⟩:Look))=id:=rfl;rw[this,List.map_id]
theorem laK_lookS{g:Gram}{I:List (List Lr)}{la:Nat→Lr→Nat→Prop}{s:Nat}{x:Lr}{t:Nat}:laK (lookS g I la) s x t↔itI I s x∧la s x t∧t≤g.terms:=by
 unfold laK itI;constructor
 ·rintro⟨st,m,h1,h2,h3⟩;rw[lookS_at] at h1;cases hI:I[s]? with
  | none=>rw[hI] at h1;cases h1
  | some st0=>
   rw[hI] at h1;obtain rfl:=Option.some.inj h1;obtain⟨z,hz,e⟩:=List.mem_map.1 h2;simp only[Look.mk.injEq] at e;obtain⟨rfl,rfl⟩:=e;have:=(maskOf_bit _ _ _).1 h3;exact⟨⟨st0,rfl,hz⟩,this.2,by omega⟩
 ·rintro⟨⟨st0,h1,h2⟩,h3,h4⟩;exact⟨_,_,by rw[lookS_at,h1];rfl,List.mem_map.2 ⟨x,h2,rfl⟩,(maskOf_bit _ _ _).2 ⟨by omega,h3⟩⟩
theorem auto_reached{g:Gram}{I:List (List Lr)}{rows:List (List Int)}(h:autoI g=some (I,rows)):∀(s:Nat) (st:List Lr),I[s]?=some st→∀x∈st,x.rule<g.rules.length→Rch g (leftL g x.rule):=by
 obtain⟨hA,hN⟩:=autoI_ok h;have hclos:∀l:List Lr,(∀x∈l,x.rule<g.rules.length→Rch g (leftL g x.rule))→∀z,Clos g l z→z.rule<g.rules.length→Rch g (leftL g z.rule):=by
  intro l hl z hz
  induction hz with
  | base h=>exact hl _ h
  | @more x n k r h1 h2 h3 h4 ih=>
   intro _;show Rch g (leftL g k);rw[leftL_at h3,h4];rw[afterL_right] at h2;unfold rightL at h2;split at h2
   ·have:=List.mem_singleton.1 (gM h2);simp only[Sym.mk.injEq,true_and] at this;subst this;exact .start
   ·cases hr:g.rules[x.rule]? with
    | none=>rw[hr] at h2;simp at h2
    | some r2=>
     rw[hr] at h2;have h5:=ih (gS hr).1;rw[leftL_at hr] at h5;exact .more (gM hr) h5 (gM h2)
 refine hN.all (P:=fun st=>∀x∈st,x.rule<g.rules.length→Rch g (leftL g x.rule)) (fun x hx=>?_) (fun st s hst hs=>?_)
 ·refine hclos _ (fun y hy hlt=>?_) x ((mem_closL start_ok).1 hx);rw[List.mem_singleton.1 hy] at hlt;exact absurd hlt (Nat.lt_irrefl _)
 ·obtain⟨y,_,hy⟩:=List.mem_map.1 hs;split at hy
  ·cases hy
  ·obtain rfl:=Option.some.inj hy;intro x hx;refine hclos _ (fun z hz=>?_) x ((mem_closL fun z hz=>(kern_ok z hz).1).1 hx);obtain⟨q,hq,_,rfl⟩:=mem_kern.1 hz;exact hst q hq
theorem split_at{g:Gram}{k d:Nat}{r:Rule}{y:Sym}(hr:g.rules[k]?=some r)(h:afterL g ⟨k,d⟩=some y):r.right=r.right.take d++y::restL g ⟨k,d⟩:=by
 rw[afterL_right] at h;have h:(rightL g k)[d]?=some y:=h;have e:restL g ⟨k,d⟩=(rightL g k).drop (d+1):=rfl;rw[e,rightL_rule hr];rw[rightL_rule hr] at h;obtain⟨h1,h2⟩:=gS h;rw[←h2,←List.drop_eq_getElem_cons h1,List.take_append_drop]
theorem rest_start{g:Gram}{d:Nat}{y:Sym}(h:afterL g ⟨g.rules.length,d⟩=some y):y=⟨false,g.start⟩∧d=0∧restL g ⟨g.rules.length,d⟩=[]:=by
 rw[afterL_right] at h;have h:(rightL g g.rules.length)[d]?=some y:=h;rw[rightL_start] at h;cases d with
 | zero=>
  refine⟨(Option.some.inj h).symm,rfl,?_⟩;show (rightL g g.rules.length).drop 1=[];rw[rightL_start];rfl
 | succ d=>simp at h
theorem slr_ok{g:Gram}(hg:Valid g){I:List (List Lr)}{rows:List (List Int)}(h:autoI g=some (I,rows)):LRok g (itI I) (laK (lookS g I fun _=>FolA g)) (goR g rows):=by
 obtain⟨hA,hN⟩:=autoI_ok h;obtain⟨st0,hst0,hz⟩:=hA.zero;refine hA.lr hg (laK_lookS.2 ⟨⟨st0,hst0,(hz _).2 (.base me)⟩,?_,Nat.le_refl _⟩) ?_ ?_
 ·unfold FolA;rw[if_neg (Nat.lt_irrefl _)]
 ·intro s x k r t u hit hu ha hr hb;rw[laK_lookS];obtain⟨st,hst,hx⟩:=hit;have hk:=(gS hr).1;obtain⟨xr,xd⟩:=x;have hit2:itI I s ⟨k,0⟩:=by
   rcases Nat.eq_zero_or_pos s with rfl | hp
   ·rw[hst0] at hst;obtain rfl:=Option.some.inj hst;exact⟨_,hst0,(hz _).2 (.more ((hz _).1 hx) ha hr rfl)⟩
   ·obtain⟨l,_,_,h3⟩:=hA.from_ s st hp hst;exact⟨st,hst,(h3 _).2 (.more ((h3 _).1 hx) ha hr rfl)⟩
  have hfol:FolA g ⟨k,0⟩ t:=by
   unfold FolA;rw[if_pos hk,leftL_at hr];by_cases hxr:xr<g.rules.length
   ·have hr2:=gE hxr;generalize g.rules[xr]=r2 at hr2;have hm2:=gM hr2;have hre:=auto_reached h s st hst _ hx hxr;have hre:Rch g (leftL g xr):=hre;rw[leftL_at hr2] at hre;have hsp:=split_at hr2 ha;rcases hb with hb | ⟨hb1,hb2⟩
    ·exact .beg hm2 hre hsp hb
    ·have h5:=(laK_lookS.1 hb2).2.1;unfold FolA at h5;rw[if_pos hxr] at h5;have h5:Fol g (leftL g xr) t:=h5;rw[leftL_at hr2] at h5;exact .pass hm2 hre hsp hb1 h5
   ·have hxe:xr=g.rules.length:=by
     have:=(afterL_right (g:=g) (x:=⟨xr,xd⟩)).symm.trans ha;have h2:(rightL g xr)[xd]?=some ⟨false,r.left⟩:=this;rcases Nat.lt_or_ge g.rules.length xr with h3 | h3
     ·unfold rightL at h2;rw[if_neg zo,List.getElem?_eq_none (l:=g.rules) (i:=xr) zo] at h2;simp at h2
     ·omega
    subst hxe;obtain⟨h1,_,h3⟩:=rest_start ha;simp only[Sym.mk.injEq,true_and] at h1;rw[h1];rcases hb with hb | ⟨_,hb2⟩
    ·rw[h3] at hb;obtain⟨pre,s1,post,e,_⟩:=hb;exact absurd (congrArg List.length e) (by simp)
    ·have h5:=(laK_lookS.1 hb2).2.1;unfold FolA at h5;rw[if_neg (Nat.lt_irrefl _)] at h5;rw[h5];exact .start
  refine⟨hit2,hfol,?_⟩;rcases hb with hb | ⟨_,hb2⟩
  ·exact Nat.le_of_lt (rest_lt hg hb)
  ·exact(laK_lookS.1 hb2).2.2
 ·intro s s' x y hit ha hgo t ht;obtain⟨_,h2,h3⟩:=laK_lookS.1 ht;obtain⟨st,st',h4,h5,_,h6⟩:=hA.goes hg hgo;obtain⟨st2,h7,hx⟩:=hit;rw[h4] at h7;obtain rfl:=Option.some.inj h7;exact laK_lookS.2 ⟨⟨st',h5,(h6 _).2 (.base (mem_kern.2 ⟨x,hx,ha,rfl⟩))⟩,h2,h3⟩
theorem LalA.le{g:Gram}(hg:Valid g){I:List (List Lr)}{rows:List (List Int)}{s:Nat}{x:Lr}{t:Nat}(h:LalA g I rows s x t):t≤g.terms:=by
 induction h with
 | start=>exact Nat.le_refl _
 | goto _ _ _ _ ih=>exact ih
 | beg0 _ _ _ h=>exact Nat.le_of_lt (rest_lt hg h)
 | beg _ _ _ _ _ _ h _=>exact Nat.le_of_lt (rest_lt hg h)
 | pass _ _ _ _ _ ih=>exact ih
theorem lalr_ok{g:Gram}(hg:Valid g){I:List (List Lr)}{rows:List (List Int)}(h:autoI g=some (I,rows)):LRok g (itI I) (laK (lookS g I (LalA g I rows))) (goR g rows):=by
 obtain⟨hA,hN⟩:=autoI_ok h;obtain⟨st0,hst0,hz⟩:=hA.zero;have hclos:∀{s:Nat} {x:Lr} {k:Nat} {r:Rule},itI I s x→afterL g x=some ⟨false,r.left⟩→g.rules[k]?=some r→itI I s ⟨k,0⟩:=fun {s x k r} ⟨st,hst,hx⟩ ha hr=>by
  rcases Nat.eq_zero_or_pos s with rfl | hp
  ·rw[hst0] at hst;obtain rfl:=Option.some.inj hst;exact⟨_,hst0,(hz _).2 (.more ((hz _).1 hx) ha hr rfl)⟩
  ·obtain⟨l,_,_,h3⟩:=hA.from_ s st hp hst;exact⟨st,hst,(h3 _).2 (.more ((h3 _).1 hx) ha hr rfl)⟩
 refine hA.lr hg (laK_lookS.2 ⟨⟨st0,hst0,(hz _).2 (.base me)⟩,.start,Nat.le_refl _⟩) ?_ ?_
 ·intro s x k r t u hit hu ha hr hb;rw[laK_lookS];refine⟨hclos hit ha hr,?_,?_⟩
  ·rcases hb with hb | ⟨hb1,hb2⟩
   ·obtain⟨_,hu2,_⟩:=laK_lookS.1 hu;have hrecv:∀{s:Nat} {x:Lr} {u:Nat},LalA g I rows s x u→s=0∨∃(q:Nat) (v:Lr) (u2:Nat) (y:Sym),LalA g I rows q v u2∧itI I q v∧goR g rows q y=some s:=by
     intro s x u h
     induction h with
     | start=>exact .inl rfl
     | goto h1 h2 h3 h4 _=>exact .inr ⟨_,_,_,_,h1,h2,h4⟩
     | beg0 _ _ _ _=>exact .inl rfl
     | beg h1 h2 h3 _ _ _ _ _=>exact .inr ⟨_,_,_,_,h1,h2,h3⟩
     | pass _ _ _ _ _ ih=>exact ih
    rcases hrecv hu2 with rfl | ⟨q,v,u2,y,h1,h2,h3⟩
    ·exact .beg0 hit ha hr hb
    ·exact .beg h1 h2 h3 hit ha hr hb
   ·exact .pass (laK_lookS.1 hb2).2.1 hit ha hr hb1
  ·rcases hb with hb | ⟨_,hb2⟩
   ·exact Nat.le_of_lt (rest_lt hg hb)
   ·exact(laK_lookS.1 hb2).2.2
 ·intro s s' x y hit ha hgo t ht;obtain⟨_,h2,h3⟩:=laK_lookS.1 ht;obtain⟨st,st',h4,h5,_,h6⟩:=hA.goes hg hgo;have hit2:=hit;obtain⟨st2,h7,hx⟩:=hit;rw[h4] at h7;obtain rfl:=Option.some.inj h7;exact laK_lookS.2 ⟨⟨st',h5,(h6 _).2 (.base (mem_kern.2 ⟨x,hx,ha,rfl⟩))⟩,.goto h2 hit2 ha hgo,h3⟩
theorem lr1_ok{g:Gram}(hg:Valid g){S:List (List Look)}{rows:List (List Int)}(h:autoK g=some (S,rows)):LRok g (itI (S.map itemsK)) (laK S) (goR g rows):=by
 obtain⟨hA,hN⟩:=autoK_ok h
 have hform:∀(s:Nat) (st:List Look),S[s]?=some st→∃l,st=closeK g l∧∀x∈itemsK l,OkLr g x:=hN.all (P:=fun st=>∃l,st=closeK g l∧∀x∈itemsK l,OkLr g x) ⟨_,rfl,start_ok⟩ (fun st s _ hs=>by
  obtain⟨y,_,hy⟩:=List.mem_map.1 hs;split at hy
  ·cases hy
  ·obtain rfl:=Option.some.inj hy;exact⟨_,rfl,fun x hx=>by rw[kernK_items] at hx;exact(kern_ok x hx).1⟩)
 have hit_of:∀{s:Nat} {x:Lr},itI (S.map itemsK) s x→∃st l,S[s]?=some st∧st=closeK g l∧(∀x∈itemsK l,OkLr g x)∧Clos g (itemsK l) x:=fun {s x} ⟨st,hst,hx⟩=>by
  rw[List.getElem?_map] at hst;cases hk:S[s]? with
  | none=>rw[hk] at hst;cases hst
  | some sk=>
   rw[hk] at hst;obtain rfl:=Option.some.inj hst;obtain⟨l,rfl,hl⟩:=hform s sk hk;rw[closeK_items,mem_closL hl] at hx;exact⟨_,l,rfl,rfl,hl,hx⟩
 have hla:∀{s:Nat} {l:List Look} {x:Lr} {t:Nat},S[s]?=some (closeK g l)→(∀x∈itemsK l,OkLr g x)→(laK S s x t↔LAc g l x t):=fun {s l x t} hs hl=>by
  rw[←look_closeK hg hl];unfold laK;constructor
  ·rintro⟨st,m,h1,h2,h3⟩;rw[hs] at h1;obtain rfl:=Option.some.inj h1;exact⟨m,h2,h3⟩
  ·rintro⟨m,h2,h3⟩;exact⟨_,m,hs,h2,h3⟩
 refine hA.lr hg ?_ ?_ ?_
 ·rw[hla (l:=[⟨⟨g.rules.length,0⟩,2 ^ g.terms⟩]) hN.first start_ok]
  exact .base me (by simp) (Nat.le_refl _)
 ·intro s x k r t u hit hu ha hr hb;obtain⟨st,l,h1,rfl,hl,hx⟩:=hit_of hit;rw[hla h1 hl];rcases hb with hb | ⟨hb1,hb2⟩
  ·exact .beg hx ha hr hb
  ·exact .pass hx ha hr hb1 ((hla h1 hl).1 hb2)
 ·intro s s' x y hit ha hgo t ht;obtain⟨st,l,h1,rfl,hl,hx⟩:=hit_of hit;have hy:=afterL_sym hg ha;have hmem:∃m,⟨x,m⟩∈closeK g l∧m.testBit t=true:=by
   obtain⟨st,m,g1,g2,g3⟩:=ht;rw[h1] at g1;obtain rfl:=Option.some.inj g1;exact⟨m,g2,g3⟩
  obtain⟨m,hm,hmt⟩:=hmem;have hk:(⟨⟨x.rule,x.dot+1⟩,m⟩:Look)∈kernK g (closeK g l) y:=mem_kernK.2 ⟨x,hm,ha,rfl⟩;have hne:kernK g (closeK g l) y≠[]:=fun e=>by rw[e] at hk;cases hk
  have hl2:∀z∈itemsK (kernK g (closeK g l) y),OkLr g z:=fun z hz=>by rw[kernK_items] at hz;exact(kern_ok z hz).1
  obtain⟨row,hrow⟩:∃row,rows[s]?=some row:=⟨_,gE (by rw[hN.len];exact(gS h1).1)⟩;obtain⟨j,g1,g2⟩:=(hN.row s _ row h1 hrow).yes (idxS g y) (closeK g (kernK g (closeK g l) y)) (by
   unfold stepK;rw[map_at (symsL_at hy),if_neg hne])
  have e:goR g rows s y=some j:=by
   unfold goR;rw[if_pos (symB_iff.2 hy),hrow];dsimp only;rw[g1];simp
  rw[hgo] at e;obtain rfl:=Option.some.inj e;rw[hla g2 hl2];exact .base hk hmt (by
   have:=(hla h1 hl).1 ht;exact this.le hg)
def bitsL(l:List Look)(x:Lr)(t:Nat):Prop:=∃m,(⟨x,m⟩:Look)∈l∧m.testBit t=true
def mergeL:List Look→List Look→List Look
 | r::rs,x::xs=>⟨r.item,r.set ||| x.set⟩::mergeL rs xs
 | rs,_=>rs
theorem mergeL_nil(row:List Look):mergeL row []=row:=by cases row<;>rfl
theorem mergeL_items:∀(row l:List Look),itemsK (mergeL row l)=itemsK row
 | [],l=>by cases l<;>rfl
 | r::rs,[]=>rfl
 | r::rs,x::xs=>by
  have:=mergeL_items rs xs;unfold itemsK at this ⊢;show r.item::_=r.item::_;rw[this]
theorem mergeL_len(row l:List Look):(mergeL row l).length=row.length:=by
 have:=congrArg List.length (mergeL_items row l);unfold itemsK at this
 rwa [List.length_map,List.length_map] at this
theorem mergeL_step:∀{row l:List Look} {j:Nat} {r x:Look},row[j]?=some r→l[j]?=some x→mergeL row (l.take (j+1))=(mergeL row (l.take j)).set j ⟨r.item,r.set ||| x.set⟩∧(mergeL row (l.take j))[j]?=some r
 | [],_,_,_,_,h,_=>by simp at h
 | _::_,[],_,_,_,_,h=>by simp at h
 | r0::rs,x0::xs,0,r,x,h1,h2=>by
  simp only[List.getElem?_cons_zero,Option.some.injEq] at h1 h2;subst h1 h2;refine⟨?_,rfl⟩;show ⟨r0.item,r0.set ||| x0.set⟩::mergeL rs (xs.take 0)=_
  rw[List.take_zero,mergeL_nil];rfl
 | r0::rs,x0::xs,j+1,r,x,h1,h2=>by
  have:=@mergeL_step rs xs j r x (by simpa using h1) (by simpa using h2);refine⟨?_,this.2⟩;show ⟨r0.item,r0.set ||| x0.set⟩::mergeL rs (xs.take (j+1))=(⟨r0.item,r0.set ||| x0.set⟩::mergeL rs (xs.take j)).set (j+1) _
  rw[this.1];rfl
theorem mergeL_bits:∀{row l:List Look},itemsK row=itemsK l→∀x t,bitsL (mergeL row l) x t↔bitsL row x t∨bitsL l x t
 | [],[],_,x,t=>by unfold mergeL;exact⟨.inl,fun h=>h.elim id id⟩
 | [],_::_,h,_,_=>by cases h
 | _::_,[],h,_,_=>by cases h
 | r::rs,y::ys,h,x,t=>by
  unfold itemsK at h;simp only[List.map_cons,List.cons.injEq] at h;obtain⟨h1,h2⟩:=h;have ih:=mergeL_bits (row:=rs) (l:=ys) h2 x t;obtain⟨ri,rm⟩:=r;obtain⟨yi,ym⟩:=y;dsimp only at h1;subst h1;have hc:∀(z:Look) (l:List Look),bitsL (z::l) x t↔(z.item=x∧z.set.testBit t=true)∨bitsL l x t:=fun z l=>by
   obtain⟨zi,zm⟩:=z;constructor
   ·rintro⟨m,hm,ht⟩;rcases List.mem_cons.1 hm with e | e
    ·simp only[Look.mk.injEq] at e;exact .inl ⟨e.1.symm,by rw[←e.2];exact ht⟩
    ·exact .inr ⟨m,e,ht⟩
   ·rintro(⟨h1,h2⟩ | ⟨m,hm,ht⟩)
    ·exact⟨zm,by dsimp only at h1;rw[h1];exact List.mem_cons_self ..,h2⟩
    ·exact⟨m,List.mem_cons_of_mem _ hm,ht⟩
  show bitsL (⟨ri,rm ||| ym⟩::mergeL rs ys) x t↔_
  rw[hc,hc,hc,ih];dsimp only;rw[Nat.testBit_or,Bool.or_eq_true];constructor
  ·rintro(⟨h3,h4 | h4⟩ | h3 | h3)
   ·exact .inl (.inl ⟨h3,h4⟩)
   ·exact .inr (.inl ⟨h3,h4⟩)
   ·exact .inl (.inr h3)
   ·exact .inr (.inr h3)
  ·rintro((⟨h3,h4⟩ | h3) | (⟨h3,h4⟩ | h3))
   ·exact .inl ⟨h3,.inl h4⟩
   ·exact .inr (.inl h3)
   ·exact .inl ⟨h3,.inr h4⟩
   ·exact .inr (.inr h3)
theorem mergeL_small{B:Nat}:∀{row l:List Look},(∀x∈row,x.set<2 ^ B)→(∀x∈l,x.set<2 ^ B)→∀x∈mergeL row l,x.set<2 ^ B
 | [],l,h,_,x,hx=>by cases l<;>exact h x hx
 | r::rs,[],h,_,x,hx=>h x hx
 | r::rs,y::ys,h1,h2,x,hx=>by
  rcases List.mem_cons.1 hx with e | e
  ·rw[e];exact Nat.or_lt_two_pow (h1 r me) (h2 y me)
  ·exact mergeL_small (fun x hx=>h1 x (List.mem_cons_of_mem _ hx)) (fun x hx=>h2 x (List.mem_cons_of_mem _ hx)) x e
def roomL(l:List Look):Nat:=(l.map fun x=>512-x.set).sum
def roomT(L:List (List Look)):Nat:=(L.map roomL).sum
theorem mergeL_room:∀{row l:List Look},(∀x∈row,x.set<512)→(∀x∈mergeL row l,x.set<512)→roomL (mergeL row l)≤roomL row∧(mergeL row l≠row→roomL (mergeL row l)<roomL row)
 | [],l,_,_=>by cases l<;>exact⟨Nat.le_refl _,fun h=>absurd rfl h⟩
 | r::rs,[],_,_=>⟨Nat.le_refl _,fun h=>absurd rfl h⟩
 | r::rs,y::ys,h1,h2=>by
  obtain⟨a1,a2⟩:=mergeL_room (row:=rs) (l:=ys) (fun x hx=>h1 x (List.mem_cons_of_mem _ hx)) (fun x hx=>h2 x (List.mem_cons_of_mem _ hx));have b1:=h1 r me;have b2:r.set ||| y.set<512:=h2 ⟨r.item,r.set ||| y.set⟩ me
  have b3:r.set≤r.set ||| y.set:=Nat.left_le_or
  show (512-(r.set ||| y.set))+roomL (mergeL rs ys)≤(512-r.set)+roomL rs∧((⟨r.item,r.set ||| y.set⟩::mergeL rs ys:List Look)≠r::rs→(512-(r.set ||| y.set))+roomL (mergeL rs ys)<(512-r.set)+roomL rs)
  refine⟨by omega,fun hne=>?_⟩;by_cases e:r.set ||| y.set=r.set
  ·have:mergeL rs ys≠rs:=fun e2=>hne (by rw[e,e2]);have:=a2 this;omega
  ·omega
theorem roomT_set{L:List (List Look)}{k:Nat}{row row':List Look}(h:L[k]?=some row):roomT (L.set k row')+roomL row=roomT L+roomL row':=by
 unfold roomT;rw[List.map_set];exact sum_set (by rw[List.getElem?_map,h];rfl)
theorem laK_iff{S:List (List Look)}{s:Nat}{x:Lr}{t:Nat}:laK S s x t↔∃st,S[s]?=some st∧bitsL st x t:=
 ⟨fun ⟨st,m,h1,h2,h3⟩=>⟨st,h1,m,h2,h3⟩,fun ⟨st,h1,m,h2,h3⟩=>⟨st,m,h1,h2,h3⟩⟩
theorem laK_set{L:List (List Look)}{k:Nat}{row l:List Look}(hk:L[k]?=some row)(hi:itemsK row=itemsK l){s:Nat}{x:Lr}{t:Nat}:laK (L.set k (mergeL row l)) s x t↔laK L s x t∨(s=k∧bitsL l x t):=by
 have hlt:=(gS hk).1;rw[laK_iff,laK_iff];by_cases e:s=k
 ·subst e;rw[List.getElem?_set_self hlt];constructor
  ·rintro⟨st,h1,h2⟩;obtain rfl:=Option.some.inj h1;rcases (mergeL_bits hi x t).1 h2 with h3 | h3
   ·exact .inl ⟨row,hk,h3⟩
   ·exact .inr ⟨rfl,h3⟩
  ·rintro(⟨st,h1,h2⟩ | ⟨_,h2⟩)
   ·rw[hk] at h1;obtain rfl:=Option.some.inj h1;exact⟨_,rfl,(mergeL_bits hi x t).2 (.inl h2)⟩
   ·exact⟨_,rfl,(mergeL_bits hi x t).2 (.inr h2)⟩
 ·rw[List.getElem?_set_ne (fun e2=>e e2.symm)];exact⟨.inl,fun h=>h.resolve_right fun h2=>e h2.1⟩
section
variable {g:Gram}{I:List (List Lr)}{rows:List (List Int)}
structure LaI(g:Gram)(I:List (List Lr))(rows:List (List Int))(L:List (List Look)):Prop where
 items:L.map itemsK=I
 small:∀st∈L,∀x∈st,x.set<2 ^ (g.terms+1)
 snd:∀s x t,laK L s x t→LalA g I rows s x t
 pass:∀s x t k r,laK L s x t→afterL g x=some ⟨false,r.left⟩→g.rules[k]?=some r→NulL g (restL g x)→laK L s ⟨k,0⟩ t
def CloA(g:Gram)(rows:List (List Int))(L:List (List Look))(s:Nat)(y:Sym):Prop:=∀s' st,goR g rows s y=some s'→L[s]?=some st→∀z t,LAc g (kernK g st y) z t→laK L s' z t
def ZeroA(L:List (List Look))(s:Nat):Prop:=∀x t,¬laK L s x t
theorem LaI.it{L:List (List Look)}(h:LaI g I rows L){s:Nat}{x:Lr}{t:Nat}(hl:laK L s x t):itI I s x:=by
 obtain⟨st,m,h1,h2,_⟩:=hl;refine⟨itemsK st,?_,List.mem_map.2 ⟨_,h2,rfl⟩⟩;rw[←h.items,List.getElem?_map,h1];rfl
theorem LaI.put{L:List (List Look)}(h:LaI g I rows L){k:Nat}{row l:List Look}(hk:L[k]?=some row)(hi:itemsK row=itemsK l)(hl:∀x∈l,x.set<2 ^ (g.terms+1))
  (hs:∀x t,bitsL l x t→LalA g I rows k x t) (hp:∀x t j r,bitsL l x t→afterL g x=some ⟨false,r.left⟩→g.rules[j]?=some r→NulL g (restL g x)→bitsL l ⟨j,0⟩ t):LaI g I rows (L.set k (mergeL row l)):=by
 have hlt:=(gS hk).1;refine⟨?_,fun st hst=>?_,fun s x t ht=>?_,fun s x t j r ht h1 h2 h3=>?_⟩
 ·rw[←h.items,List.map_set,mergeL_items];apply List.ext_getElem?;intro i;by_cases e:i=k
  ·subst e;rw[List.getElem?_set_self (by simpa using hlt),List.getElem?_map,hk];rfl
  ·rw[List.getElem?_set_ne (fun e2=>e e2.symm)]
 ·rcases List.mem_or_eq_of_mem_set hst with h1 | h1
  ·exact h.small st h1
  ·rw[h1];exact mergeL_small (h.small row (gM hk)) hl
 ·rcases (laK_set hk hi).1 ht with h1 | ⟨rfl,h1⟩
  ·exact h.snd _ _ _ h1
  ·exact hs _ _ h1
 ·rw[laK_set hk hi] at ht ⊢;rcases ht with h4 | ⟨rfl,h4⟩
  ·exact .inl (h.pass _ _ _ _ _ h4 h1 h2 h3)
  ·exact .inr ⟨rfl,hp _ _ _ _ h4 h1 h2 h3⟩
theorem closeK_bits(hg:Valid g){l:List Look}(hl:∀x∈itemsK l,OkLr g x){z:Lr}{t:Nat}:bitsL (closeK g l) z t↔LAc g l z t:=look_closeK hg hl
theorem closeK_small{l:List Look}:∀x∈closeK g l,x.set<2 ^ (g.terms+1):=fun x hx=>by
 obtain⟨z,_,rfl⟩:=List.mem_map.1 hx;exact maskOf_lt _ _
theorem goto_exact(hg:Valid g)(h:autoI g=some (I,rows)){s s':Nat}{y:Sym}{st:List Lr}(hgo:goR g rows s y=some s')(hs:I[s]?=some st):I[s']?=some (closL g (kern g st y)):=by
 obtain⟨hA,hN⟩:=autoI_ok h;obtain⟨st2,st',h4,h5,_,h6⟩:=hA.goes hg hgo;rw[hs] at h4;obtain rfl:=Option.some.inj h4
 have hst:Strict st':=hN.all (P:=Strict) (closL_strict g _) (fun a b _ hb=>by
  obtain⟨y,_,hy⟩:=List.mem_map.1 hb;split at hy
  ·cases hy
  ·obtain rfl:=Option.some.inj hy;exact closL_strict g _) s' st' h5
 rw[h5,closL_eq (fun x hx=>(kern_ok x hx).1) hst h6]
theorem LaI.goto(hg:Valid g)(hau:autoI g=some (I,rows)){L:List (List Look)}(h:LaI g I rows L){s s':Nat}{y:Sym}(hgo:goR g rows s y=some s'){st row:List Look}(hs:L[s]?=some st)(hk:L[s']?=some row)(hne:¬ZeroA L s) :
  itemsK row=itemsK (closeK g (kernK g st y))∧LaI g I rows (L.set s' (mergeL row (closeK g (kernK g st y)))):=by
 have hIs:I[s]?=some (itemsK st):=by rw[←h.items,List.getElem?_map,hs];rfl
 have hIk:I[s']?=some (itemsK row):=by rw[←h.items,List.getElem?_map,hk];rfl
 have hex:=goto_exact hg hau hgo hIs;rw[hIk] at hex;have hi:itemsK row=itemsK (closeK g (kernK g st y)):=by rw[closeK_items,kernK_items];exact Option.some.inj hex
 have hok:∀x∈itemsK (kernK g st y),OkLr g x:=fun x hx=>by rw[kernK_items] at hx;exact(kern_ok x hx).1
 refine⟨hi,h.put hk hi closeK_small (fun x t ht=>?_) (fun x t j r ht h1 h2 h3=>?_)⟩
 ·rw[closeK_bits hg hok] at ht;have hit:∀{x:Lr},Clos g (itemsK (kernK g st y)) x→itI I s' x:=fun {x} hx=>⟨itemsK row,hIk,by rw[hi,closeK_items];exact(mem_closL hok).2 hx⟩;have hsome:∃v u,laK L s v u:=by
   refine Classical.byContradiction fun hn=>hne fun x t hx=>hn ⟨x,t,hx⟩
  obtain⟨v,u,hvu⟩:=hsome
  induction ht with
  | base h4 h5 _=>
   obtain⟨x0,h6,h7,rfl⟩:=mem_kernK.1 h4;exact .goto (h.snd _ _ _ ⟨st,_,hs,h6,h5⟩) ⟨itemsK st,hIs,List.mem_map.2 ⟨_,h6,rfl⟩⟩ h7 hgo
  | beg h4 h5 h6 h7=>exact .beg (h.snd _ _ _ hvu) (h.it hvu) hgo (hit h4) h5 h6 h7
  | pass h4 h5 h6 h7 _ ih=>exact .pass ih (hit h4) h5 h6 h7
 ·rw[closeK_bits hg hok] at ht ⊢;exact .pass ht.clos h1 h2 h3 ht
theorem LaI.zero(hsm:True):LaI g I rows (I.map fun st=>st.map fun x=>(⟨x,0⟩:Look))∧∀s,ZeroA (I.map fun st=>st.map fun x=>(⟨x,0⟩:Look)) s:=by
 have hz:∀s x t,¬laK (I.map fun st=>st.map fun x=>(⟨x,0⟩:Look)) s x t:=fun s x t ⟨st,m,h1,h2,h3⟩=>by
  rw[List.getElem?_map] at h1;cases hI:I[s]? with
  | none=>rw[hI] at h1;cases h1
  | some st0=>
   rw[hI] at h1;obtain rfl:=Option.some.inj h1;obtain⟨x0,_,e⟩:=List.mem_map.1 h2;simp only[Look.mk.injEq] at e;rw[←e.2] at h3;simp at h3
 refine⟨⟨?_,fun st hst x hx=>?_,fun s x t ht=>absurd ht (hz s x t),fun s x t k r ht=>absurd ht (hz s x t)⟩,hz⟩
 ·rw[List.map_map];have:(itemsK ∘ fun st:List Lr=>st.map fun x=>(⟨x,0⟩:Look))=id:=by
   funext st;show (st.map fun x=>(⟨x,0⟩:Look)).map (·.item)=st;rw[List.map_map];exact List.map_id _
  rw[this,List.map_id]
 ·obtain⟨st0,_,rfl⟩:=List.mem_map.1 hst;obtain⟨x0,_,rfl⟩:=List.mem_map.1 hx;exact Nat.two_pow_pos _
def Started(g:Gram)(L:List (List Look)):Prop:=∀z t,LAc g [⟨⟨g.rules.length,0⟩,2 ^ g.terms⟩] z t→laK L 0 z t
theorem startK_ok:∀x∈itemsK [(⟨⟨g.rules.length,0⟩,2 ^ g.terms⟩:Look)],OkLr g x:=fun x hx=>start_ok x hx
theorem LaI.start(hg:Valid g)(hau:autoI g=some (I,rows)){L:List (List Look)}(h:LaI g I rows L){row:List Look}(hk:L[0]?=some row) :
  itemsK row=itemsK (firstK g)∧LaI g I rows (L.set 0 (mergeL row (firstK g)))∧Started g (L.set 0 (mergeL row (firstK g)))∧laK (L.set 0 (mergeL row (firstK g))) 0 ⟨g.rules.length,0⟩ g.terms:=by
 obtain⟨hA,hN⟩:=autoI_ok hau;have hIk:I[0]?=some (itemsK row):=by rw[←h.items,List.getElem?_map,hk];rfl
 have hi:itemsK row=itemsK (firstK g):=by
  have:=hN.first
  rw[hIk] at this;unfold firstK;rw[closeK_items];exact Option.some.inj this
 have hit:∀{x:Lr},Clos g (itemsK [(⟨⟨g.rules.length,0⟩,2 ^ g.terms⟩:Look)]) x→itI I 0 x:=fun {x} hx=>⟨itemsK row,hIk,by rw[hi];unfold firstK;rw[closeK_items];exact(mem_closL startK_ok).2 hx⟩;have hI:=h.put hk hi closeK_small (fun x t ht=>?_) (fun x t j r ht h1 h2 h3=>?_)
 ·have hst:Started g (L.set 0 (mergeL row (firstK g))):=fun z t ht=>(laK_set hk hi).2 (.inr ⟨rfl,(closeK_bits hg startK_ok).2 ht⟩);exact⟨hi,hI,hst,hst _ _ (.base (List.mem_singleton_self _) (by rw[Nat.testBit_two_pow_self]) (Nat.le_refl _))⟩
 ·rw[show firstK g=closeK g _ from rfl,closeK_bits hg startK_ok] at ht
  induction ht with
  | base h4 h5 _=>
   have e:=List.mem_singleton.1 h4;simp only[Look.mk.injEq] at e;obtain⟨rfl,rfl⟩:=e;rw[Nat.testBit_two_pow] at h5;have:g.terms=_:=of_decide_eq_true h5;rw[←this];exact .start
  | beg h4 h5 h6 h7=>exact .beg0 (hit h4) h5 h6 h7
  | pass h4 h5 h6 h7 _ ih=>exact .pass ih (hit h4) h5 h6 h7
 ·rw[show firstK g=closeK g _ from rfl,closeK_bits hg startK_ok] at ht ⊢;exact .pass ht.clos h1 h2 h3 ht
theorem LaI.done(hg:Valid g)(hau:autoI g=some (I,rows)){L:List (List Look)}(h:LaI g I rows L)(hst:Started g L)(hc:∀s,ZeroA L s∨∀y,CloA g rows L s y):L=lookS g I (LalA g I rows):=by
 obtain⟨hA,hN⟩:=autoI_ok hau;obtain⟨st0,hst0,hz⟩:=hA.zero;have hfull:∀{s:Nat} {x:Lr} {t:Nat},LalA g I rows s x t→laK L s x t:=by
  intro s x t hl;have hgo:∀{s s':Nat} {v:Lr} {u:Nat} {y:Sym},laK L s v u→goR g rows s y=some s'→∃st,L[s]?=some st∧I[s]?=some (itemsK st)∧∀z t,LAc g (kernK g st y) z t→laK L s' z t:=fun {s s' v u y} h1 h2=>by
   obtain⟨st,m,h3,_,_⟩:=id h1;exact⟨st,h3,by rw[←h.items,List.getElem?_map,h3];rfl,(hc s).resolve_left (fun hz=>hz _ _ h1) y s' st h2 h3⟩
  induction hl with
  | start=>exact hst _ _ (.base (List.mem_singleton_self _) (by rw[Nat.testBit_two_pow_self]) (Nat.le_refl _))
  | goto h1 h2 h3 h4 ih=>
   obtain⟨st,e1,_,e2⟩:=hgo ih h4;obtain⟨st',m,e3,e4,e5⟩:=id ih;rw[e1] at e3;obtain rfl:=Option.some.inj e3;exact e2 _ _ (.base (mem_kernK.2 ⟨_,e4,h3,rfl⟩) e5 (h1.le hg))
  | beg0 h1 h2 h3 h4=>
   obtain⟨st',e1,e2⟩:=h1;rw[hst0] at e1;obtain rfl:=Option.some.inj e1;exact hst _ _ (.beg ((hz _).1 e2) h2 h3 h4)
  | beg h1 h2 h3 h4 h5 h6 h7 ih=>
   obtain⟨st,e1,e3,e2⟩:=hgo ih h3;obtain⟨st',e4,e5⟩:=h4;have hex:=goto_exact hg hau h3 e3;rw[e4] at hex;obtain rfl:=Option.some.inj hex;refine e2 _ _ (.beg ?_ h5 h6 h7);rw[kernK_items];exact(mem_closL fun x hx=>(kern_ok x hx).1).1 e5
  | pass h1 h2 h3 h4 h5 ih=>exact h.pass _ _ _ _ _ ih h3 h4 h5
 apply List.ext_getElem?;intro s;rw[lookS_at];cases hL:L[s]? with
 | none=>
  have:I[s]?=none:=by rw[←h.items,List.getElem?_map,hL];rfl
  rw[this];rfl
 | some st=>
  have hIs:I[s]?=some (itemsK st):=by rw[←h.items,List.getElem?_map,hL];rfl
  rw[hIs];simp only[Option.map_some,Option.some.injEq]
  have hnd:(itemsK st).Nodup:=(hN.all (P:=Strict) (closL_strict g _) (fun a b _ hb=>by
   obtain⟨y,_,hy⟩:=List.mem_map.1 hb;split at hy
   ·cases hy
   ·obtain rfl:=Option.some.inj hy;exact closL_strict g _) s _ hIs).nodupL
  unfold itemsK at hnd ⊢;rw[List.map_map];have hkey:∀x∈st,x=(⟨x.item,maskOf (LalA g I rows s x.item) (g.terms+1)⟩:Look):=fun x hx=>by
   obtain⟨xi,xm⟩:=x;simp only[Look.mk.injEq,true_and];refine mask_uniq (h.small st (gM hL) _ hx) fun t=>⟨fun ht=>?_,fun ht=>?_⟩
   ·have:=h.snd s xi t ⟨st,xm,hL,hx,ht⟩;exact⟨Nat.lt_succ_of_le (this.le hg),this⟩
   ·obtain⟨st',m,e1,e2,e3⟩:=hfull ht.2;rw[hL] at e1;obtain rfl:=Option.some.inj e1;have:m=xm:=by
     have hpw:=List.pairwise_map.1 hnd;refine Classical.byContradiction fun hne=>?_;obtain⟨p,hp⟩:=List.getElem?_of_mem hx;obtain⟨q,hq⟩:=List.getElem?_of_mem e2;have hp1:=(gS hp).1;have hq1:=(gS hq).1;have hpq:p≠q:=fun e=>by
      subst e;rw[hp] at hq;simp only[Option.some.injEq,Look.mk.injEq,true_and] at hq;exact hne hq.symm
     have ep:st[p]=⟨xi,xm⟩:=(gS hp).2;have eq_:st[q]=⟨xi,m⟩:=(gS hq).2;have hall:=List.pairwise_iff_getElem.1 hpw;rcases Nat.lt_or_ge p q with h6 | h6
     ·exact hall p q hp1 hq1 h6 (by rw[ep,eq_])
     ·exact hall q p hq1 hp1 zo (by rw[ep,eq_])
    rw[←this];exact e3
  have:st.map (fun x=>(⟨x.item,maskOf (LalA g I rows s x.item) (g.terms+1)⟩:Look))=st:=by
   conv=>rhs;rw[←List.map_id st]
   exact List.map_congr_left fun x hx=>(hkey x hx).symm
  exact this.symm
end
def actsF(g:Gram)(st:List Look)(row:List Int)(t:Nat):List (Nat×Nat):=
 (if t<g.terms then (match row[t]? with | some j=>if 0≤j then [(1,j.toNat)] else [] | none=>[]) else [])++
 st.filterMap fun lk=>if afterL g lk.item=none∧lk.set.testBit t=true then some (if lk.item.rule<g.rules.length then (2,lk.item.rule) else (3,0)) else none
structure Tab where
 act:List (List (Nat×Nat))
 go:List (List Int)
 conf:List (Nat×Nat×List (Nat×Nat))
def allF(g:Gram)(S:List (List Look))(rows:List (List Int)):List (List (List (Nat×Nat))):=(List.range S.length).map fun s=>(List.range (g.terms+1)).map fun t=>actsF g (S.getD s []) (rows.getD s []) t
def confRow(s:Nat)(all:List (List (Nat×Nat)))(n:Nat):List (Nat×Nat×List (Nat×Nat)):=(List.range n).filterMap fun t=>if 1<(all.getD t []).length then some (s,t,all.getD t []) else none
def tabF(all:List (List (List (Nat×Nat))))(go:List (List Int)):Tab where
 act:=all.map fun r=>r.map fun l=>l.head?.getD (0,0)
 go:=go
 conf:=((List.range all.length).map fun s=>confRow s (all.getD s []) (all.getD s []).length).flatten
noncomputable def statesF(g:Gram)(method:Nat):Option (List (List Look)×List (List Int)):=
 if method=3 then autoK g else (autoI g).map fun a=>(lookS g a.1 (if method=1 then fun _=>FolA g else LalA g a.1 a.2),a.2)
noncomputable def tableF(g:Gram)(method:Nat):Option Tab:=(statesF g method).map fun a=>tabF (allF g a.1 a.2) (a.2.map (·.drop g.terms))
theorem statesF_ok{g:Gram}(hg:Valid g){method:Nat}{S:List (List Look)}{rows:List (List Int)}(h:statesF g method=some (S,rows)):AutoC g (S.map itemsK) rows∧LRok g (itI (S.map itemsK)) (laK S) (goR g rows):=by
 unfold statesF at h;split at h
 ·exact⟨(autoK_ok h).1,lr1_ok hg h⟩
 ·cases hA:autoI g with
  | none=>rw[hA] at h;cases h
  | some a=>
   obtain⟨I,rows0⟩:=a;rw[hA] at h;have e:=Option.some.inj h;simp only[Prod.mk.injEq] at e;obtain⟨rfl,rfl⟩:=e;rw[lookS_items];refine⟨(autoI_ok hA).1,?_⟩;split
   ·exact slr_ok hg hA
   ·exact lalr_ok hg hA
def decA:Nat×Nat→Act
 | (1,j)=>.shift j
 | (2,k)=>.red k
 | (3,_)=>.acc
 | _=>.no
def actT(T:Tab)(s t:Nat):Act:=decA ((T.act.getD s []).getD t (0,0))
theorem getD_some{α:Type}{l:List α}{i:Nat}{a d:α}(h:l[i]?=some a):l.getD i d=a:=by rw[List.getD_eq_getElem?_getD,h];rfl
theorem actT_at{g:Gram}{S:List (List Look)}{rows go:List (List Int)}{s t:Nat}:actT (tabF (allF g S rows) go) s t=if s<S.length∧t≤g.terms then decA ((actsF g (S.getD s []) (rows.getD s []) t).head?.getD (0,0)) else .no:=by
 unfold actT tabF allF;dsimp only;by_cases hs:s<S.length
 ·have e1 : (((List.range S.length).map fun s => (List.range (g.terms + 1)).map fun t => actsF g (S.getD s []) (rows.getD s []) t).map fun r => r.map fun l => l.head?.getD (0, 0))[s]? =
    some (((List.range (g.terms+1)).map fun t=>actsF g (S.getD s []) (rows.getD s []) t).map fun l=>l.head?.getD (0,0)):=map_at (map_at (List.getElem?_range hs))
  rw[getD_some e1];by_cases ht:t≤g.terms
  ·rw[if_pos ⟨hs,ht⟩];rw[getD_some (map_at (map_at (List.getElem?_range (show t<g.terms+1 by omega))))]
  ·rw[if_neg (fun h=>ht h.2),List.getD_eq_getElem?_getD,List.getElem?_eq_none (by simp;omega)];rfl
 ·rw[if_neg (fun h=>hs h.1)];have e1:∀(L:List (List (Nat×Nat))),L.length=S.length→L.getD s []=[]:=fun L hL=>by
   rw[List.getD_eq_getElem?_getD,List.getElem?_eq_none zo];rfl
  rw[e1 _ (by simp)];rfl
theorem conf_none{g:Gram}{S:List (List Look)}{rows go:List (List Int)}(h:(tabF (allF g S rows) go).conf=[]){s t:Nat}(hs:s<S.length)(ht:t≤g.terms):(actsF g (S.getD s []) (rows.getD s []) t).length≤1:=by
 unfold tabF at h;dsimp only at h;have hal:(allF g S rows).length=S.length:=by unfold allF;simp
 have hr:(allF g S rows).getD s []=(List.range (g.terms+1)).map fun t=>actsF g (S.getD s []) (rows.getD s []) t:=getD_some (map_at (List.getElem?_range hs));rw[List.flatten_eq_nil_iff] at h;have h2:=h _ (List.mem_map.2 ⟨s,List.mem_range.2 (by rw[hal];exact hs),rfl⟩);rw[hr] at h2;unfold confRow at h2;rw[List.filterMap_eq_nil_iff] at h2;have h3:=h2 t (List.mem_range.2 (by simp;omega));rw[getD_some (map_at (List.getElem?_range (show t<g.terms+1 by omega)))] at h3;split at h3
 ·cases h3
 ·omega
theorem acts_mem{g:Gram}{S:List (List Look)}{rows:List (List Int)}(hA:AutoC g (S.map itemsK) rows){s t:Nat}(hs:s<S.length)(ht:t≤g.terms)(p:Nat×Nat) :
  p∈actsF g (S.getD s []) (rows.getD s []) t↔(decA p≠.no∧(p.1=3→p.2=0))∧ActOf g (itI (S.map itemsK)) (laK S) (goR g rows) s t (decA p):=by
 have hS:=gE hs;generalize S[s]=st at hS;have hSI:(S.map itemsK)[s]?=some (itemsK st):=map_at hS;obtain⟨row,hrow⟩:=hA.rowAt hSI;rw[getD_some hS,getD_some hrow];unfold actsF;rw[List.mem_append,List.mem_filterMap];have hgo:∀j,t<g.terms→(goR g rows s ⟨true,t⟩=some j↔row[t]?=some (j:Int)):=fun j htt=>by
  unfold goR;rw[if_pos (symB_iff.2 (show SymOk g.terms g.nons ⟨true,t⟩ from htt)),hrow];dsimp only;rw[show idxS g ⟨true,t⟩=t from rfl];cases hx:row[t]? with
  | none=>simp
  | some z=>
   dsimp only;split
   ·rename_i hz;constructor
    ·intro e;have:=Option.some.inj e;congr 1;omega
    ·intro e;have:=Option.some.inj e;congr 1;omega
   ·rename_i hz;constructor
    ·intro e;cases e
    ·intro e;have:=Option.some.inj e;omega
 constructor
 ·rintro(h | ⟨⟨z,m⟩,hz,h⟩)
  ·split at h
   ·rename_i htt;split at h
    ·rename_i j hj;split at h
     ·rename_i hj0;rw[List.mem_singleton.1 h];refine⟨⟨Act.noConfusion,fun e=>by cases e⟩,.shift htt ((hgo _ htt).2 (by rw[hj];congr 1;omega))⟩
     ·cases h
    ·cases h
   ·cases h
  ·dsimp only at h;split at h
   ·rename_i hc;obtain⟨hc1,hc2⟩:=hc;have hzI:z∈itemsK st:=List.mem_map.2 ⟨_,hz,rfl⟩;have hok:=hA.ok s _ hSI z hzI;have hit:itI (S.map itemsK) s z:=⟨_,hSI,hzI⟩;have hla:laK S s z t:=⟨st,m,hS,hz,hc2⟩;rw[afterL_right,List.getElem?_eq_none_iff] at hc1;have hzd:z.dot=(rightL g z.rule).length:=Nat.le_antisymm hok.2 hc1;obtain⟨Z,zd⟩:=z;dsimp only at hzd;split at h
    ·rename_i hlt;obtain rfl:=Option.some.inj h;have hlt:Z<g.rules.length:=hlt;have hr:=gE hlt;refine⟨⟨Act.noConfusion,fun e=>by cases e⟩,?_⟩;rw[rightL_rule hr] at hzd;subst hzd;exact .red hr hit hla
    ·rename_i hlt;obtain rfl:=Option.some.inj h;have hzr:Z=g.rules.length:=by
      have:=hok.1;dsimp only at this hlt;omega
     subst hzr;rw[rightL_start] at hzd;have hzd:zd=1:=hzd;subst hzd;exact⟨⟨Act.noConfusion,fun _=>rfl⟩,.acc hit hla⟩
   ·cases h
 ·rintro⟨⟨hne,h3⟩,h⟩;obtain⟨a,b⟩:=p;generalize hd:decA (a,b)=q at h hne;cases h with
  | @shift s' htt hgo'=>
   left;rw[if_pos htt];rw[hgo _ htt] at hgo';rw[hgo'];dsimp only;rw[if_pos zo];unfold decA at hd;split at hd<;>simp_all
  | @red k r hr hit hla=>
   right;obtain⟨st2,m,g1,g2,g3⟩:=hla;rw[hS] at g1;obtain rfl:=Option.some.inj g1;have hk:=(gS hr).1;refine⟨_,g2,?_⟩;dsimp only;rw[if_pos ⟨by rw[afterL_right];show (rightL g k)[r.right.length]?=none;rw[rightL_rule hr];exact List.getElem?_eq_none (Nat.le_refl _),g3⟩,if_pos hk];unfold decA at hd;split at hd<;>simp_all
  | acc hit hla=>
   right;obtain⟨st2,m,g1,g2,g3⟩:=hla;rw[hS] at g1;obtain rfl:=Option.some.inj g1;refine⟨_,g2,?_⟩;dsimp only;rw[if_pos ⟨by rw[afterL_right];show (rightL g g.rules.length)[1]?=none;rw[rightL_start];rfl,g3⟩,if_neg (Nat.lt_irrefl _)];unfold decA at hd;split at hd<;>simp_all
theorem only_ok{g:Gram}(hg:Valid g){S:List (List Look)}{rows go:List (List Int)}(hA:AutoC g (S.map itemsK) rows)(hla:∀s x t,laK S s x t→t≤g.terms)(h:(tabF (allF g S rows) go).conf=[]) :
  Only g (itI (S.map itemsK)) (laK S) (goR g rows) (actT (tabF (allF g S rows) go)):=by
 have hcode:∀a:Act,a≠.no→∃p,decA p=a∧(p.1=3→p.2=0):=fun a ha=>by
  cases a with
  | no=>exact absurd rfl ha
  | shift j=>exact⟨(1,j),rfl,fun e=>by cases e⟩
  | red k=>exact⟨(2,k),rfl,fun e=>by cases e⟩
  | acc=>exact⟨(3,0),rfl,fun _=>rfl⟩
 have hrange:∀{s t:Nat} {a:Act},ActOf g (itI (S.map itemsK)) (laK S) (goR g rows) s t a→s<S.length∧t≤g.terms∧a≠.no:=fun {s t a} ha=>by
  have hit:∀{x:Lr},itI (S.map itemsK) s x→s<S.length:=fun {x} ⟨st,hst,_⟩=>by
   have:=(gS hst).1;rw[List.length_map] at this;exact this
  cases ha with
  | shift h1 h2=>
   obtain⟨st,st',h3,_⟩:=hA.goes hg h2;have:=(gS h3).1;rw[List.length_map] at this;exact⟨this,Nat.le_of_lt h1,Act.noConfusion⟩
  | red h1 h2 h3=>exact⟨hit h2,hla _ _ _ h3,Act.noConfusion⟩
  | acc h2 h3=>exact⟨hit h2,hla _ _ _ h3,Act.noConfusion⟩
 constructor
 ·intro s t a ha;obtain⟨hs,ht,hne⟩:=hrange ha;obtain⟨p,rfl,h3⟩:=hcode a hne;have hm:=(acts_mem hA hs ht p).2 ⟨⟨hne,h3⟩,ha⟩;have hl:=conf_none h hs ht;rw[actT_at,if_pos ⟨hs,ht⟩];generalize actsF g (S.getD s []) (rows.getD s []) t=L at hm hl
  match L,hm,hl with
  | [q],hm,_=>rw[List.mem_singleton.1 hm];rfl
  | _::_::_,_,hl=>simp at hl
 ·intro s t hne;rw[actT_at] at hne ⊢;split at hne
  ·rename_i hst;rw[if_pos hst];have hm:=acts_mem hA hst.1 hst.2;generalize actsF g (S.getD s []) (rows.getD s []) t=L at hm hne;cases L with
   | nil=>exact absurd rfl hne
   | cons q L=>exact((hm q).1 me).2
  ·exact absurd rfl hne
def strB(l:List UInt8):ByteArray:=⟨l.toArray⟩
theorem strB_inj{a b:List UInt8}(h:strB a=strB b):a=b:=by
 have:=congrArg (fun x:ByteArray=>x.data.toList) h;exact this
theorem strB_app(a b:List UInt8):strB a++strB b=strB (a++b):=by
 apply ByteArray.ext;rw[ByteArray.data_append];unfold strB;simp
theorem strB_size(a:List UInt8):(strB a).size=a.length:=by unfold strB ByteArray.size;simp
def isDig(x:UInt8):Prop:=48≤x.toNat∧x.toNat≤57
def itoaB(n:Nat):List UInt8:=if n<10 then [UInt8.ofNat (48+n)] else [UInt8.ofNat (48+n / 10),UInt8.ofNat (48+n % 10)]
theorem itoaB_dig{n:Nat}(h:n<100):∀x∈itoaB n,isDig x:=by
 intro x hx;unfold itoaB at hx;unfold isDig;split at hx
 ·rw[List.mem_singleton.1 hx,UInt8.toNat_ofNat'];omega
 ·rcases List.mem_cons.1 hx with rfl | hx
  ·rw[UInt8.toNat_ofNat'];omega
  ·rw[List.mem_singleton.1 hx,UInt8.toNat_ofNat'];omega
theorem u8_inj{a b:Nat}(ha:a<256)(hb:b<256)(h:UInt8.ofNat a=UInt8.ofNat b):a=b:=by
 have:=congrArg UInt8.toNat h;rw[UInt8.toNat_ofNat',UInt8.toNat_ofNat'] at this;omega
theorem itoaB_inj{n m:Nat}(hn:n<100)(hm:m<100)(h:itoaB n=itoaB m):n=m:=by
 unfold itoaB at h;split at h<;>split at h
 ·have:=u8_inj zo zo (List.head_eq_of_cons_eq h);omega
 ·exact absurd (congrArg List.length h) (by simp)
 ·exact absurd (congrArg List.length h) (by simp)
 ·have h1:=u8_inj zo zo (List.head_eq_of_cons_eq h);have h2:=u8_inj zo zo (List.head_eq_of_cons_eq (List.tail_eq_of_cons_eq h));omega
theorem split_dig:∀{a b r s:List UInt8} {c d:UInt8},(∀x∈a,isDig x)→(∀x∈b,isDig x)→¬isDig c→¬isDig d→a++c::r=b++d::s→a=b∧c=d∧r=s
 | [],[],r,s,c,d,_,_,_,_,h=>by
  exact⟨rfl,List.head_eq_of_cons_eq h,List.tail_eq_of_cons_eq h⟩
 | [],y::b,r,s,c,d,_,hb,hc,_,h=>by
  have:=List.head_eq_of_cons_eq h;exact absurd (this▸hb y me) hc
 | x::a,[],r,s,c,d,ha,_,_,hd,h=>by
  have:=List.head_eq_of_cons_eq h;exact absurd (this▸ha x me) hd
 | x::a,y::b,r,s,c,d,ha,hb,hc,hd,h=>by
  have h1:=List.head_eq_of_cons_eq h;have h2:=List.tail_eq_of_cons_eq h;obtain⟨h3,h4,h5⟩:=split_dig (fun z hz=>ha z (List.mem_cons_of_mem _ hz)) (fun z hz=>hb z (List.mem_cons_of_mem _ hz)) hc hd h2;exact⟨by rw[h1,h3],h4,h5⟩
theorem no_dig{c:UInt8}(h:c=46∨c=32∨c=59):¬isDig c:=by
 rcases h with rfl | rfl | rfl<;>(unfold isDig;decide)
def keyIt(x:Lr):List UInt8:=itoaB x.rule++46::itoaB x.dot
def keyLk(x:Look):List UInt8:=keyIt x.item++32::itoaB x.set
def nameF{σ:Type}(key:σ→List UInt8):List σ→List UInt8
 | []=>[]
 | x::l=>key x++59::nameF key l
theorem nameF_snoc{σ:Type}(key:σ→List UInt8)(x:σ):∀l:List σ,nameF key (l++[x])=nameF key l++(key x++[59])
 | []=>by simp[nameF]
 | y::l=>by simp[nameF,nameF_snoc key x l]
theorem nameF_inj{σ:Type}{key:σ→List UInt8}{P:σ→Prop}(h:∀x y r s,P x→P y→key x++59::r=key y++59::s→x=y∧r=s):∀{l m:List σ},(∀x∈l,P x)→(∀x∈m,P x)→nameF key l=nameF key m→l=m
 | [],[],_,_,_=>rfl
 | [],y::m,_,_,e=>by exact absurd (congrArg List.length e) (by simp[nameF])
 | x::l,[],_,_,e=>by exact absurd (congrArg List.length e) (by simp[nameF])
 | x::l,y::m,hl,hm,e=>by
  obtain⟨h1,h2⟩:=h x y _ _ (hl x me) (hm y me) e;rw[h1,nameF_inj h (fun z hz=>hl z (List.mem_cons_of_mem _ hz)) (fun z hz=>hm z (List.mem_cons_of_mem _ hz)) h2]
theorem keyIt_inj(x y:Lr)(c:UInt8)(r s:List UInt8)(hc:c=46∨c=32∨c=59)(hx:x.rule<100∧x.dot<100)(hy:y.rule<100∧y.dot<100)(h:keyIt x++c::r=keyIt y++c::s):x=y∧r=s:=by
 unfold keyIt at h;rw[List.append_assoc,List.append_assoc] at h;have h:itoaB x.rule++46::(itoaB x.dot++c::r)=itoaB y.rule++46::(itoaB y.dot++c::s):=h;obtain⟨h1,_,h2⟩:=split_dig (itoaB_dig hx.1) (itoaB_dig hy.1) (no_dig (.inl rfl)) (no_dig (.inl rfl)) h;obtain⟨h3,_,h4⟩:=split_dig (itoaB_dig hx.2) (itoaB_dig hy.2) (no_dig hc) (no_dig hc) h2;have e1:=itoaB_inj hx.1 hy.1 h1;have e2:=itoaB_inj hx.2 hy.2 h3;obtain⟨a,b⟩:=x;obtain⟨a',b'⟩:=y;simp only at e1 e2;subst e1 e2;exact⟨rfl,h4⟩
theorem nameI_inj{l m:List Lr}(hl:∀x∈l,x.rule<100∧x.dot<100)(hm:∀x∈m,x.rule<100∧x.dot<100)(h:nameF keyIt l=nameF keyIt m):l=m:=
 nameF_inj (P:=fun x:Lr=>x.rule<100∧x.dot<100) (fun x y r s hx hy e=>keyIt_inj x y 59 r s (.inr (.inr rfl)) hx hy e) hl hm h
theorem nameK_inj{l m:List Look}(hl:∀x∈l,(x.item.rule<100∧x.item.dot<100)∧x.set<100)(hm:∀x∈m,(x.item.rule<100∧x.item.dot<100)∧x.set<100)(h:nameF keyLk l=nameF keyLk m):l=m:=
 nameF_inj (P:=fun x:Look=>(x.item.rule<100∧x.item.dot<100)∧x.set<100) (fun x y r s hx hy e=>by
  unfold keyLk at e;rw[List.append_assoc,List.append_assoc] at e;have e:keyIt x.item++32::(itoaB x.set++59::r)=keyIt y.item++32::(itoaB y.set++59::s):=e;obtain⟨h1,h2⟩:=keyIt_inj x.item y.item 32 _ _ (.inr (.inl rfl)) hx.1 hy.1 e;obtain⟨h3,_,h4⟩:=split_dig (itoaB_dig hx.2) (itoaB_dig hy.2) (no_dig (.inr (.inr rfl))) (no_dig (.inr (.inr rfl))) h2;have h5:=itoaB_inj hx.2 hy.2 h3;obtain⟨a,b⟩:=x;obtain⟨a',b'⟩:=y;simp only at h1 h5;subst h1 h5;exact⟨rfl,h4⟩) hl hm h
theorem bytes_beq(x y:ByteArray):(x==y)=true↔x=y:=by
 constructor
 ·intro h;obtain⟨x⟩:=x;obtain⟨y⟩:=y;have:(x==y)=true:=h;congr 1;exact eq_of_beq this
 ·rintro rfl;obtain⟨x⟩:=x;show (x==x)=true;exact beq_self_eq_true x
theorem und_str:CC.und 9=some .string:=und_string hT (r:=⟨9,.string,1,16,.string ByteArray.empty⟩) rfl rfl
def keyStr:KeyTy CC 9 (List UInt8) where
 key:=fun l=>.string (strB l)
 ok:=fun l=>by
  unfold keyOk;simp only[und_str];rfl
 eq:=fun a b=>by
  have h:eqA CC 8 9 (.string (strB a)) (.string (strB b))=some (strB a==strB b):=by
   unfold eqA;simp only[und_str];rfl
  by_cases e:a=b
  ·subst e;exact .inl ⟨rfl,by rw[h,(bytes_beq _ _).2 rfl]⟩
  ·have e2:(strB a==strB b)=false:=by
    cases hb:(strB a==strB b) with
    | false=>rfl
    | true=>exact absurd (strB_inj ((bytes_beq _ _).1 hb)) e
   exact .inr ⟨e,by rw[h,e2]⟩
end Go.Proofs.D
set_option linter.unusedVariables false
set_option maxRecDepth 20000
set_option maxHeartbeats 0
open Go Go.Abs Go.Proofs Go.Proofs.D
namespace Go.Abs
section
variable {C:Ctx}{T:RT}{n:Nat}{k:Kno}{F:Frz}{own:Own}{ops rest:List Oper}{o:Oper}{Q:Kno→Frz→Own→List Rec→Prop}
theorem WT.sliceTab(hT:rowsOk C T=true){t:TypeId}{xo lo hi:Operand}{s:ByteArray}{j m:Nat}{kd kd2:IntKind}{r:Row}(a b:Nat→Nat)(f:Nat→List UInt8)(hop:o.op=.slice t xo (some lo) (some hi) none)(hw:wantK ops k o=some true){dst:Nat}(hdst:o.dst=some dst)(hn:Nat.blt dst n=true)
  (hx:evK C k xo=some (.string s)) (hl:evK C k lo=some (.int kd (a j:Nat))) (hh:evK C k hi=some (.int kd2 (b j:Nat))) (hr:rowOf T t=some r) (hd:r.d=.string) (hj:j<m)
  (htab:((List.range m).all fun j=>Nat.ble (a j) (b j)&&Nat.ble (b j) s.size&&((s.extract (a j) (b j)).data.toList==f j))=true)
  (h:WT C n ops rest ((dst,.string ⟨(f j).toArray⟩)::k) F own (fun k2 F2 own2 rs=>Q k2 F2 own2 (⟨F,own,F,own,[]⟩::rs))):WT C n ops (o::rest) k F own Q:=by
 have h1:=List.all_eq_true.1 htab j (List.mem_range.2 hj);simp only[Bool.and_eq_true,beq_iff_eq] at h1;obtain⟨⟨h2,h3⟩,h4⟩:=h1;have h5:s.extract (a j) (b j)=⟨(f j).toArray⟩:=by
  apply ByteArray.ext;rw[←h4]
 refine WT.still (l:=[]) hw (by rw[hop];simp only[looksK,hx]) (fun h0 _=>?_) (by rw[hdst,putK_some hn];exact h);rw[hop];have h6:optA (evK C k) none=some none:=rfl;simp only[opA,hx,optA,hl,hh,sliceA,und_string hT hr hd,boundA,Option.map_some];rw[if_pos (Int.natCast_nonneg _),if_pos (Int.natCast_nonneg _),Int.toNat_natCast,Int.toNat_natCast];simp only[h2,h3,Bool.and_self,cond_true,h5,Option.map_some]
theorem WT.addStr{t ty:TypeId}{xo yo:Operand}{a b:ByteArray}(hop:o.op=.binOp .add t xo yo ty)(hw:wantK ops k o=some true){dst:Nat}(hdst:o.dst=some dst)(hn:Nat.blt dst n=true)
  (hx:evK C k xo=some (.string a)) (hy:evK C k yo=some (.string b)) (hs:a.size+b.size≤9223372036854775807)
  (h:WT C n ops rest ((dst,.string (a++b))::k) F own (fun k2 F2 own2 rs=>Q k2 F2 own2 (⟨F,own,F,own,[]⟩::rs))):WT C n ops (o::rest) k F own Q:=by
 refine WT.still (l:=[]) hw (by rw[hop];simp only[looksK,hx,hy];rfl) (fun h0 _=>?_) (by rw[hdst,putK_some hn];exact h);rw[hop];have h2:Nat.ble (a.size+b.size) 9223372036854775807=true:=Nat.ble_eq_true_of_le hs;simp only[opA,hx,hy,binA,stringBinA,h2,cond_true,Option.map_some]
end
end Go.Abs
namespace Go.Proofs.D
theorem nosh:BinOp.mul≠.shl∧BinOp.mul≠.shr:=⟨fun h=>(by cases h),fun h=>(by cases h)⟩
theorem mulr2{i:Nat}(h:2*i≤9223372036854775807):intBinA .mul .i64 (i:Int) 2=some (.int .i64 ((2*i:Nat):Int)):=by
 simp only[intBinA];rw[wrap64 ⟨by omega,by omega⟩];congr 2;omega
theorem small_spec(F:Frz)(i:Nat)(hi:i<100):Abs.Spec CC 188 [.int .i64 i] F [] fun _ v o=>o=[]∧v=.string (strB (itoaB i)):=by
 refine Abs.Spec.fn (n:=15) Tryz.func188 rfl rfl fun own=>?_;refine zC4 ?_;refine AW.cond Z (fun h=>?_) (fun h=>?_)
 ·have h:i<10:=by simp at h;omega
  refine zC4 ?_;refine WT.sliceTab hT (j:=i) (m:=10) (fun j=>j) (fun j=>j+1) itoaB Z Z Z Z Z Z Z Z Z h (by decide +kernel) ?_;refine zC4 ?_;exact AW.ret ⟨_,[],⟨_,_,rfl,rfl,rfl⟩,zsb,rfl,rfl⟩
 ·have h:¬i<10:=by simp at h;omega
  refine zC4 ?_;refine WT.binV (v:=.int .i64 ((2*i:Nat):Int)) Z Z Z Z Z Z nosh (mulr2 zo) ?_;refine zC4 ?_;refine WT.binV (v:=.int .i64 ((2*i:Nat):Int)) Z Z Z Z Z Z nosh (mulr2 zo) ?_;refine zC4 ?_;refine WT.sliceTab hT (j:=i) (m:=100) (fun j=>2*j) (fun j=>2*j+2) (fun j=>[UInt8.ofNat (48+j / 10),UInt8.ofNat (48+j % 10)]) Z Z Z Z Z Z Z Z Z hi (by decide +kernel) ?_;refine zC4 ?_;refine AW.ret ⟨_,[],⟨_,_,rfl,rfl,rfl⟩,zsb,rfl,?_⟩;unfold itoaB;rw[if_neg h];rfl
theorem formatInt_spec(F:Frz)(i:Nat)(hi:i<100):Abs.Spec CC 170 [.int .i64 i,.int .i64 10] F [] fun _ v o=>o=[]∧v=.string (strB (itoaB i)):=by
 refine Abs.Spec.fn (n:=54) Tryz.func170 rfl rfl fun own=>?_;refine zC4 ?_;refine AW.cond Z (fun _=>?_) (fun h=>(by cases h));refine zC4 ?_;refine AW.cond Z (fun _=>?_) (fun h=>(by simp at h;omega));refine zC4 ?_;refine WT.callV Tryz.func188 Z Z Z Z Z Z (small_spec _ i hi) (fun v hv=>?_);subst hv;refine zC4 ?_;exact AW.ret ⟨_,[],⟨_,_,rfl,rfl,rfl⟩,zsb,rfl,rfl⟩
theorem itoa0_spec(F:Frz)(i:Nat)(hi:i<100):Abs.Spec CC 153 [.int .i64 i] F [] fun _ v o=>o=[]∧v=.string (strB (itoaB i)):=by
 refine Abs.Spec.fn (n:=5) Tryz.func153 rfl rfl fun own=>?_;refine zC4 ?_;refine WT.callV Tryz.func170 Z Z Z Z Z Z (formatInt_spec _ i hi) (fun v hv=>?_);subst hv;refine zC4 ?_;exact AW.ret ⟨_,[],⟨_,_,rfl,rfl,rfl⟩,zsb,rfl,rfl⟩
theorem itoa_spec(F:Frz)(i:Nat)(hi:i<100):Abs.Spec CC 130 [.int .i64 i] F [] fun _ v o=>o=[]∧v=.string (strB (itoaB i)):=by
 refine Abs.Spec.fn (n:=5) Tryz.func130 rfl rfl fun own=>?_;refine zC4 ?_;refine WT.callV Tryz.func153 Z Z Z Z Z Z (itoa0_spec _ i hi) (fun v hv=>?_);subst hv;refine zC4 ?_;exact AW.ret ⟨_,[],⟨_,_,rfl,rfl,rfl⟩,zsb,rfl,rfl⟩
theorem itoaB_len(i:Nat):(itoaB i).length≤2:=by unfold itoaB;split<;>simp
theorem keyIt_spec(F:Frz)(x:Lr)(hx:x.rule<100∧x.dot<100):Abs.Spec CC 129 [.agg ⟨[.int .i64 x.rule,.int .i64 x.dot]⟩] F [] fun _ v o=>o=[]∧v=.string (strB (keyIt x)):=by
 have h1:=itoaB_len x.rule;have h2:=itoaB_len x.dot;refine Abs.Spec.fn (n:=11) Tryz.func129 rfl rfl fun own=>?_;refine AW.seq (AW.reg ?_);refine WT.boxT Z Z Z Z Z Z (fun i1 hi1=>?_);refine zC4 ?_;refine AW.draw (ps:=[(3,6),(5,2)]) Z Z ?_;refine zC4 ?_;refine WT.callV Tryz.func130 Z Z Z Z Z Z (itoa_spec _ x.rule hx.1) (fun v hv=>?_);subst hv;refine WT.addStr Z Z Z Z Z Z (by rw[strB_size];show _+1≤_;omega) ?_;refine zC4 ?_;refine WT.callV Tryz.func130 Z Z Z Z Z Z (itoa_spec _ x.dot hx.2) (fun v hv=>?_);subst hv
 refine WT.addStr Z Z Z Z Z Z (by rw[show (strB (itoaB x.rule)++{ data:=#[46] }:ByteArray)=strB (itoaB x.rule)++strB [46] from rfl,strB_app,strB_size,strB_size,List.length_append];show _+1+_≤_;omega) ?_;refine zC4 ?_;refine⟨zrC,?_⟩;refine AW.ret ⟨_,[],⟨_,_,rfl,rfl,rfl⟩,zsb,rfl,?_⟩;show Value.string (strB (itoaB x.rule)++strB [46]++strB (itoaB x.dot))=_;rw[strB_app,strB_app,List.append_assoc];rfl
theorem keyIt_len(x:Lr):(keyIt x).length≤5:=by
 have h1:=itoaB_len x.rule;have h2:=itoaB_len x.dot;unfold keyIt;simp only[List.length_append,List.length_cons];omega
def LrOk(g:Gram)(x:Lr):Prop:=x.rule≤g.rules.length∧x.dot≤(if x.rule=g.rules.length then 1 else ((g.rules[x.rule]?).map (·.right.length)).getD 0)
theorem Clos.ok{g:Gram}{l:List Lr}(hl:∀x∈l,LrOk g x){x:Lr}(h:Clos g l x):LrOk g x:=by
 induction h with
 | base h=>exact hl _ h
 | more _ _ h _ _=>exact⟨Nat.le_of_lt (gS h).1,Nat.zero_le _⟩
theorem lrClose_spec(F:Frz)(g:Gram)(hg:Valid g){a:Option Addr}{m c:Nat}(hr:Arr tRule F a m c g.rules){b:Option Addr}{n d:Nat}{l:List Lr}(hl:Arr tLr F b n d l)(hn:n≤1000)(hok:∀x∈l,LrOk g x) :
  Abs.Spec CC 151 [.agg ⟨gramCells g a m c⟩,.slice b n d] F [] fun F' v o=>o=[]∧∃a' m' c' zs,v=.tuple ⟨[.slice a' m' c',.int .i64 0]⟩∧Arr tLr F' a' m' c' zs∧m'≤n+m∧Strict zs∧∀z,z∈zs↔Clos g l z:=by
 have hml:=hr.len;have hll:=hl.len;have hgl:=hg.range.rules;have hg4:∀r∈g.rules,r.right.length≤100:=fun r h=>by have:=(hg.right r h).2.1;omega
 unfold gramCells;refine Abs.Spec.fn (n:=50) Tryz.func151 rfl rfl fun own=>?_;refine AW.seq (AW.reg ?_);refine WT.boxT Z Z Z Z Z Z (fun i2 hi2=>?_);refine zB4 ?_;refine WT.callV Tryz.func35 Z Z Z Z Z Z (check_spec _ g hg.range hr) (fun v hv=>?_);rw[hg.no_err] at hv;subst hv;refine zB4 ?_;refine AW.cond Z (fun h=>(by cases h)) (fun _=>?_);refine zB4 ?_;refine AW.range (S:=Unit) (fun _=>[]) (fun _=>_) (fun j _ G=>True) n () Z Z Z Z Z Z Z Z Z zo Z Z (fun _=>rfl) (fun _=>rfl) sM oR trivial ?_ ?_
 ·intro j _ F1 hF1 hj _;have hr1:=hr.mono hF1;have hl1:=hl.mono hF1;refine zB4 ?_;refine WT.idxL hT hl1 Z Z Z Z Z Z Z Z Z zo (fun x hxj b1 off ro cs lx hb hp1 hrel=>?_);obtain rfl:lx=_:=hrel;obtain⟨hx1,hx2⟩:=hok x (gM hxj);refine zB4 ?_;refine WT.allocT hT Z Z Z Z Z Z (fun i8 hi8=>?_);refine zB4 ?_;refine AW.draw (ps:=[(18,22)]) Z Z ?_;refine zB4 ?_;refine WT.split 23 Z (fun h=>(by simp at h;omega)) (fun _=>?_);refine WT.split 31 Z (fun h=>(by simp at h;omega)) (fun _=>?_);refine zB4 ?_;refine WT.split 36 Z (fun h=>(by simp at h;omega)) (fun _=>?_)
  refine WT.callV Tryz.func124 Z Z Z Z Z Z (lrRight_spec _ g hg4 hr1 zo x.rule zo) (fun v hv=>?_);obtain⟨rb,rn,rd,rfl,hrn⟩:=hv;rw[←hml] at hx2;rw[←hrn] at hx2;refine zB4 ?_;refine⟨zrC,?_⟩;refine AW.cond Z (fun h=>(by simp at h;omega)) (fun _=>?_);refine zB4 ?_;exact⟨(),sM,zow,trivial⟩
 ·intro _ F1 hF1 _;have hr1:=hr.mono hF1;have hl1:=hl.mono hF1;refine zB4 ?_;refine WT.callF0 Tryz.func133 Z Z Z Z Z Z (closure_spec _ g hg4 hr1 zo hl1 hn (fun x hx=>(hok x hx).1)) (fun F2 v hF2 hv=>?_);obtain⟨a8,m8,c8,zs,rfl,hz,hzm,hst,hmem⟩:=hv;refine zB4 ?_;exact AW.ret ⟨_,[],⟨_,_,rfl,⟨_,_,rfl,rfl,rfl⟩,rfl⟩,zsb,rfl,a8,m8,c8,zs,rfl,hz,hzm,hst,hmem⟩
structure ISt where
 xs:List Lr
 a:Option Addr
 c:Nat
 B:List (Nat×Blk)
structure SyS where
 a:Option Addr
 m:Nat
 c:Nat
 B:List (Nat×Blk)
theorem symsL_T{g:Gram}{j:Nat}(h:j<g.terms):(symsL g).take (j+1)=(symsL g).take j++[⟨true,j⟩]:=by
 have:(symsL g)[j]?=some ⟨true,j⟩:=symsL_at (y:=⟨true,j⟩) h;rw[List.take_add_one,this];rfl
theorem symsL_N{g:Gram}{j:Nat}(h:j<g.nons):(symsL g).take (g.terms+j+1)=(symsL g).take (g.terms+j)++[⟨false,j⟩]:=by
 have:(symsL g)[j+g.terms]?=some ⟨false,j⟩:=symsL_at (y:=⟨false,j⟩) h;rw[Nat.add_comm] at this;rw[List.take_add_one,this];rfl
theorem symbols_spec(F:Frz)(g:Gram)(hg:Valid g){a:Option Addr}{m c:Nat} :
  Abs.Spec CC 127 [.agg ⟨gramCells g a m c⟩] F [] fun F' v o=>o=[]∧∃a' n' c',v=.slice a' n' c'∧Arr tSym F' a' n' c' (symsL g):=by
 have hgt:=hg.range.terms;have hgn:=hg.range.nons;unfold gramCells;refine Abs.Spec.fn (n:=29) Tryz.func127 rfl rfl fun own=>?_;refine AW.seq (AW.reg ?_);refine WT.boxT Z Z Z Z Z Z (fun i1 hi1=>?_);refine zC4 ?_;refine AW.range (S:=SyS) (fun s=>[(3,.slice s.a s.m s.c)]) (fun s=>s.B::[(i1,.cells false [.int .i64 g.terms,.int .i64 g.nons,.int .i64 g.start,.slice a m c])]::own) (fun j s G=>Bld tSym G s.a s.m s.c s.B ((symsL g).take j)) g.terms ⟨none,0,0,[]⟩
  Z Z Z Z Z Z Z Z Z zo rfl rfl (fun _=>rfl) (fun _=>rfl) sM (OwnLe.flat (List.Perm.refl _)) (Bld.nil_ _ _) ?_ ?_
 ·intro j s F1 hF1 hj hb;have hbl:=hb.len;rw[List.length_take,symsL_len] at hbl;refine zC4 ?_;refine WT.callV Tryz.func104 Z Z Z Z Z Z (gT_spec _ _) (fun v hv=>?_);subst hv;refine WT.buildT hT Z Z Z Z Z Z Z Z Z Z Z Z Z Z (fun i9 hi9=>?_);refine WT.appendT (R:=tSym) (ys:=[(⟨true,j⟩:Sym)]) hT 1 hb Z (fun _=>rfl) Z Z Z Z Z Z Z Z Z Z Z (fun h0 s0=>news_own hT s0 0 Z Z Z Z) (Cells.single (R:=tSym) (x:=⟨true,j⟩) rfl) Z (by decide) zom (fun a3 c3 B3 hB3=>?_);refine zC4 ?_;exact⟨⟨a3,s.m+1,c3,B3⟩,sM,zow,by show Bld tSym _ _ _ _ _ ((symsL g).take (j+1));rw[symsL_T hj];exact hB3⟩
 ·intro s F1 hF1 hb;refine zC4 ?_;refine AW.range (S:=SyS) (fun s=>[(3,.slice s.a s.m s.c)]) (fun s=>s.B::[(i1,.cells false [.int .i64 g.terms,.int .i64 g.nons,.int .i64 g.start,.slice a m c])]::own) (fun j s G=>Bld tSym G s.a s.m s.c s.B ((symsL g).take (g.terms+j))) g.nons ⟨s.a,s.m,s.c,s.B⟩
   Z Z Z Z Z Z Z Z Z zo rfl rfl (fun _=>rfl) (fun _=>rfl) sM oR hb ?_ ?_
  ·intro j s F2 hF2 hj hb;have hbl:=hb.len;rw[List.length_take,symsL_len] at hbl;refine zC4 ?_;refine WT.callV Tryz.func101 Z Z Z Z Z Z (gN_spec _ _) (fun v hv=>?_);subst hv;refine WT.buildT hT Z Z Z Z Z Z Z Z Z Z Z Z Z Z (fun i9 hi9=>?_);refine WT.appendT (R:=tSym) (ys:=[(⟨false,j⟩:Sym)]) hT 1 hb Z (fun _=>rfl) Z Z Z Z Z Z Z Z Z Z Z (fun h0 s0=>news_own hT s0 0 Z Z Z Z) (Cells.single (R:=tSym) (x:=⟨false,j⟩) rfl) Z (by decide) zom (fun a3 c3 B3 hB3=>?_);refine zC4 ?_;exact⟨⟨a3,s.m+1,c3,B3⟩,sM,zow,by show Bld tSym _ _ _ _ _ ((symsL g).take (g.terms+j+1));rw[symsL_N hj];exact hB3⟩
  ·intro s F2 hF2 hb;rw[List.take_of_length_le (by rw[symsL_len];exact Nat.le_refl _)] at hb;refine AW.freezeAll 0 Z Z (fun F3 hF3 hB3=>?_);refine zC4 ?_;exact AW.ret ⟨_,[],⟨_,_,rfl,rfl,rfl⟩,zsb,rfl,_,_,_,rfl,hb.frozen hF3 hB3⟩
noncomputable def nextI(g:Gram)(st:List Lr)(y:Sym):Option (List Lr):=if kern g st y=[] then none else some (closL g (kern g st y))
theorem kern_take{g:Gram}{st:List Lr}{y:Sym}{j:Nat}{x:Lr}(h:st[j]?=some x):kern g (st.take (j+1)) y=kern g (st.take j) y++(if afterL g x=some y then [⟨x.rule,x.dot+1⟩] else []):=by
 unfold kern;rw[List.take_add_one,h,List.filterMap_append];congr 1;simp only[Option.toList_some,List.filterMap_cons,List.filterMap_nil];by_cases e:afterL g x=some y
 ·rw[if_pos e,if_pos e]
 ·rw[if_neg e,if_neg e]
structure NxS where
 a:Option Addr
 m:Nat
 c:Nat
 B:List (Nat×Blk)
 l:List Lr
theorem nextI_spec(F:Frz)(g:Gram)(hg:Valid g){ig:Nat}{ro:Bool}{a:Option Addr}{m c:Nat}(hi:F ig=some (.cells ro (gramCells g a m c)))(hr:Arr tRule F a m c g.rules){b:Option Addr}{n d:Nat}{st:List Lr}(hst:Arr tLr F b n d st)(hn:n≤1000)(hok:∀x∈st,OkLr g x)(y:Sym)(hy:SymOk g.terms g.nons y) :
  Abs.Spec CC 134 [.slice b n d,.agg ⟨[.bool y.term,.int .i64 y.n]⟩,.pointer (some ⟨ig,0,none⟩)] F [] fun F' v o=>o=[]∧∃a' n' c' z s,v=.tuple ⟨[.slice a' n' c',.bool z]⟩∧Arr tLr F' a' n' c' s∧nextI g st y=if z=true then some s else none:=by
 have hgr:=hg.range.rules;have hrl:=hr.len;have hsl:=hst.len;have hg4:∀r∈g.rules,r.right.length≤100:=fun r h=>by have:=(hg.right r h).2.1;omega
 unfold gramCells at hi;obtain⟨yt,yn⟩:=y;refine Abs.Spec.fn (n:=46) Tryz.func134 rfl rfl fun own=>?_;refine AW.seq (AW.reg ?_);refine WT.boxT Z Z Z Z Z Z (fun i4 hi4=>?_);refine zC4 ?_;refine AW.range (S:=NxS) (fun s=>[(7,.slice s.a s.m s.c)]) (fun s=>s.B::[(i4,.cells false [.bool yt,.int .i64 yn])]::own) (fun j s G=>Bld tLr G s.a s.m s.c s.B s.l∧s.l=kern g (st.take j) ⟨yt,yn⟩∧s.m≤j) n ⟨none,0,0,[],[]⟩
  Z Z Z Z Z Z Z Z Z zo rfl rfl (fun _=>rfl) (fun _=>rfl) sM (OwnLe.flat (List.Perm.refl _)) ⟨Bld.nil_ _ _,rfl,Nat.le_refl _⟩ ?_ ?_
 ·intro j s F1 hF1 hj hP;obtain⟨hb,hsk,hsm⟩:=hP;have hst1:=hst.mono hF1;have hr1:=hr.mono hF1;have hi1:=hF1 _ _ hi;refine zC4 ?_;refine WT.idxL hT hst1 Z Z Z Z Z Z Z Z Z zo (fun x hxj b1 off ro1 cs lx hb1 hp1 hrel=>?_);obtain rfl:lx=_:=hrel;have hxo:=hok x (gM hxj);have hkt:=kern_take (g:=g) (y:=⟨yt,yn⟩) hxj;refine zC4 ?_;refine WT.allocT hT Z Z Z Z Z Z (fun i9 hi9=>?_);refine zC4 ?_;have haf:=lrAfter_spec F1 g hg4 hr1 zo x (by have:=hxo.1;omega);unfold gramCells at haf;refine WT.callV Tryz.func131 Z Z Z Z Z Z haf (fun v hv=>?_);obtain⟨z,bo,rfl,hay,han⟩:=hv;obtain⟨zt,zn⟩:=z;refine zC4 ?_
  refine WT.allocT hT Z Z Z Z Z Z (fun i10 hi10=>?_);refine zC4 ?_;have hbl:=hb.len;refine WT.split 25 Z (fun hbo=>?_) (fun hbo=>?_)
  ·have hay:=hay hbo;refine zC4 ?_;refine AW.cond Z (fun h=>?_) (fun h=>?_)
   ·have e:(⟨zt,zn⟩:Sym)=⟨yt,yn⟩:=by
     simp only[Bool.and_true,Bool.and_eq_true,beq_iff_eq] at h;obtain⟨h1,h2⟩:=h;subst h1;congr 1;omega
    rw[e] at hay;have hxd:x.dot≤100:=by
     have:=hxo.2;have h2:(rightL g x.rule).length≤100:=by
      unfold rightL;split
      ·simp
      ·cases hq:g.rules[x.rule]? with
       | none=>simp
       | some r=>exact hg4 r (gM hq)
     omega
    refine zC4 ?_;refine WT.buildT hT Z Z Z Z Z Z Z Z Z Z Z Z Z Z (fun i37 hi37=>?_);refine WT.appendT (R:=tLr) (ys:=[(⟨x.rule,x.dot+1⟩:Lr)]) hT 3 hb Z (fun _=>rfl) Z Z Z Z Z Z Z Z Z Z Z (fun h0 s0=>news_own hT s0 0 Z Z Z Z) (Cells.single (R:=tLr) (x:=⟨x.rule,x.dot+1⟩) rfl) Z (by decide) zom (fun a3 c3 B3 hB3=>?_);refine zC4 ?_;refine⟨⟨a3,s.m+1,c3,B3,s.l++[⟨x.rule,x.dot+1⟩]⟩,sM,zow,hB3,?_,by dsimp only;omega⟩;show s.l++_=_;rw[hkt,if_pos hay,hsk]
   ·have hno:¬afterL g x=some ⟨yt,yn⟩:=fun e=>by
     rw[hay] at e;have e:=Option.some.inj e;simp only[Sym.mk.injEq] at e;rw[e.1,e.2] at h;simp at h
    refine zC4 ?_;refine⟨s,sM,zow,hb,?_,by omega⟩;rw[hkt,if_neg hno,List.append_nil];exact hsk
  ·have han:=han hbo;have hno:¬afterL g x=some ⟨yt,yn⟩:=fun e=>by rw[han] at e;cases e
   refine zC4 ?_;refine AW.cond Z (fun h=>(by cases h)) (fun _=>?_);refine zC4 ?_;refine⟨s,sM,zow,hb,?_,by omega⟩;rw[hkt,if_neg hno,List.append_nil];exact hsk
 ·intro s F1 hF1 hP;obtain⟨hb,hsk,hsm⟩:=hP;rw[List.take_of_length_le zo] at hsk;have hbl:=hb.len;have hi1:=hF1 _ _ hi;refine AW.freezeAll 0 Z Z (fun F2 hF2 hB2=>?_);have hx:=hb.frozen hF2 hB2;have hi2:=hF2 _ _ hi1;have hkok:∀z∈s.l,z.rule≤g.rules.length:=fun z hz=>by rw[hsk] at hz;exact(kern_ok z hz).1.1
  refine zC4 ?_;have hcs:=closure_spec F2 g hg4 ((hr.mono hF1).mono hF2) zo hx zo hkok;unfold gramCells at hcs;refine WT.callF0 Tryz.func133 Z Z Z Z Z Z hcs (fun F3 v hF3 hv=>?_);obtain⟨a8,m8,c8,zs,rfl,hz,hzm,hstr,hmem⟩:=hv;refine zC4 ?_;refine AW.ret ⟨_,[],⟨_,_,rfl,⟨_,_,rfl,rfl,rfl⟩,rfl⟩,zsb,rfl,a8,m8,c8,_,zs,rfl,hz,?_⟩;unfold nextI;by_cases e:kern g st ⟨yt,yn⟩=[]
  ·rw[if_pos e,if_neg];rw[hsk,e] at hbl;have:s.m=0:=hbl;simp[this]
  ·rw[if_neg e,if_pos]
   ·congr 1;refine(closL_eq (fun z hz=>(kern_ok z hz).1) hstr fun z=>?_).symm;rw[hmem,hsk]
   ·have:0<s.m:=by
     rw[hbl,hsk];exact List.length_pos_iff.2 e
    exact decide_eq_true zo
end Go.Proofs.D