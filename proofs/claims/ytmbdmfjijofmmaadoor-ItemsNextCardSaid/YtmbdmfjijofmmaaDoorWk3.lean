/-
  Walks: what functions of the program do, over the abstract machine.
-/
import Derived.Test.YtmbdmfjijofmmaaDoorWk2
set_option linter.unusedVariables false
set_option maxRecDepth 20000
set_option maxHeartbeats 0
open Go Go.Abs Go.Proofs Go.Proofs.D
set_option linter.unusedVariables false
set_option maxRecDepth 20000
set_option maxHeartbeats 0
open Go Go.Abs Go.Proofs Go.Proofs.D
namespace Go.Proofs.D
theorem itemsNext_law(F:Frz)(hL:Laid F){a:Option Addr}{m c:Nat}{l:List Int}(hl:Arr tInt F a m c l)(hm:m≤9223372036854775807) :
  Abs.Spec CC 3 [.slice a m c] F [] fun _ v o=>o=[]∧v=.bool true:=by
 refine Abs.Spec.fn (n:=193) Tryd.func3 rfl rfl fun own=>?_;refine zB4 ?_;refine WT.callF0 Tryd.func4 Z Z Z Z Z Z (grammar_spec _ hl) (fun F1 v hF1 hv=>?_);obtain⟨g,⟨ga,gm,gc,rfl,hgr⟩,hg⟩:=hv;have hL1:=hL.mono hF1;have hgl:=hg.rules;have hml:=hgr.len;obtain⟨I,rows,hI⟩:=autoI_some hg;refine WT.allocT hT Z Z Z Z Z Z (fun i3 hi3=>?_);refine zB4 ?_;refine WT.callF0 Tryd.func5 Z Z Z Z Z Z (itemsOf2_spec _ g hg.valid hgr) (fun F2 v hF2 hv=>?_);rcases hv with ⟨hno,_⟩ | ⟨I',rows',a1,n1,c1,a2,n2,c2,hI',rfl,hA1,hA2⟩
 ·rw[hI] at hno;cases hno
 rw[hI] at hI';obtain⟨rfl,rfl⟩:=Prod.mk.inj (Option.some.inj hI');have hL2:=hL1.mono hF2;have hgr2:=hgr.mono hF2;have hN:=(autoI_ok hI).2;have hI1:=hA1.len;have hR1:=hA2.len;have hRI:=hN.len;have hI0:0<n1:=by
  have:=(gS hN.first).1
  omega
 have hI4:=hN.few;refine zB4 ?_;refine WT.allocT hT Z Z Z Z Z Z (fun i4 hi4=>?_);refine zB4 ?_;refine WT.freezeAll 0 Z Z (fun F3 hF3 hB3=>?_);have hi4:=hB3 i4 _ me;refine WT.freezeAll 1 Z Z (fun F4 hF4 hB4=>?_);have hi3:=hB4 i3 _ me;have hi4:=hF4 _ _ hi4;refine WT.callV Tryd.func6 Z Z Z Z Z Z (Abs.Spec.fact Z ((hL2.mono hF3).mono hF4)) (fun v hv=>?_);subst hv;refine zB4 ?_;refine WT.split 39 Z (fun h=>absurd h (by simp;omega)) (fun h=>?_);refine zB4 ?_;refine AW.cond Z (fun h=>absurd h (by simp;omega)) (fun _=>?_);refine zB4 ?_;have hfnd:=autoI_fnd hI
 have hg4:∀r∈g.rules,r.right.length≤100:=fun r h=>by have:=(hg.ok r h).2.1;omega
 have hPI:∀st∈I,PI g st:=fun st hst=>by rw[←autoI_closed hI st hst];exact closL_PI hg.valid _
 refine AW.range (S:=Nat) (fun f=>[(6,.int .i64 (f:Nat))]) (fun _=>_) (fun j f G=>f=fnd (rows.take j).flatten) n1 1 Z Z Z Z Z Z Z Z Z zo Z Z (fun _=>rfl) (fun _=>rfl) sM oR Z ?_ ?_
 ·intro s f F5 hF5 hs hf;have hgr5:=((hgr2.mono hF3).mono hF4).mono hF5;have hA15:=((hA1.mono hF3).mono hF4).mono hF5;have hA25:=((hA2.mono hF3).mono hF4).mono hF5;have hi35:=hF5 _ _ hi3;have hi45:=hF5 _ _ hi4;refine zB4 ?_;refine WT.idxL hT hA15 Z Z Z Z Z Z Z Z Z zo (fun st hst b1 off ro cs lx hb hp1 hrel=>?_);obtain⟨sa,sn,sc,rfl,hsa⟩:=hrel;have hsl:=hsa.len;have hstm:=gM hst;obtain⟨hsn,hsok⟩:=hPI st hstm;refine zB4 ?_;refine WT.callF0 Tryd.func7 Z Z Z Z Z Z (lrClose_spec _ g hg.valid hgr5 hsa zo (fun x hx=>okLr_iff.1 (hsok x hx))) (fun F6 v hF6 hv=>?_)
  obtain⟨da,dm,dc,dz,rfl,hds,hdm,hdS,hdmem⟩:=hv;have hde:dz=st:=(closL_eq hsok hdS hdmem).trans (autoI_closed hI st hstm);refine zB4 ?_;refine WT.callV Tryd.func8 Z Z Z Z Z Z (lrSame_spec _ hds (hsa.mono hF6) zo zo) (fun v hv=>?_);subst hv;rw[decide_eq_true hde];have hi36:=hF6 _ _ hi35;have hi46:=hF6 _ _ hi45;have hA16:=hA15.mono hF6;have hA26:=hA25.mono hF6;have hgr6:=hgr5.mono hF6;have hsa6:=hsa.mono hF6;refine zB4 ?_;refine WT.idxL hT hA26 Z Z Z Z Z Z Z Z Z zo (fun row hrow b2 off2 ro2 cs2 lx2 hb2 hp2 hrel2=>?_);obtain⟨ra,rn,rc,rfl,hra⟩:=hrel2;have hral:=hra.len
  have hrl:=(autoI_ok hI).1.row s st row hst hrow;have hgt:=hg.terms;have hgn:=hg.nons;refine zB4 ?_;refine AW.cond Z (fun h=>absurd h (by simp;omega)) (fun _=>?_);refine zB4 ?_;refine AW.range (S:=Unit) (fun _=>[]) (fun _=>_) (fun j _ G=>True) s () Z Z Z Z Z Z Z Z Z zo Z Z (fun _=>rfl) (fun _=>rfl) sM oR trivial ?_ ?_
  ·intro t _ F7 hF7 ht _;have hi47:=hF7 _ _ hi46;have hA17:=hA16.mono hF7;have hsa7:=hsa6.mono hF7;refine zB4 ?_;refine WT.idxL hT hA17 Z Z Z Z Z Z Z Z Z zo (fun st2 hst2 b3 off3 ro3 cs3 lx3 hb3 hp3 hrel3=>?_);obtain⟨ta,tn,tc,rfl,hta⟩:=hrel3;have htl:=hta.len;have htm:=(hPI st2 (gM hst2)).1;refine zB4 ?_;refine WT.callV Tryd.func8 Z Z Z Z Z Z (lrSame_spec _ hta hsa7 zo zo) (fun v hv=>?_);subst hv;have hne:st2≠st:=fun e=>by
    subst e;have:=(List.getElem?_inj (gS hst2).1 hN.nodup).1 (hst2.trans hst.symm);omega
   rw[decide_eq_false hne];refine zB4 ?_;refine AW.cond Z (fun h=>(by cases h)) (fun _=>?_);refine zB4 ?_;exact⟨(),sM,zow,trivial⟩
  ·intro _ F7 hF7 _;have hi37:=hF7 _ _ hi36;have hi47:=hF7 _ _ hi46;have hA17:=hA16.mono hF7;have hA27:=hA26.mono hF7;have hsa7:=hsa6.mono hF7;have hgr7:=hgr6.mono hF7;refine zB4 ?_;refine WT.idxL hT hA27 Z Z Z Z Z Z Z Z Z zo (fun row2 hrow2 b4 off4 ro4 cs4 lx4 hb4 hp4 hrel4=>?_);obtain⟨ra2,rn2,rc2,rfl,hra2⟩:=hrel4;rw[hrow] at hrow2;obtain rfl:=Option.some.inj hrow2;have hral2:=hra2.len;refine zB4 ?_
   refine AW.range (S:=Nat) (fun f=>[(6,.int .i64 (f:Nat))]) (fun _=>_) (fun j f G=>f=fnd ((rows.take s).flatten++row.take j)) rn2 f Z Z Z Z Z Z Z Z Z zo Z Z (fun _=>rfl) (fun _=>rfl) sM oR (by simpa using hf) ?_ ?_
   ·intro k f8 F8 hF8 hk hf8;have hi38:=hF8 _ _ hi37;have hi48:=hF8 _ _ hi47;have hA18:=hA17.mono hF8;have hra8:=hra2.mono hF8;have hsa8:=hsa7.mono hF8;have hgr8:=hgr7.mono hF8;refine zB4 ?_;refine WT.idxL hT hra8 Z Z Z Z Z Z Z Z Z zo (fun to hto b5 off5 ro5 cs5 lx5 hb5 hp5 hrel5=>?_);obtain rfl:lx5=_:=hrel5;obtain⟨y,hy⟩:∃y,(symsL g)[k]?=some y:=⟨_,gE (by rw[symsL_len];omega)⟩;obtain⟨hyo,hyk⟩:=symsL_ok hy;have hcase:=autoI_row hI hst hrow hto hy;have hle:=hfnd.at hrow hto;refine zB4 ?_
    refine AW.range (S:=NxS) (fun s=>[(14,.slice s.a s.m s.c)]) (fun s=>s.B::own) (fun j s G=>Bld tLr G s.a s.m s.c s.B s.l∧s.l=kern g (st.take j) y∧s.m≤j) sn ⟨none,0,0,[],[]⟩
     Z Z Z Z Z Z Z Z Z zo rfl rfl (fun _=>rfl) (fun _=>rfl) sM (OwnLe.flat (List.Perm.refl _)) ⟨Bld.nil_ _ _,rfl,Nat.le_refl _⟩ ?_ ?_
    ·intro j q F9 hF9 hj hP;obtain⟨hb9,hq9,hqm⟩:=hP;have hi39:=hF9 _ _ hi38;have hsa9:=hsa8.mono hF9;have hgr9:=hgr8.mono hF9;have hbl:=hb9.len;refine zC4 ?_;refine WT.idxL hT hsa9 Z Z Z Z Z Z Z Z Z zo (fun x hxj b6 off6 ro6 cs6 lx6 hb6 hp6 hrel6=>?_);obtain rfl:lx6=_:=hrel6;have hxo:=hsok x (gM hxj);have hx100:=okI hg.valid hxo;have hkt:=kern_take (g:=g) (y:=y) hxj;refine zC4 ?_;refine WT.allocT hT Z Z Z Z Z Z (fun i16 hi16=>?_);refine zC4 ?_;have hrs:=right_spec F9 g hg4 hgr9 zo x.rule (by have:=hxo.1;omega);unfold gramCells at hrs
     refine WT.callF0 Tryd.func9 Z Z Z Z Z Z hrs (fun F10 v hF10 hv=>?_);obtain⟨wa,wn,wc,rfl,hwa⟩:=hv;have hwl:=hwa.len;have hi310:=hF10 _ _ hi39;have haf:=afterL_right (g:=g) (x:=x);have hb10:=hb9.mono hF10;refine zC4 ?_;refine WT.split 122 Z (fun hbo=>?_) (fun hbo=>?_)
     ·have hlt:x.dot<wn:=by simpa using hbo
      refine zC4 ?_;refine WT.idxL hT hwa Z Z Z Z Z Z Z Z Z zo (fun z hz b7 off7 ro7 cs7 lx7 hb7 hp7 hrel7=>?_);obtain rfl:lx7=_:=hrel7;rw[←haf] at hz;have hzo:=afterL_sym hg.valid hz;have hzn:z.n≤1000:=by
       unfold SymOk at hzo;split at hzo<;>omega
      refine zC4 ?_;have his:=index_spec F10 g (a:=ga) (m:=gm) (c:=gc) z zo hzn;unfold gramCells at his;refine WT.callV Tryd.func10 Z Z Z Z Z Z his (fun v hv=>?_);subst hv;have hidx:idxS g z=k↔z=y:=by
       constructor
       ·intro e;have h1:=symsL_at hzo;rw[e,hy] at h1;exact(Option.some.inj h1).symm
       ·rintro rfl;exact hyk
      refine zC4 ?_;refine AW.cond Z (fun h=>?_) (fun h=>?_)
      ·have e:z=y:=hidx.1 (by simp at h;omega);subst e;refine zC4 ?_;refine WT.buildT hT Z Z Z Z Z Z Z Z Z Z Z Z Z Z (fun i37 hi37=>?_);refine WT.appendT (R:=tLr) (ys:=[(⟨x.rule,x.dot+1⟩:Lr)]) hT 2 hb10 Z (fun _=>rfl) Z Z Z Z Z Z Z Z Z Z Z (fun h0 s0=>news_own hT s0 0 Z Z Z Z) (Cells.single (R:=tLr) (x:=⟨x.rule,x.dot+1⟩) rfl) Z (by decide) zom (fun a3 c3 B3 hB3=>?_);refine zC4 ?_;refine⟨⟨a3,q.m+1,c3,B3,q.l++[⟨x.rule,x.dot+1⟩]⟩,sM,zow,hB3,?_,by dsimp only;omega⟩;show q.l++_=_;rw[hkt,if_pos hz,hq9]
      ·have hno:¬afterL g x=some y:=fun e=>by
        rw[hz] at e;have:=hidx.2 (Option.some.inj e);simp at h;omega
       refine zC4 ?_;refine⟨q,sM,zow,hb10,?_,by omega⟩;rw[hkt,if_neg hno,List.append_nil];exact hq9
     ·have hge:¬x.dot<wn:=by simpa using hbo
      have hno:¬afterL g x=some y:=fun e=>by
       rw[haf,List.getElem?_eq_none zo] at e;cases e
      refine zC4 ?_;refine AW.cond Z (fun h=>(by cases h)) (fun _=>?_);refine zC4 ?_;refine⟨q,sM,zow,hb10,?_,by omega⟩;rw[hkt,if_neg hno,List.append_nil];exact hq9
    ·intro q F9 hF9 hP;obtain⟨hb9,hq9,hqm⟩:=hP;rw[List.take_of_length_le zo] at hq9;have hbl:=hb9.len;refine AW.freezeAll 0 Z Z (fun F10 hF10 hB10=>?_);have hker:=hb9.frozen hF10 hB10;have hi410:=hF10 _ _ (hF9 _ _ hi48);have hi310:=hF10 _ _ (hF9 _ _ hi38);have hgr10:=(hgr8.mono hF9).mono hF10;have hA110:=(hA18.mono hF9).mono hF10;refine zC4 ?_;have hmn:(q.m=0↔to=-1)∧-1≤to∧to<(n1:Int)∧to≤(f8:Int):=by
      rw[←hf8] at hle;rcases hcase with ⟨e1,e2⟩ | ⟨e1,jj,e2,e3⟩
      ·rw[hq9,e1] at hbl;have hbl:q.m=0:=hbl;omega
      ·have h1:=(gS e3).1;have h2:0<q.m:=by rw[hbl,hq9];exact List.length_pos_iff.2 e1
       omega
     obtain⟨hm0,hm1,hm2,hm3⟩:=hmn;have htk:row.take (k+1)=row.take k++[to]:=by rw[List.take_add_one,hto];rfl
     have hbm:((q.m:Int)==0)=(to==-1):=by
      rw[Bool.eq_iff_iff,beq_iff_eq,beq_iff_eq];omega
     refine WT.split 149 Z (fun h=>absurd h (by rw[hbm];simp)) (fun h=>?_);refine zC4 ?_;refine WT.split 153 Z (fun h=>absurd h (by simp;omega)) (fun h=>?_);refine zC4 ?_;refine WT.split 160 Z (fun h=>absurd h (by simp;omega)) (fun h=>?_);refine zC4 ?_;refine AW.cond Z (fun h=>absurd h (by simp;omega)) (fun _=>?_);refine zC4 ?_;rcases hcase with ⟨e1,e2⟩ | ⟨e1,jj,e2,e3⟩
     ·refine AW.cond Z (fun h=>absurd h (by simp;omega)) (fun _=>?_);refine zC4 ?_;refine AW.cond Z (fun h=>absurd h (by simp;omega)) (fun _=>?_);refine zC4 ?_;refine⟨f8,sM,zow,?_⟩;show f8=_;rw[htk,←List.append_assoc,fnd_snoc,←hf8];unfold fndS;rw[if_neg zo]
     ·subst e2;refine AW.cond Z (fun h=>?_) (fun h=>?_)
      ·have h:(jj:Int)=(f8:Int):=by simpa using h
       refine zC4 ?_;refine AW.cond Z (fun _=>?_) (fun h=>absurd h (by simp));refine zC4 ?_;have hcl:=lrClose_spec F10 g hg.valid hgr10 hker zo (fun x hx=>okLr_iff.1 (by rw[hq9] at hx;exact(kern_ok x hx).1));unfold gramCells at hcl;refine WT.callF0 Tryd.func7 Z Z Z Z Z Z hcl (fun F11 v hF11 hv=>?_);obtain⟨ea,em,ec,ez,rfl,hes,hem,heS,hemem⟩:=hv;have hi411:=hF11 _ _ hi410;have hA111:=hA110.mono hF11;have hel:=hes.len;rw[hq9] at hemem;have hez:ez=closL g (kern g st y):=closL_eq (fun x hx=>(kern_ok x hx).1) heS hemem;refine zC4 ?_
       refine WT.idxL hT hA111 Z Z Z Z Z Z Z Z Z zo (fun su hsu b8 off8 ro8 cs8 lx8 hb8 hp8 hrel8=>?_);obtain⟨ua,un,uc,rfl,hua⟩:=hrel8;have hul:=hua.len;rw[e3] at hsu;obtain rfl:=Option.some.inj hsu;have hum:=(closL_PI hg.valid (kern g st y)).1;refine zC4 ?_;refine WT.callV Tryd.func8 Z Z Z Z Z Z (lrSame_spec _ hes hua zo zo) (fun v hv=>?_);subst hv;rw[decide_eq_true hez];refine zC4 ?_;refine AW.cond Z (fun h=>(by cases h)) (fun _=>?_);refine zC4 ?_;refine⟨f8+1,sM,zow,?_⟩;show f8+1=_;rw[htk,←List.append_assoc,fnd_snoc,←hf8];unfold fndS;rw[if_pos zo]
      ·have h:¬(jj:Int)=(f8:Int):=by simpa using h
       refine zC4 ?_;refine AW.cond Z (fun _=>?_) (fun h=>absurd h (by simp));refine zC4 ?_;have hcl:=lrClose_spec F10 g hg.valid hgr10 hker zo (fun x hx=>okLr_iff.1 (by rw[hq9] at hx;exact(kern_ok x hx).1));unfold gramCells at hcl;refine WT.callF0 Tryd.func7 Z Z Z Z Z Z hcl (fun F11 v hF11 hv=>?_);obtain⟨ea,em,ec,ez,rfl,hes,hem,heS,hemem⟩:=hv;have hi411:=hF11 _ _ hi410;have hA111:=hA110.mono hF11;have hel:=hes.len;rw[hq9] at hemem;have hez:ez=closL g (kern g st y):=closL_eq (fun x hx=>(kern_ok x hx).1) heS hemem;refine zC4 ?_
       refine WT.idxL hT hA111 Z Z Z Z Z Z Z Z Z zo (fun su hsu b8 off8 ro8 cs8 lx8 hb8 hp8 hrel8=>?_);obtain⟨ua,un,uc,rfl,hua⟩:=hrel8;have hul:=hua.len;rw[e3] at hsu;obtain rfl:=Option.some.inj hsu;have hum:=(closL_PI hg.valid (kern g st y)).1;refine zC4 ?_;refine WT.callV Tryd.func8 Z Z Z Z Z Z (lrSame_spec _ hes hua zo zo) (fun v hv=>?_);subst hv;rw[decide_eq_true hez];refine zC4 ?_;refine AW.cond Z (fun h=>(by cases h)) (fun _=>?_);refine zC4 ?_;refine⟨f8,sM,zow,?_⟩;show f8=_;rw[htk,←List.append_assoc,fnd_snoc,←hf8];unfold fndS;rw[if_neg zo]
   ·intro f8 F8 hF8 hf8;rw[List.take_of_length_le (l:=row) zo] at hf8;refine⟨f8,sM,zow,?_⟩;show f8=_;rw[take_flat hrow];exact hf8
 ·intro f F5 hF5 hf;rw[List.take_of_length_le zo] at hf;have hi45:=hF5 _ _ hi4;have hfe:=hfnd.eq;refine zC4 ?_;refine AW.ret ⟨_,[],⟨_,_,rfl,rfl,rfl⟩,zsb,rfl,?_⟩;have e:f=n1:=by rw[hf,hfe,hI1]
  show Value.bool ((f:Int)==(n1:Int))=_;rw[e,beq_self_eq_true]
end Go.Proofs.D