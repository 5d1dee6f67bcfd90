/-
  What the abstract machine knows of the program is so.
-/
import Derived.Test.YtcldmcmclejlhaaGreatDoorWk5
import Derived.Test.YtcldmcmclejlhaaGreatDoorRunR14
import Derived.Test.YtcldmcmclejlhaaGreatDoorRunR16
import Derived.Test.YtcldmcmclejlhaaGreatDoorRunRI
import Derived.Test.YtcldmcmclejlhaaGreatDoorRunR7
import Derived.Test.YtcldmcmclejlhaaGreatDoorRunRB
import Derived.Shelf.SlSortCmp.WholeK
import Derived.Sort.AssemblyPlain
import Derived.Test.YtcldmcmclejlhaaGreatDoorChecked
set_option linter.unusedVariables false
set_option maxRecDepth 100000
set_option maxHeartbeats 0
open Go Go.Abs Go.Proofs Go.Proofs.D Go.Shelf Go.RowKit Go.Sort
namespace Go.Proofs.D
theorem PD:(zB Tryz.prog mask 3).Ok Tryz.prog:=LA (by decide +kernel) (by decide +kernel) (Checked.mixed Tryz.checked)
theorem okB{b:Nat}:(xV b).Ok Tryz.prog:=NL PD
theorem bC{α:Type}{f a:Nat}{c:Bool}{x g:α}{y:Option α}(h:(bif Nat.beq f a then (bif c then some x else none) else y)=some g):(f=a/\c=true/\x=g)\/y=some g:=by
 cases h1:Nat.beq f a with
 | false=>rw[h1] at h;exact .inr h
 | true=>
  rw[h1] at h;cases c with
  | false=>cases h
  | true=>exact .inl ⟨Mr h1,rfl,aE h⟩
theorem Og:eE (xV 0) Tryz.prog:=s8 PD (n:=1) (λp hp=>by cases hp) λf g h=>by
 unfold Jd at h;rcases bC h with ⟨_,h,_⟩ | h;{cases h};rcases bC h with ⟨_,h,_⟩ | h;{cases h};rcases bC h with ⟨_,h,_⟩ | h;{cases h};rcases bC h with ⟨_,h,_⟩ | h;{cases h};rcases bC h with ⟨_,h,_⟩ | h;{cases h};rcases bC h with ⟨_,h,_⟩ | h;{cases h};rcases bC h with ⟨_,h,_⟩ | h;{cases h};cases h
def SQ:Ren:=⟨λ| 6=>128 | 15=>144 | 14=>151 | 28=>160 | 29=>161 | 20=>170 | 21=>171 | 22=>172 | 23=>173 | 24=>174 | 25=>175 | 26=>176 | 27=>177 | 46=>190 | 47=>179 | 48=>180 | 49=>191 | 50=>192 | 57=>196 | n=>n,λ| 22=>232 | 24=>139 | 25=>280 | 3=>3 | 39=>291 | 0=>0 | 53=>128 | 55=>308 | 4=>4 | 46=>302 | 45=>301 | 50=>226 | 5=>5 | 9=>9 | 66=>325 | 70=>329 | 76=>340 | 77=>341 | n=>n,λn=>n⟩
def S0:Ren:=⟨λ| 6=>106 | 15=>144 | 14=>143 | 28=>160 | 29=>161 | 20=>152 | 21=>153 | 22=>154 | 23=>155 | 24=>156 | 25=>157 | 26=>158 | 27=>159 | 46=>178 | 47=>179 | 48=>180 | 49=>181 | 50=>182 | 57=>193 | n=>n,λ| 22=>245 | 24=>243 | 25=>252 | 3=>3 | 39=>291 | 0=>0 | 53=>128 | 55=>308 | 4=>4 | 46=>302 | 45=>301 | 50=>226 | 5=>5 | 9=>9 | 66=>325 | 70=>329 | 76=>340 | 77=>341 | n=>n,λn=>n⟩
theorem Io {P:Program} {f:Nat} {b:Func} {n:String} (_:n=((P.funcs[f]?).map (·.name)).getD "") (g:(n == "runtime.NumGoroutine")=false/\P.funcs[f]?=some { b with name:=n }):Bears P f b:=⟨_,g⟩
theorem PG:SlLaysF0.n6 Tryz.prog SQ:=by constructor<;>first | kernel_rfl | (intro w;kernel_rfl) | exact Io rfl ⟨by kernel_rfl,by kernel_rfl⟩
theorem QR:SlLaysF0.n6 Tryz.prog S0:=by constructor<;>first | kernel_rfl | (intro w;kernel_rfl) | exact Io rfl ⟨by kernel_rfl,by kernel_rfl⟩
theorem Gv:∀(cs:List Value) (xs:List Lr),wh cs=some xs->cs=xs.flatMap Aw
 | [],xs,h=>by cases h;rfl
 | .int .i64 (.ofNat a)::.int .i64 (.ofNat b)::r,xs,h=>by
  unfold wh at h;split at h
  ·rename_i l g;cases h;rw[Gv r l g];rfl
  ·cases h
theorem Fl:∀(cs:List Value) (xs:List Key),wQ cs=some xs->cs=xs.flatMap zC
 | [],xs,h=>by cases h;rfl
 | .bool t::.int .i64 (.ofNat n)::.int .i64 (.ofNat a)::.int .i64 (.ofNat b)::r,xs,h=>by
  unfold wQ at h;split at h
  ·rename_i l g;cases h;rw[Fl r l g];rfl
  ·cases h
theorem AD{b:Nat}{α:Type}[Inhabited α]{ρ:Ren}(L:SlLaysF0.n6 Tryz.prog ρ){k:Nat}{enc:α->List Value}{dec:List Value->Option (List α)}{i:α->α->Int}{g:Nat}(hk:∀x,(enc x).length=k)(hw:∀x,(enc x).all gQ=true)(h1:∀x,∀v∈enc x,v.oneCell'=true)(j:∀cs xs,dec cs=some xs->cs=xs.flatMap enc)(l:SWO (ltOf i))
  (p:∀w,(isAgg (ρ.t 24)).run Tryz.prog w=.ok true w) (r:∀w,(Go.sizeOf (ρ.t 24)).run Tryz.prog w=.ok k w) (C:∀args w,(callFunc g args).run Tryz.prog w=.ok (.enter g args) w)
  (spec:∀F x y,Abs.Spec (xV 0) g [.agg ⟨enc x⟩,.agg ⟨enc y⟩] F [] λ_ v o=>o=[]/\v=.int .i64 (i x y))
  (hm:(call (xV 0) 40 (ρ.f 6) [.slice none 0 0,.func (.func g) ⟨[]⟩ ⟨[]⟩] ⟨3,.e⟩).map (·.1)=some (.tuple ⟨[]⟩)):mg (xV b) Tryz.prog (ρ.f 6) (lz k enc dec (ltOf i) g):=
 Ka hk hw j l (λbQ off cap d w hH I hs=>AnyQ.slices_SortFunc_eq L k p r enc hk h1 i l g #[] bQ off cap d w C (λm os J _ x y=>by
  have:=C2 (args:=[.agg ⟨enc x⟩,.agg ⟨enc y⟩]) (v0:=.int .i64 (i x y)) okB Og (λσ=>⟨_,_,rfl,⟨_,rfl,j9 (hw x)⟩,_,_,rfl,⟨_,rfl,j9 (hw y)⟩,rfl⟩) (λσ v h=>h) (λF=>spec F x y) (sortWorldK enc k w bQ off m J os);exact this) hH I hs)
  (B0 okB Og (λσ=>⟨_,_,rfl,⟨rfl,rfl,rfl⟩,_,_,rfl,⟨_,_,rfl,rfl,rfl⟩,rfl⟩) (λσ v h=>by obtain⟨_,rfl,rfl⟩:=h;rfl) hm)
theorem kA{b:Nat}:mg (xV b) Tryz.prog 128 (lz 2 Aw wh (ltOf Pl) 129):=
 AD PG (λ_=>rfl) (λ_=>rfl) (λx v g=>by simp[Aw] at g;rcases g with rfl | rfl<;>rfl) Gv (by rw[I1];exact Ar) (λw=>by kernel_rfl) (λw=>by kernel_rfl) (enters_of Tryz.func129 (by kernel_rfl) rfl) (λF x y=>Ec F x y) (by kernel_rfl)
theorem kB{b:Nat}:mg (xV b) Tryz.prog 106 (lz 4 zC wQ (ltOf K0) 107):=
 AD QR (λ_=>rfl) (λ_=>rfl) (λx v g=>by simp[zC] at g;rcases g with rfl | rfl | rfl | rfl<;>rfl) Fl (by rw[FK];exact ju) (λw=>by kernel_rfl) (λw=>by kernel_rfl) (enters_of Tryz.func107 (by kernel_rfl) rfl) (λF x y=>Bf F x y) (by kernel_rfl)
theorem GH:eE (xV 1) Tryz.prog:=s8 PD (n:=1) (λp hp=>by cases hp) λf g h=>by
 unfold Jd at h;rcases bC h with ⟨rfl,_,rfl⟩ | h;{exact kA};rcases bC h with ⟨rfl,_,rfl⟩ | h;{exact kB};rcases bC h with ⟨_,h,_⟩ | h;{cases h};rcases bC h with ⟨_,h,_⟩ | h;{cases h};rcases bC h with ⟨_,h,_⟩ | h;{cases h};rcases bC h with ⟨_,h,_⟩ | h;{cases h};rcases bC h with ⟨_,h,_⟩ | h;{cases h};cases h
theorem Pq:eE (xV 2) Tryz.prog:=s8 PD (n:=1) (λp hp=>by cases hp) λf g h=>by
 unfold Jd at h;rcases bC h with ⟨rfl,_,rfl⟩ | h;{exact kA};rcases bC h with ⟨rfl,_,rfl⟩ | h;{exact kB};rcases bC h with ⟨_,h,_⟩ | h;{cases h};rcases bC h with ⟨rfl,_,rfl⟩ | h;{exact od okB GH rfl NQ};rcases bC h with ⟨_,h,_⟩ | h;{cases h};rcases bC h with ⟨_,h,_⟩ | h;{cases h};rcases bC h with ⟨_,h,_⟩ | h;{cases h};cases h
theorem O6:eE (xV 3) Tryz.prog:=s8 PD (n:=1) (λp hp=>by cases hp) λf g h=>by
 unfold Jd at h;rcases bC h with ⟨rfl,_,rfl⟩ | h;{exact kA};rcases bC h with ⟨rfl,_,rfl⟩ | h;{exact kB};rcases bC h with ⟨_,h,_⟩ | h;{cases h};rcases bC h with ⟨_,h,_⟩ | h;{cases h};rcases bC h with ⟨rfl,_,rfl⟩ | h;{exact od okB GH rfl M8};rcases bC h with ⟨rfl,_,rfl⟩ | h;{exact od okB GH rfl Md};rcases bC h with ⟨rfl,_,rfl⟩ | h;{exact od okB Pq rfl Nj};cases h
theorem known:eE (xV 4) Tryz.prog:=s8 PD (n:=1) (λp hp=>by cases hp) λf g h=>by
 unfold Jd at h;rcases bC h with ⟨rfl,_,rfl⟩ | h;{exact kA};rcases bC h with ⟨rfl,_,rfl⟩ | h;{exact kB};rcases bC h with ⟨rfl,_,rfl⟩ | h;{exact HI okB O6 rfl Ni};rcases bC h with ⟨_,h,_⟩ | h;{cases h};rcases bC h with ⟨_,h,_⟩ | h;{cases h};rcases bC h with ⟨_,h,_⟩ | h;{cases h};rcases bC h with ⟨_,h,_⟩ | h;{cases h};cases h
end Go.Proofs.D