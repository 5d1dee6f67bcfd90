/-
  The program as the abstract machine sees it: its types, its table, what is known of its facts.
-/
import Derived.Test.YtcldmcmclejlhaaGreatDoorAbs8
import Derived.Test.YtcldmcmclejlhaaGreatDoorProg
open Go Go.Abs Go.Proofs
namespace Go.Proofs.D
abbrev ri : Value := .int .i64 0
abbrev rs : Value := .slice none 0 0
def rows : RT :=
  (.n (.n (.n (.n (.n (.n (.n .e ⟨2, .int .i64, 1, 8, ri⟩ .e) ⟨3, .int .i64, 1, 8, ri⟩ (.n .e ⟨4, .bool, 1, 1, .bool false⟩ .e)) ⟨5, .int .u8, 1, 1, .int .u8 0⟩ (.n (.n .e ⟨9, .string, 1, 16, .string ByteArray.empty⟩ .e) ⟨22, .slice 3, 1, 24, rs⟩ .e)) ⟨23, .slice 90, 1, 24, rs⟩ (.n (.n (.n .e ⟨25, .struct [(0, 3), (1, 3), (2, 3), (3, 23)], 4, 48, .agg ⟨[ri, ri, ri, rs]⟩⟩ .e) ⟨29, .slice 31, 1, 24, rs⟩ .e) ⟨31, .struct [(0, 3), (1, 3), (2, 29)], 3, 40, .agg ⟨[ri, ri, rs]⟩⟩ (.n (.n .e ⟨34, .slice 72, 1, 24, rs⟩ .e) ⟨35, .slice 22, 1, 24, rs⟩ .e))) ⟨36, .slice 76, 1, 24, rs⟩ (.n (.n (.n (.n .e ⟨38, .struct [(0, 3), (1, 34), (2, 35), (3, 36)], 4, 80, .agg ⟨[ri, rs, rs, rs]⟩⟩ .e) ⟨39, .int .i64, 1, 8, ri⟩ .e) ⟨44, .word, 1, 8, .nilFunc⟩ (.n (.n .e ⟨45, .slice 92, 1, 24, rs⟩ .e) ⟨47, .struct [(0, 35), (1, 45)], 2, 48, .agg ⟨[rs, rs]⟩⟩ .e)) ⟨51, .word, 1, 8, .nilFunc⟩ (.n (.n (.n .e ⟨57, .slice 173, 1, 24, rs⟩ .e) ⟨59, .struct [(0, 57), (1, 3)], 2, 32, .agg ⟨[rs, ri]⟩⟩ .e) ⟨62, .pointer 127, 1, 8, .pointer none⟩ (.n (.n .e ⟨65, .slice 4, 1, 24, rs⟩ .e) ⟨69, .slice 34, 1, 24, rs⟩ .e)))) ⟨72, .slice 74, 1, 24, rs⟩ (.n (.n (.n (.n (.n .e ⟨74, .struct [(0, 3), (1, 3)], 2, 16, .agg ⟨[ri, ri]⟩⟩ .e) ⟨76, .struct [(0, 3), (1, 3), (2, 72)], 3, 40, .agg ⟨[ri, ri, rs]⟩⟩ (.n .e ⟨77, .pointer 157, 1, 8, .pointer none⟩ .e)) ⟨85, .slice 65, 1, 24, rs⟩ (.n (.n .e ⟨88, .slice 101, 1, 24, rs⟩ .e) ⟨90, .struct [(0, 3), (1, 88)], 2, 32, .agg ⟨[ri, rs]⟩⟩ .e)) ⟨92, .struct [(0, 3), (1, 3), (2, 22)], 3, 40, .agg ⟨[ri, ri, rs]⟩⟩ (.n (.n (.n .e ⟨93, .pointer 95, 1, 8, .pointer none⟩ .e) ⟨95, .struct [(0, 25), (4, 47), (6, 22), (7, 3)], 8, 128, .agg ⟨[ri, ri, ri, rs, rs, rs, rs, ri]⟩⟩ .e) ⟨97, .struct [], 0, 0, .agg ⟨[]⟩⟩ (.n (.n .e ⟨101, .struct [(0, 4), (1, 3)], 2, 16, .agg ⟨[.bool false, ri]⟩⟩ .e) ⟨103, .pointer 105, 1, 8, .pointer none⟩ .e))) ⟨105, .struct [(0, 22)], 1, 24, .agg ⟨[rs]⟩⟩ (.n (.n (.n (.n .e ⟨115, .slice 129, 1, 24, rs⟩ .e) ⟨122, .word, 1, 8, .nilFunc⟩ .e) ⟨123, .word, 1, 8, .nilFunc⟩ (.n (.n .e ⟨128, .int .u32, 1, 4, .int .u32 0⟩ .e) ⟨129, .slice 128, 1, 24, rs⟩ .e)) ⟨133, .pointer 220, 1, 8, .pointer none⟩ (.n (.n (.n .e ⟨135, .slice 142, 1, 24, rs⟩ .e) ⟨139, .struct [(0, 3), (1, 3)], 2, 16, .agg ⟨[ri, ri]⟩⟩ .e) ⟨141, .struct [(0, 139), (2, 128)], 3, 24, .agg ⟨[ri, ri, .int .u32 0]⟩⟩ (.n (.n .e ⟨142, .slice 141, 1, 24, rs⟩ .e) ⟨144, .word, 1, 8, .nilFunc⟩ .e))))) ⟨146, .word, 1, 8, .nilFunc⟩ (.n (.n (.n (.n (.n (.n .e ⟨147, .slice 232, 1, 24, rs⟩ .e) ⟨149, .struct [(0, 147), (1, 35)], 2, 48, .agg ⟨[rs, rs]⟩⟩ (.n .e ⟨157, .struct [(0, 38), (4, 25), (8, 22), (9, 29), (10, 3)], 11, 184, .agg ⟨[ri, rs, rs, rs, ri, ri, ri, rs, rs, rs, ri]⟩⟩ .e)) ⟨159, .word, 1, 8, .nilFunc⟩ (.n (.n .e ⟨164, .pointer 241, 1, 8, .pointer none⟩ .e) ⟨171, .slice 175, 1, 24, rs⟩ .e)) ⟨173, .struct [(0, 101), (2, 3), (3, 3), (4, 171)], 5, 56, .agg ⟨[.bool false, ri, ri, ri, rs]⟩⟩ (.n (.n (.n .e ⟨175, .struct [(0, 3), (1, 22)], 2, 32, .agg ⟨[ri, rs]⟩⟩ .e) ⟨194, .pointer 201, 1, 8, .pointer none⟩ .e) ⟨195, .slice 203, 1, 24, rs⟩ (.n (.n .e ⟨196, .map 209 4, 1, 8, .map none⟩ .e) ⟨197, .map 269 198, 1, 8, .map none⟩ .e))) ⟨198, .slice 209, 1, 24, rs⟩ (.n (.n (.n (.n .e ⟨199, .slice 209, 1, 24, rs⟩ .e) ⟨201, .struct [(0, 59), (2, 3), (3, 195), (4, 196), (5, 197), (6, 199)], 7, 104, .agg ⟨[rs, ri, ri, rs, .map none, .map none, rs]⟩⟩ .e) ⟨202, .pointer 205, 1, 8, .pointer none⟩ (.n (.n .e ⟨203, .slice 202, 1, 24, rs⟩ .e) ⟨205, .struct [(0, 3), (1, 3), (2, 3), (3, 203)], 4, 48, .agg ⟨[ri, ri, ri, rs]⟩⟩ .e)) ⟨207, .array 4 3, 4, 32, .agg ⟨[ri, ri, ri, ri]⟩⟩ (.n (.n (.n .e ⟨209, .struct [(0, 3), (1, 3), (2, 207), (6, 202)], 7, 56, .agg ⟨[ri, ri, ri, ri, ri, ri, .pointer none]⟩⟩ .e) ⟨212, .pointer 199, 1, 8, .pointer none⟩ .e) ⟨217, .map 139 128, 1, 8, .map none⟩ (.n (.n .e ⟨218, .map 139 4, 1, 8, .map none⟩ .e) ⟨220, .struct [(0, 25), (4, 164), (5, 217), (6, 218)], 7, 72, .agg ⟨[ri, ri, ri, rs, .pointer none, .map none, .map none]⟩⟩ .e)))) ⟨223, .map 9 3, 1, 8, .map none⟩ (.n (.n (.n (.n (.n .e ⟨232, .slice 139, 1, 24, rs⟩ .e) ⟨234, .word, 1, 8, .nilFunc⟩ (.n .e ⟨235, .word, 1, 8, .nilFunc⟩ .e)) ⟨241, .struct [(0, 25), (4, 65), (5, 85)], 6, 96, .agg ⟨[ri, ri, ri, rs, rs, rs]⟩⟩ (.n (.n .e ⟨243, .struct [(0, 101), (2, 3), (3, 3)], 4, 32, .agg ⟨[.bool false, ri, ri, ri]⟩⟩ .e) ⟨244, .map 243 247, 1, 8, .map none⟩ .e)) ⟨245, .slice 243, 1, 24, rs⟩ (.n (.n (.n .e ⟨246, .map 243 4, 1, 8, .map none⟩ .e) ⟨247, .slice 250, 1, 24, rs⟩ .e) ⟨250, .struct [(0, 3), (1, 245)], 2, 32, .agg ⟨[ri, rs]⟩⟩ (.n (.n .e ⟨252, .word, 1, 8, .nilFunc⟩ .e) ⟨253, .map 243 3, 1, 8, .map none⟩ .e))) ⟨257, .word, 1, 8, .nilFunc⟩ (.n (.n (.n (.n .e ⟨269, .struct [(0, 3), (1, 3)], 2, 16, .agg ⟨[ri, ri]⟩⟩ .e) ⟨271, .word, 1, 8, .nilFunc⟩ .e) ⟨280, .word, 1, 8, .nilFunc⟩ (.n (.n .e ⟨282, .word, 1, 8, .nilFunc⟩ .e) ⟨285, .word, 1, 8, .nilFunc⟩ .e)) ⟨287, .word, 1, 8, .nilFunc⟩ (.n (.n (.n .e ⟨291, .int .u64, 1, 8, .int .u64 0⟩ .e) ⟨293, .array 32 5, 32, 32, .agg ⟨List.replicate 32 (.int .u8 0)⟩⟩ .e) ⟨308, .int .u64, 1, 8, .int .u64 0⟩ (.n (.n .e ⟨315, .array 24 5, 24, 24, .agg ⟨List.replicate 24 (.int .u8 0)⟩⟩ .e) ⟨317, .slice 5, 1, 24, rs⟩ .e))))))
def mask : Nat := 1422855932927941409450022753257014771635195100097346980739275141861165660519793024
def yC : List Nat := [0, 1, 28, 2, 29, 14, 24, 3, 30, 22, 20, 15, 25, 17, 4, 8, 31, 27, 13, 23, 21, 19, 16, 7, 26, 12, 18, 6, 11, 5, 10, 9]
def fA : List (Nat × aJ) := [(0, .cells true (yC.map λx : Nat => Value.int .u8 (x : Int)))]
def facts : List (Nat × List (Nat × aJ)) := []
/-! ### sorting -/
structure Lr where
  aB : Nat
  dot : Nat
deriving DecidableEq, Inhabited
structure Key where
  sym : Sym
  fJ : Nat
  to : Nat
deriving DecidableEq
instance : Inhabited Key := ⟨⟨⟨false, 0⟩, 0, 0⟩⟩
def bm (x y : Int) : Int := if x < y then -1 else if x > y then 1 else 0
def jq : List Int -> Int
  | [] => 0
  | x :: l => if x = 0 then jq l else x
def dO (a b : Sym) : Int := if a.term = b.term then bm a.n b.n else if a.term = true then -1 else 1
def Pl (x y : Lr) : Int := jq [bm x.aB y.aB, bm x.dot y.dot]
def K0 (x y : Key) : Int := jq [bm x.fJ y.fJ, bm x.to y.to, dO x.sym y.sym]
def Aw (x : Lr) : List Value := [.int .i64 x.aB, .int .i64 x.dot]
def zC (x : Key) : List Value := [.bool x.sym.term, .int .i64 x.sym.n, .int .i64 x.fJ, .int .i64 x.to]
def wh : List Value -> Option (List Lr)
  | [] => some []
  | .int .i64 (.ofNat a) :: .int .i64 (.ofNat b) :: r => match wh r with
    | some l => some (⟨a, b⟩ :: l)
    | none => none
  | _ => none
def wQ : List Value -> Option (List Key)
  | [] => some []
  | .bool t :: .int .i64 (.ofNat n) :: .int .i64 (.ofNat a) :: .int .i64 (.ofNat b) :: r => match wQ r with
    | some l => some (⟨⟨t, n⟩, a, b⟩ :: l)
    | none => none
  | _ => none
/-- The grammar of rvBegun, from block i on; a word of zeros. -/
def Ha (i : Nat) : List (Nat × aJ) := [(i, .cells false [.bool false, .int .i64 0, .bool false, .int .i64 0]), (i + 1, .cells false [.bool true, .int .i64 0]), (i + 2, .cells false [.int .i64 0, .slice (some ⟨i, 0, none⟩) 2 2, .int .i64 0, .slice (some ⟨i + 1, 0, none⟩) 1 2])]
def Fk (i : Nat) : Value := .agg ⟨[.int .i64 1, .int .i64 1, .int .i64 0, .slice (some ⟨i + 2, 0, none⟩) 2 2]⟩
def Nz (i n : Nat) : Nat × aJ := (i, .cells false (List.replicate n (.int .i64 0)))
def P9 (i : Nat) : List (Nat × aJ) := (Ha i).map λp => (p.1, u4 p.2)
/-- The automaton of that grammar. -/
def Sr : Value := .tuple ⟨[.agg ⟨[.slice (some ⟨1131, 0, none⟩) 4 1, .slice (some ⟨1254, 0, none⟩) 4 1]⟩, .int .i64 0]⟩
def iN (i : Nat) (l : List Int) : Nat × aJ := (i, .cells false (l.map λx => .int .i64 x))
def iS (i : Nat) (l : List (Nat × Nat × Nat)) : Nat × aJ := (i, .cells false (l.map λx => .slice (some ⟨x.1, 0, none⟩) x.2.1 x.2.2))
def Sj : List (Nat × aJ) := [iN 841 [0, 0, 1, 0, 2, 0], iN 897 [1, 1], iN 948 [0, 0, 0, 1, 1, 0, 2, 1], iN 981 [1, 2], iN 1010 [-1, -1], iN 1101 [0, 0, 0, 1, 0, 2, 1, 0], iS 1131 [(841, 3, 2), (897, 1, 2), (948, 4, 2), (1101, 4, 2)], iN 1133 [1, 3], iN 1252 [1, 3], iS 1254 [(981, 2, 1), (1010, 2, 1), (1133, 2, 1), (1252, 2, 1)]]
/-- What is known of functions: sorting (from 1 on), a call (at 2), three calls (at 3), a fact (at 4). -/
def Jd (b : Nat) (f : FuncId) : Option (List Value -> au -> Option (Value × au)) :=
  bif Nat.beq f 128 then (bif Nat.ble 1 b then some (lz 2 Aw wh (ltOf Pl) 129) else none)
  else bif Nat.beq f 106 then (bif Nat.ble 1 b then some (lz 4 zC wQ (ltOf K0) 107) else none)
  else bif Nat.beq f 5 then (bif Nat.ble 4 b then some (xq fA) else none)
  else bif Nat.beq f 54 then (bif Nat.beq b 2 then some (qO [Fk 733] (P9 733) 799 1255 Sr Sj) else none)
  else bif Nat.beq f 14 then (bif Nat.beq b 3 then some (qO [Fk 4, .slice (some ⟨7, 0, none⟩) 3 1] (fA ++ Ha 4 ++ [Nz 7 3]) 8 463 (.tuple ⟨[.int .i64 2, .int .i64 0]⟩) []) else none)
  else bif Nat.beq f 16 then (bif Nat.beq b 3 then some (qO [Fk 464, .slice (some ⟨467, 0, none⟩) 2 1] (fA ++ Ha 464 ++ [Nz 467 2]) 468 731 (.tuple ⟨[.agg ⟨[.slice (some ⟨729, 0, none⟩) 5 5, .int .i64 2]⟩, .int .i64 0]⟩) []) else none)
  else bif Nat.beq f 7 then (bif Nat.beq b 3 then some (qO [Fk 733, .int .i64 2] (Ha 733) 736 2510 (.tuple ⟨[.agg ⟨[.int .i64 2, .slice (some ⟨2509, 0, none⟩) 4 1, .slice (some ⟨2474, 0, none⟩) 4 1, .slice (some ⟨2504, 0, none⟩) 1 3]⟩, .int .i64 0]⟩) []) else none)
  else none
/-- What the walks know. -/
noncomputable def xV (b : Nat) : Ctx := NF Tryz.prog mask 3 facts 97 (.agg ⟨[.int .i64 0, .int .i64 0, .slice none 0 0]⟩) (λf => Nat.beq f 11) (Jd b)
noncomputable abbrev CC : Ctx := xV 4
theorem hT {b : Nat} : aU (xV b) rows = true := by kernel_rfl

/-! ### short names of rules -/
theorem me {α : Type} {a : α} {l : List α} : a ∈ a :: l := D2 ..
theorem zr {α : Sort _} {a : α} : a = a := rfl
theorem kp {r : Rec} {x : Nat} {bQ : aJ} (p q : Nat) {B B' : List (Nat × aJ)} (h2 : (x, bQ) ∈ B) (h4 : (x, bQ) ∈ B') (h1 : r.own[p]? = some B := by rfl) (h3 : r.aY[q]? = some B' := by rfl) : ∀ y ∈ [x], r.keeps y := wM (Mi p q h1 h2 h3 h4)
abbrev ze := @WT.QF
abbrev zk := @WT.kind
abbrev zl := @WT.loadT
abbrev zf := @WT.Qr
abbrev zi := @WT.OC
abbrev zs := @WT.storeT
abbrev za := @WT.Pb
abbrev zb := @WT.O5
abbrev zx := @WT.Qn
abbrev zn := @WT.QA
abbrev zq := @WT.SG
abbrev zp := @WT.SE
abbrev zu := @WT.S2
abbrev zv := @WT.SJ
structure Wr (q : Prop) : Prop where
  out : q
theorem Q8 {p q : Prop} (hq : q) (h : Wr q -> p := by intro h; (first | refine ze hT zr zr zr zr zr ?_ | refine AW.seq ?_ | refine AW.fp ?_ | refine WT.nil ?_ | refine AW.skip ?_ | (refine zk 1 zr ?_; first | refine zl hT 0 zr zr zr zr zr zr me zr ?_ | refine zl hT 1 zr zr zr zr zr zr me zr ?_ | refine zl hT 2 zr zr zr zr zr zr me zr ?_ | refine zl hT 3 zr zr zr zr zr zr me zr ?_ | refine zf hT (by assumption) zr zr zr zr zr zr ?_ | refine zi (fo := 0) hT (by assumption) (by assumption) zr zr zr zr zr zr ?_ | refine zi hT (by assumption) (by assumption) zr zr zr zr zr zr ?_) | (refine zk 2 zr ?_; first | refine zs hT 0 0 zr zr zr zr zr zr zr zr zr zr zr zr ?_ | refine zs hT 1 0 zr zr zr zr zr zr zr zr zr zr zr zr ?_ | refine zs hT 2 0 zr zr zr zr zr zr zr zr zr zr zr zr ?_ | refine zs hT 3 0 zr zr zr zr zr zr zr zr zr zr zr zr ?_) | (refine zk 3 zr ?_; first | refine za zr zr zr zr zr zr zo ?_ | refine zb zr zr zr zr zr zr zo ?_ | refine zq hT zr zr zr zr zr zr zr ?_ | refine zp hT zr zr zr zr zr zr zr ?_ | refine zu hT zr zr zr zr zr zr zr zr ?_ | refine zv hT zr zr zr zr zr zr zr zr ?_) | refine zx zr zr zr zr ?_ | refine zn zr zr zr ?_ | refine AW.draw (ps := []) zr zr ?_ | refine And.intro trivial ?_); exact h.out) : p := h ⟨hq⟩
theorem Qt {p q : Prop} (hq : q) (h : Wr q -> p := by intro h; (refine zk 3 zr ?_; first | refine WT.RD zr zr zr zr zr zr zo ?_ | refine WT.Rr zr zr zr zr zr zr zo ?_ | refine WT.RN zr zr zr zr zr zr zo ?_ | refine WT.Ry zr zr zr zr zr zr zo ?_ | refine WT.RM zr zr zr zr zr zr zo ?_); exact h.out) : p := h ⟨hq⟩
theorem RX {p q : Prop} (hq : q) (h : Wr q -> p := by intro h; (first | refine Q8 ?_ | (refine zk 1 zr ?_; refine zl hT 4 zr zr zr zr zr zr me zr ?_) | (refine zk 2 zr ?_; refine zs hT 4 0 zr zr zr zr zr zr zr zr zr zr zr zr ?_)); exact h.out) : p := h ⟨hq⟩
theorem RP {p q : Prop} (hq : q) (h : Wr q -> p := by intro h; (first | refine RX ?_ | (refine zk 1 zr ?_; refine zl hT 5 zr zr zr zr zr zr me zr ?_) | (refine zk 2 zr ?_; refine zs hT 5 0 zr zr zr zr zr zr zr zr zr zr zr zr ?_)); exact h.out) : p := h ⟨hq⟩
theorem RE {p q : Prop} (hq : q) (h : Wr q -> p := by intro h; (first | refine RP ?_ | (refine zk 1 zr ?_; refine zl hT 6 zr zr zr zr zr zr me zr ?_) | (refine zk 2 zr ?_; refine zs hT 6 0 zr zr zr zr zr zr zr zr zr zr zr zr ?_)); exact h.out) : p := h ⟨hq⟩
theorem Rm {p q : Prop} (hq : q) (h : Wr q -> p := by intro h; (first | refine RE ?_ | (refine zk 1 zr ?_; refine zl hT 7 zr zr zr zr zr zr me zr ?_) | (refine zk 2 zr ?_; refine zs hT 7 0 zr zr zr zr zr zr zr zr zr zr zr zr ?_)); exact h.out) : p := h ⟨hq⟩
theorem R7 {p q : Prop} (hq : q) (h : Wr q -> p := by intro h; (first | refine Rm ?_ | (refine zk 1 zr ?_; refine zl hT 8 zr zr zr zr zr zr me zr ?_) | (refine zk 2 zr ?_; refine zs hT 8 0 zr zr zr zr zr zr zr zr zr zr zr zr ?_)); exact h.out) : p := h ⟨hq⟩
theorem Rc {p q : Prop} (hq : q) (h : Wr q -> p := by intro h; (first | refine R7 ?_ | (refine zk 1 zr ?_; refine zl hT 9 zr zr zr zr zr zr me zr ?_) | (refine zk 2 zr ?_; refine zs hT 9 0 zr zr zr zr zr zr zr zr zr zr zr zr ?_)); exact h.out) : p := h ⟨hq⟩
theorem R2 {p q : Prop} (hq : q) (h : Wr q -> p := by intro h; (first | refine Rc ?_ | (refine zk 1 zr ?_; refine zl hT 10 zr zr zr zr zr zr me zr ?_) | (refine zk 2 zr ?_; refine zs hT 10 0 zr zr zr zr zr zr zr zr zr zr zr zr ?_)); exact h.out) : p := h ⟨hq⟩
theorem P1 {p q : Prop} (hq : q) (h : Wr q -> p := by intro h; (first | refine R2 ?_ | (refine zk 1 zr ?_; refine zl hT 11 zr zr zr zr zr zr me zr ?_) | (refine zk 2 zr ?_; refine zs hT 11 0 zr zr zr zr zr zr zr zr zr zr zr zr ?_)); exact h.out) : p := h ⟨hq⟩
theorem Rs {p q : Prop} (hq : q) (h : Wr q -> p := by intro h; (first | refine P1 ?_ | (refine zk 1 zr ?_; refine zl hT 12 zr zr zr zr zr zr me zr ?_) | (refine zk 2 zr ?_; refine zs hT 12 0 zr zr zr zr zr zr zr zr zr zr zr zr ?_)); exact h.out) : p := h ⟨hq⟩
theorem Qp {p q : Prop} (hq : q) (h : Wr q -> p := by intro h; (first | refine Rs ?_ | (refine zk 1 zr ?_; refine zl hT 13 zr zr zr zr zr zr me zr ?_) | (refine zk 2 zr ?_; refine zs hT 13 0 zr zr zr zr zr zr zr zr zr zr zr zr ?_)); exact h.out) : p := h ⟨hq⟩
theorem Rg {p q : Prop} (hq : q) (h : Wr q -> p := by intro h; (first | refine Qp ?_ | (refine zk 1 zr ?_; refine zl hT 14 zr zr zr zr zr zr me zr ?_) | (refine zk 2 zr ?_; refine zs hT 14 0 zr zr zr zr zr zr zr zr zr zr zr zr ?_)); exact h.out) : p := h ⟨hq⟩
theorem RI {p q : Prop} (hq : q) (h : Wr q -> p := by intro h; (first | refine Rg ?_ | (refine zk 1 zr ?_; refine zl hT 15 zr zr zr zr zr zr me zr ?_) | (refine zk 2 zr ?_; refine zs hT 15 0 zr zr zr zr zr zr zr zr zr zr zr zr ?_)); exact h.out) : p := h ⟨hq⟩
theorem aq {p q : Prop} (hq : q) (h : Wr q -> p := by intro h; (repeat (refine Q8 ?_)); exact h.out) : p := h ⟨hq⟩
theorem SA {p q : Prop} (hq : q) (h : Wr q -> p := by intro h; (repeat (refine RX ?_)); exact h.out) : p := h ⟨hq⟩
theorem gz {p q : Prop} (hq : q) (h : Wr q -> p := by intro h; (repeat (refine RP ?_)); exact h.out) : p := h ⟨hq⟩
theorem yP {p q : Prop} (hq : q) (h : Wr q -> p := by intro h; (repeat (refine RE ?_)); exact h.out) : p := h ⟨hq⟩
theorem qo {p q : Prop} (hq : q) (h : Wr q -> p := by intro h; (repeat (refine Rm ?_)); exact h.out) : p := h ⟨hq⟩
theorem D3 {p q : Prop} (hq : q) (h : Wr q -> p := by intro h; (repeat (refine R7 ?_)); exact h.out) : p := h ⟨hq⟩
theorem ak {p q : Prop} (hq : q) (h : Wr q -> p := by intro h; (repeat (first | refine Qt ?_ | refine Q8 ?_)); exact h.out) : p := h ⟨hq⟩
theorem oF {p q : Prop} (hq : q) (h : Wr q -> p := by intro h; (repeat (first | refine Qt ?_ | refine RX ?_)); exact h.out) : p := h ⟨hq⟩
theorem MM {p q : Prop} (hq : q) (h : Wr q -> p := by intro h; (repeat (first | refine Qt ?_ | refine RP ?_)); exact h.out) : p := h ⟨hq⟩
theorem Rw {p q : Prop} (hq : q) (h : Wr q -> p := by intro h; (repeat (first | refine Qt ?_ | refine RE ?_)); exact h.out) : p := h ⟨hq⟩
theorem mH {p q : Prop} (hq : q) (h : Wr q -> p := by intro h; (repeat (first | refine Qt ?_ | refine Rm ?_)); exact h.out) : p := h ⟨hq⟩
theorem Ls {p q : Prop} (hq : q) (h : Wr q -> p := by intro h; (repeat (refine P1 ?_)); exact h.out) : p := h ⟨hq⟩
theorem Fq {p q : Prop} (hq : q) (h : Wr q -> p := by intro h; (repeat (refine Qp ?_)); exact h.out) : p := h ⟨hq⟩
theorem Hz {p q : Prop} (hq : q) (h : Wr q -> p := by intro h; (repeat (refine RI ?_)); exact h.out) : p := h ⟨hq⟩
theorem sM {k2 k : ck} (h : (k2.map (·.1)).map (lk k) = (k2.map (·.1)).map (lk k2) := by rfl) : jd k2 k := jd.of_map h
theorem oR {own : bA} : ah own own := ah.refl own
abbrev gE := @List.getElem?_eq_getElem
theorem gS {α : Type _} {l : List α} {i : Nat} {a : α} (h : l[i]? = some a) : ∃ h : i < l.length, l[i] = a := No.1 h
theorem gM {α : Type _} {l : List α} {i : Nat} {a : α} (h : l[i]? = some a) : a ∈ l := Uj h
theorem Z {α : Sort _} {a : α} : a = a := rfl
theorem bF {α : Type _} {a b : List α} (h : List.Sublist a b := by repeat (first | exact Tm _ | refine List.Sublist.cons _ ?_)) : List.Sublist a b := h
theorem cF {p : Prop} (h : p := by repeat (first | exact ah.refl _ | refine ah.skip _ ?_)) : p := h
theorem zo {p : Prop} (h : p := by omega) : p := h
theorem fj {p : Prop} (h : p := by first | omega | (dsimp only at *; omega)) : p := h
theorem lU {p : Prop} (h : p := by repeat (first | exact trivial | refine eW rfl rfl (by first | exact pJ | exact wM (jB (by assumption)) | exact kp 0 0 me me | exact kp 1 1 me me | exact kp 2 2 me me | exact kp 3 3 me me | exact kp 4 4 me me | exact kp 5 5 me me | exact kp 6 6 me me | exact kp 0 1 me me | exact kp 1 2 me me | exact kp 2 3 me me | exact kp 3 4 me me | exact kp 4 5 me me | exact kp 5 6 me me | exact kp 6 7 me me) ?_)) : p := h
theorem OG {p : Prop} (h : p := by repeat (first | exact trivial | refine eW rfl rfl (by first | exact pJ | exact wM (jB (by assumption)) | exact kp 0 0 me me | exact kp 1 1 me me | exact kp 2 2 me me | exact kp 3 3 me me | exact kp 4 4 me me | exact kp 5 5 me me | exact kp 6 6 me me | exact kp 0 1 me me | exact kp 1 2 me me | exact kp 2 3 me me | exact kp 3 4 me me | exact kp 4 5 me me | exact kp 5 6 me me | exact kp 6 7 me me | exact kp 0 0 (by assumption) (by assumption) | exact kp 1 1 (by assumption) (by assumption) | exact kp 2 2 (by assumption) (by assumption) | exact kp 3 3 (by assumption) (by assumption) | exact kp 4 4 (by assumption) (by assumption) | exact kp 5 5 (by assumption) (by assumption) | exact kp 6 6 (by assumption) (by assumption) | exact kp 0 1 (by assumption) (by assumption) | exact kp 1 2 (by assumption) (by assumption) | exact kp 2 3 (by assumption) (by assumption) | exact kp 3 4 (by assumption) (by assumption) | exact kp 4 5 (by assumption) (by assumption) | exact kp 5 6 (by assumption) (by assumption) | exact kp 6 7 (by assumption) (by assumption)) ?_)) : p := h
end Go.Proofs.D

