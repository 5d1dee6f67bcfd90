/-
  The program as the abstract machine sees it: its types, its table, what is known of its facts.
-/
import Derived.Test.YtfnleneclialjaaDoorAbs7
import Derived.Test.YtfnleneclialjaaDoorProg
open Go Go.Abs Go.Proofs
namespace Go.Proofs.D
def rows : RT :=
  (.n (.n (.n (.n (.n (.n (.n .e ⟨3, .int .i64, 1, 8, .int .i64 0⟩ .e) ⟨4, .bool, 1, 1, .bool false⟩ .e) ⟨5, .int .u8, 1, 1, .int .u8 0⟩ (.n .e ⟨9, .string, 1, 16, .string ByteArray.empty⟩ .e)) ⟨22, .slice 3, 1, 24, .slice none 0 0⟩ (.n (.n .e ⟨23, .slice 54, 1, 24, .slice none 0 0⟩ .e) ⟨25, .struct [(0, 3), (1, 3), (2, 3), (3, 23)], 4, 48, .agg ⟨[.int .i64 0, .int .i64 0, .int .i64 0, .slice none 0 0]⟩⟩ (.n .e ⟨30, .slice 43, 1, 24, .slice none 0 0⟩ .e))) ⟨32, .struct [(0, 30), (1, 3)], 2, 32, .agg ⟨[.slice none 0 0, .int .i64 0]⟩⟩ (.n (.n (.n .e ⟨33, .int .i64, 1, 8, .int .i64 0⟩ .e) ⟨40, .struct [(0, 4), (1, 3)], 2, 16, .agg ⟨[.bool false, .int .i64 0]⟩⟩ (.n .e ⟨41, .slice 50, 1, 24, .slice none 0 0⟩ .e)) ⟨43, .struct [(0, 40), (2, 3), (3, 3), (4, 41)], 5, 56, .agg ⟨[.bool false, .int .i64 0, .int .i64 0, .int .i64 0, .slice none 0 0]⟩⟩ (.n (.n .e ⟨45, .word, 1, 8, .nilFunc⟩ .e) ⟨47, .slice 4, 1, 24, .slice none 0 0⟩ (.n .e ⟨48, .word, 1, 8, .nilFunc⟩ .e)))) ⟨50, .struct [(0, 3), (1, 22)], 2, 32, .agg ⟨[.int .i64 0, .slice none 0 0]⟩⟩ (.n (.n (.n (.n .e ⟨52, .slice 40, 1, 24, .slice none 0 0⟩ .e) ⟨54, .struct [(0, 3), (1, 52)], 2, 32, .agg ⟨[.int .i64 0, .slice none 0 0]⟩⟩ (.n .e ⟨57, .slice 60, 1, 24, .slice none 0 0⟩ .e)) ⟨60, .slice 61, 1, 24, .slice none 0 0⟩ (.n (.n .e ⟨61, .int .u32, 1, 4, .int .u32 0⟩ .e) ⟨72, .slice 76, 1, 24, .slice none 0 0⟩ (.n .e ⟨76, .struct [(0, 3), (1, 3), (2, 72)], 3, 40, .agg ⟨[.int .i64 0, .int .i64 0, .slice none 0 0]⟩⟩ .e))) ⟨80, .word, 1, 8, .nilFunc⟩ (.n (.n (.n .e ⟨82, .pointer 76, 1, 8, .pointer none⟩ .e) ⟨85, .word, 1, 8, .nilFunc⟩ (.n .e ⟨98, .word, 1, 8, .nilFunc⟩ .e)) ⟨100, .pointer 102, 1, 8, .pointer none⟩ (.n (.n .e ⟨102, .struct [(0, 22)], 1, 24, .agg ⟨[.slice none 0 0]⟩⟩ .e) ⟨114, .word, 1, 8, .nilFunc⟩ (.n .e ⟨117, .pointer 124, 1, 8, .pointer none⟩ .e))))) ⟨118, .slice 126, 1, 24, .slice none 0 0⟩ (.n (.n (.n (.n (.n .e ⟨119, .map 132 4, 1, 8, .map none⟩ .e) ⟨120, .map 169 121, 1, 8, .map none⟩ (.n .e ⟨121, .slice 132, 1, 24, .slice none 0 0⟩ .e)) ⟨122, .slice 132, 1, 24, .slice none 0 0⟩ (.n (.n .e ⟨124, .struct [(0, 32), (2, 3), (3, 118), (4, 119), (5, 120), (6, 122)], 7, 104, .agg ⟨[.slice none 0 0, .int .i64 0, .int .i64 0, .slice none 0 0, .map none, .map none, .slice none 0 0]⟩⟩ .e) ⟨125, .pointer 128, 1, 8, .pointer none⟩ (.n .e ⟨126, .slice 125, 1, 24, .slice none 0 0⟩ .e))) ⟨128, .struct [(0, 3), (1, 3), (2, 3), (3, 126)], 4, 48, .agg ⟨[.int .i64 0, .int .i64 0, .int .i64 0, .slice none 0 0]⟩⟩ (.n (.n (.n .e ⟨130, .array 4 3, 4, 32, .agg ⟨[.int .i64 0, .int .i64 0, .int .i64 0, .int .i64 0]⟩⟩ .e) ⟨132, .struct [(0, 3), (1, 3), (2, 130), (6, 125)], 7, 56, .agg ⟨[.int .i64 0, .int .i64 0, .int .i64 0, .int .i64 0, .int .i64 0, .int .i64 0, .pointer none]⟩⟩ (.n .e ⟨135, .pointer 122, 1, 8, .pointer none⟩ .e)) ⟨139, .struct [(0, 40), (2, 3), (3, 3)], 4, 32, .agg ⟨[.bool false, .int .i64 0, .int .i64 0, .int .i64 0]⟩⟩ (.n (.n .e ⟨140, .map 139 143, 1, 8, .map none⟩ .e) ⟨141, .slice 139, 1, 24, .slice none 0 0⟩ (.n .e ⟨142, .map 139 4, 1, 8, .map none⟩ .e)))) ⟨143, .slice 146, 1, 24, .slice none 0 0⟩ (.n (.n (.n (.n .e ⟨146, .struct [(0, 3), (1, 141)], 2, 32, .agg ⟨[.int .i64 0, .slice none 0 0]⟩⟩ .e) ⟨148, .word, 1, 8, .nilFunc⟩ (.n .e ⟨149, .map 139 3, 1, 8, .map none⟩ .e)) ⟨152, .word, 1, 8, .nilFunc⟩ (.n (.n .e ⟨157, .word, 1, 8, .nilFunc⟩ .e) ⟨160, .word, 1, 8, .nilFunc⟩ (.n .e ⟨169, .struct [(0, 3), (1, 3)], 2, 16, .agg ⟨[.int .i64 0, .int .i64 0]⟩⟩ .e))) ⟨171, .word, 1, 8, .nilFunc⟩ (.n (.n (.n .e ⟨175, .int .u64, 1, 8, .int .u64 0⟩ .e) ⟨176, .word, 1, 8, .nilFunc⟩ (.n .e ⟨178, .array 32 5, 32, 32, .agg ⟨[.int .u8 0, .int .u8 0, .int .u8 0, .int .u8 0, .int .u8 0, .int .u8 0, .int .u8 0, .int .u8 0, .int .u8 0, .int .u8 0, .int .u8 0, .int .u8 0, .int .u8 0, .int .u8 0, .int .u8 0, .int .u8 0, .int .u8 0, .int .u8 0, .int .u8 0, .int .u8 0, .int .u8 0, .int .u8 0, .int .u8 0, .int .u8 0, .int .u8 0, .int .u8 0, .int .u8 0, .int .u8 0, .int .u8 0, .int .u8 0, .int .u8 0, .int .u8 0]⟩⟩ .e)) ⟨187, .int .i64, 1, 8, .int .i64 0⟩ (.n (.n .e ⟨195, .int .u64, 1, 8, .int .u64 0⟩ .e) ⟨204, .int .u64, 1, 8, .int .u64 0⟩ (.n .e ⟨208, .pointer 3, 1, 8, .pointer none⟩ .e))))))
def mask : Nat := 1122433392328661165381280433013873733598423220748672
def tab32 : List Nat := [0, 1, 28, 2, 29, 14, 24, 3, 30, 22, 20, 15, 25, 17, 4, 8, 31, 27, 13, 23, 21, 19, 16, 7, 26, 12, 18, 6, 11, 5, 10, 9]
def tabs : List (Nat × Blk) := [(0, .cells true (tab32.map fun x : Nat => Value.int .u8 (x : Int)))]
def facts : List (Nat × List (Nat × Blk)) := [(18, tabs)]
noncomputable def CC : Ctx := ctxF Tryd.prog mask 1 facts
theorem hT : rowsOk CC rows = true := by decide +kernel

/-! ### short names of rules -/
theorem me {α : Type} {a : α} {l : List α} : a ∈ a :: l := List.mem_cons_self ..
theorem zr {α : Sort _} {a : α} : a = a := rfl
theorem kp {r : Rec} {x : Nat} {blk : Blk} (p q : Nat) {B B' : List (Nat × Blk)} (h2 : (x, blk) ∈ B) (h4 : (x, blk) ∈ B') (h1 : r.own[p]? = some B := by rfl) (h3 : r.own'[q]? = some B' := by rfl) : ∀ y ∈ [x], r.keeps y := keep1 (keeps_at p q h1 h2 h3 h4)
abbrev ze := @WT.easy
abbrev zk := @WT.kind
abbrev zl := @WT.loadT
abbrev zf := @WT.loadF
abbrev zi := @WT.loadEl
abbrev zs := @WT.storeT
abbrev za := @WT.addT
abbrev zb := @WT.subT
abbrev zx := @WT.skipT
abbrev zn := @WT.skipN
abbrev zq := @WT.eqS
abbrev zp := @WT.neS
abbrev zu := @WT.eqB
abbrev zv := @WT.neB
end Go.Proofs.D

