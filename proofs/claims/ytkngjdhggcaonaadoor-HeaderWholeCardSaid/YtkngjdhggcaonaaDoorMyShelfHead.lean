/-
  The library's contracts that header leans on, laid over this translation.
-/
import Derived.Test.YtkngjdhggcaonaaDoorProg
import Derived.WalkKit
import Derived.Ground.NamesProg
import Derived.Shelf.Lay
import Derived.Shelf.Unicode.ValidAny
import Derived.Shelf.Small.Strs
import Derived.Shelf.Strings.SlTrimAscii
import Derived.Shelf.Strings.BuilderK
import Derived.Shelf.Strings.Builder2
import Derived.Lib.FrozenHead2
import Derived.Shelf.Strings.Count
import Derived.Shelf.Strings.Search3
import Derived.Shelf.Strings.LastIndex
namespace Go.Proofs
open Go.Shelf
shelf_lay Lays.n137 Nm 137 at Tryd as Tryd.lays137
shelf_lay Lays.n160 Nm 160 at Tryd as Tryd.lays160
shelf_lay Lays.n149 Nm 149 at Tryd as Tryd.lays149
shelf_lay Lays.n138 Nm 138 at Tryd as Tryd.lays138
shelf_lay Lays.n143 Nm 143 at Tryd as Tryd.lays143
shelf_lay Lays.n219 Nm 219 at Tryd as Tryd.lays219
shelf_lay Lays.n165 Nm 165 at Tryd as Tryd.lays165
shelf_lay Lays.n169 Nm 169 at Tryd as Tryd.lays169
theorem Tryd.bx165 : Builder.Extra Tryd.prog Tryd.lays165_ren := {
  sizeBuilder := by kernel_rfl
  liesBuilder := by kernel_rfl
  t5 := Tryd.underlying5
  a5 := Tryd.isAgg5
  z5 := Tryd.sizeOf5
  v5 := Tryd.zeroValue5
  infoByte := by kernel_rfl
  cellsByte := by kernel_rfl
  sizeByte := by kernel_rfl
  neB5 := by decide }
theorem Tryd.bx169 : Builder.Extra Tryd.prog Tryd.lays169_ren := {
  sizeBuilder := by kernel_rfl
  liesBuilder := by kernel_rfl
  t5 := Tryd.underlying5
  a5 := Tryd.isAgg5
  z5 := Tryd.sizeOf5
  v5 := Tryd.zeroValue5
  infoByte := by kernel_rfl
  cellsByte := by kernel_rfl
  sizeByte := by kernel_rfl
  neB5 := by decide }
end Go.Proofs
namespace Go.Proofs.YtkngjdhggcaonaaDoor.My
open Go.RowKit Go.Shelf Go.Lib
theorem indexByte_any (s : ByteArray) (c : Int) (w : World) :
    Calls Tryd.prog 57 #[.string s, .int .u8 c] w fun e w' => e = .returned (.int .i64 (Lib.indexByte s.data.toList c.toNat.toUInt8)) ∧ w' = w :=
  Any.strings_IndexByte Tryd.lays137 s c w
theorem trim_any (s cut : ByteArray) (w : World) (hs : s.size ≤ 9223372036854775807) (hcs : cut.size < 4294967281) (hascii : ∀ (j : Nat) b, cut.data.toList[j]? = some b → b.toNat < 128) :
    Calls Tryd.prog 46 #[.string s, .string cut] w fun e w' => e = .returned (.string ⟨(Lib.trimS s.data.toList cut.data.toList).toArray⟩) ∧ Below w.heap.size w w' :=
  Any.strings_Trim_laid Tryd.lays160 (by kernel_rfl) s cut w hs hcs hascii
theorem lastByte_any (s : ByteArray) (c : Int) (hs : s.size < 4611686018427387904) (w : World) :
    Calls Tryd.prog 62 #[.string s, .int .u8 c] w fun e w' => e = .returned (.int .i64 (Lib.lastIndexByte s c)) ∧ w' = w :=
  Any.strings_LastIndexByte Tryd.lays149 s c hs w
theorem countOne_any (s : ByteArray) (c : UInt8) (w : World) :
    Calls Tryd.prog 82 #[.string s, .string ⟨#[c]⟩] w fun e w' => e = .returned (.int .i64 (Lib.countByte s.data.toList c)) ∧ w' = w :=
  Any.strings_Count_one Tryd.lays138 s c w
theorem indexOne_any (s : ByteArray) (c : UInt8) (w : World) :
    Calls Tryd.prog 84 #[.string s, .string ⟨#[c]⟩] w fun e w' => e = .returned (.int .i64 (Lib.indexByte s.data.toList c)) ∧ w' = w :=
  Any.strings_Index_one Tryd.lays143 s c w
theorem liteIndexOne_any (s : ByteArray) (c : UInt8) (w : World) :
    Calls Tryd.prog 96 #[.string s, .string ⟨#[c]⟩] w fun e w' => e = .returned (.int .i64 (Lib.indexByte s.data.toList c)) ∧ w' = w :=
  Any.stringslite_Index_one Tryd.lays219 s c w
theorem bString_any (b : Nat) (l : List UInt8) (w : World) (h : Lib.IsBuilderF 81 5 b b (Lib.byteCells l) w) (hBw : b ≤ w.heap.size) :
    Calls Tryd.prog 51 #[.pointer (some ⟨b, 0, none⟩)] w fun e w' => e = .returned (.string ⟨l.toArray⟩) ∧ (Lib.IsBuilderF 81 5 b b (Lib.byteCells l) w' ∧ Below b w w' ∧ Lib.OthersKept 5 (some b) w w') :=
  Any.Builder_String_any_k Tryd.lays169 Tryd.bx169 b b l w h hBw
theorem bGrow_any (b n : Nat) (w : World) (hbk : w.heap[b]? = some (.cells #[.pointer none, .slice none 0 0] 81 (0, 0))) (hBw : b ≤ w.heap.size) (hn : n ≤ 281474976710656) :
    Calls Tryd.prog 83 #[.pointer (some ⟨b, 0, none⟩), .int .i64 n] w fun e w' => e = .returned (.tuple #[]) ∧ (Lib.IsBuilderF 81 5 b b (Lib.byteCells []) w' ∧ Below b w w') :=
  (Any.Builder_Grow_fresh Tryd.lays165 Tryd.bx165 b b n w (Nat.le_refl _) hbk hBw hn).mono fun _ _ h => ⟨h.1, Lib.IsBuilderF.of (Or.inr h.2.1), h.2.2⟩
end Go.Proofs.YtkngjdhggcaonaaDoor.My
