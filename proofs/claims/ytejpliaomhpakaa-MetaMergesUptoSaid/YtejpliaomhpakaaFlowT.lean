/-
  FLOW: THIS SEAT's TYPE TABLES, printed by a program of the bench out of the translation, and proved to be the program's.
-/
import Derived.Test.YtejpliaomhpakaaFlowM
namespace Go.Proofs.Ytejpliaomhpakaa.Flow

def tyL : List (List (Ty)) := [
  [.other, .other, .int .i64, .int .i64, .bool, .int .u8, .int .u8, .struct [(0, 1, false), (1, 1, false), (2, 1, false), (3, 1, false)], .struct [(0, 1, false), (1, 1, false), (2, 1, false), (3, 1, false)], .str, .str, .str],
  [.int .u64, .struct [(0, 1, false), (1, 1, false)], .struct [(0, 1, false), (1, 1, false)], .ptr 128, .ptr 131, .ptr 140, .struct [(0, 1, false)], .struct [(0, 1, false)], .other, .int .i32, .slice 38 2 true 40, .struct [(0, 1, false), (1, 1, false)]],
  [.struct [(0, 1, false), (1, 1, false)], .slice 86 3 true 48, .other, .other, .other, .other, .other, .other, .other, .other, .other, .slice 83 2 true 32],
  [.other, .struct [(0, 1, false), (1, 1, false)], .struct [(0, 1, false), (1, 1, false)], .other, .slice 47 3 true 48, .other, .ptr 107, .other, .slice 9 1 false 16, .slice 5 1 false 1, .struct [(0, 1, false), (1, 1, false), (2, 1, false)], .struct [(0, 1, false), (1, 1, false), (2, 1, false)]],
  [.other, .other, .other, .other, .other, .slice 44 1 false 24, .int .i64, .other, .other, .other, .other, .other],
  [.other, .other, .other, .other, .slice 73 2 true 40, .struct [(0, 1, false), (1, 1, false), (2, 1, false), (3, 1, false), (4, 1, false)], .struct [(0, 1, false), (1, 1, false), (2, 1, false), (3, 1, false), (4, 1, false)], .other, .other, .other, .other, .other],
  [.struct [(0, 1, false), (1, 1, false)], .struct [(0, 1, false), (1, 1, false)], .other, .other, .other, .other, .other, .other, .other, .other, .other, .array 2 9 1 false],
  [.slice 91 5 true 72, .struct [(0, 1, false), (1, 1, false), (2, 1, false)], .struct [(0, 1, false), (1, 1, false), (2, 1, false)], .int .u64, .slice 120 1 false 24, .slice 96 4 true 48, .struct [(0, 1, false), (1, 1, false), (2, 1, false), (3, 1, false), (4, 1, false)], .struct [(0, 1, false), (1, 1, false), (2, 1, false), (3, 1, false), (4, 1, false)], .other, .struct [(0, 1, false), (1, 1, false), (2, 1, false)], .struct [(0, 1, false), (1, 1, false), (2, 1, false)], .struct [(0, 1, false), (1, 3, true)]],
  [.struct [(0, 1, false), (1, 3, true)], .other, .other, .other, .other, .other, .ptr 104, .struct [(0, 1, false), (1, 1, false), (2, 1, false), (3, 1, false)], .struct [(0, 1, false), (1, 1, false), (2, 1, false), (3, 1, false)], .other, .struct [(0, 1, false), (1, 1, false), (2, 1, false), (3, 1, false), (4, 1, false), (5, 1, false), (6, 1, false)], .struct [(0, 1, false), (1, 1, false), (2, 1, false), (3, 1, false), (4, 1, false), (5, 1, false), (6, 1, false)]],
  [.other, .other, .other, .ptr 113, .struct [(0, 1, false), (1, 1, false), (2, 1, false)], .struct [(0, 1, false), (1, 1, false), (2, 1, false)], .other, .other, .other, .other, .other, .other],
  [.slice 142 2 true 16, .other, .other, .other, .other, .other, .other, .struct [(0, 1, false), (1, 1, false), (2, 1, false), (3, 1, false)], .struct [(0, 1, false), (1, 1, false), (2, 1, false), (3, 1, false)], .array 0 16 1 false, .struct [(0, 0, true)], .struct [(0, 0, true)]],
  [.int .u32, .int .u8, .int .u8, .other, .ptr 5, .int .i32, .int .i32, .struct [(0, 1, false), (1, 1, false), (2, 1, false), (3, 1, false), (4, 1, false), (5, 1, false), (6, 1, false), (7, 1, false), (8, 1, false), (9, 1, false), (10, 1, false)], .struct [(0, 1, false), (1, 1, false), (2, 1, false), (3, 1, false), (4, 1, false), (5, 1, false), (6, 1, false), (7, 1, false), (8, 1, false), (9, 1, false), (10, 1, false)], .struct [(0, 1, false), (1, 1, false)], .struct [(0, 1, false), (1, 1, false)], .other]]
def szL : List (List (Option (Nat × Bool))) := [
  [some (1, false), some (1, false), some (1, false), some (1, false), some (1, false), some (1, false), some (1, false), some (4, true), some (4, true), some (1, false), some (1, false), some (1, false)],
  [some (1, false), some (2, true), some (2, true), some (1, false), some (1, false), some (1, false), some (1, true), some (1, true), some (1, false), some (1, false), some (1, false), some (2, true)],
  [some (2, true), some (1, false), some (1, false), some (1, false), some (1, false), some (1, false), some (1, false), some (1, false), some (1, false), some (1, false), some (1, false), some (1, false)],
  [some (1, false), some (2, true), some (2, true), some (1, false), some (1, false), some (1, false), some (1, false), some (1, false), some (1, false), some (1, false), some (3, true), some (3, true)],
  [some (1, false), some (1, false), some (1, false), some (1, false), some (1, false), some (1, false), some (1, false), some (1, false), some (1, false), some (1, false), some (1, false), some (1, false)],
  [some (1, false), some (1, false), some (1, false), some (1, false), some (1, false), some (5, true), some (5, true), some (1, false), some (1, false), some (1, false), some (1, false), some (1, false)],
  [some (2, true), some (2, true), some (1, false), some (1, false), some (1, false), some (1, false), some (1, false), some (1, false), some (1, false), some (1, false), some (1, false), some (2, true)],
  [some (1, false), some (3, true), some (3, true), some (1, false), some (1, false), some (1, false), some (5, true), some (5, true), some (1, false), some (3, true), some (3, true), some (4, true)],
  [some (4, true), some (1, false), some (1, false), some (1, false), some (1, false), some (1, false), some (1, false), some (4, true), some (4, true), some (1, false), some (7, true), some (7, true)],
  [some (1, false), some (1, false), some (1, false), some (1, false), some (3, true), some (3, true), some (1, false), some (1, false), some (1, false), some (1, false), some (1, false), some (1, false)],
  [some (1, false), some (1, false), some (1, false), some (1, false), some (1, false), some (1, false), some (1, false), some (4, true), some (4, true), some (0, true), some (0, true), some (0, true)],
  [some (1, false), some (1, false), some (1, false), some (1, false), some (1, false), some (1, false), some (1, false), some (11, true), some (11, true), some (2, true), some (2, true), some (1, false)]]
def zrL : List (List (Option D)) := [
  [some (.any), some (.v (.nilFunc)), some (.i .i64 0), some (.i .i64 0), some (.b false), some (.i .u8 0), some (.i .u8 0), some (.ag [.i .i64 0, .i .i64 0, .b false, .i .u8 0]), some (.ag [.i .i64 0, .i .i64 0, .b false, .i .u8 0]), some (.s []), some (.s []), some (.s [])],
  [some (.i .u64 0), some (.ag [.s [], .i .u64 0]), some (.ag [.s [], .i .u64 0]), some (.v (.pointer none)), some (.v (.pointer none)), some (.v (.pointer none)), some (.ag [.v (.pointer none)]), some (.ag [.v (.pointer none)]), some (.v (.nilIface)), some (.i .i32 0), some (.nilS), some (.ag [.nilS, .s []])],
  [some (.ag [.nilS, .s []]), some (.nilS), some (.v (.nilFunc)), some (.v (.nilFunc)), some (.v (.nilFunc)), some (.any), some (.v (.nilFunc)), some (.v (.nilFunc)), some (.v (.nilFunc)), some (.v (.nilFunc)), some (.v (.nilFunc)), some (.nilS)],
  [some (.v (.nilFunc)), some (.ag [.s [], .nilS]), some (.ag [.s [], .nilS]), some (.v (.nilFunc)), some (.nilS), some (.v (.nilFunc)), some (.v (.pointer none)), some (.v (.nilFunc)), some (.nilS), some (.nilS), some (.ag [.i .i64 0, .s [], .nilS]), some (.ag [.i .i64 0, .s [], .nilS])],
  [some (.v (.nilFunc)), some (.any), some (.v (.nilFunc)), some (.v (.nilFunc)), some (.v (.nilFunc)), some (.nilS), some (.i .i64 0), some (.any), some (.v (.nilFunc)), some (.any), some (.v (.nilFunc)), some (.v (.nilFunc))],
  [some (.v (.nilFunc)), some (.v (.nilFunc)), some (.v (.nilFunc)), some (.v (.nilFunc)), some (.nilS), some (.ag [.nilS, .i .i64 0, .i .i64 0, .i .i64 0, .i .i64 0]), some (.ag [.nilS, .i .i64 0, .i .i64 0, .i .i64 0, .i .i64 0]), some (.v (.nilFunc)), some (.any), some (.v (.nilFunc)), some (.any), some (.v (.nilFunc))],
  [some (.ag [.s [], .nilS]), some (.ag [.s [], .nilS]), some (.any), some (.v (.nilFunc)), some (.v (.nilFunc)), some (.v (.nilFunc)), some (.v (.nilFunc)), some (.v (.nilFunc)), some (.any), some (.v (.nilFunc)), some (.v (.nilFunc)), some (.ag [.s [], .s []])],
  [some (.nilS), some (.ag [.s [], .i .i64 0, .nilS]), some (.ag [.s [], .i .i64 0, .nilS]), some (.i .u64 0), some (.nilS), some (.nilS), some (.ag [.b false, .i .u64 0, .i .i64 0, .nilS, .nilS]), some (.ag [.b false, .i .u64 0, .i .i64 0, .nilS, .nilS]), some (.v (.nilFunc)), some (.ag [.i .i64 0, .s [], .i .u64 0]), some (.ag [.i .i64 0, .s [], .i .u64 0]), some (.ag [.s [], .i .i64 0, .s [], .i .u64 0])],
  [some (.ag [.s [], .i .i64 0, .s [], .i .u64 0]), some (.v (.nilFunc)), some (.v (.nilFunc)), some (.v (.nilFunc)), some (.v (.nilFunc)), some (.v (.nilFunc)), some (.v (.pointer none)), some (.ag [.s [], .nilS, .v (.pointer none), .v (.pointer none)]), some (.ag [.s [], .nilS, .v (.pointer none), .v (.pointer none)]), some (.v (.map none)), some (.ag [.i .i64 0, .i .i64 0, .v (.map none), .v (.pointer none), .i .i64 0, .i .i64 0, .i .i64 0]), some (.ag [.i .i64 0, .i .i64 0, .v (.map none), .v (.pointer none), .i .i64 0, .i .i64 0, .i .i64 0])],
  [some (.any), some (.v (.nilFunc)), some (.v (.nilFunc)), some (.v (.pointer none)), some (.ag [.s [], .i .i64 0, .i .i64 0]), some (.ag [.s [], .i .i64 0, .i .i64 0]), some (.any), some (.v (.nilFunc)), some (.v (.nilFunc)), some (.v (.nilFunc)), some (.v (.nilFunc)), some (.v (.nilFunc))],
  [some (.nilS), some (.v (.nilFunc)), some (.v (.nilFunc)), some (.v (.nilFunc)), some (.v (.nilFunc)), some (.v (.nilFunc)), some (.v (.nilFunc)), some (.ag [.v (.pointer none), .v (.pointer none), .v (.pointer none), .s []]), some (.ag [.v (.pointer none), .v (.pointer none), .v (.pointer none), .s []]), some (.ag []), some (.ag []), some (.ag [])],
  [some (.i .u32 0), some (.i .u8 0), some (.i .u8 0), some (.v (.nilFunc)), some (.v (.pointer none)), some (.i .i32 0), some (.i .i32 0), some (.ag [.i .u64 0, .i .u64 0, .i .u32 0, .i .u8 0, .i .u8 0, .i .u8 0, .i .u8 0, .v (.nilFunc), .v (.pointer none), .i .i32 0, .i .i32 0]), some (.ag [.i .u64 0, .i .u64 0, .i .u32 0, .i .u8 0, .i .u8 0, .i .u8 0, .i .u8 0, .v (.nilFunc), .v (.pointer none), .i .i32 0, .i .i32 0]), some (.ag [.i .i64 0, .i .i64 0]), some (.ag [.i .i64 0, .i .i64 0]), some (.v (.pointer none))]]

def B : Tb := ⟨at2 .other tyL, at2 none szL, at2 none zrL⟩

theorem size_le : Try.prog.types.size ≤ 144 := le_of_eq_of_le (by kernel_rfl : Try.prog.types.size = 144) (by omega)
theorem ty_eq : tyOf Try.prog = at2 .other tyL := table_eq (N := 144) (by kernel_rfl) (by kernel_rfl) fun _ ht => tyOf_ge (Nat.le_trans size_le ht)
theorem sz_eq : szOf Try.prog = at2 none szL := table_eq (N := 144) (by kernel_rfl) (by kernel_rfl) fun _ ht => szOf_ge (Nat.le_trans size_le ht)
theorem zr_eq : zeroD Try.prog = at2 none zrL := table_eq (N := 144) (by kernel_rfl) (by kernel_rfl) fun _ ht => zeroD_ge (Nat.le_trans size_le ht)
theorem tb_eq : tb Try.prog = B := by unfold tb B; rw [ty_eq, sz_eq, zr_eq]
theorem mixed : Try.prog.follows .mixedOrders = true := by kernel_rfl

end Go.Proofs.Ytejpliaomhpakaa.Flow
