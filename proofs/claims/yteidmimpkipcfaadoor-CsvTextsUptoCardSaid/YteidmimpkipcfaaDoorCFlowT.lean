/-
  FLOW: THIS SEAT's TYPE TABLES, printed by a program of the bench out of the translation, and proved to be the program's.
-/
import Derived.Test.YteidmimpkipcfaaDoorCFlowM
namespace Go.Proofs.YteidmimpkipcfaaDoor.Flow

def tyL : List (List (Ty)) := [
  [.other, .other, .int .i64, .int .i64, .bool, .int .u8, .int .u8, .struct [(0, 1, false), (1, 1, false), (2, 1, false), (3, 1, false)], .struct [(0, 1, false), (1, 1, false), (2, 1, false), (3, 1, false)], .str, .str, .str],
  [.int .u64, .struct [(0, 1, false), (1, 1, false)], .struct [(0, 1, false), (1, 1, false)], .ptr 183, .ptr 186, .ptr 193, .struct [(0, 1, false)], .struct [(0, 1, false)], .other, .int .i32, .int .u64, .other],
  [.other, .other, .other, .other, .struct [(0, 1, false), (1, 1, false), (2, 1, false)], .struct [(0, 1, false), (1, 1, false), (2, 1, false)], .other, .other, .int .i64, .other, .other, .other],
  [.other, .struct [(0, 1, false), (1, 1, false), (2, 1, false)], .struct [(0, 1, false), (1, 1, false), (2, 1, false)], .other, .other, .other, .other, .other, .other, .slice 87 1 false 24, .other, .other],
  [.other, .other, .other, .struct [(0, 1, false), (1, 1, false), (2, 1, false)], .struct [(0, 1, false), (1, 1, false), (2, 1, false)], .slice 104 2 true 16, .other, .other, .other, .other, .other, .other],
  [.other, .other, .other, .other, .other, .slice 113 1 false 4, .slice 113 1 false 4, .other, .other, .other, .other, .other],
  [.other, .other, .other, .other, .other, .other, .other, .other, .other, .other, .other, .other],
  [.other, .other, .other, .slice 9 1 false 16, .ptr 91, .slice 5 1 false 1, .struct [(0, 1, false), (1, 1, false)], .struct [(0, 1, false), (1, 1, false)], .other, .other, .other, .other],
  [.other, .other, .other, .ptr 101, .struct [(0, 1, false), (1, 1, false), (2, 1, false)], .struct [(0, 1, false), (1, 1, false), (2, 1, false)], .other, .struct [(0, 1, false), (1, 1, false)], .struct [(0, 1, false), (1, 1, false)], .other, .other, .other],
  [.other, .int .u64, .other, .other, .other, .int .u32, .other, .other, .other, .other, .other, .other],
  [.other, .other, .other, .slice 22 1 false 8, .other, .other, .other, .other, .other, .other, .ptr 5, .other],
  [.other, .other, .other, .other, .other, .other, .array 256 4 1 false, .array 256 4 1 false, .other, .other, .other, .ptr 139],
  [.other, .array 256 5 1 false, .struct [(0, 1, false), (1, 1, false)], .struct [(0, 1, false), (1, 1, false)], .array 16 147 2 true, .other, .other, .other, .other, .other, .other, .array 24 5 1 false],
  [.other, .other, .other, .other, .other, .other, .other, .other, .other, .other, .other, .other],
  [.other, .other, .other, .other, .other, .other, .array 20 22 1 false, .array 65 5 1 false, .other, .other, .other, .array 32 5 1 false],
  [.array 64 5 1 false, .other, .struct [(0, 1, false), (1, 1, false), (2, 1, false), (3, 1, false)], .struct [(0, 1, false), (1, 1, false), (2, 1, false), (3, 1, false)], .array 0 16 1 false, .struct [(0, 0, true)], .struct [(0, 0, true)], .int .u8, .int .u8, .other, .int .i32, .int .i32],
  [.struct [(0, 1, false), (1, 1, false), (2, 1, false), (3, 1, false), (4, 1, false), (5, 1, false), (6, 1, false), (7, 1, false), (8, 1, false), (9, 1, false), (10, 1, false)], .struct [(0, 1, false), (1, 1, false), (2, 1, false), (3, 1, false), (4, 1, false), (5, 1, false), (6, 1, false), (7, 1, false), (8, 1, false), (9, 1, false), (10, 1, false)], .other, .other, .other, .other, .other, .other, .other, .other, .other, .other]]
def szL : List (List (Option (Nat × Bool))) := [
  [some (1, false), some (1, false), some (1, false), some (1, false), some (1, false), some (1, false), some (1, false), some (4, true), some (4, true), some (1, false), some (1, false), some (1, false)],
  [some (1, false), some (2, true), some (2, true), some (1, false), some (1, false), some (1, false), some (1, true), some (1, true), some (1, false), some (1, false), some (1, false), some (1, false)],
  [some (1, false), some (1, false), some (1, false), some (1, false), some (3, true), some (3, true), some (1, false), some (1, false), some (1, false), some (1, false), some (1, false), some (1, false)],
  [some (1, false), some (3, true), some (3, true), some (1, false), some (1, false), some (1, false), some (1, false), some (1, false), some (1, false), some (1, false), some (1, false), some (1, false)],
  [some (1, false), some (1, false), some (1, false), some (3, true), some (3, true), some (1, false), some (1, false), some (1, false), some (1, false), some (1, false), some (1, false), some (1, false)],
  [some (1, false), some (1, false), some (1, false), some (1, false), some (1, false), some (1, false), some (1, false), some (1, false), some (1, false), some (1, false), some (1, false), some (1, false)],
  [some (1, false), some (1, false), some (1, false), some (1, false), some (1, false), some (1, false), some (1, false), some (1, false), some (1, false), some (1, false), some (1, false), some (1, false)],
  [some (1, false), some (1, false), some (1, false), some (1, false), some (1, false), some (1, false), some (2, true), some (2, true), some (1, false), some (1, false), some (1, false), some (1, false)],
  [some (1, false), some (1, false), some (1, false), some (1, false), some (3, true), some (3, true), some (1, false), some (2, true), some (2, true), some (1, false), some (1, false), some (1, false)],
  [some (1, false), some (1, false), some (1, false), some (1, false), some (1, false), some (1, false), some (1, false), some (1, false), some (1, false), some (1, false), some (1, false), some (1, false)],
  [some (1, false), some (1, false), some (1, false), some (1, false), some (1, false), some (1, false), some (1, false), some (1, false), some (1, false), some (1, false), some (1, false), some (1, false)],
  [some (1, false), some (1, false), some (1, false), some (1, false), some (1, false), some (1, false), some (256, true), some (256, true), some (1, false), some (1, false), some (1, false), some (1, false)],
  [some (1, false), some (256, true), some (2, true), some (2, true), some (32, true), some (1, false), some (1, false), some (1, false), some (1, false), some (1, false), some (1, false), some (24, true)],
  [some (1, false), some (1, false), some (1, false), some (1, false), some (1, false), some (1, false), some (1, false), some (1, false), some (1, false), some (1, false), some (1, false), some (1, false)],
  [some (1, false), some (1, false), some (1, false), some (1, false), some (1, false), some (1, false), some (20, true), some (65, true), some (1, false), some (1, false), some (1, false), some (32, true)],
  [some (64, true), some (1, false), some (4, true), some (4, true), some (0, true), some (0, true), some (0, true), some (1, false), some (1, false), some (1, false), some (1, false), some (1, false)],
  [some (11, true), some (11, true), none, none, none, none, none, none, none, none, none, none]]
def eqL : List (List (Option (List (Nat × Nat)))) := [
  [none, none, none, none, none, none, none, some [(0, 0), (1, 0), (2, 1), (3, 0)], some [(0, 0), (1, 0), (2, 1), (3, 0)], none, none, none],
  [none, none, none, none, none, none, none, none, none, none, none, none],
  [none, none, none, none, some [(0, 1), (1, 2), (2, 0)], some [(0, 1), (1, 2), (2, 0)], none, none, none, none, none, none],
  [none, some [(0, 0), (1, 2), (2, 0)], some [(0, 0), (1, 2), (2, 0)], none, none, none, none, none, none, none, none, none],
  [none, none, none, some [(0, 0), (1, 0), (2, 0)], some [(0, 0), (1, 0), (2, 0)], none, none, none, none, none, none, none],
  [none, none, none, none, none, none, none, none, none, none, none, none],
  [none, none, none, none, none, none, none, none, none, none, none, none],
  [none, none, none, none, none, none, none, none, none, none, none, none],
  [none, none, none, none, some [(0, 2), (1, 0), (2, 0)], some [(0, 2), (1, 0), (2, 0)], none, some [(0, 0), (1, 0)], some [(0, 0), (1, 0)], none, none, none],
  [none, none, none, none, none, none, none, none, none, none, none, none],
  [none, none, none, none, none, none, none, none, none, none, none, none],
  [none, none, none, none, none, none, none, none, none, none, none, none],
  [none, none, some [(0, 0), (1, 0)], some [(0, 0), (1, 0)], none, none, none, none, none, none, none, none],
  [none, none, none, none, none, none, none, none, none, none, none, none],
  [none, none, none, none, none, none, none, none, none, none, none, none],
  [none, none, none, none, none, none, none, none, none, none, none, none],
  [none, none, none, none, none, none, none, none, none, none, none, none]]
def zrL : List (List (Option D)) := [
  [some (.any), some (.v (.nilFunc)), some (.i .i64 0), some (.i .i64 0), some (.b false), some (.i .u8 0), some (.i .u8 0), some (.ag [.i .i64 0, .i .i64 0, .b false, .i .u8 0]), some (.ag [.i .i64 0, .i .i64 0, .b false, .i .u8 0]), some (.s []), some (.s []), some (.s [])],
  [some (.i .u64 0), some (.ag [.s [], .i .u64 0]), some (.ag [.s [], .i .u64 0]), some (.v (.pointer none)), some (.v (.pointer none)), some (.v (.pointer none)), some (.ag [.v (.pointer none)]), some (.ag [.v (.pointer none)]), some (.v (.nilIface)), some (.i .i32 0), some (.i .u64 0), some (.any)],
  [some (.v (.nilFunc)), some (.any), some (.v (.nilFunc)), some (.v (.nilFunc)), some (.ag [.b false, .s [], .i .i64 0]), some (.ag [.b false, .s [], .i .i64 0]), some (.v (.nilFunc)), some (.v (.nilFunc)), some (.i .i64 0), some (.any), some (.v (.nilFunc)), some (.v (.nilFunc))],
  [some (.v (.nilFunc)), some (.ag [.i .i64 0, .s [], .i .u64 0]), some (.ag [.i .i64 0, .s [], .i .u64 0]), some (.any), some (.v (.nilFunc)), some (.v (.nilFunc)), some (.v (.nilFunc)), some (.v (.nilFunc)), some (.v (.nilFunc)), some (.nilS), some (.v (.nilFunc)), some (.v (.nilFunc))],
  [some (.any), some (.v (.nilFunc)), some (.v (.nilFunc)), some (.ag [.i .i64 0, .i .i64 0, .i .i64 0]), some (.ag [.i .i64 0, .i .i64 0, .i .i64 0]), some (.nilS), some (.v (.nilFunc)), some (.v (.nilFunc)), some (.v (.nilFunc)), some (.v (.nilFunc)), some (.v (.nilFunc)), some (.any)],
  [some (.v (.nilFunc)), some (.v (.nilFunc)), some (.v (.nilFunc)), some (.any), some (.v (.nilFunc)), some (.nilS), some (.nilS), some (.any), some (.v (.nilFunc)), some (.v (.nilFunc)), some (.v (.nilFunc)), some (.any)],
  [some (.v (.nilFunc)), some (.any), some (.v (.nilFunc)), some (.v (.nilFunc)), some (.v (.nilFunc)), some (.any), some (.v (.nilFunc)), some (.v (.nilFunc)), some (.v (.nilFunc)), some (.v (.nilFunc)), some (.v (.nilFunc)), some (.v (.nilFunc))],
  [some (.any), some (.v (.nilFunc)), some (.v (.nilFunc)), some (.nilS), some (.v (.pointer none)), some (.nilS), some (.ag [.v (.pointer none), .nilS]), some (.ag [.v (.pointer none), .nilS]), some (.v (.nilIface)), some (.v (.nilIface)), some (.v (.nilFunc)), some (.v (.nilFunc))],
  [some (.any), some (.v (.nilFunc)), some (.v (.nilFunc)), some (.v (.pointer none)), some (.ag [.s [], .i .i64 0, .i .i64 0]), some (.ag [.s [], .i .i64 0, .i .i64 0]), some (.v (.nilFunc)), some (.ag [.i .i64 0, .i .i64 0]), some (.ag [.i .i64 0, .i .i64 0]), some (.v (.nilFunc)), some (.v (.nilFunc)), some (.v (.nilFunc))],
  [some (.v (.nilFunc)), some (.i .u64 0), some (.v (.nilFunc)), some (.v (.nilFunc)), some (.v (.nilFunc)), some (.i .u32 0), some (.v (.nilFunc)), some (.v (.nilFunc)), some (.v (.nilFunc)), some (.v (.nilFunc)), some (.v (.nilFunc)), some (.v (.nilFunc))],
  [some (.v (.nilFunc)), some (.v (.nilFunc)), some (.v (.nilFunc)), some (.nilS), some (.any), some (.v (.nilFunc)), some (.v (.nilFunc)), some (.v (.nilFunc)), some (.v (.nilFunc)), some (.v (.nilFunc)), some (.v (.pointer none)), some (.v (.nilFunc))],
  [some (.v (.nilFunc)), some (.any), some (.v (.nilFunc)), some (.v (.nilFunc)), some (.v (.nilFunc)), some (.v (.nilFunc)), some (.ag (List.replicate 256 (.b false))), some (.ag (List.replicate 256 (.b false))), some (.any), some (.v (.nilFunc)), some (.v (.nilFunc)), some (.v (.pointer none))],
  [some (.v (.nilFunc)), some (.ag (List.replicate 256 (.i .u8 0))), some (.ag [.i .u8 0, .i .u8 0]), some (.ag [.i .u8 0, .i .u8 0]), some (.ag [.i .u8 0, .i .u8 0, .i .u8 0, .i .u8 0, .i .u8 0, .i .u8 0, .i .u8 0, .i .u8 0, .i .u8 0, .i .u8 0, .i .u8 0, .i .u8 0, .i .u8 0, .i .u8 0, .i .u8 0, .i .u8 0, .i .u8 0, .i .u8 0, .i .u8 0, .i .u8 0, .i .u8 0, .i .u8 0, .i .u8 0, .i .u8 0, .i .u8 0, .i .u8 0, .i .u8 0, .i .u8 0, .i .u8 0, .i .u8 0, .i .u8 0, .i .u8 0]), some (.v (.nilFunc)), some (.v (.nilFunc)), some (.v (.nilFunc)), some (.v (.nilFunc)), some (.v (.nilFunc)), some (.v (.nilFunc)), some (.ag [.i .u8 0, .i .u8 0, .i .u8 0, .i .u8 0, .i .u8 0, .i .u8 0, .i .u8 0, .i .u8 0, .i .u8 0, .i .u8 0, .i .u8 0, .i .u8 0, .i .u8 0, .i .u8 0, .i .u8 0, .i .u8 0, .i .u8 0, .i .u8 0, .i .u8 0, .i .u8 0, .i .u8 0, .i .u8 0, .i .u8 0, .i .u8 0])],
  [some (.v (.nilFunc)), some (.any), some (.v (.nilFunc)), some (.v (.pointer none)), some (.v (.nilFunc)), some (.v (.nilFunc)), some (.v (.nilFunc)), some (.any), some (.v (.nilFunc)), some (.any), some (.v (.nilFunc)), some (.any)],
  [some (.v (.nilFunc)), some (.v (.nilFunc)), some (.v (.nilFunc)), some (.v (.nilFunc)), some (.v (.nilFunc)), some (.v (.nilFunc)), some (.ag [.i .u64 0, .i .u64 0, .i .u64 0, .i .u64 0, .i .u64 0, .i .u64 0, .i .u64 0, .i .u64 0, .i .u64 0, .i .u64 0, .i .u64 0, .i .u64 0, .i .u64 0, .i .u64 0, .i .u64 0, .i .u64 0, .i .u64 0, .i .u64 0, .i .u64 0, .i .u64 0]), some (.ag (List.replicate 65 (.i .u8 0))), some (.v (.nilFunc)), some (.v (.nilFunc)), some (.v (.nilFunc)), some (.ag [.i .u8 0, .i .u8 0, .i .u8 0, .i .u8 0, .i .u8 0, .i .u8 0, .i .u8 0, .i .u8 0, .i .u8 0, .i .u8 0, .i .u8 0, .i .u8 0, .i .u8 0, .i .u8 0, .i .u8 0, .i .u8 0, .i .u8 0, .i .u8 0, .i .u8 0, .i .u8 0, .i .u8 0, .i .u8 0, .i .u8 0, .i .u8 0, .i .u8 0, .i .u8 0, .i .u8 0, .i .u8 0, .i .u8 0, .i .u8 0, .i .u8 0, .i .u8 0])],
  [some (.ag [.i .u8 0, .i .u8 0, .i .u8 0, .i .u8 0, .i .u8 0, .i .u8 0, .i .u8 0, .i .u8 0, .i .u8 0, .i .u8 0, .i .u8 0, .i .u8 0, .i .u8 0, .i .u8 0, .i .u8 0, .i .u8 0, .i .u8 0, .i .u8 0, .i .u8 0, .i .u8 0, .i .u8 0, .i .u8 0, .i .u8 0, .i .u8 0, .i .u8 0, .i .u8 0, .i .u8 0, .i .u8 0, .i .u8 0, .i .u8 0, .i .u8 0, .i .u8 0, .i .u8 0, .i .u8 0, .i .u8 0, .i .u8 0, .i .u8 0, .i .u8 0, .i .u8 0, .i .u8 0, .i .u8 0, .i .u8 0, .i .u8 0, .i .u8 0, .i .u8 0, .i .u8 0, .i .u8 0, .i .u8 0, .i .u8 0, .i .u8 0, .i .u8 0, .i .u8 0, .i .u8 0, .i .u8 0, .i .u8 0, .i .u8 0, .i .u8 0, .i .u8 0, .i .u8 0, .i .u8 0, .i .u8 0, .i .u8 0, .i .u8 0, .i .u8 0]), some (.v (.nilFunc)), some (.ag [.v (.pointer none), .v (.pointer none), .v (.pointer none), .s []]), some (.ag [.v (.pointer none), .v (.pointer none), .v (.pointer none), .s []]), some (.ag []), some (.ag []), some (.ag []), some (.i .u8 0), some (.i .u8 0), some (.v (.nilFunc)), some (.i .i32 0), some (.i .i32 0)],
  [some (.ag [.i .u64 0, .i .u64 0, .i .u32 0, .i .u8 0, .i .u8 0, .i .u8 0, .i .u8 0, .v (.nilFunc), .v (.pointer none), .i .i32 0, .i .i32 0]), some (.ag [.i .u64 0, .i .u64 0, .i .u32 0, .i .u8 0, .i .u8 0, .i .u8 0, .i .u8 0, .v (.nilFunc), .v (.pointer none), .i .i32 0, .i .i32 0]), none, none, none, none, none, none, none, none, none, none]]

def B : Tb := ⟨at2 .other tyL, at2 none szL, at2 none zrL, at2 none eqL⟩

theorem size_le : Tryd.prog.types.size ≤ 204 := le_of_eq_of_le (by kernel_rfl : Tryd.prog.types.size = 194) (by omega)
theorem ty_eq : tyOf Tryd.prog = at2 .other tyL := table_eq (N := 204) (by kernel_rfl) (by kernel_rfl) fun _ ht => tyOf_ge (Nat.le_trans size_le ht)
theorem sz_eq : szOf Tryd.prog = at2 none szL := table_eq (N := 204) (by kernel_rfl) (by kernel_rfl) fun _ ht => szOf_ge (Nat.le_trans size_le ht)
theorem zr_eq : zeroD Tryd.prog = at2 none zrL := table_eq (N := 204) (by kernel_rfl) (by kernel_rfl) fun _ ht => zeroD_ge (Nat.le_trans size_le ht)
theorem eq_eq : eqOf Tryd.prog = at2 none eqL := table_eq (N := 204) (by kernel_rfl) (by kernel_rfl) fun _ ht => eqOf_ge (Nat.le_trans size_le ht)
theorem tb_eq : tb Tryd.prog = B := by unfold tb B; rw [ty_eq, sz_eq, zr_eq, eq_eq]
theorem mixed : Tryd.prog.follows .mixedOrders = true := by kernel_rfl

end Go.Proofs.YteidmimpkipcfaaDoor.Flow
