/- The texts FlowT, FlowN, FlowO, one behind the other. -/
import Derived.Test.YtkkaamhocpmhkaaGreatDoorJJ7
namespace Go.Proofs.YtkkaamhocpmhkaaGreatDoor.Flow
def tyL : List (List (Ty)) := [
  [.other, .other, .int .i64, .int .i64, .bool, .int .u8, .int .u8, .struct [(0, 1, false), (1, 1, false), (2, 1, false), (3, 1, false)], .struct [(0, 1, false), (1, 1, false), (2, 1, false), (3, 1, false)], .str, .str, .str],
  [.int .u64, .struct [(0, 1, false), (1, 1, false)], .struct [(0, 1, false), (1, 1, false)], .ptr 297, .ptr 300, .ptr 307, .struct [(0, 1, false)], .struct [(0, 1, false)], .other, .int .i32, .slice 9 1 false 16, .struct [(0, 1, false), (1, 1, false), (2, 1, false), (3, 1, false), (4, 1, false), (5, 1, false)]],
  [.struct [(0, 1, false), (1, 1, false), (2, 1, false), (3, 1, false), (4, 1, false), (5, 1, false)], .slice 47 4 true 48, .other, .other, .ptr 74, .int .i64, .other, .other, .slice 22 1 false 24, .other, .other, .other],
  [.other, .other, .other, .other, .other, .other, .other, .int .u64, .struct [(0, 1, false), (1, 1, false), (2, 1, false)], .struct [(0, 1, false), (1, 1, false), (2, 1, false)], .struct [(0, 1, false), (1, 3, true)], .struct [(0, 1, false), (1, 3, true)]],
  [.other, .other, .slice 54 2 true 32, .other, .other, .other, .array 2 9 1 false, .other, .struct [(0, 1, false), (1, 1, false), (2, 1, false), (3, 1, false), (4, 1, false)], .struct [(0, 1, false), (1, 1, false), (2, 1, false), (3, 1, false), (4, 1, false)], .slice 5 1 false 1, .struct [(0, 1, false), (1, 1, false), (2, 1, false)]],
  [.struct [(0, 1, false), (1, 1, false), (2, 1, false)], .other, .other, .other, .other, .other, .other, .other, .other, .other, .other, .other],
  [.slice 3 1 false 8, .struct [(0, 6, true), (6, 1, false), (7, 1, false), (8, 1, false), (9, 1, false)], .struct [(0, 6, true), (6, 1, false), (7, 1, false), (8, 1, false), (9, 1, false)], .other, .other, .other, .other, .other, .other, .other, .other, .other],
  [.other, .other, .other, .other, .other, .struct [(0, 1, false), (1, 1, false), (2, 1, false)], .struct [(0, 1, false), (1, 1, false), (2, 1, false)], .other, .other, .other, .other, .other],
  [.other, .other, .other, .other, .ptr 102, .struct [(0, 1, false), (1, 1, false), (2, 1, false)], .struct [(0, 1, false), (1, 1, false), (2, 1, false)], .other, .other, .other, .other, .other],
  [.other, .other, .other, .other, .other, .other, .other, .other, .other, .struct [(0, 1, false), (1, 1, false), (2, 1, false)], .struct [(0, 1, false), (1, 1, false), (2, 1, false)], .other],
  [.other, .other, .other, .other, .other, .other, .other, .other, .other, .other, .other, .other],
  [.other, .other, .other, .other, .other, .other, .other, .int .u32, .other, .other, .other, .other],
  [.slice 50 1 false 24, .other, .other, .other, .other, .other, .other, .other, .other, .int .u64, .other, .other],
  [.other, .other, .other, .other, .other, .other, .other, .other, .slice 139 1 false 4, .slice 139 1 false 4, .other, .other],
  [.other, .other, .other, .other, .other, .slice 43 1 false 8, .other, .other, .other, .other, .other, .other],
  [.array 256 139 1 false, .other, .ptr 239, .other, .other, .other, .slice 58 1 false 24, .other, .other, .other, .other, .slice 4 1 false 1],
  [.slice 195 2 true 16, .other, .struct [(0, 1, false), (1, 1, false)], .struct [(0, 1, false), (1, 1, false)], .other, .other, .other, .other, .other, .other, .other, .array 256 5 1 false],
  [.struct [(0, 1, false), (1, 1, false)], .struct [(0, 1, false), (1, 1, false)], .array 16 205 2 true, .array 24 5 1 false, .other, .other, .other, .other, .other, .other, .ptr 216, .struct [(0, 1, false), (1, 1, false)]],
  [.struct [(0, 1, false), (1, 1, false)], .other, .other, .other, .other, .other, .other, .other, .array 256 4 1 false, .array 256 4 1 false, .other, .other],
  [.other, .other, .other, .other, .other, .other, .other, .other, .other, .other, .struct [(0, 1, false), (1, 1, false)], .struct [(0, 1, false), (1, 1, false)]],
  [.other, .other, .other, .ptr 281, .other, .other, .other, .other, .other, .struct [(0, 1, false), (1, 1, false)], .other, .other],
  [.other, .other, .other, .other, .other, .array 20 43 1 false, .array 65 5 1 false, .other, .other, .other, .ptr 225, .other],
  [.other, .other, .other, .ptr 5, .other, .other, .other, .other, .other, .other, .other, .other],
  [.other, .other, .array 16 139 1 false, .array 16 72 1 false, .struct [(0, 1, false), (1, 1, false), (2, 16, true), (18, 16, true)], .struct [(0, 1, false), (1, 1, false), (2, 16, true), (18, 16, true)], .other, .other, .other, .other, .other, .other],
  [.other, .other, .other, .other, .other, .array 32 5 1 false, .array 64 5 1 false, .other, .struct [(0, 1, false), (1, 1, false), (2, 1, false), (3, 1, false)], .struct [(0, 1, false), (1, 1, false), (2, 1, false), (3, 1, false)], .array 0 16 1 false, .struct [(0, 0, true)]],
  [.struct [(0, 0, true)], .int .u8, .int .u8, .other, .int .i32, .int .i32, .struct [(0, 1, false), (1, 1, false), (2, 1, false), (3, 1, false), (4, 1, false), (5, 1, false), (6, 1, false), (7, 1, false), (8, 1, false), (9, 1, false), (10, 1, false)], .struct [(0, 1, false), (1, 1, false), (2, 1, false), (3, 1, false), (4, 1, false), (5, 1, false), (6, 1, false), (7, 1, false), (8, 1, false), (9, 1, false), (10, 1, false)], .other, .other, .other, .other]]
def szL : List (List (Option (Nat × Bool))) := [
  [some (1, false), some (1, false), some (1, false), some (1, false), some (1, false), some (1, false), some (1, false), some (4, true), some (4, true), some (1, false), some (1, false), some (1, false)],
  [some (1, false), some (2, true), some (2, true), some (1, false), some (1, false), some (1, false), some (1, true), some (1, true), some (1, false), some (1, false), some (1, false), some (6, true)],
  [some (6, true), some (1, false), some (1, false), some (1, false), some (1, false), some (1, false), some (1, false), some (1, false), some (1, false), some (1, false), some (1, false), some (1, false)],
  [some (1, false), some (1, false), some (1, false), some (1, false), some (1, false), some (1, false), some (1, false), some (1, false), some (3, true), some (3, true), some (4, true), some (4, true)],
  [some (1, false), some (1, false), some (1, false), some (1, false), some (1, false), some (1, false), some (2, true), some (1, false), some (5, true), some (5, true), some (1, false), some (3, true)],
  [some (3, true), some (1, false), some (1, false), some (1, false), some (1, false), some (1, false), some (1, false), some (1, false), some (1, false), some (1, false), some (1, false), some (1, false)],
  [some (1, false), some (10, true), some (10, true), some (1, false), some (1, false), some (1, false), some (1, false), some (1, false), some (1, false), some (1, false), some (1, false), some (1, false)],
  [some (1, false), some (1, false), some (1, false), some (1, false), some (1, false), some (3, true), some (3, true), some (1, false), some (1, false), some (1, false), some (1, false), some (1, false)],
  [some (1, false), some (1, false), some (1, false), some (1, false), some (1, false), some (3, true), some (3, true), some (1, false), some (1, false), some (1, false), some (1, false), some (1, false)],
  [some (1, false), some (1, false), some (1, false), some (1, false), some (1, false), some (1, false), some (1, false), some (1, false), some (1, false), some (3, true), some (3, true), some (1, false)],
  [some (1, false), some (1, false), some (1, false), some (1, false), some (1, false), some (1, false), some (1, false), some (1, false), some (1, false), some (1, false), some (1, false), some (1, false)],
  [some (1, false), some (1, false), some (1, false), some (1, false), some (1, false), some (1, false), some (1, false), some (1, false), some (1, false), some (1, false), some (1, false), some (1, false)],
  [some (1, false), some (1, false), some (1, false), some (1, false), some (1, false), some (1, false), some (1, false), some (1, false), some (1, false), some (1, false), some (1, false), some (1, false)],
  [some (1, false), some (1, false), some (1, false), some (1, false), some (1, false), some (1, false), some (1, false), some (1, false), some (1, false), some (1, false), some (1, false), some (1, false)],
  [some (1, false), some (1, false), some (1, false), some (1, false), some (1, false), some (1, false), some (1, false), some (1, false), some (1, false), some (1, false), some (1, false), some (1, false)],
  [some (256, true), some (1, false), some (1, false), some (1, false), some (1, false), some (1, false), some (1, false), some (1, false), some (1, false), some (1, false), some (1, false), some (1, false)],
  [some (1, false), some (1, false), some (2, true), some (2, true), some (1, false), some (1, false), some (1, false), some (1, false), some (1, false), some (1, false), some (1, false), some (256, true)],
  [some (2, true), some (2, true), some (32, true), some (24, true), some (1, false), some (1, false), some (1, false), some (1, false), some (1, false), some (1, false), some (1, false), some (2, true)],
  [some (2, true), some (1, false), some (1, false), some (1, false), some (1, false), some (1, false), some (1, false), some (1, false), some (256, true), some (256, true), some (1, false), some (1, false)],
  [some (1, false), some (1, false), some (1, false), some (1, false), some (1, false), some (1, false), some (1, false), some (1, false), some (1, false), some (1, false), some (2, true), some (2, true)],
  [some (1, false), some (1, false), some (1, false), some (1, false), some (1, false), some (1, false), some (1, false), some (1, false), some (1, false), some (2, true), some (1, false), some (1, false)],
  [some (1, false), some (1, false), some (1, false), some (1, false), some (1, false), some (20, true), some (65, true), some (1, false), some (1, false), some (1, false), some (1, false), some (1, false)],
  [some (1, false), some (1, false), some (1, false), some (1, false), some (1, false), some (1, false), some (1, false), some (1, false), some (1, false), some (1, false), some (1, false), some (1, false)],
  [some (1, false), some (1, false), some (16, true), some (16, true), some (34, true), some (34, true), some (1, false), some (1, false), some (1, false), some (1, false), some (1, false), some (1, false)],
  [some (1, false), some (1, false), some (1, false), some (1, false), some (1, false), some (32, true), some (64, true), some (1, false), some (4, true), some (4, true), some (0, true), some (0, true)],
  [some (0, true), some (1, false), some (1, false), some (1, false), some (1, false), some (1, false), some (11, true), some (11, true), none, none, none, none]]
def eqL : List (List (Option (List (Nat × Nat)))) := [
  [none, none, none, none, none, none, none, some [(0, 0), (1, 0), (2, 1), (3, 0)], some [(0, 0), (1, 0), (2, 1), (3, 0)], none, none, none],
  [none, none, none, none, none, none, none, none, none, none, none, none],
  [none, none, none, none, none, none, none, none, none, none, none, none],
  [none, none, none, none, none, none, none, none, some [(0, 0), (1, 2), (2, 0)], some [(0, 0), (1, 2), (2, 0)], none, none],
  [none, none, none, none, none, none, none, none, none, none, none, none],
  [none, none, none, none, none, none, none, none, none, none, none, none],
  [none, none, none, none, none, none, none, none, none, none, none, none],
  [none, none, none, none, none, some [(0, 0), (1, 0), (2, 0)], some [(0, 0), (1, 0), (2, 0)], none, none, none, none, none],
  [none, none, none, none, none, some [(0, 2), (1, 0), (2, 0)], some [(0, 2), (1, 0), (2, 0)], none, none, none, none, none],
  [none, none, none, none, none, none, none, none, none, some [(0, 1), (1, 2), (2, 0)], some [(0, 1), (1, 2), (2, 0)], none],
  [none, none, none, none, none, none, none, none, none, none, none, none],
  [none, none, none, none, none, none, none, none, none, none, none, none],
  [none, none, none, none, none, none, none, none, none, none, none, none],
  [none, none, none, none, none, none, none, none, none, none, none, none],
  [none, none, none, none, none, none, none, none, none, none, none, none],
  [none, none, none, none, none, none, none, none, none, none, none, none],
  [none, none, some [(0, 0), (1, 0)], some [(0, 0), (1, 0)], none, none, none, none, none, none, none, none],
  [some [(0, 0), (1, 0)], some [(0, 0), (1, 0)], none, none, none, none, none, none, none, none, none, none],
  [none, none, none, none, none, none, none, none, none, none, none, none],
  [none, none, none, none, none, none, none, none, none, none, none, none],
  [none, none, none, none, none, none, none, none, none, some [(0, 0), (1, 0)], none, none],
  [none, none, none, none, none, none, none, none, none, none, none, none],
  [none, none, none, none, none, none, none, none, none, none, none, none],
  [none, none, none, none, none, none, none, none, none, none, none, none],
  [none, none, none, none, none, none, none, none, none, none, none, none],
  [none, none, none, none, none, none, none, none, none, none, none, none]]
def zrL : List (List (Option D)) := [
  [some (.any), some (.v (.nilFunc)), some (.i .i64 0), some (.i .i64 0), some (.b false), some (.i .u8 0), some (.i .u8 0), some (.ag [.i .i64 0, .i .i64 0, .b false, .i .u8 0]), some (.ag [.i .i64 0, .i .i64 0, .b false, .i .u8 0]), some (.s []), some (.s []), some (.s [])],
  [some (.i .u64 0), some (.ag [.s [], .i .u64 0]), some (.ag [.s [], .i .u64 0]), some (.v (.pointer none)), some (.v (.pointer none)), some (.v (.pointer none)), some (.ag [.v (.pointer none)]), some (.ag [.v (.pointer none)]), some (.v (.nilIface)), some (.i .i32 0), some (.nilS), some (.ag [.s [], .s [], .nilS, .nilS, .b false, .b false])],
  [some (.ag [.s [], .s [], .nilS, .nilS, .b false, .b false]), some (.nilS), some (.v (.nilFunc)), some (.v (.nilFunc)), some (.v (.pointer none)), some (.i .i64 0), some (.any), some (.v (.nilFunc)), some (.nilS), some (.any), some (.v (.nilFunc)), some (.any)],
  [some (.v (.nilFunc)), some (.v (.nilFunc)), some (.v (.nilFunc)), some (.v (.nilFunc)), some (.v (.nilFunc)), some (.v (.nilFunc)), some (.v (.nilFunc)), some (.i .u64 0), some (.ag [.i .i64 0, .s [], .i .u64 0]), some (.ag [.i .i64 0, .s [], .i .u64 0]), some (.ag [.s [], .i .i64 0, .s [], .i .u64 0]), some (.ag [.s [], .i .i64 0, .s [], .i .u64 0])],
  [some (.v (.nilFunc)), some (.v (.nilFunc)), some (.nilS), some (.v (.nilFunc)), some (.v (.nilFunc)), some (.v (.nilFunc)), some (.ag [.s [], .s []]), some (.v (.nilFunc)), some (.ag [.s [], .s [], .b false, .b false, .nilS]), some (.ag [.s [], .s [], .b false, .b false, .nilS]), some (.nilS), some (.ag [.i .i64 0, .nilS, .nilS])],
  [some (.ag [.i .i64 0, .nilS, .nilS]), some (.v (.nilFunc)), some (.v (.nilFunc)), some (.v (.nilFunc)), some (.v (.nilFunc)), some (.any), some (.v (.nilFunc)), some (.any), some (.v (.nilFunc)), some (.v (.nilFunc)), some (.v (.nilFunc)), some (.v (.map none))],
  [some (.nilS), some (.ag [.s [], .s [], .nilS, .nilS, .b false, .b false, .nilS, .nilS, .v (.map none), .nilS]), some (.ag [.s [], .s [], .nilS, .nilS, .b false, .b false, .nilS, .nilS, .v (.map none), .nilS]), some (.v (.nilFunc)), some (.any), some (.v (.nilFunc)), some (.v (.nilFunc)), some (.v (.nilFunc)), some (.v (.nilFunc)), some (.v (.nilFunc)), some (.any), some (.v (.nilFunc))],
  [some (.v (.nilFunc)), some (.any), some (.v (.nilFunc)), some (.v (.nilFunc)), some (.v (.nilFunc)), some (.ag [.i .i64 0, .i .i64 0, .i .i64 0]), some (.ag [.i .i64 0, .i .i64 0, .i .i64 0]), some (.any), some (.v (.nilFunc)), some (.v (.nilFunc)), some (.v (.nilFunc)), some (.v (.nilFunc))],
  [some (.any), some (.v (.nilFunc)), some (.v (.nilFunc)), some (.v (.nilFunc)), some (.v (.pointer none)), some (.ag [.s [], .i .i64 0, .i .i64 0]), some (.ag [.s [], .i .i64 0, .i .i64 0]), some (.v (.nilFunc)), some (.v (.nilFunc)), some (.v (.map none)), some (.any), some (.v (.nilFunc))],
  [some (.v (.nilFunc)), some (.v (.nilFunc)), some (.v (.nilFunc)), some (.v (.nilFunc)), some (.any), some (.v (.nilFunc)), some (.v (.nilFunc)), some (.v (.nilFunc)), some (.v (.nilFunc)), some (.ag [.b false, .s [], .i .i64 0]), some (.ag [.b false, .s [], .i .i64 0]), some (.any)],
  [some (.v (.nilFunc)), some (.v (.nilFunc)), some (.v (.nilFunc)), some (.any), some (.v (.nilFunc)), some (.any), some (.v (.nilFunc)), some (.v (.nilFunc)), some (.v (.nilFunc)), some (.v (.nilFunc)), some (.v (.nilFunc)), some (.v (.nilFunc))],
  [some (.v (.nilFunc)), some (.v (.nilFunc)), some (.v (.nilFunc)), some (.v (.nilFunc)), some (.v (.nilFunc)), some (.v (.nilFunc)), some (.v (.nilFunc)), some (.i .u32 0), some (.v (.nilFunc)), some (.v (.nilFunc)), some (.v (.nilFunc)), some (.v (.nilFunc))],
  [some (.nilS), some (.v (.nilFunc)), some (.v (.nilFunc)), some (.v (.nilFunc)), some (.v (.nilFunc)), some (.v (.nilFunc)), some (.v (.nilFunc)), some (.v (.nilFunc)), some (.v (.nilFunc)), some (.i .u64 0), some (.v (.nilFunc)), some (.any)],
  [some (.v (.nilFunc)), some (.v (.nilFunc)), some (.v (.nilFunc)), some (.any), some (.v (.nilFunc)), some (.v (.nilFunc)), some (.v (.nilFunc)), some (.v (.nilFunc)), some (.nilS), some (.nilS), some (.any), some (.v (.nilFunc))],
  [some (.v (.nilFunc)), some (.v (.nilFunc)), some (.any), some (.v (.nilFunc)), some (.v (.nilFunc)), some (.nilS), some (.any), some (.v (.nilFunc)), some (.v (.nilFunc)), some (.v (.nilFunc)), some (.v (.nilFunc)), some (.v (.nilFunc))],
  [some (.ag (List.replicate 256 (.i .u32 0))), some (.v (.nilFunc)), some (.v (.pointer none)), some (.v (.nilFunc)), some (.v (.nilFunc)), some (.v (.nilFunc)), some (.nilS), some (.v (.nilFunc)), some (.v (.nilFunc)), some (.v (.nilFunc)), some (.v (.nilFunc)), some (.nilS)],
  [some (.nilS), some (.v (.nilFunc)), some (.ag [.i .i64 0, .i .i64 0]), some (.ag [.i .i64 0, .i .i64 0]), some (.v (.nilFunc)), some (.any), some (.v (.nilFunc)), some (.v (.nilFunc)), some (.v (.nilFunc)), some (.v (.nilFunc)), some (.v (.nilFunc)), some (.ag (List.replicate 256 (.i .u8 0)))],
  [some (.ag [.i .u8 0, .i .u8 0]), some (.ag [.i .u8 0, .i .u8 0]), some (.ag [.i .u8 0, .i .u8 0, .i .u8 0, .i .u8 0, .i .u8 0, .i .u8 0, .i .u8 0, .i .u8 0, .i .u8 0, .i .u8 0, .i .u8 0, .i .u8 0, .i .u8 0, .i .u8 0, .i .u8 0, .i .u8 0, .i .u8 0, .i .u8 0, .i .u8 0, .i .u8 0, .i .u8 0, .i .u8 0, .i .u8 0, .i .u8 0, .i .u8 0, .i .u8 0, .i .u8 0, .i .u8 0, .i .u8 0, .i .u8 0, .i .u8 0, .i .u8 0]), some (.ag [.i .u8 0, .i .u8 0, .i .u8 0, .i .u8 0, .i .u8 0, .i .u8 0, .i .u8 0, .i .u8 0, .i .u8 0, .i .u8 0, .i .u8 0, .i .u8 0, .i .u8 0, .i .u8 0, .i .u8 0, .i .u8 0, .i .u8 0, .i .u8 0, .i .u8 0, .i .u8 0, .i .u8 0, .i .u8 0, .i .u8 0, .i .u8 0]), some (.v (.nilFunc)), some (.any), some (.v (.nilFunc)), some (.v (.nilFunc)), some (.any), some (.v (.nilFunc)), some (.v (.pointer none)), some (.ag [.v (.pointer none), .nilS])],
  [some (.ag [.v (.pointer none), .nilS]), some (.v (.nilFunc)), some (.v (.nilIface)), some (.v (.nilIface)), some (.any), some (.v (.nilFunc)), some (.v (.nilFunc)), some (.v (.nilFunc)), some (.ag (List.replicate 256 (.b false))), some (.ag (List.replicate 256 (.b false))), some (.any), some (.v (.nilFunc))],
  [some (.v (.nilFunc)), some (.v (.nilFunc)), some (.v (.nilFunc)), some (.v (.nilFunc)), some (.v (.nilFunc)), some (.v (.nilFunc)), some (.v (.nilFunc)), some (.v (.nilFunc)), some (.v (.nilFunc)), some (.v (.nilFunc)), some (.ag [.nilS, .i .i64 0]), some (.ag [.nilS, .i .i64 0])],
  [some (.v (.nilFunc)), some (.any), some (.v (.nilFunc)), some (.v (.pointer none)), some (.any), some (.v (.nilFunc)), some (.v (.nilFunc)), some (.v (.nilFunc)), some (.v (.nilFunc)), some (.ag [.i .i64 0, .i .i64 0]), some (.v (.nilFunc)), some (.v (.nilFunc))],
  [some (.v (.nilFunc)), some (.v (.nilFunc)), some (.any), some (.v (.nilFunc)), some (.v (.nilFunc)), some (.ag [.i .u64 0, .i .u64 0, .i .u64 0, .i .u64 0, .i .u64 0, .i .u64 0, .i .u64 0, .i .u64 0, .i .u64 0, .i .u64 0, .i .u64 0, .i .u64 0, .i .u64 0, .i .u64 0, .i .u64 0, .i .u64 0, .i .u64 0, .i .u64 0, .i .u64 0, .i .u64 0]), some (.ag (List.replicate 65 (.i .u8 0))), some (.v (.nilFunc)), some (.v (.nilFunc)), some (.v (.nilFunc)), some (.v (.pointer none)), some (.any)],
  [some (.v (.nilFunc)), some (.any), some (.v (.nilFunc)), some (.v (.pointer none)), some (.v (.nilFunc)), some (.v (.nilFunc)), some (.v (.nilFunc)), some (.v (.nilFunc)), some (.any), some (.v (.nilFunc)), some (.v (.nilFunc)), some (.v (.nilFunc))],
  [some (.v (.nilFunc)), some (.v (.nilFunc)), some (.ag [.i .u32 0, .i .u32 0, .i .u32 0, .i .u32 0, .i .u32 0, .i .u32 0, .i .u32 0, .i .u32 0, .i .u32 0, .i .u32 0, .i .u32 0, .i .u32 0, .i .u32 0, .i .u32 0, .i .u32 0, .i .u32 0]), some (.ag [.nilS, .nilS, .nilS, .nilS, .nilS, .nilS, .nilS, .nilS, .nilS, .nilS, .nilS, .nilS, .nilS, .nilS, .nilS, .nilS]), some (.ag [.nilS, .nilS, .i .u32 0, .i .u32 0, .i .u32 0, .i .u32 0, .i .u32 0, .i .u32 0, .i .u32 0, .i .u32 0, .i .u32 0, .i .u32 0, .i .u32 0, .i .u32 0, .i .u32 0, .i .u32 0, .i .u32 0, .i .u32 0, .nilS, .nilS, .nilS, .nilS, .nilS, .nilS, .nilS, .nilS, .nilS, .nilS, .nilS, .nilS, .nilS, .nilS, .nilS, .nilS]), some (.ag [.nilS, .nilS, .i .u32 0, .i .u32 0, .i .u32 0, .i .u32 0, .i .u32 0, .i .u32 0, .i .u32 0, .i .u32 0, .i .u32 0, .i .u32 0, .i .u32 0, .i .u32 0, .i .u32 0, .i .u32 0, .i .u32 0, .i .u32 0, .nilS, .nilS, .nilS, .nilS, .nilS, .nilS, .nilS, .nilS, .nilS, .nilS, .nilS, .nilS, .nilS, .nilS, .nilS, .nilS]), some (.v (.nilFunc)), some (.v (.nilFunc)), some (.any), some (.v (.nilFunc)), some (.v (.nilFunc)), some (.v (.nilFunc))],
  [some (.v (.nilFunc)), some (.v (.pointer none)), some (.v (.nilFunc)), some (.v (.nilFunc)), some (.v (.nilFunc)), some (.ag [.i .u8 0, .i .u8 0, .i .u8 0, .i .u8 0, .i .u8 0, .i .u8 0, .i .u8 0, .i .u8 0, .i .u8 0, .i .u8 0, .i .u8 0, .i .u8 0, .i .u8 0, .i .u8 0, .i .u8 0, .i .u8 0, .i .u8 0, .i .u8 0, .i .u8 0, .i .u8 0, .i .u8 0, .i .u8 0, .i .u8 0, .i .u8 0, .i .u8 0, .i .u8 0, .i .u8 0, .i .u8 0, .i .u8 0, .i .u8 0, .i .u8 0, .i .u8 0]), some (.ag [.i .u8 0, .i .u8 0, .i .u8 0, .i .u8 0, .i .u8 0, .i .u8 0, .i .u8 0, .i .u8 0, .i .u8 0, .i .u8 0, .i .u8 0, .i .u8 0, .i .u8 0, .i .u8 0, .i .u8 0, .i .u8 0, .i .u8 0, .i .u8 0, .i .u8 0, .i .u8 0, .i .u8 0, .i .u8 0, .i .u8 0, .i .u8 0, .i .u8 0, .i .u8 0, .i .u8 0, .i .u8 0, .i .u8 0, .i .u8 0, .i .u8 0, .i .u8 0, .i .u8 0, .i .u8 0, .i .u8 0, .i .u8 0, .i .u8 0, .i .u8 0, .i .u8 0, .i .u8 0, .i .u8 0, .i .u8 0, .i .u8 0, .i .u8 0, .i .u8 0, .i .u8 0, .i .u8 0, .i .u8 0, .i .u8 0, .i .u8 0, .i .u8 0, .i .u8 0, .i .u8 0, .i .u8 0, .i .u8 0, .i .u8 0, .i .u8 0, .i .u8 0, .i .u8 0, .i .u8 0, .i .u8 0, .i .u8 0, .i .u8 0, .i .u8 0]), some (.v (.nilFunc)), some (.ag [.v (.pointer none), .v (.pointer none), .v (.pointer none), .s []]), some (.ag [.v (.pointer none), .v (.pointer none), .v (.pointer none), .s []]), some (.ag []), some (.ag [])],
  [some (.ag []), some (.i .u8 0), some (.i .u8 0), some (.v (.nilFunc)), some (.i .i32 0), some (.i .i32 0), some (.ag [.i .u64 0, .i .u64 0, .i .u32 0, .i .u8 0, .i .u8 0, .i .u8 0, .i .u8 0, .v (.nilFunc), .v (.pointer none), .i .i32 0, .i .i32 0]), some (.ag [.i .u64 0, .i .u64 0, .i .u32 0, .i .u8 0, .i .u8 0, .i .u8 0, .i .u8 0, .v (.nilFunc), .v (.pointer none), .i .i32 0, .i .i32 0]), none, none, none, none]]
def B : Tb := ⟨at2 .other tyL, at2 none szL, at2 none zrL, at2 none eqL⟩
theorem zhe : Tryz.prog.types.size ≤ 312 := le_of_eq_of_le (by kernel_rfl : Tryz.prog.types.size = 308) (by omega)
theorem ty_eq : tyOf Tryz.prog = at2 .other tyL := zew (N := 312) (by kernel_rfl) (by kernel_rfl) fun _ ht => zqL (Nat.le_trans zhe ht)
theorem sz_eq : szOf Tryz.prog = at2 none szL := zew (N := 312) (by kernel_rfl) (by kernel_rfl) fun _ ht => zqh (Nat.le_trans zhe ht)
theorem zr_eq : zeroD Tryz.prog = at2 none zrL := zew (N := 312) (by kernel_rfl) (by kernel_rfl) fun _ ht => zoD (Nat.le_trans zhe ht)
theorem eq_eq : eqOf Tryz.prog = at2 none eqL := zew (N := 312) (by kernel_rfl) (by kernel_rfl) fun _ ht => zqx (Nat.le_trans zhe ht)
theorem zer : tb Tryz.prog = B := by unfold tb B; rw [ty_eq, sz_eq, zr_eq, eq_eq]
theorem mixed : Tryz.prog.follows .mixedOrders = true := by kernel_rfl
end Go.Proofs.YtkkaamhocpmhkaaGreatDoor.Flow

namespace Go.Proofs.YtkkaamhocpmhkaaGreatDoor.Flow
section
variable {X : Ctx} {n : Nat} {all rest : List Oper} {fr : Fr} {ow : Ow} {tr : List (List Nat × List Nat)} {K : Fr → Ow → List (List Nat × List Nat) → Prop} {Q : Exit → Fr → Ow → Prop}
variable {t : Nat} {op : Op} {ty : TypeId} {pos : String} {af : Array Edge} {d : D} {p : Prop} {rd : List Nat} {k : Nat} {ob : Own} {g u : Nat} {want : Bool}
theorem zab (hs : step B (ev fr) (fun k => look k ow) ⟨some t, op, ty, pos, af, none⟩ = some ⟨d, p, rd, []⟩) (hn : Nat.blt t n = true) (hp : p) (h : CT Tryz.prog X n all rest ((t, d) :: fr) ow (tr ++ [(rd, [])]) K) :
    CT Tryz.prog X n all (⟨some t, op, ty, pos, af, none⟩ :: rest) fr ow tr K := CT.val (by rw [zer]; exact hs) (by simpa using hn) hp h
theorem zav (hs : step B (ev fr) (fun k => look k ow) ⟨some t, op, ty, pos, af, none⟩ = some ⟨d, p, rd, [(k, ob)]⟩) (hn : Nat.blt t n = true) (hp : p) (h : CT Tryz.prog X n all rest ((t, d) :: fr) ((k, ob) :: ow) (tr ++ [(rd, [k])]) K) :
    CT Tryz.prog X n all (⟨some t, op, ty, pos, af, none⟩ :: rest) fr ow tr K := CT.obj (by rw [zer]; exact hs) (by simpa using hn) hp h
theorem zrr (hs : stepK true B (ev fr) (fun k => look k ow) ⟨some t, op, ty, pos, af, none⟩ = some ⟨d, p, rd, [(k, ob)]⟩) (hn : Nat.blt t n = true) (hp : p) (h : CT Tryz.prog X n all rest ((t, d) :: fr) ((k, ob) :: ow) (tr ++ [(rd, [k])]) K) :
    CT Tryz.prog X n all (⟨some t, op, ty, pos, af, none⟩ :: rest) fr ow tr K := CT.arr (by rw [zer]; exact hs) (by simpa using hn) hp h
theorem zqW {f : FuncId} {args : List D} (hc : callOf fr op = some (f, args)) (hn : Nat.blt t n = true) (hP : ∀ vs w, (callFunc f vs).run Tryz.prog w = .ok (.enter f vs) w) (hp : okOs (fun k => look k ow) args) (hf : (args.map (D.shutO fun k => look k ow)).all D.free = true)
    (hC : Ctr Tryz.prog f (args.map (D.shutO fun k => look k ow)) d) (hs : d.scal = true)
    (h : CT Tryz.prog X n all rest ((t, d) :: fr) ow (tr ++ [(keysO args, [])]) K) : CT Tryz.prog X n all (⟨some t, op, ty, pos, af, none⟩ :: rest) fr ow tr K := CT.callS hc (by simpa using hn) hP hp hf hC hs h
theorem zqa {f : FuncId} {args : List D} {k z L : Nat} {e : TypeId} {h0 : Nat → List D} (hc : callOf fr op = some (f, args)) (hn : Nat.blt t n = true) (hP : ∀ vs w, (callFunc f vs).run Tryz.prog w = .ok (.enter f vs) w) (hf : (args.map D.shut).all D.free = true)
    (hC : CtrO Tryz.prog f (args.map D.shut) [] (.ah k z L) [(k, .arr e z L h0)]) (ht : look t ow = none)
    (h : CT Tryz.prog X n all rest ((t, .ah t z L) :: fr) ((t, .arr e z L h0) :: ow) (tr ++ [([t], [t])]) K) : CT Tryz.prog X n all (⟨some t, op, ty, pos, af, none⟩ :: rest) fr ow tr K := CT.callN hc (by simpa using hn) hP hf hC ht h
theorem zaH (hs : step B (ev fr) (fun k => look k ow) ⟨none, op, ty, pos, af, none⟩ = some ⟨d, p, rd, [(k, ob)]⟩) (hp : p) (h : CT Tryz.prog X n all rest fr ((k, ob) :: ow) (tr ++ [(rd, [k])]) K) :
    CT Tryz.prog X n all (⟨none, op, ty, pos, af, none⟩ :: rest) fr ow tr K := CT.sto (by rw [zer]; exact hs) hp h
theorem zaj (hu : dstAt all g = some u) (hc : getD' u fr = .b want) (hs : step B (ev fr) (fun k => look k ow) ⟨some t, op, ty, pos, af, some (g, want)⟩ = some ⟨d, p, rd, []⟩) (hn : Nat.blt t n = true) (hp : p)
    (h : CT Tryz.prog X n all rest ((t, d) :: fr) ow (tr ++ [(rd, [])]) K) : CT Tryz.prog X n all (⟨some t, op, ty, pos, af, some (g, want)⟩ :: rest) fr ow tr K := CT.gval hu hc (by rw [zer]; exact hs) (by simpa using hn) hp h
theorem zap (hu : dstAt all g = some u) (hc : getD' u fr = .b (!want)) (hn : Nat.blt t n = true) (h : CT Tryz.prog X n all rest ((t, .tu []) :: fr) ow (tr ++ [([], [])]) K) :
    CT Tryz.prog X n all (⟨some t, op, ty, pos, af, some (g, want)⟩ :: rest) fr ow tr K := CT.gskip hu (.inl hc) (by simpa using hn) h
theorem zbP (hu : dstAt all g = some u) (hc : getD' u fr = .tu []) (hn : Nat.blt t n = true) (h : CT Tryz.prog X n all rest ((t, .tu []) :: fr) ow (tr ++ [([], [])]) K) :
    CT Tryz.prog X n all (⟨some t, op, ty, pos, af, some (g, want)⟩ :: rest) fr ow tr K := CT.gskip hu (.inr hc) (by simpa using hn) h
theorem zae {f : FuncId} {args : List D} (hc : callOf fr op = some (f, args)) (hn : Nat.blt t n = true) (hP : ∀ vs w, (callFunc f vs).run Tryz.prog w = .ok (.enter f vs) w) (hf : (args.map D.shut).all D.free = true) (hC : Ctr Tryz.prog f (args.map D.shut) d)
    (h : CT Tryz.prog X n all rest ((t, d) :: fr) ow (tr ++ [([], [])]) K) : CT Tryz.prog X n all (⟨some t, op, ty, pos, af, none⟩ :: rest) fr ow tr K := CT.call hc (by simpa using hn) hP hf hC h
theorem zaw {f : FuncId} {args : List D} (hu : dstAt all g = some u) (hg : getD' u fr = .b want) (hc : callOf fr op = some (f, args)) (hn : Nat.blt t n = true) (hP : ∀ vs w, (callFunc f vs).run Tryz.prog w = .ok (.enter f vs) w)
    (hf : (args.map D.shut).all D.free = true) (hC : Ctr Tryz.prog f (args.map D.shut) d)
    (h : CT Tryz.prog X n all rest ((t, d) :: fr) ow (tr ++ [([], [])]) K) : CT Tryz.prog X n all (⟨some t, op, ty, pos, af, some (g, want)⟩ :: rest) fr ow tr K := CT.gcall hu hg hc (by simpa using hn) hP hf hC h
def Nrm (Q : Exit → Fr → Ow → Prop) (fr : Fr) (ow : Ow) : Prop := Q .normal fr ow
def Rtn (Q : Exit → Fr → Ow → Prop) (fr : Fr) (ow : Ow) : Prop := Q .ret fr ow
def Exi (id : Nat) (Q : Exit → Fr → Ow → Prop) (fr : Fr) (ow : Ow) : Prop := Q (.exit id) fr ow
theorem zad {K : Fr → Ow → Prop} (h : K fr ow) : Nrm (thenQ K Q) fr ow := h
theorem zao {id : Nat} (h : Nrm Q fr ow) : Nrm (blockQ id Q) fr ow := h
theorem zas {K : Fr → Ow → Prop} {id : Nat} (h : Exi id Q fr ow) : Exi id (thenQ K Q) fr ow := h
theorem zaB {j id : Nat} (hb : Nat.beq j id = true) (h : Nrm Q fr ow) : Exi j (blockQ id Q) fr ow := by
  show blockQ id Q (.exit j) fr ow
  simp only [blockQ, hb]
  exact h
theorem zel {j id : Nat} (hb : Nat.beq j id = false) (h : Exi j Q fr ow) : Exi j (blockQ id Q) fr ow := by
  show blockQ id Q (.exit j) fr ow
  simp only [blockQ, hb]
  exact h
theorem zam {K : Fr → Ow → Prop} (h : Rtn Q fr ow) : Rtn (thenQ K Q) fr ow := h
theorem zaz {id : Nat} (h : Rtn Q fr ow) : Rtn (blockQ id Q) fr ow := h
theorem zah {x y : Code} (h : T Tryz.prog X n x fr ow (thenQ (fun fr ow => T Tryz.prog X n y fr ow Q) Q)) : T Tryz.prog X n (.seq x y) fr ow Q := T.seq h
theorem zai (h : Nrm Q fr ow) : T Tryz.prog X n .skip fr ow Q := T.skip h
theorem zan (h : Rtn Q fr ow) : T Tryz.prog X n .ret fr ow Q := T.ret h
theorem zat {id : Nat} (h : Exi id Q fr ow) : T Tryz.prog X n (.exit id) fr ow Q := T.exit h
theorem zaf {id : Nat} {c : Code} (h : T Tryz.prog X n c fr ow (blockQ id Q)) : T Tryz.prog X n (.block id c) fr ow Q := T.block h
theorem zau {c : Operand} {x y : Code} (hc : ev fr c = .b true) (h : T Tryz.prog X n x fr ow Q) : T Tryz.prog X n (.cond c x y) fr ow Q := T.cond hc (fun _ => h) (fun e => nomatch e)
theorem zal {c : Operand} {x y : Code} (hc : ev fr c = .b false) (h : T Tryz.prog X n y fr ow Q) : T Tryz.prog X n (.cond c x y) fr ow Q := T.cond hc (fun e => nomatch e) (fun _ => h)
theorem zep {c : Operand} {x y : Code} {b : Bool} (hc : ev fr c = .b b) (h1 : b = true → T Tryz.prog X n x fr ow Q) (h2 : b = false → T Tryz.prog X n y fr ow Q) : T Tryz.prog X n (.cond c x y) fr ow Q := T.cond hc h1 h2
theorem zaa {id : Nat} {ops : List Oper} (h : CT Tryz.prog X n ops ops fr ow [] (fun fr ow _ => Nrm Q fr ow)) : T Tryz.prog X n (.region id ⟨ops⟩ false) fr ow Q := T.region h
theorem zaC {id : Nat} {ops : List Oper} (h : CT Tryz.prog X n ops ops fr ow [] (fun fr ow tr => flowOk ops tr = true ∧ Nrm Q fr ow)) : T Tryz.prog X n (.region id ⟨ops⟩ true) fr ow Q := T.draw mixed h
theorem zag {K : Fr → Ow → List (List Nat × List Nat) → Prop} (h : K fr ow tr) : CT Tryz.prog X n all [] fr ow tr K := CT.nil h
theorem zlH {dst : Option Tmp} {c : Bool} (hu : dstAt all g = some u) (hc : getD' u fr = .b c)
    (h1 : c = true → CT Tryz.prog X n all (⟨dst, op, ty, pos, af, some (g, want)⟩ :: rest) ((u, .b true) :: fr) ow tr K)
    (h2 : c = false → CT Tryz.prog X n all (⟨dst, op, ty, pos, af, some (g, want)⟩ :: rest) ((u, .b false) :: fr) ow tr K) :
    CT Tryz.prog X n all (⟨dst, op, ty, pos, af, some (g, want)⟩ :: rest) fr ow tr K := CT.split hu hc h1 h2
theorem zoW {dst : Option Tmp} {c : Bool} (c' : Bool) (_hu : dstAt all g = some u) (_hc : getD' u fr = .b c) (_ : c = c') (h : CT Tryz.prog X n all (⟨dst, op, ty, pos, af, some (g, want)⟩ :: rest) fr ow tr K) : CT Tryz.prog X n all (⟨dst, op, ty, pos, af, some (g, want)⟩ :: rest) fr ow tr K := h
theorem zrn {dst : Option Tmp} (h : CT Tryz.prog X n all (⟨dst, op, ty, pos, af, some (g, want)⟩ :: rest) fr ow tr K) : CT Tryz.prog X n all (⟨dst, op, ty, pos, af, some (g, want)⟩ :: rest) fr ow tr K := h
theorem zak {dst : Option Tmp} {q : Prop} [Decidable q] (hu : dstAt all g = some u) (hc : getD' u fr = .b (decide q))
    (h1 : q → CT Tryz.prog X n all (⟨dst, op, ty, pos, af, some (g, want)⟩ :: rest) ((u, .b true) :: fr) ow tr K)
    (h2 : ¬ q → CT Tryz.prog X n all (⟨dst, op, ty, pos, af, some (g, want)⟩ :: rest) ((u, .b false) :: fr) ow tr K) :
    CT Tryz.prog X n all (⟨dst, op, ty, pos, af, some (g, want)⟩ :: rest) fr ow tr K := CT.split hu hc (fun h => h1 (of_decide_eq_true h)) (fun h => h2 (of_decide_eq_false h))
theorem zbX {dst : Option Tmp} {a b : Int} (hu : dstAt all g = some u) (hc : getD' u fr = .b (a != b))
    (h1 : ¬ a = b → CT Tryz.prog X n all (⟨dst, op, ty, pos, af, some (g, want)⟩ :: rest) ((u, .b true) :: fr) ow tr K)
    (h2 : a = b → CT Tryz.prog X n all (⟨dst, op, ty, pos, af, some (g, want)⟩ :: rest) ((u, .b false) :: fr) ow tr K) :
    CT Tryz.prog X n all (⟨dst, op, ty, pos, af, some (g, want)⟩ :: rest) fr ow tr K := CT.split hu hc (fun h => h1 (by simpa using h)) (fun h => h2 (by simpa using h))
theorem zbh {dst : Option Tmp} {a b : List UInt8} (hu : dstAt all g = some u) (hc : getD' u fr = .b (a == b))
    (h1 : a = b → CT Tryz.prog X n all (⟨dst, op, ty, pos, af, some (g, want)⟩ :: rest) ((u, .b true) :: fr) ow tr K)
    (h2 : ¬ a = b → CT Tryz.prog X n all (⟨dst, op, ty, pos, af, some (g, want)⟩ :: rest) ((u, .b false) :: fr) ow tr K) :
    CT Tryz.prog X n all (⟨dst, op, ty, pos, af, some (g, want)⟩ :: rest) fr ow tr K := CT.split hu hc (fun h => h1 (by simpa using h)) (fun h => h2 (by simpa using h))
theorem zaT {dst : Option Tmp} {c : Bool} (hu : dstAt all g = some u) (hc : getD' u fr = .b (!c))
    (h1 : c = false → CT Tryz.prog X n all (⟨dst, op, ty, pos, af, some (g, want)⟩ :: rest) ((u, .b true) :: fr) ow tr K)
    (h2 : c = true → CT Tryz.prog X n all (⟨dst, op, ty, pos, af, some (g, want)⟩ :: rest) ((u, .b false) :: fr) ow tr K) :
    CT Tryz.prog X n all (⟨dst, op, ty, pos, af, some (g, want)⟩ :: rest) fr ow tr K := CT.split hu hc (fun h => h1 (by simpa using h)) (fun h => h2 (by simpa using h))
theorem zac {c : Operand} {x y : Code} {q : Prop} [Decidable q] (hc : ev fr c = .b (decide q)) (h1 : q → T Tryz.prog X n x fr ow Q) (h2 : ¬ q → T Tryz.prog X n y fr ow Q) : T Tryz.prog X n (.cond c x y) fr ow Q :=
  T.cond hc (fun h => h1 (of_decide_eq_true h)) (fun h => h2 (of_decide_eq_false h))
theorem zaR {c : Operand} {x y : Code} {a b : Int} (hc : ev fr c = .b (a != b)) (h1 : ¬ a = b → T Tryz.prog X n x fr ow Q) (h2 : a = b → T Tryz.prog X n y fr ow Q) : T Tryz.prog X n (.cond c x y) fr ow Q :=
  T.cond hc (fun h => h1 (by simpa using h)) (fun h => h2 (by simpa using h))
theorem zaQ {c : Operand} {x y : Code} {a b : List UInt8} (hc : ev fr c = .b (a == b)) (h1 : a = b → T Tryz.prog X n x fr ow Q) (h2 : ¬ a = b → T Tryz.prog X n y fr ow Q) : T Tryz.prog X n (.cond c x y) fr ow Q :=
  T.cond hc (fun h => h1 (by simpa using h)) (fun h => h2 (by simpa using h))
theorem zaS {c : Operand} {x y : Code} {b : Bool} (hc : ev fr c = .b (!b)) (h1 : b = false → T Tryz.prog X n x fr ow Q) (h2 : b = true → T Tryz.prog X n y fr ow Q) : T Tryz.prog X n (.cond c x y) fr ow Q :=
  T.cond hc (fun h => h1 (by simpa using h)) (fun h => h2 (by simpa using h))
theorem T.mono {c : Code} {Q' : Exit → Fr → Ow → Prop} (h : T Tryz.prog X n c fr ow Q) (hq : ∀ e fr ow, Q e fr ow → Q' e fr ow) : T Tryz.prog X n c fr ow Q' := fun a w hr =>
  (h a w hr).mono fun _ _ _ ⟨fr', ow', h1, h2⟩ => ⟨fr', ow', hq _ _ _ h1, h2⟩
theorem T.mid {ι : Type} {c s : Code} {Q' : Exit → Fr → Ow → Prop} (hL : Lent X) (mkF : ι → Fr) (mkO : ι → Ow) (I : ι → Prop) (hK : ∀ z, I z → T Tryz.prog X n s (mkF z) (mkO z) Q')
    (h : T Tryz.prog X n c fr ow (thenQ (fun fr ow => ∃ z, I z ∧ Le X fr ow (mkF z) (mkO z)) Q)) : T Tryz.prog X n c fr ow (thenQ (fun fr ow => T Tryz.prog X n s fr ow Q') Q) :=
  h.mono fun e fr ow hq => by
    cases e with
    | normal =>
      obtain ⟨z, hz, hle⟩ := (show ∃ z, I z ∧ Le X fr ow (mkF z) (mkO z) from hq)
      exact show T Tryz.prog X n s fr ow Q' from fun a w hr => hK z hz a w (hr.le hle hL)
    | _ => exact hq
theorem zgs {ι : Type} (id : Nat) {ops : Array Oper} {dr : Bool} {c s : Code} {Q' : Exit → Fr → Ow → Prop} (hL : Lent X) (mkF : ι → Fr) (mkO : ι → Ow) (I : ι → Prop)
    (h : T Tryz.prog X n (.seq (.region id ops dr) c) fr ow (thenQ (fun fr ow => ∃ z, I z ∧ Le X fr ow (mkF z) (mkO z)) Q)) (hK : ∀ z, I z → T Tryz.prog X n s (mkF z) (mkO z) Q') :
    T Tryz.prog X n (.seq (.region id ops dr) c) fr ow (thenQ (fun fr ow => T Tryz.prog X n s fr ow Q') Q) := T.mid hL mkF mkO I hK h
theorem zlW {ι : Type} (id : Nat) {ops : Array Oper} {dr : Bool} {s : Code} {Q' : Exit → Fr → Ow → Prop} (hL : Lent X) (mkF : ι → Fr) (mkO : ι → Ow) (I : ι → Prop)
    (h : T Tryz.prog X n (.region id ops dr) fr ow (thenQ (fun fr ow => ∃ z, I z ∧ Le X fr ow (mkF z) (mkO z)) Q)) (hK : ∀ z, I z → T Tryz.prog X n s (mkF z) (mkO z) Q') :
    T Tryz.prog X n (.region id ops dr) fr ow (thenQ (fun fr ow => T Tryz.prog X n s fr ow Q') Q) := T.mid hL mkF mkO I hK h
theorem zco {d : D} (h : d.free = true) (ks : List Nat) : d.okIn ks = true := by
  cases d with
  | fn f cs =>
    have h : cs.all D.free1 = true := h
    show cs.all (D.okI1 ks) = true
    rw [List.all_eq_true] at h ⊢
    intro c hc
    have := h c hc
    cases c <;> first | exact this | rfl | (simp [D.free1, D.plain] at this)
  | _ => first | exact h | (simp [D.free] at h)
theorem T.monoF {c : Code} {Q' : Exit → Fr → Ow → Prop} (h : T Tryz.prog X n c fr ow Q) (hq : ∀ e fr ow, Q e fr ow → ∃ fr' ow', Frz fr ow fr' ow' ∧ Q' e fr' ow') : T Tryz.prog X n c fr ow Q' := fun a w hr =>
  (h a w hr).mono fun e _ _ ⟨fr', ow', h1, h2⟩ => by
    obtain ⟨fr2, ow2, h3, h4⟩ := hq e fr' ow' h1
    exact ⟨fr2, ow2, h4, h2.frz h3⟩
def Ends (rs : List ResultVar) (d : D) (e : Exit) (fr : Fr) (ow : Ow) : Prop :=
  match e with
  | .ret | .normal => ∃ fr' ow' d2, Frz fr ow fr' ow' ∧ resD B fr' ow' rs = some d2 ∧ Weak d2 d
  | _ => False
theorem zaq {rs : List ResultVar} {d d2 : D} (h : resD B fr ow rs = some d2) (he : d2 = d) : Rtn (Ends rs d) fr ow := ⟨fr, ow, d2, .refl .., h, .of_eq he⟩
theorem zbN {rs : List ResultVar} {d d2 : D} (h : resD B fr ow rs = some d2) (he : Weak d2 d) : Rtn (Ends rs d) fr ow := ⟨fr, ow, d2, .refl .., h, he⟩
theorem zeL {rs : List ResultVar} {d d2 : D} {e z L : Nat} {f : Nat → List D} (ts : List Nat) (k : Nat) (hk : look k ow = some (.arr e z L f)) (ht : allAh fr k z L ts) (h : resD B (setAll ts (.gs k z L f) fr) ((k, .row e z L) :: ow) rs = some d2) (he : Weak d2 d) : Rtn (Ends rs d) fr ow :=
  ⟨_, _, d2, .freeze _ _ _ _ ts k e z L f hk ht (.refl ..), h, he⟩
theorem zax {f : FuncId} {fn : Func} {c : Code} {N : Nat} {rs : List ResultVar} {args : List D} {d : D} (hf : Tryz.prog.funcs[f]? = some fn) (hb : fn.body = some c) (hN : fn.ntmps = N) (hrs : fn.results = ⟨rs⟩) (hlen : Nat.ble args.length N = true) (hd : d.free = true)
    (h : ∀ X : Ctx, Lent X → X.ids = [] → T Tryz.prog X N c (slots 0 args) [] (Ends rs d)) : Ctr Tryz.prog f args d := by
  refine Ctr.of (ow' := []) (CtrO.of_T hf hb hN hrs (by simpa using hlen) fun X hL hi => (h X hL hi).monoF fun e fr2 ow2 hq => ?_) hd
  have key : ∀ fr3 ow3 d2, resD B fr3 ow3 rs = some d2 → Weak d2 d → ∃ d2, resD (tb Tryz.prog) fr3 ow3 rs = some d2 ∧ Weak d2 d ∧ d.okIn (([] : Ow).map (·.1)) = true ∧ Le X fr3 ow3 [] [] := by
    intro fr3 ow3 d2 h1 h2
    refine ⟨d2, by rw [zer]; exact h1, h2, zco hd _, trivial, trivial, rfl, fun k hk => ?_⟩
    rw [hi] at hk
    cases hk
  cases e with
  | ret => obtain ⟨fr3, ow3, d2, h0, h1, h2⟩ := hq; exact ⟨fr3, ow3, h0, .inl rfl, key _ _ d2 h1 h2⟩
  | normal => obtain ⟨fr3, ow3, d2, h0, h1, h2⟩ := hq; exact ⟨fr3, ow3, h0, .inr rfl, key _ _ d2 h1 h2⟩
  | _ => exact hq.elim
def EndsN (rs : List ResultVar) (k : Nat) (el : TypeId) (z L : Nat) (g : Nat → List D) (e : Exit) (fr : Fr) (ow : Ow) : Prop :=
  match e with
  | .ret | .normal => ∃ fr' ow' L2 g2, Frz fr ow fr' ow' ∧ resD B fr' ow' rs = some (.ah k z L2) ∧ look k ow' = some (.arr el z L2 g2) ∧ L2 = L ∧ ∀ i, i < L → g2 i = g i
  | _ => False
theorem zpK {rs : List ResultVar} {k z L L2 : Nat} {el : TypeId} {g g2 : Nat → List D} (h : resD B fr ow rs = some (.ah k z L2)) (h2 : look k ow = some (.arr el z L2 g2)) (h3 : L2 = L) (h4 : ∀ i, i < L → g2 i = g i) : Rtn (EndsN rs k el z L g) fr ow := ⟨fr, ow, L2, g2, .refl .., h, h2, h3, h4⟩
theorem zqP {rs : List ResultVar} {k z L : Nat} {el : TypeId} {g : Nat → List D} (t : Nat) (ht : getD' t fr = .nilS) (hk : look k ow = none) (h : resD B ((t, .ah k z 0) :: fr) ((k, .arr el z 0 g) :: ow) rs = some (.ah k z 0)) (h2 : look k ((k, .arr el z 0 g) :: ow) = some (.arr el z 0 g)) (h3 : L = 0) : Rtn (EndsN rs k el z L g) fr ow :=
  ⟨_, _, 0, g, .adopt _ _ _ _ t k el z g ht hk (.refl ..), h, h2, h3.symm, fun _ _ => rfl⟩
theorem r_new {f : FuncId} {fn : Func} {c : Code} {N : Nat} {rs : List ResultVar} {args : List D} {z L : Nat} {el : TypeId} {g : Nat → List D} (k : Nat) (hf : Tryz.prog.funcs[f]? = some fn) (hb : fn.body = some c) (hN : fn.ntmps = N) (hrs : fn.results = ⟨rs⟩) (hlen : Nat.ble args.length N = true)
    (h : ∀ X : Ctx, Lent X → X.ids = [] → T Tryz.prog X N c (slots 0 args) [] (EndsN rs k el z L g)) : CtrO Tryz.prog f args [] (.ah k z L) [(k, .arr el z L g)] := by
  refine CtrO.of_T hf hb hN hrs (by simpa using hlen) fun X hL hi => (h X hL hi).monoF fun e fr2 ow2 hq => ?_
  have key : ∀ fr3 ow3 L2 g2, resD B fr3 ow3 rs = some (.ah k z L2) → look k ow3 = some (.arr el z L2 g2) → L2 = L → (∀ i, i < L → g2 i = g i) →
      ∃ d2, resD (tb Tryz.prog) fr3 ow3 rs = some d2 ∧ Weak d2 (.ah k z L) ∧ (D.ah k z L).okIn (([(k, .arr el z L g)] : Ow).map (·.1)) = true ∧ Le X fr3 ow3 [] [(k, .arr el z L g)] := by
    intro fr3 ow3 L2 g2 h1 h2 h3 h4
    subst h3
    exact ⟨_, by rw [zer]; exact h1, .refl _, by simp [D.okIn, memB], trivial, ⟨⟨_, _, h2, rfl, fun i hi => .inl (h4 i hi)⟩, trivial⟩, rfl, fun j hj => by rw [hi] at hj; cases hj⟩
  cases e with
  | ret => obtain ⟨fr3, ow3, L2, g2, h0, h1, h2, h3, h4⟩ := hq; exact ⟨fr3, ow3, h0, .inl rfl, key _ _ L2 g2 h1 h2 h3 h4⟩
  | normal => obtain ⟨fr3, ow3, L2, g2, h0, h1, h2, h3, h4⟩ := hq; exact ⟨fr3, ow3, h0, .inr rfl, key _ _ L2 g2 h1 h2 h3 h4⟩
  | _ => exact hq.elim
end
attribute [irreducible] Nrm Rtn Exi
end Go.Proofs.YtkkaamhocpmhkaaGreatDoor.Flow

namespace Go.Proofs.YtkkaamhocpmhkaaGreatDoor.Flow
def unsub (k : Nat) : D → D
  | .pv j o => match Nat.beq j k with
    | true => .pv 0 o
    | false => .pv (j + 1) o
  | d => d.shut
def okA : D → Bool
  | .pv 0 _ => true
  | d => d.free
section
variable {P : Program} {X : Ctx} {n : Nat} {fr : Fr} {ow : Ow} {d : D}
theorem zfC {o : Oper} {f : FuncId} {args : List D} {k : Nat} {cs cs' : List D} (hP : ∀ vs w, (callFunc f vs).run P w = .ok (.enter f vs) w) (hc : callOf fr o.op = some (f, args)) (hk : look k ow = some (.var cs))
    (hok : (args.map (unsub k)).all okA = true) (hf1 : cs.all D.free = true) (hf2 : cs'.all D.free = true) (hf3 : d.free = true)
    (hC : CtrO P f (args.map (unsub k)) [(0, .var cs)] d [(0, .var cs')]) (hd : dstOk o.dst n) :
    ∀ F' O', (∀ x ∈ o.op.operands.toList, evF F' x = evF (fF fr) x) → (∀ j ∈ [k], O' j = fO ow j) → StepAt P X n o F' O' d [(k, .var cs')] := by
  intro F' O' he hO a w K' Q' ⟨S, r, hH, hI, hF, hdf, hn, hρ⟩ hK
  obtain ⟨vs, hrun, hsz, hrel⟩ := zbD hP hc he (fun x => zcw hH.glob hF x)
  have hOk : O' k = some (.var cs) := (hO k (by simp)).trans hk
  have hobj := hI.obj k _ hOk
  obtain ⟨b, cur, e0, hb, hheap, hsz0, hcells, hfree⟩ := hobj
  have getFree : ∀ (l : List D), l.all D.free = true → ∀ j, j < l.length → (l.getD j .any).free = true := fun l hl j hj => by
    rw [List.all_eq_true] at hl
    refine hl _ ?_
    simp only [List.getD_eq_getElem?_getD, List.getElem?_eq_getElem hj, Option.getD_some]
    exact List.getElem_mem hj
  have hblt : b < w.heap.size := (Array.getElem?_eq_some_iff.1 hheap).1
  let X' : Ctx := { w0 := w, S0 := S, L := fun b' => b' = b, r0 := fun j => if j = 0 then some (.blk b) else none, ids := [0] }
  have hH' : Hist X' w S := ⟨rfl, rfl, rfl, Nat.le_refl _, fun _ _ _ => rfl, fun _ _ h => h, fun _ _ _ => rfl, fun _ _ h => .inl h, hH.valid, hH.glob⟩
  have hI' : Inv X' w S X'.r0 (fO [(0, .var cs)]) := by
    refine ⟨fun j ob hj => ?_, fun j hj => ?_, fun i j l l' b' hij hl hl' hb' => ?_, fun j l b' hl hb' => ?_⟩
    · have hj0 : j = 0 ∧ ob = .var cs := by
        rw [zaM] at hj
        have hj : (if j = 0 then some (Own.var cs) else fO [] j) = some ob := hj
        by_cases e : j = 0
        · rw [if_pos e] at hj
          exact ⟨e, (Option.some.inj hj).symm⟩
        · rw [if_neg e] at hj
          cases hj
      obtain ⟨rfl, rfl⟩ := hj0
      exact ⟨b, cur, e0, rfl, hheap, hsz0, fun j hj => ⟨(hcells j hj).1.free (getFree cs hf1 j hj) _, (hcells j hj).2⟩, hfree⟩
    · show (if j = 0 then some (Loc.blk b) else none) = none
      rw [if_neg]
      intro e
      subst e
      cases hj
    · have hl : (if i = 0 then some (Loc.blk b) else none) = some l := hl
      have hl' : (if j = 0 then some (Loc.blk b) else none) = some l' := hl'
      by_cases e : i = 0
      · by_cases e' : j = 0
        · omega
        · rw [if_neg e'] at hl'; cases hl'
      · rw [if_neg e] at hl; cases hl
    · have hl : (if j = 0 then some (Loc.blk b) else none) = some l := hl
      by_cases e : j = 0
      · rw [if_pos e] at hl
        cases hl
        exact .inr (Option.some.inj hb').symm
      · rw [if_neg e] at hl; cases hl
  have hrel' : ∀ j, j < (args.map (unsub k)).length → Rel S w X'.r0 ((args.map (unsub k)).getD j .any) (vs.getD j undef) := by
    intro j hj
    have hj' : j < args.length := by simpa using hj
    have e : (args.map (unsub k)).getD j .any = unsub k (args.getD j .any) := by simp [List.getD_eq_getElem?_getD, hj']
    have hokj : okA (unsub k (args.getD j .any)) = true := by
      rw [← e]
      rw [List.all_eq_true] at hok
      refine hok _ ?_
      simp only [List.getD_eq_getElem?_getD, List.getElem?_eq_getElem hj, Option.getD_some]
      exact List.getElem_mem hj
    rw [e]
    have hr := hrel j hj'
    generalize args.getD j .any = dj at hr hokj
    generalize vs.getD j undef = vj at hr
    by_cases hpv : ∃ i off, dj = .pv i off
    · obtain ⟨i, off, rfl⟩ := hpv
      simp only [unsub] at hokj ⊢
      cases hbq : Nat.beq i k with
      | true =>
        have := Nat.eq_of_beq_eq_true hbq
        subst this
        cases hr with
        | pv _ _ _ b2 hb2 =>
          rw [hb] at hb2
          cases hb2
          exact .pv _ 0 off b rfl
      | false =>
        rw [hbq] at hokj
        simp [okA, D.free] at hokj
    · have hu : unsub k dj = dj.shut := by
        cases dj <;> first | rfl | exact absurd ⟨_, _, rfl⟩ hpv
      rw [hu] at hokj ⊢
      refine hr.shut.free ?_ _
      cases dj <;> first | exact hokj | exact absurd ⟨_, _, rfl⟩ hpv
  refine OW.enter hrun ((hC X' vs rfl hH' hI' (by simpa using hsz) hrel').mono ?_)
  rintro e w' ⟨v, S', r', rfl, g1, g2, g3, g4⟩
  obtain ⟨l', hl', hle'⟩ := g4 0 (.blk b) rfl
  obtain ⟨b2, cur', e', q1, q2, q3, q4, q5⟩ := g3.obj 0 (.var cs') rfl
  have hb2 : b2 = b := by
    rw [q1] at hl'
    cases hl'
    exact hle'.symm
  subst hb2
  have hch : Chg w w' S (some b2) := ⟨g2.os, g2.tape, g2.output, g2.size, fun j hj hne => g2.block j hj (fun (h : j = b2) => hne (by rw [h])), g2.cell⟩
  have hnew : ∀ b' o, S' b' o → S b' o ∨ w.heap.size ≤ b' := fun b' o hb' => by
    rcases g2.new b' o hb' with h | h | h
    · exact .inl h
    · exact .inr h
    · have h : b' = b2 := h
      subst h
      exact absurd hb' (q5 o)
  refine hK v w' ⟨S', r, ?_, ?_, zcx (fun t => (hF t).mono g2.sub g2.cell r (RhoLe.refl r)) (hn ▸ hd) (g1.free hf3 r), by rw [zbg]; exact hdf, by rw [zbR]; exact hn, hρ⟩
  · refine hH.chg hch (fun b' hb' => by cases hb'; exact hI.low k _ b2 hb rfl) g2.sub (fun b' o hb' => ?_)
    rcases hnew b' o hb' with h | h
    · exact .inl h
    · exact .inr ⟨.inl (Nat.le_trans hH.size h), g2.valid b' o hb'⟩
  · refine hI.put hch g2.sub (RhoLe.refl r) k (.var cs') (.blk b2) ?_ hb (fun _ _ => rfl) (fun b' hb' => .inr ⟨_, hb, hb'⟩) (fun b' hb' => ⟨_, hb, by cases hb'; rfl⟩) (fun b' o h => ?_)
    · exact ⟨b2, cur', e', hb, q2, q3, fun j hj => ⟨(q4 j hj).1.free (getFree cs' hf2 j hj) r, (q4 j hj).2⟩, q5⟩
    · rcases hnew b' o h with h | h
      · exact .inl h
      · exact .inr (.inr h)
end
theorem zmr {P : Program} {X : Ctx} {n : Nat} {fr : Fr} {ow : Ow} {d : D} {o : Oper} {f : FuncId} {args : List D} {k : Nat} {cs : List D} (hP : ∀ vs w, (callFunc f vs).run P w = .ok (.enter f vs) w) (hc : callOf fr o.op = some (f, args)) (hk : look k ow = some (.var cs))
    (hok : (args.map (unsub k)).all okA = true) (hf1 : cs.all D.free = true) (hf3 : d.free = true)
    (hC : CtrO P f (args.map (unsub k)) [(0, .var cs)] d [(0, .var cs)]) (hd : dstOk o.dst n) :
    ∀ F' O', (∀ x ∈ o.op.operands.toList, evF F' x = evF (fF fr) x) → (∀ j ∈ [k], O' j = fO ow j) → StepAt P X n o F' O' d [] := by
  intro F' O' he hO
  have h := zfC (X := X) (n := n) hP hc hk hok hf1 hf1 hf3 hC hd F' O' he hO
  have e : updO O' [(k, .var cs)] = updO O' [] := by
    funext j
    simp only [updO]
    split
    · rename_i e
      subst e
      exact ((hO j (by simp)).trans hk).symm
    · rfl
  unfold StepAt at h ⊢
  rw [e] at h
  exact h
section
variable {X : Ctx} {n : Nat} {all rest : List Oper} {fr : Fr} {ow : Ow} {tr : List (List Nat × List Nat)} {K : Fr → Ow → List (List Nat × List Nat) → Prop} {Q : Exit → Fr → Ow → Prop}
variable {t : Nat} {op : Op} {ty : TypeId} {pos : String} {af : Array Edge} {d : D} {g u : Nat} {want : Bool} {k : Nat} {cs cs' : List D} {f : FuncId} {args : List D}
theorem zeo (k : Nat) (hc : callOf fr op = some (f, args)) (hn : Nat.blt t n = true) (hP : ∀ vs w, (callFunc f vs).run Tryz.prog w = .ok (.enter f vs) w) (hk : look k ow = some (.var cs))
    (hok : (args.map (unsub k)).all okA = true) (hf1 : cs.all D.free = true) (hf2 : cs'.all D.free = true) (hf3 : d.free = true)
    (hC : CtrO Tryz.prog f (args.map (unsub k)) [(0, .var cs)] d [(0, .var cs')])
    (h : CT Tryz.prog X n all rest ((t, d) :: fr) ((k, .var cs') :: ow) (tr ++ [([k], [k])]) K) : CT Tryz.prog X n all (⟨some t, op, ty, pos, af, none⟩ :: rest) fr ow tr K :=
  CT.cons (e := ⟨d, [k], [(k, .var cs')]⟩) (.plain rfl (zfC (o := ⟨some t, op, ty, pos, af, none⟩) (ow := ow) hP hc hk hok hf1 hf2 hf3 hC (show t < n by simpa using hn))) (zaE ..) (zaM ..) h
theorem zqB (k : Nat) (hu : dstAt all g = some u) (hg : getD' u fr = .b want) (hc : callOf fr op = some (f, args)) (hn : Nat.blt t n = true) (hP : ∀ vs w, (callFunc f vs).run Tryz.prog w = .ok (.enter f vs) w) (hk : look k ow = some (.var cs))
    (hok : (args.map (unsub k)).all okA = true) (hf1 : cs.all D.free = true) (hf2 : cs'.all D.free = true) (hf3 : d.free = true)
    (hC : CtrO Tryz.prog f (args.map (unsub k)) [(0, .var cs)] d [(0, .var cs')])
    (h : CT Tryz.prog X n all rest ((t, d) :: fr) ((k, .var cs') :: ow) (tr ++ [([k], [k])]) K) : CT Tryz.prog X n all (⟨some t, op, ty, pos, af, some (g, want)⟩ :: rest) fr ow tr K :=
  CT.cons (e := ⟨d, [k], [(k, .var cs')]⟩) (.guarded rfl hu hg (zfC (o := ⟨some t, op, ty, pos, af, some (g, want)⟩) (ow := ow) hP hc hk hok hf1 hf2 hf3 hC (show t < n by simpa using hn))) (zaE ..) (zaM ..) h
theorem zqJ (k : Nat) (hc : callOf fr op = some (f, args)) (hn : Nat.blt t n = true) (hP : ∀ vs w, (callFunc f vs).run Tryz.prog w = .ok (.enter f vs) w) (hk : look k ow = some (.var cs))
    (hok : (args.map (unsub k)).all okA = true) (hf1 : cs.all D.free = true) (hf3 : d.free = true)
    (hC : CtrO Tryz.prog f (args.map (unsub k)) [(0, .var cs)] d [(0, .var cs)])
    (h : CT Tryz.prog X n all rest ((t, d) :: fr) ow (tr ++ [([k], [])]) K) : CT Tryz.prog X n all (⟨some t, op, ty, pos, af, none⟩ :: rest) fr ow tr K :=
  CT.cons (e := ⟨d, [k], []⟩) (.plain rfl (zmr (o := ⟨some t, op, ty, pos, af, none⟩) (ow := ow) hP hc hk hok hf1 hf3 hC (show t < n by simpa using hn))) (zaE ..) rfl h
def EndsO (rs : List ResultVar) (d : D) (cs : List D) (e : Exit) (fr : Fr) (ow : Ow) : Prop :=
  match e with
  | .ret | .normal => ∃ d2 cs2, resD B fr ow rs = some d2 ∧ look 0 ow = some (.var cs2) ∧ Weak d2 d ∧ cs2 = cs
  | _ => False
theorem zip {rs : List ResultVar} {d d2 : D} {cs cs2 : List D} (h : resD B fr ow rs = some d2) (h2 : look 0 ow = some (.var cs2)) (he : d2 = d) (hcs : cs2 = cs) : Rtn (EndsO rs d cs) fr ow := by
  unfold Rtn
  exact ⟨d2, cs2, h, h2, .of_eq he, hcs⟩
theorem zrD {rs : List ResultVar} {d d2 : D} {cs cs2 : List D} (h : resD B fr ow rs = some d2) (h2 : look 0 ow = some (.var cs2)) (he : d2 = d) (hcs : cs2 = cs) : Nrm (EndsO rs d cs) fr ow := by
  unfold Nrm
  exact ⟨d2, cs2, h, h2, .of_eq he, hcs⟩
theorem zqA {rs : List ResultVar} {d d2 : D} {cs cs2 : List D} (h : resD B fr ow rs = some d2) (h2 : look 0 ow = some (.var cs2)) (he : Weak d2 d) (hcs : cs2 = cs) : Rtn (EndsO rs d cs) fr ow := by
  unfold Rtn
  exact ⟨d2, cs2, h, h2, he, hcs⟩
theorem zgd {fn : Func} {c : Code} {N : Nat} {rs : List ResultVar} (hf : Tryz.prog.funcs[f]? = some fn) (hb : fn.body = some c) (hN : fn.ntmps = N) (hrs : fn.results = ⟨rs⟩) (hlen : Nat.ble args.length N = true) (hd : d.free = true) (hcs : cs'.all D.free = true)
    (h : ∀ X : Ctx, Lent X → X.ids = [0] → T Tryz.prog X N c (slots 0 args) [(0, .var cs)] (EndsO rs d cs')) : CtrO Tryz.prog f args [(0, .var cs)] d [(0, .var cs')] := by
  refine CtrO.of_T hf hb hN hrs (by simpa using hlen) fun X hL hi => (h X hL hi).mono fun e fr2 ow2 hq => ?_
  have key : ∀ d2 cs2, resD B fr2 ow2 rs = some d2 → look 0 ow2 = some (.var cs2) → Weak d2 d → cs2 = cs' →
      ∃ d2, resD (tb Tryz.prog) fr2 ow2 rs = some d2 ∧ Weak d2 d ∧ d.okIn (([(0, .var cs')] : Ow).map (·.1)) = true ∧ Le X fr2 ow2 [] [(0, .var cs')] := by
    intro d2 cs2 h1 h2 h3 h4
    subst h4
    refine ⟨d2, by rw [zer]; exact h1, h3, zco hd _, trivial, ⟨h2, trivial⟩, ?_, fun k hk => ?_⟩
    · simp only [okAll, List.all_nil, List.all_cons, Own.okIn, Bool.true_and, Bool.and_true]
      rw [List.all_eq_true] at hcs ⊢
      exact fun x hx => zco (hcs x hx) _
    · rw [hi] at hk
      simpa using hk
  cases e with
  | ret => obtain ⟨d2, cs2, h1, h2, h3, h4⟩ := hq; exact ⟨.inl rfl, key d2 cs2 h1 h2 h3 h4⟩
  | normal => obtain ⟨d2, cs2, h1, h2, h3, h4⟩ := hq; exact ⟨.inr rfl, key d2 cs2 h1 h2 h3 h4⟩
  | _ => exact hq.elim
end
end Go.Proofs.YtkkaamhocpmhkaaGreatDoor.Flow
