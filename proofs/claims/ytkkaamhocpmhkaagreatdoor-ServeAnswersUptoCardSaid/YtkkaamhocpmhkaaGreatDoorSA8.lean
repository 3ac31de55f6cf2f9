/- The texts FlowT, FlowN, FlowO, FlowQ, FlowR, FlowRb, one behind the other. -/
import Derived.Test.YtkkaamhocpmhkaaGreatDoorSA7
import Derived.Test.YtkkaamhocpmhkaaGreatDoorRows
import Derived.ProofKit
import Derived.OpenShut
import Derived.JoinedCond
namespace Go.Proofs.YtkkaamhocpmhkaaGreatDoor.Flow
def tyL : List (List (Ty)) := [
  [.other, .other, .int .i64, .int .i64, .bool, .int .u8, .int .u8, .struct [(0, 1, false), (1, 1, false), (2, 1, false), (3, 1, false)], .struct [(0, 1, false), (1, 1, false), (2, 1, false), (3, 1, false)], .str, .str, .str],
  [.int .u64, .struct [(0, 1, false), (1, 1, false)], .struct [(0, 1, false), (1, 1, false)], .ptr 297, .ptr 300, .ptr 307, .struct [(0, 1, false)], .struct [(0, 1, false)], .other, .int .i32, .slice 9 1 false 16, .struct [(0, 1, false), (1, 1, false), (2, 1, false), (3, 1, false), (4, 1, false), (5, 1, false)]],
  [.struct [(0, 1, false), (1, 1, false), (2, 1, false), (3, 1, false), (4, 1, false), (5, 1, false)], .slice 47 4 true 48, .other, .other, .ptr 74, .int .i64, .other, .other, .slice 22 1 false 24, .other, .other, .other],
  [.other, .other, .other, .other, .other, .other, .other, .int .u64, .struct [(0, 1, false), (1, 1, false), (2, 1, false)], .struct [(0, 1, false), (1, 1, false), (2, 1, false)], .struct [(0, 1, false), (1, 3, true)], .struct [(0, 1, false), (1, 3, true)]],
  [.other, .other, .slice 54 2 true 32, .other, .other, .other, .array 2 9 1 false, .other, .struct [(0, 1, false), (1, 1, false), (2, 1, false), (3, 1, false), (4, 1, false)], .struct [(0, 1, false), (1, 1, false), (2, 1, false), (3, 1, false), (4, 1, false)], .slice 5 1 false 1, .struct [(0, 1, false), (1, 1, false), (2, 1, false)]],
  [.struct [(0, 1, false), (1, 1, false), (2, 1, false)], .other, .other, .other, .other, .other, .other, .other, .other, .other, .other, .other],
  [.slice 3 1 false 8, .struct [(0, 6, true), (6, 1, false), (7, 1, false), (8, 1, false), (9, 1, false)], .struct [(0, 6, true), (6, 1, false), (7, 1, false), (8, 1, false), (9, 1, false)], .other, .other, .other, .other, .other, .other, .other, .other, .other],
  [.other, .other, .other, .other, .other, .struct [(0, 1, false), (1, 1, false), (2, 1, false)], .struct [(0, 1, false), (1, 1, false), (2, 1, false)], .other, .other, .other, .other, .other],
  [.other, .other, .other, .other, .ptr 102, .struct [(0, 1, false), (1, 1, false), (2, 1, false)], .struct [(0, 1, false), (1, 1, false), (2, 1, false)], .other, .other, .other, .other, .other],
  [.other, .other, .other, .other, .other, .other, .other, .other, .other, .struct [(0, 1, false), (1, 1, false), (2, 1, false)], .struct [(0, 1, false), (1, 1, false), (2, 1, false)], .other],
  [.other, .other, .other, .other, .other, .other, .other, .other, .other, .other, .other, .other],
  [.other, .other, .other, .other, .other, .other, .other, .int .u32, .other, .other, .other, .other],
  [.slice 50 1 false 24, .other, .other, .other, .other, .other, .other, .other, .other, .int .u64, .other, .other],
  [.other, .other, .other, .other, .other, .other, .other, .other, .slice 139 1 false 4, .slice 139 1 false 4, .other, .other],
  [.other, .other, .other, .other, .other, .slice 43 1 false 8, .other, .other, .other, .other, .other, .other],
  [.array 256 139 1 false, .other, .ptr 239, .other, .other, .other, .slice 58 1 false 24, .other, .other, .other, .other, .slice 4 1 false 1],
  [.slice 195 2 true 16, .other, .struct [(0, 1, false), (1, 1, false)], .struct [(0, 1, false), (1, 1, false)], .other, .other, .other, .other, .other, .other, .other, .array 256 5 1 false],
  [.struct [(0, 1, false), (1, 1, false)], .struct [(0, 1, false), (1, 1, false)], .array 16 205 2 true, .array 24 5 1 false, .other, .other, .other, .other, .other, .other, .ptr 216, .struct [(0, 1, false), (1, 1, false)]],
  [.struct [(0, 1, false), (1, 1, false)], .other, .other, .other, .other, .other, .other, .other, .array 256 4 1 false, .array 256 4 1 false, .other, .other],
  [.other, .other, .other, .other, .other, .other, .other, .other, .other, .other, .struct [(0, 1, false), (1, 1, false)], .struct [(0, 1, false), (1, 1, false)]],
  [.other, .other, .other, .ptr 281, .other, .other, .other, .other, .other, .struct [(0, 1, false), (1, 1, false)], .other, .other],
  [.other, .other, .other, .other, .other, .array 20 43 1 false, .array 65 5 1 false, .other, .other, .other, .ptr 225, .other],
  [.other, .other, .other, .ptr 5, .other, .other, .other, .other, .other, .other, .other, .other],
  [.other, .other, .array 16 139 1 false, .array 16 72 1 false, .struct [(0, 1, false), (1, 1, false), (2, 16, true), (18, 16, true)], .struct [(0, 1, false), (1, 1, false), (2, 16, true), (18, 16, true)], .other, .other, .other, .other, .other, .other],
  [.other, .other, .other, .other, .other, .array 32 5 1 false, .array 64 5 1 false, .other, .struct [(0, 1, false), (1, 1, false), (2, 1, false), (3, 1, false)], .struct [(0, 1, false), (1, 1, false), (2, 1, false), (3, 1, false)], .array 0 16 1 false, .struct [(0, 0, true)]],
  [.struct [(0, 0, true)], .int .u8, .int .u8, .other, .int .i32, .int .i32, .struct [(0, 1, false), (1, 1, false), (2, 1, false), (3, 1, false), (4, 1, false), (5, 1, false), (6, 1, false), (7, 1, false), (8, 1, false), (9, 1, false), (10, 1, false)], .struct [(0, 1, false), (1, 1, false), (2, 1, false), (3, 1, false), (4, 1, false), (5, 1, false), (6, 1, false), (7, 1, false), (8, 1, false), (9, 1, false), (10, 1, false)], .other, .other, .other, .other]]
def szL : List (List (Option (Nat × Bool))) := [
  [some (1, false), some (1, false), some (1, false), some (1, false), some (1, false), some (1, false), some (1, false), some (4, true), some (4, true), some (1, false), some (1, false), some (1, false)],
  [some (1, false), some (2, true), some (2, true), some (1, false), some (1, false), some (1, false), some (1, true), some (1, true), some (1, false), some (1, false), some (1, false), some (6, true)],
  [some (6, true), some (1, false), some (1, false), some (1, false), some (1, false), some (1, false), some (1, false), some (1, false), some (1, false), some (1, false), some (1, false), some (1, false)],
  [some (1, false), some (1, false), some (1, false), some (1, false), some (1, false), some (1, false), some (1, false), some (1, false), some (3, true), some (3, true), some (4, true), some (4, true)],
  [some (1, false), some (1, false), some (1, false), some (1, false), some (1, false), some (1, false), some (2, true), some (1, false), some (5, true), some (5, true), some (1, false), some (3, true)],
  [some (3, true), some (1, false), some (1, false), some (1, false), some (1, false), some (1, false), some (1, false), some (1, false), some (1, false), some (1, false), some (1, false), some (1, false)],
  [some (1, false), some (10, true), some (10, true), some (1, false), some (1, false), some (1, false), some (1, false), some (1, false), some (1, false), some (1, false), some (1, false), some (1, false)],
  [some (1, false), some (1, false), some (1, false), some (1, false), some (1, false), some (3, true), some (3, true), some (1, false), some (1, false), some (1, false), some (1, false), some (1, false)],
  [some (1, false), some (1, false), some (1, false), some (1, false), some (1, false), some (3, true), some (3, true), some (1, false), some (1, false), some (1, false), some (1, false), some (1, false)],
  [some (1, false), some (1, false), some (1, false), some (1, false), some (1, false), some (1, false), some (1, false), some (1, false), some (1, false), some (3, true), some (3, true), some (1, false)],
  [some (1, false), some (1, false), some (1, false), some (1, false), some (1, false), some (1, false), some (1, false), some (1, false), some (1, false), some (1, false), some (1, false), some (1, false)],
  [some (1, false), some (1, false), some (1, false), some (1, false), some (1, false), some (1, false), some (1, false), some (1, false), some (1, false), some (1, false), some (1, false), some (1, false)],
  [some (1, false), some (1, false), some (1, false), some (1, false), some (1, false), some (1, false), some (1, false), some (1, false), some (1, false), some (1, false), some (1, false), some (1, false)],
  [some (1, false), some (1, false), some (1, false), some (1, false), some (1, false), some (1, false), some (1, false), some (1, false), some (1, false), some (1, false), some (1, false), some (1, false)],
  [some (1, false), some (1, false), some (1, false), some (1, false), some (1, false), some (1, false), some (1, false), some (1, false), some (1, false), some (1, false), some (1, false), some (1, false)],
  [some (256, true), some (1, false), some (1, false), some (1, false), some (1, false), some (1, false), some (1, false), some (1, false), some (1, false), some (1, false), some (1, false), some (1, false)],
  [some (1, false), some (1, false), some (2, true), some (2, true), some (1, false), some (1, false), some (1, false), some (1, false), some (1, false), some (1, false), some (1, false), some (256, true)],
  [some (2, true), some (2, true), some (32, true), some (24, true), some (1, false), some (1, false), some (1, false), some (1, false), some (1, false), some (1, false), some (1, false), some (2, true)],
  [some (2, true), some (1, false), some (1, false), some (1, false), some (1, false), some (1, false), some (1, false), some (1, false), some (256, true), some (256, true), some (1, false), some (1, false)],
  [some (1, false), some (1, false), some (1, false), some (1, false), some (1, false), some (1, false), some (1, false), some (1, false), some (1, false), some (1, false), some (2, true), some (2, true)],
  [some (1, false), some (1, false), some (1, false), some (1, false), some (1, false), some (1, false), some (1, false), some (1, false), some (1, false), some (2, true), some (1, false), some (1, false)],
  [some (1, false), some (1, false), some (1, false), some (1, false), some (1, false), some (20, true), some (65, true), some (1, false), some (1, false), some (1, false), some (1, false), some (1, false)],
  [some (1, false), some (1, false), some (1, false), some (1, false), some (1, false), some (1, false), some (1, false), some (1, false), some (1, false), some (1, false), some (1, false), some (1, false)],
  [some (1, false), some (1, false), some (16, true), some (16, true), some (34, true), some (34, true), some (1, false), some (1, false), some (1, false), some (1, false), some (1, false), some (1, false)],
  [some (1, false), some (1, false), some (1, false), some (1, false), some (1, false), some (32, true), some (64, true), some (1, false), some (4, true), some (4, true), some (0, true), some (0, true)],
  [some (0, true), some (1, false), some (1, false), some (1, false), some (1, false), some (1, false), some (11, true), some (11, true), none, none, none, none]]
def eqL : List (List (Option (List (Nat × Nat)))) := [
  [none, none, none, none, none, none, none, some [(0, 0), (1, 0), (2, 1), (3, 0)], some [(0, 0), (1, 0), (2, 1), (3, 0)], none, none, none],
  [none, none, none, none, none, none, none, none, none, none, none, none],
  [none, none, none, none, none, none, none, none, none, none, none, none],
  [none, none, none, none, none, none, none, none, some [(0, 0), (1, 2), (2, 0)], some [(0, 0), (1, 2), (2, 0)], none, none],
  [none, none, none, none, none, none, none, none, none, none, none, none],
  [none, none, none, none, none, none, none, none, none, none, none, none],
  [none, none, none, none, none, none, none, none, none, none, none, none],
  [none, none, none, none, none, some [(0, 0), (1, 0), (2, 0)], some [(0, 0), (1, 0), (2, 0)], none, none, none, none, none],
  [none, none, none, none, none, some [(0, 2), (1, 0), (2, 0)], some [(0, 2), (1, 0), (2, 0)], none, none, none, none, none],
  [none, none, none, none, none, none, none, none, none, some [(0, 1), (1, 2), (2, 0)], some [(0, 1), (1, 2), (2, 0)], none],
  [none, none, none, none, none, none, none, none, none, none, none, none],
  [none, none, none, none, none, none, none, none, none, none, none, none],
  [none, none, none, none, none, none, none, none, none, none, none, none],
  [none, none, none, none, none, none, none, none, none, none, none, none],
  [none, none, none, none, none, none, none, none, none, none, none, none],
  [none, none, none, none, none, none, none, none, none, none, none, none],
  [none, none, some [(0, 0), (1, 0)], some [(0, 0), (1, 0)], none, none, none, none, none, none, none, none],
  [some [(0, 0), (1, 0)], some [(0, 0), (1, 0)], none, none, none, none, none, none, none, none, none, none],
  [none, none, none, none, none, none, none, none, none, none, none, none],
  [none, none, none, none, none, none, none, none, none, none, none, none],
  [none, none, none, none, none, none, none, none, none, some [(0, 0), (1, 0)], none, none],
  [none, none, none, none, none, none, none, none, none, none, none, none],
  [none, none, none, none, none, none, none, none, none, none, none, none],
  [none, none, none, none, none, none, none, none, none, none, none, none],
  [none, none, none, none, none, none, none, none, none, none, none, none],
  [none, none, none, none, none, none, none, none, none, none, none, none]]
def zrL : List (List (Option D)) := [
  [some (.any), some (.v (.nilFunc)), some (.i .i64 0), some (.i .i64 0), some (.b false), some (.i .u8 0), some (.i .u8 0), some (.ag [.i .i64 0, .i .i64 0, .b false, .i .u8 0]), some (.ag [.i .i64 0, .i .i64 0, .b false, .i .u8 0]), some (.s []), some (.s []), some (.s [])],
  [some (.i .u64 0), some (.ag [.s [], .i .u64 0]), some (.ag [.s [], .i .u64 0]), some (.v (.pointer none)), some (.v (.pointer none)), some (.v (.pointer none)), some (.ag [.v (.pointer none)]), some (.ag [.v (.pointer none)]), some (.v (.nilIface)), some (.i .i32 0), some (.nilS), some (.ag [.s [], .s [], .nilS, .nilS, .b false, .b false])],
  [some (.ag [.s [], .s [], .nilS, .nilS, .b false, .b false]), some (.nilS), some (.v (.nilFunc)), some (.v (.nilFunc)), some (.v (.pointer none)), some (.i .i64 0), some (.any), some (.v (.nilFunc)), some (.nilS), some (.any), some (.v (.nilFunc)), some (.any)],
  [some (.v (.nilFunc)), some (.v (.nilFunc)), some (.v (.nilFunc)), some (.v (.nilFunc)), some (.v (.nilFunc)), some (.v (.nilFunc)), some (.v (.nilFunc)), some (.i .u64 0), some (.ag [.i .i64 0, .s [], .i .u64 0]), some (.ag [.i .i64 0, .s [], .i .u64 0]), some (.ag [.s [], .i .i64 0, .s [], .i .u64 0]), some (.ag [.s [], .i .i64 0, .s [], .i .u64 0])],
  [some (.v (.nilFunc)), some (.v (.nilFunc)), some (.nilS), some (.v (.nilFunc)), some (.v (.nilFunc)), some (.v (.nilFunc)), some (.ag [.s [], .s []]), some (.v (.nilFunc)), some (.ag [.s [], .s [], .b false, .b false, .nilS]), some (.ag [.s [], .s [], .b false, .b false, .nilS]), some (.nilS), some (.ag [.i .i64 0, .nilS, .nilS])],
  [some (.ag [.i .i64 0, .nilS, .nilS]), some (.v (.nilFunc)), some (.v (.nilFunc)), some (.v (.nilFunc)), some (.v (.nilFunc)), some (.any), some (.v (.nilFunc)), some (.any), some (.v (.nilFunc)), some (.v (.nilFunc)), some (.v (.nilFunc)), some (.v (.map none))],
  [some (.nilS), some (.ag [.s [], .s [], .nilS, .nilS, .b false, .b false, .nilS, .nilS, .v (.map none), .nilS]), some (.ag [.s [], .s [], .nilS, .nilS, .b false, .b false, .nilS, .nilS, .v (.map none), .nilS]), some (.v (.nilFunc)), some (.any), some (.v (.nilFunc)), some (.v (.nilFunc)), some (.v (.nilFunc)), some (.v (.nilFunc)), some (.v (.nilFunc)), some (.any), some (.v (.nilFunc))],
  [some (.v (.nilFunc)), some (.any), some (.v (.nilFunc)), some (.v (.nilFunc)), some (.v (.nilFunc)), some (.ag [.i .i64 0, .i .i64 0, .i .i64 0]), some (.ag [.i .i64 0, .i .i64 0, .i .i64 0]), some (.any), some (.v (.nilFunc)), some (.v (.nilFunc)), some (.v (.nilFunc)), some (.v (.nilFunc))],
  [some (.any), some (.v (.nilFunc)), some (.v (.nilFunc)), some (.v (.nilFunc)), some (.v (.pointer none)), some (.ag [.s [], .i .i64 0, .i .i64 0]), some (.ag [.s [], .i .i64 0, .i .i64 0]), some (.v (.nilFunc)), some (.v (.nilFunc)), some (.v (.map none)), some (.any), some (.v (.nilFunc))],
  [some (.v (.nilFunc)), some (.v (.nilFunc)), some (.v (.nilFunc)), some (.v (.nilFunc)), some (.any), some (.v (.nilFunc)), some (.v (.nilFunc)), some (.v (.nilFunc)), some (.v (.nilFunc)), some (.ag [.b false, .s [], .i .i64 0]), some (.ag [.b false, .s [], .i .i64 0]), some (.any)],
  [some (.v (.nilFunc)), some (.v (.nilFunc)), some (.v (.nilFunc)), some (.any), some (.v (.nilFunc)), some (.any), some (.v (.nilFunc)), some (.v (.nilFunc)), some (.v (.nilFunc)), some (.v (.nilFunc)), some (.v (.nilFunc)), some (.v (.nilFunc))],
  [some (.v (.nilFunc)), some (.v (.nilFunc)), some (.v (.nilFunc)), some (.v (.nilFunc)), some (.v (.nilFunc)), some (.v (.nilFunc)), some (.v (.nilFunc)), some (.i .u32 0), some (.v (.nilFunc)), some (.v (.nilFunc)), some (.v (.nilFunc)), some (.v (.nilFunc))],
  [some (.nilS), some (.v (.nilFunc)), some (.v (.nilFunc)), some (.v (.nilFunc)), some (.v (.nilFunc)), some (.v (.nilFunc)), some (.v (.nilFunc)), some (.v (.nilFunc)), some (.v (.nilFunc)), some (.i .u64 0), some (.v (.nilFunc)), some (.any)],
  [some (.v (.nilFunc)), some (.v (.nilFunc)), some (.v (.nilFunc)), some (.any), some (.v (.nilFunc)), some (.v (.nilFunc)), some (.v (.nilFunc)), some (.v (.nilFunc)), some (.nilS), some (.nilS), some (.any), some (.v (.nilFunc))],
  [some (.v (.nilFunc)), some (.v (.nilFunc)), some (.any), some (.v (.nilFunc)), some (.v (.nilFunc)), some (.nilS), some (.any), some (.v (.nilFunc)), some (.v (.nilFunc)), some (.v (.nilFunc)), some (.v (.nilFunc)), some (.v (.nilFunc))],
  [some (.ag (List.replicate 256 (.i .u32 0))), some (.v (.nilFunc)), some (.v (.pointer none)), some (.v (.nilFunc)), some (.v (.nilFunc)), some (.v (.nilFunc)), some (.nilS), some (.v (.nilFunc)), some (.v (.nilFunc)), some (.v (.nilFunc)), some (.v (.nilFunc)), some (.nilS)],
  [some (.nilS), some (.v (.nilFunc)), some (.ag [.i .i64 0, .i .i64 0]), some (.ag [.i .i64 0, .i .i64 0]), some (.v (.nilFunc)), some (.any), some (.v (.nilFunc)), some (.v (.nilFunc)), some (.v (.nilFunc)), some (.v (.nilFunc)), some (.v (.nilFunc)), some (.ag (List.replicate 256 (.i .u8 0)))],
  [some (.ag [.i .u8 0, .i .u8 0]), some (.ag [.i .u8 0, .i .u8 0]), some (.ag [.i .u8 0, .i .u8 0, .i .u8 0, .i .u8 0, .i .u8 0, .i .u8 0, .i .u8 0, .i .u8 0, .i .u8 0, .i .u8 0, .i .u8 0, .i .u8 0, .i .u8 0, .i .u8 0, .i .u8 0, .i .u8 0, .i .u8 0, .i .u8 0, .i .u8 0, .i .u8 0, .i .u8 0, .i .u8 0, .i .u8 0, .i .u8 0, .i .u8 0, .i .u8 0, .i .u8 0, .i .u8 0, .i .u8 0, .i .u8 0, .i .u8 0, .i .u8 0]), some (.ag [.i .u8 0, .i .u8 0, .i .u8 0, .i .u8 0, .i .u8 0, .i .u8 0, .i .u8 0, .i .u8 0, .i .u8 0, .i .u8 0, .i .u8 0, .i .u8 0, .i .u8 0, .i .u8 0, .i .u8 0, .i .u8 0, .i .u8 0, .i .u8 0, .i .u8 0, .i .u8 0, .i .u8 0, .i .u8 0, .i .u8 0, .i .u8 0]), some (.v (.nilFunc)), some (.any), some (.v (.nilFunc)), some (.v (.nilFunc)), some (.any), some (.v (.nilFunc)), some (.v (.pointer none)), some (.ag [.v (.pointer none), .nilS])],
  [some (.ag [.v (.pointer none), .nilS]), some (.v (.nilFunc)), some (.v (.nilIface)), some (.v (.nilIface)), some (.any), some (.v (.nilFunc)), some (.v (.nilFunc)), some (.v (.nilFunc)), some (.ag (List.replicate 256 (.b false))), some (.ag (List.replicate 256 (.b false))), some (.any), some (.v (.nilFunc))],
  [some (.v (.nilFunc)), some (.v (.nilFunc)), some (.v (.nilFunc)), some (.v (.nilFunc)), some (.v (.nilFunc)), some (.v (.nilFunc)), some (.v (.nilFunc)), some (.v (.nilFunc)), some (.v (.nilFunc)), some (.v (.nilFunc)), some (.ag [.nilS, .i .i64 0]), some (.ag [.nilS, .i .i64 0])],
  [some (.v (.nilFunc)), some (.any), some (.v (.nilFunc)), some (.v (.pointer none)), some (.any), some (.v (.nilFunc)), some (.v (.nilFunc)), some (.v (.nilFunc)), some (.v (.nilFunc)), some (.ag [.i .i64 0, .i .i64 0]), some (.v (.nilFunc)), some (.v (.nilFunc))],
  [some (.v (.nilFunc)), some (.v (.nilFunc)), some (.any), some (.v (.nilFunc)), some (.v (.nilFunc)), some (.ag [.i .u64 0, .i .u64 0, .i .u64 0, .i .u64 0, .i .u64 0, .i .u64 0, .i .u64 0, .i .u64 0, .i .u64 0, .i .u64 0, .i .u64 0, .i .u64 0, .i .u64 0, .i .u64 0, .i .u64 0, .i .u64 0, .i .u64 0, .i .u64 0, .i .u64 0, .i .u64 0]), some (.ag (List.replicate 65 (.i .u8 0))), some (.v (.nilFunc)), some (.v (.nilFunc)), some (.v (.nilFunc)), some (.v (.pointer none)), some (.any)],
  [some (.v (.nilFunc)), some (.any), some (.v (.nilFunc)), some (.v (.pointer none)), some (.v (.nilFunc)), some (.v (.nilFunc)), some (.v (.nilFunc)), some (.v (.nilFunc)), some (.any), some (.v (.nilFunc)), some (.v (.nilFunc)), some (.v (.nilFunc))],
  [some (.v (.nilFunc)), some (.v (.nilFunc)), some (.ag [.i .u32 0, .i .u32 0, .i .u32 0, .i .u32 0, .i .u32 0, .i .u32 0, .i .u32 0, .i .u32 0, .i .u32 0, .i .u32 0, .i .u32 0, .i .u32 0, .i .u32 0, .i .u32 0, .i .u32 0, .i .u32 0]), some (.ag [.nilS, .nilS, .nilS, .nilS, .nilS, .nilS, .nilS, .nilS, .nilS, .nilS, .nilS, .nilS, .nilS, .nilS, .nilS, .nilS]), some (.ag [.nilS, .nilS, .i .u32 0, .i .u32 0, .i .u32 0, .i .u32 0, .i .u32 0, .i .u32 0, .i .u32 0, .i .u32 0, .i .u32 0, .i .u32 0, .i .u32 0, .i .u32 0, .i .u32 0, .i .u32 0, .i .u32 0, .i .u32 0, .nilS, .nilS, .nilS, .nilS, .nilS, .nilS, .nilS, .nilS, .nilS, .nilS, .nilS, .nilS, .nilS, .nilS, .nilS, .nilS]), some (.ag [.nilS, .nilS, .i .u32 0, .i .u32 0, .i .u32 0, .i .u32 0, .i .u32 0, .i .u32 0, .i .u32 0, .i .u32 0, .i .u32 0, .i .u32 0, .i .u32 0, .i .u32 0, .i .u32 0, .i .u32 0, .i .u32 0, .i .u32 0, .nilS, .nilS, .nilS, .nilS, .nilS, .nilS, .nilS, .nilS, .nilS, .nilS, .nilS, .nilS, .nilS, .nilS, .nilS, .nilS]), some (.v (.nilFunc)), some (.v (.nilFunc)), some (.any), some (.v (.nilFunc)), some (.v (.nilFunc)), some (.v (.nilFunc))],
  [some (.v (.nilFunc)), some (.v (.pointer none)), some (.v (.nilFunc)), some (.v (.nilFunc)), some (.v (.nilFunc)), some (.ag [.i .u8 0, .i .u8 0, .i .u8 0, .i .u8 0, .i .u8 0, .i .u8 0, .i .u8 0, .i .u8 0, .i .u8 0, .i .u8 0, .i .u8 0, .i .u8 0, .i .u8 0, .i .u8 0, .i .u8 0, .i .u8 0, .i .u8 0, .i .u8 0, .i .u8 0, .i .u8 0, .i .u8 0, .i .u8 0, .i .u8 0, .i .u8 0, .i .u8 0, .i .u8 0, .i .u8 0, .i .u8 0, .i .u8 0, .i .u8 0, .i .u8 0, .i .u8 0]), some (.ag [.i .u8 0, .i .u8 0, .i .u8 0, .i .u8 0, .i .u8 0, .i .u8 0, .i .u8 0, .i .u8 0, .i .u8 0, .i .u8 0, .i .u8 0, .i .u8 0, .i .u8 0, .i .u8 0, .i .u8 0, .i .u8 0, .i .u8 0, .i .u8 0, .i .u8 0, .i .u8 0, .i .u8 0, .i .u8 0, .i .u8 0, .i .u8 0, .i .u8 0, .i .u8 0, .i .u8 0, .i .u8 0, .i .u8 0, .i .u8 0, .i .u8 0, .i .u8 0, .i .u8 0, .i .u8 0, .i .u8 0, .i .u8 0, .i .u8 0, .i .u8 0, .i .u8 0, .i .u8 0, .i .u8 0, .i .u8 0, .i .u8 0, .i .u8 0, .i .u8 0, .i .u8 0, .i .u8 0, .i .u8 0, .i .u8 0, .i .u8 0, .i .u8 0, .i .u8 0, .i .u8 0, .i .u8 0, .i .u8 0, .i .u8 0, .i .u8 0, .i .u8 0, .i .u8 0, .i .u8 0, .i .u8 0, .i .u8 0, .i .u8 0, .i .u8 0]), some (.v (.nilFunc)), some (.ag [.v (.pointer none), .v (.pointer none), .v (.pointer none), .s []]), some (.ag [.v (.pointer none), .v (.pointer none), .v (.pointer none), .s []]), some (.ag []), some (.ag [])],
  [some (.ag []), some (.i .u8 0), some (.i .u8 0), some (.v (.nilFunc)), some (.i .i32 0), some (.i .i32 0), some (.ag [.i .u64 0, .i .u64 0, .i .u32 0, .i .u8 0, .i .u8 0, .i .u8 0, .i .u8 0, .v (.nilFunc), .v (.pointer none), .i .i32 0, .i .i32 0]), some (.ag [.i .u64 0, .i .u64 0, .i .u32 0, .i .u8 0, .i .u8 0, .i .u8 0, .i .u8 0, .v (.nilFunc), .v (.pointer none), .i .i32 0, .i .i32 0]), none, none, none, none]]
def B : Tb := ⟨at2 .other tyL, at2 none szL, at2 none zrL, at2 none eqL⟩
theorem zeI : Tryz.prog.types.size ≤ 312 := le_of_eq_of_le (by kernel_rfl : Tryz.prog.types.size = 308) (by omega)
theorem ty_eq : tyOf Tryz.prog = at2 .other tyL := zdb (N := 312) (by kernel_rfl) (by kernel_rfl) fun _ ht => zmu (Nat.le_trans zeI ht)
theorem sz_eq : szOf Tryz.prog = at2 none szL := zdb (N := 312) (by kernel_rfl) (by kernel_rfl) fun _ ht => zlL (Nat.le_trans zeI ht)
theorem zr_eq : zeroD Tryz.prog = at2 none zrL := zdb (N := 312) (by kernel_rfl) (by kernel_rfl) fun _ ht => zkD (Nat.le_trans zeI ht)
theorem eq_eq : eqOf Tryz.prog = at2 none eqL := zdb (N := 312) (by kernel_rfl) (by kernel_rfl) fun _ ht => zmc (Nat.le_trans zeI ht)
theorem zcO : tb Tryz.prog = B := by unfold tb B; rw [ty_eq, sz_eq, zr_eq, eq_eq]
theorem mixed : Tryz.prog.follows .mixedOrders = true := by kernel_rfl
end Go.Proofs.YtkkaamhocpmhkaaGreatDoor.Flow

namespace Go.Proofs.YtkkaamhocpmhkaaGreatDoor.Flow
section
variable {X : Ctx} {n : Nat} {all rest : List Oper} {fr : Fr} {ow : Ow} {tr : List (List Nat × List Nat)} {K : Fr → Ow → List (List Nat × List Nat) → Prop} {Q : Exit → Fr → Ow → Prop}
variable {t : Nat} {op : Op} {ty : TypeId} {pos : String} {af : Array Edge} {d : D} {p : Prop} {rd : List Nat} {k : Nat} {ob : Own} {g u : Nat} {want : Bool}
theorem zab (hs : step B (ev fr) (fun k => look k ow) ⟨some t, op, ty, pos, af, none⟩ = some ⟨d, p, rd, []⟩) (hn : Nat.blt t n = true) (hp : p) (h : CT Tryz.prog X n all rest ((t, d) :: fr) ow (tr ++ [(rd, [])]) K) :
    CT Tryz.prog X n all (⟨some t, op, ty, pos, af, none⟩ :: rest) fr ow tr K := CT.val (by rw [zcO]; exact hs) (by simpa using hn) hp h
theorem zaw (hs : step B (ev fr) (fun k => look k ow) ⟨some t, op, ty, pos, af, none⟩ = some ⟨d, p, rd, [(k, ob)]⟩) (hn : Nat.blt t n = true) (hp : p) (h : CT Tryz.prog X n all rest ((t, d) :: fr) ((k, ob) :: ow) (tr ++ [(rd, [k])]) K) :
    CT Tryz.prog X n all (⟨some t, op, ty, pos, af, none⟩ :: rest) fr ow tr K := CT.obj (by rw [zcO]; exact hs) (by simpa using hn) hp h
theorem zax (hs : step B (ev fr) (fun k => look k ow) ⟨none, op, ty, pos, af, none⟩ = some ⟨d, p, rd, [(k, ob)]⟩) (hp : p) (h : CT Tryz.prog X n all rest fr ((k, ob) :: ow) (tr ++ [(rd, [k])]) K) :
    CT Tryz.prog X n all (⟨none, op, ty, pos, af, none⟩ :: rest) fr ow tr K := CT.sto (by rw [zcO]; exact hs) hp h
theorem zam (hu : dstAt all g = some u) (hc : getD' u fr = .b want) (hs : step B (ev fr) (fun k => look k ow) ⟨some t, op, ty, pos, af, some (g, want)⟩ = some ⟨d, p, rd, []⟩) (hn : Nat.blt t n = true) (hp : p)
    (h : CT Tryz.prog X n all rest ((t, d) :: fr) ow (tr ++ [(rd, [])]) K) : CT Tryz.prog X n all (⟨some t, op, ty, pos, af, some (g, want)⟩ :: rest) fr ow tr K := CT.gval hu hc (by rw [zcO]; exact hs) (by simpa using hn) hp h
theorem zay (hu : dstAt all g = some u) (hc : getD' u fr = .b (!want)) (hn : Nat.blt t n = true) (h : CT Tryz.prog X n all rest ((t, .tu []) :: fr) ow (tr ++ [([], [])]) K) :
    CT Tryz.prog X n all (⟨some t, op, ty, pos, af, some (g, want)⟩ :: rest) fr ow tr K := CT.gskip hu (.inl hc) (by simpa using hn) h
theorem zcr (hu : dstAt all g = some u) (hc : getD' u fr = .tu []) (hn : Nat.blt t n = true) (h : CT Tryz.prog X n all rest ((t, .tu []) :: fr) ow (tr ++ [([], [])]) K) :
    CT Tryz.prog X n all (⟨some t, op, ty, pos, af, some (g, want)⟩ :: rest) fr ow tr K := CT.gskip hu (.inr hc) (by simpa using hn) h
theorem zaj {f : FuncId} {args : List D} (hc : callOf fr op = some (f, args)) (hn : Nat.blt t n = true) (hP : ∀ vs w, (callFunc f vs).run Tryz.prog w = .ok (.enter f vs) w) (hf : (args.map D.shut).all D.free = true) (hC : Ctr Tryz.prog f (args.map D.shut) d)
    (h : CT Tryz.prog X n all rest ((t, d) :: fr) ow (tr ++ [([], [])]) K) : CT Tryz.prog X n all (⟨some t, op, ty, pos, af, none⟩ :: rest) fr ow tr K := CT.call hc (by simpa using hn) hP hf hC h
theorem zbr {f : FuncId} {args : List D} (hu : dstAt all g = some u) (hg : getD' u fr = .b want) (hc : callOf fr op = some (f, args)) (hn : Nat.blt t n = true) (hP : ∀ vs w, (callFunc f vs).run Tryz.prog w = .ok (.enter f vs) w)
    (hf : (args.map D.shut).all D.free = true) (hC : Ctr Tryz.prog f (args.map D.shut) d)
    (h : CT Tryz.prog X n all rest ((t, d) :: fr) ow (tr ++ [([], [])]) K) : CT Tryz.prog X n all (⟨some t, op, ty, pos, af, some (g, want)⟩ :: rest) fr ow tr K := CT.gcall hu hg hc (by simpa using hn) hP hf hC h
def Nrm (Q : Exit → Fr → Ow → Prop) (fr : Fr) (ow : Ow) : Prop := Q .normal fr ow
def Rtn (Q : Exit → Fr → Ow → Prop) (fr : Fr) (ow : Ow) : Prop := Q .ret fr ow
def Exi (id : Nat) (Q : Exit → Fr → Ow → Prop) (fr : Fr) (ow : Ow) : Prop := Q (.exit id) fr ow
theorem zac {K : Fr → Ow → Prop} (h : K fr ow) : Nrm (thenQ K Q) fr ow := h
theorem zai {id : Nat} (h : Nrm Q fr ow) : Nrm (blockQ id Q) fr ow := h
theorem zao {K : Fr → Ow → Prop} {id : Nat} (h : Exi id Q fr ow) : Exi id (thenQ K Q) fr ow := h
theorem zat {j id : Nat} (hb : Nat.beq j id = true) (h : Nrm Q fr ow) : Exi j (blockQ id Q) fr ow := by
  show blockQ id Q (.exit j) fr ow
  simp only [blockQ, hb]
  exact h
theorem zaB {K : Fr → Ow → Prop} (h : Rtn Q fr ow) : Rtn (thenQ K Q) fr ow := h
theorem zaO {id : Nat} (h : Rtn Q fr ow) : Rtn (blockQ id Q) fr ow := h
theorem zag {x y : Code} (h : T Tryz.prog X n x fr ow (thenQ (fun fr ow => T Tryz.prog X n y fr ow Q) Q)) : T Tryz.prog X n (.seq x y) fr ow Q := T.seq h
theorem zah (h : Nrm Q fr ow) : T Tryz.prog X n .skip fr ow Q := T.skip h
theorem zar (h : Rtn Q fr ow) : T Tryz.prog X n .ret fr ow Q := T.ret h
theorem zan {id : Nat} (h : Exi id Q fr ow) : T Tryz.prog X n (.exit id) fr ow Q := T.exit h
theorem zae {id : Nat} {c : Code} (h : T Tryz.prog X n c fr ow (blockQ id Q)) : T Tryz.prog X n (.block id c) fr ow Q := T.block h
theorem zas {c : Operand} {x y : Code} (hc : ev fr c = .b true) (h : T Tryz.prog X n x fr ow Q) : T Tryz.prog X n (.cond c x y) fr ow Q := T.cond hc (fun _ => h) (fun e => nomatch e)
theorem zak {c : Operand} {x y : Code} (hc : ev fr c = .b false) (h : T Tryz.prog X n y fr ow Q) : T Tryz.prog X n (.cond c x y) fr ow Q := T.cond hc (fun e => nomatch e) (fun _ => h)
theorem zmN {c : Operand} {x y : Code} {b : Bool} (hc : ev fr c = .b b) (h1 : b = true → T Tryz.prog X n x fr ow Q) (h2 : b = false → T Tryz.prog X n y fr ow Q) : T Tryz.prog X n (.cond c x y) fr ow Q := T.cond hc h1 h2
theorem zaa {id : Nat} {ops : List Oper} (h : CT Tryz.prog X n ops ops fr ow [] (fun fr ow _ => Nrm Q fr ow)) : T Tryz.prog X n (.region id ⟨ops⟩ false) fr ow Q := T.region h
theorem zaH {id : Nat} {ops : List Oper} (h : CT Tryz.prog X n ops ops fr ow [] (fun fr ow tr => flowOk ops tr = true ∧ Nrm Q fr ow)) : T Tryz.prog X n (.region id ⟨ops⟩ true) fr ow Q := T.draw mixed h
theorem zaf {K : Fr → Ow → List (List Nat × List Nat) → Prop} (h : K fr ow tr) : CT Tryz.prog X n all [] fr ow tr K := CT.nil h
theorem zlZ {dst : Option Tmp} {c : Bool} (hu : dstAt all g = some u) (hc : getD' u fr = .b c)
    (h1 : c = true → CT Tryz.prog X n all (⟨dst, op, ty, pos, af, some (g, want)⟩ :: rest) ((u, .b true) :: fr) ow tr K)
    (h2 : c = false → CT Tryz.prog X n all (⟨dst, op, ty, pos, af, some (g, want)⟩ :: rest) ((u, .b false) :: fr) ow tr K) :
    CT Tryz.prog X n all (⟨dst, op, ty, pos, af, some (g, want)⟩ :: rest) fr ow tr K := CT.split hu hc h1 h2
theorem zmM {dst : Option Tmp} {c : Bool} (c' : Bool) (_hu : dstAt all g = some u) (_hc : getD' u fr = .b c) (_ : c = c') (h : CT Tryz.prog X n all (⟨dst, op, ty, pos, af, some (g, want)⟩ :: rest) fr ow tr K) : CT Tryz.prog X n all (⟨dst, op, ty, pos, af, some (g, want)⟩ :: rest) fr ow tr K := h
theorem c_grd {dst : Option Tmp} (h : CT Tryz.prog X n all (⟨dst, op, ty, pos, af, some (g, want)⟩ :: rest) fr ow tr K) : CT Tryz.prog X n all (⟨dst, op, ty, pos, af, some (g, want)⟩ :: rest) fr ow tr K := h
theorem zal {dst : Option Tmp} {q : Prop} [Decidable q] (hu : dstAt all g = some u) (hc : getD' u fr = .b (decide q))
    (h1 : q → CT Tryz.prog X n all (⟨dst, op, ty, pos, af, some (g, want)⟩ :: rest) ((u, .b true) :: fr) ow tr K)
    (h2 : ¬ q → CT Tryz.prog X n all (⟨dst, op, ty, pos, af, some (g, want)⟩ :: rest) ((u, .b false) :: fr) ow tr K) :
    CT Tryz.prog X n all (⟨dst, op, ty, pos, af, some (g, want)⟩ :: rest) fr ow tr K := CT.split hu hc (fun h => h1 (of_decide_eq_true h)) (fun h => h2 (of_decide_eq_false h))
theorem zdN {dst : Option Tmp} {a b : Int} (hu : dstAt all g = some u) (hc : getD' u fr = .b (a != b))
    (h1 : ¬ a = b → CT Tryz.prog X n all (⟨dst, op, ty, pos, af, some (g, want)⟩ :: rest) ((u, .b true) :: fr) ow tr K)
    (h2 : a = b → CT Tryz.prog X n all (⟨dst, op, ty, pos, af, some (g, want)⟩ :: rest) ((u, .b false) :: fr) ow tr K) :
    CT Tryz.prog X n all (⟨dst, op, ty, pos, af, some (g, want)⟩ :: rest) fr ow tr K := CT.split hu hc (fun h => h1 (by simpa using h)) (fun h => h2 (by simpa using h))
theorem zcA {dst : Option Tmp} {a b : List UInt8} (hu : dstAt all g = some u) (hc : getD' u fr = .b (a == b))
    (h1 : a = b → CT Tryz.prog X n all (⟨dst, op, ty, pos, af, some (g, want)⟩ :: rest) ((u, .b true) :: fr) ow tr K)
    (h2 : ¬ a = b → CT Tryz.prog X n all (⟨dst, op, ty, pos, af, some (g, want)⟩ :: rest) ((u, .b false) :: fr) ow tr K) :
    CT Tryz.prog X n all (⟨dst, op, ty, pos, af, some (g, want)⟩ :: rest) fr ow tr K := CT.split hu hc (fun h => h1 (by simpa using h)) (fun h => h2 (by simpa using h))
theorem zfz {dst : Option Tmp} {c : Bool} (hu : dstAt all g = some u) (hc : getD' u fr = .b (!c))
    (h1 : c = false → CT Tryz.prog X n all (⟨dst, op, ty, pos, af, some (g, want)⟩ :: rest) ((u, .b true) :: fr) ow tr K)
    (h2 : c = true → CT Tryz.prog X n all (⟨dst, op, ty, pos, af, some (g, want)⟩ :: rest) ((u, .b false) :: fr) ow tr K) :
    CT Tryz.prog X n all (⟨dst, op, ty, pos, af, some (g, want)⟩ :: rest) fr ow tr K := CT.split hu hc (fun h => h1 (by simpa using h)) (fun h => h2 (by simpa using h))
theorem zad {c : Operand} {x y : Code} {q : Prop} [Decidable q] (hc : ev fr c = .b (decide q)) (h1 : q → T Tryz.prog X n x fr ow Q) (h2 : ¬ q → T Tryz.prog X n y fr ow Q) : T Tryz.prog X n (.cond c x y) fr ow Q :=
  T.cond hc (fun h => h1 (of_decide_eq_true h)) (fun h => h2 (of_decide_eq_false h))
theorem zdg {c : Operand} {x y : Code} {a b : Int} (hc : ev fr c = .b (a != b)) (h1 : ¬ a = b → T Tryz.prog X n x fr ow Q) (h2 : a = b → T Tryz.prog X n y fr ow Q) : T Tryz.prog X n (.cond c x y) fr ow Q :=
  T.cond hc (fun h => h1 (by simpa using h)) (fun h => h2 (by simpa using h))
theorem zeJ {c : Operand} {x y : Code} {a b : List UInt8} (hc : ev fr c = .b (a == b)) (h1 : a = b → T Tryz.prog X n x fr ow Q) (h2 : ¬ a = b → T Tryz.prog X n y fr ow Q) : T Tryz.prog X n (.cond c x y) fr ow Q :=
  T.cond hc (fun h => h1 (by simpa using h)) (fun h => h2 (by simpa using h))
theorem zbT {c : Operand} {x y : Code} {b : Bool} (hc : ev fr c = .b (!b)) (h1 : b = false → T Tryz.prog X n x fr ow Q) (h2 : b = true → T Tryz.prog X n y fr ow Q) : T Tryz.prog X n (.cond c x y) fr ow Q :=
  T.cond hc (fun h => h1 (by simpa using h)) (fun h => h2 (by simpa using h))
theorem T.mono {c : Code} {Q' : Exit → Fr → Ow → Prop} (h : T Tryz.prog X n c fr ow Q) (hq : ∀ e fr ow, Q e fr ow → Q' e fr ow) : T Tryz.prog X n c fr ow Q' := fun a w hr =>
  (h a w hr).mono fun _ _ _ ⟨fr', ow', h1, h2⟩ => ⟨fr', ow', hq _ _ _ h1, h2⟩
theorem zeX {d : D} (h : d.free = true) (ks : List Nat) : d.okIn ks = true := by
  cases d with
  | fn f cs =>
    have h : cs.all D.free1 = true := h
    show cs.all (D.okI1 ks) = true
    rw [List.all_eq_true] at h ⊢
    intro c hc
    have := h c hc
    cases c <;> first | exact this | rfl | (simp [D.free1, D.plain] at this)
  | _ => first | exact h | (simp [D.free] at h)
theorem T.monoF {c : Code} {Q' : Exit → Fr → Ow → Prop} (h : T Tryz.prog X n c fr ow Q) (hq : ∀ e fr ow, Q e fr ow → ∃ fr' ow', Frz fr ow fr' ow' ∧ Q' e fr' ow') : T Tryz.prog X n c fr ow Q' := fun a w hr =>
  (h a w hr).mono fun e _ _ ⟨fr', ow', h1, h2⟩ => by
    obtain ⟨fr2, ow2, h3, h4⟩ := hq e fr' ow' h1
    exact ⟨fr2, ow2, h4, h2.frz h3⟩
def Ends (rs : List ResultVar) (d : D) (e : Exit) (fr : Fr) (ow : Ow) : Prop :=
  match e with
  | .ret | .normal => ∃ fr' ow' d2, Frz fr ow fr' ow' ∧ resD B fr' ow' rs = some d2 ∧ Weak d2 d
  | _ => False
theorem zau {rs : List ResultVar} {d d2 : D} (h : resD B fr ow rs = some d2) (he : d2 = d) : Rtn (Ends rs d) fr ow := ⟨fr, ow, d2, .refl .., h, .of_eq he⟩
theorem zfT {rs : List ResultVar} {d d2 : D} (h : resD B fr ow rs = some d2) (he : Weak d2 d) : Rtn (Ends rs d) fr ow := ⟨fr, ow, d2, .refl .., h, he⟩
theorem zaE {f : FuncId} {fn : Func} {c : Code} {N : Nat} {rs : List ResultVar} {args : List D} {d : D} (hf : Tryz.prog.funcs[f]? = some fn) (hb : fn.body = some c) (hN : fn.ntmps = N) (hrs : fn.results = ⟨rs⟩) (hlen : Nat.ble args.length N = true) (hd : d.free = true)
    (h : ∀ X : Ctx, Lent X → X.ids = [] → T Tryz.prog X N c (slots 0 args) [] (Ends rs d)) : Ctr Tryz.prog f args d := by
  refine Ctr.of (ow' := []) (CtrO.of_T hf hb hN hrs (by simpa using hlen) fun X hL hi => (h X hL hi).monoF fun e fr2 ow2 hq => ?_) hd
  have key : ∀ fr3 ow3 d2, resD B fr3 ow3 rs = some d2 → Weak d2 d → ∃ d2, resD (tb Tryz.prog) fr3 ow3 rs = some d2 ∧ Weak d2 d ∧ d.okIn (([] : Ow).map (·.1)) = true ∧ Le X fr3 ow3 [] [] := by
    intro fr3 ow3 d2 h1 h2
    refine ⟨d2, by rw [zcO]; exact h1, h2, zeX hd _, trivial, trivial, rfl, fun k hk => ?_⟩
    rw [hi] at hk
    cases hk
  cases e with
  | ret => obtain ⟨fr3, ow3, d2, h0, h1, h2⟩ := hq; exact ⟨fr3, ow3, h0, .inl rfl, key _ _ d2 h1 h2⟩
  | normal => obtain ⟨fr3, ow3, d2, h0, h1, h2⟩ := hq; exact ⟨fr3, ow3, h0, .inr rfl, key _ _ d2 h1 h2⟩
  | _ => exact hq.elim
end
attribute [irreducible] Nrm Rtn Exi
end Go.Proofs.YtkkaamhocpmhkaaGreatDoor.Flow

namespace Go.Proofs.YtkkaamhocpmhkaaGreatDoor.Flow
section
variable {P : Program} {X : Ctx} {n : Nat} {fr : Fr} {ow : Ow} {d : D}
end
section
variable {X : Ctx} {n : Nat} {all rest : List Oper} {fr : Fr} {ow : Ow} {tr : List (List Nat × List Nat)} {K : Fr → Ow → List (List Nat × List Nat) → Prop} {Q : Exit → Fr → Ow → Prop}
variable {t : Nat} {op : Op} {ty : TypeId} {pos : String} {af : Array Edge} {d : D} {g u : Nat} {want : Bool} {k : Nat} {cs cs' : List D} {f : FuncId} {args : List D}
end
end Go.Proofs.YtkkaamhocpmhkaaGreatDoor.Flow

namespace Go.Proofs.YtkkaamhocpmhkaaGreatDoor.Flow
open Go.ChangeShapes Go.WideShapes Go.ChangeAt Go.RowKit
theorem zkm : ownKnob Tryz.prog.godebug = none := by kernel_rfl
theorem zjd : laidOutB Tryz.prog = true := by kernel_rfl
variable {H : Type} {enc : TypeId × Value → H}
def allOf (W : World) : Cells := fun b _ => b < W.heap.size
theorem zeP {W W' : World} {S' : Cells} (h : Hist { w0 := W, S0 := allOf W, L := fun _ => False } W' S') : Below W.heap.size W W' :=
  ⟨h.os, h.tape, h.output, h.size, fun k hk => h.block k hk (fun h => h)⟩
theorem zcz {W W' : World} (hb : Below W.heap.size W W') {sp : Nat → Bool} : ∀ {ts : List TypeId} {vs : List Value} {ds : List (DataW H)} {ps : List MemPlace}, (∀ t ∈ ts, Tryz.prog.readableRec t = true ∧ t < Tryz.prog.types.size) → (∀ x ∈ ps, x.block < W.heap.size) →
    DataW.TrodAll enc Tryz.prog W 0 (fun _ => true) true ts vs ds ps → (∀ p ∈ ps, sp p.block = true) → DataW.TrodAll enc Tryz.prog W' 0 sp true ts vs ds ps
  | [], [], [], _, _, _, h, _ => h
  | [], [], _ :: _, _, _, _, h, _ => h.elim
  | [], _ :: _, _, _, _, _, h, _ => h.elim
  | _ :: _, [], _, _, _, _, h, _ => h.elim
  | _ :: _, _ :: _, [], _, _, _, h, _ => h.elim
  | t :: ts, v :: vs, d :: ds, ps, ht, hlt, h, hsp => by
    obtain ⟨p, q, h1, h2, rfl⟩ := h
    refine ⟨p, q, ?_, zcz hb (fun t ht' => ht t (by simp [ht'])) (fun x hx => hlt x (by simp [hx])) h2 (fun x hx => hsp x (by simp [hx])), rfl⟩
    exact WideElems.Trod_stays zjd (ht t (by simp)).1 (ht t (by simp)).2 h1 (fun x hx => hb.same (hlt x (by simp [hx]))) (fun x hx => hsp x (by simp [hx]))
theorem zku {f : Func} {s : ChangeSpec} {apart fresh handsOn : Bool} {W W' : World} {args : Array Value} {ds gs : List (DataW H)} {before : List MemPlace} {t : TypeId}
    (hW : DataW.Whole enc Tryz.prog f.params.toList s.vars apart W args.toList ds gs before) (hvars : s.vars = []) (hpar : ∀ t ∈ f.params.toList, Tryz.prog.readableRec t = true ∧ t < Tryz.prog.types.size)
    (hres : f.resultTypes = #[t]) (ht : Tryz.prog.underlying t = some .bool) (hspec : s.fn H (ds ++ gs) = { results := [.lit (.bool true)], args := ds }) (hb : Below W.heap.size W W') :
    s.post enc Tryz.prog f apart fresh handsOn false W args (.bool true) W' := by
  have hW' := hW
  obtain ⟨p, q, hA, hV, rfl, hfz, hnd⟩ := hW
  rw [hvars] at hV
  have hq : gs = [] ∧ q = [] := by
    cases gs with
    | nil => exact ⟨rfl, hV⟩
    | cons => exact hV.elim
  obtain ⟨rfl, rfl⟩ := hq
  have hlt : ∀ x ∈ p, x.block < W.heap.size := fun x hx => by simpa using hW'.lt x (by simpa using hx)
  refine ⟨ds, [], p ++ [], [], p, [], hW', ?_, ?_, ?_, hb.frame _, fun h => nomatch h⟩
  · rw [hspec, hres]
    exact trodAll_mk1 (shut_bool ht true)
  · rw [hspec]
    exact zcz hb hpar hlt hA (fun x hx => by simpa using hlt x hx)
  · rw [hspec, hvars]
    rfl

set_option maxRecDepth 100000
variable {H : Type} {enc : TypeId × Value → H} {W : World}
def strOf : DataW H → List UInt8
  | .lit (.string l) => l
  | _ => []
def intOf : DataW H → Int
  | .lit (.int _ n) => n
  | _ => 0
def boolOf : DataW H → Bool
  | .lit (.bool b) => b
  | _ => false
def kids : DataW H → List (DataW H)
  | .slice es _ => es
  | .agg ps => ps
  | _ => []
def Tells (enc : TypeId × Value → H) (W : World) (t z : Nat) (G : DataW H → List D) : Prop :=
  ∀ fuel cs x, DataW.trod enc Tryz.prog W 0 (fun _ => true) true fuel t cs = some x → cs.length = z ∧ (G x.1).length = z ∧ (G x.1).all D.plain = true ∧ ∀ j, j < z → Rel (allOf W) W noRho ((G x.1).getD j .any) (cs.getD j undef)
theorem zbN {t : TypeId} (ht : Tryz.prog.underlying t = some .string) : Tells enc W t 1 (fun d => [.s (strOf d)]) := fun fuel cs x h => by
  obtain ⟨s, rfl, rfl, _⟩ := DataW.trod_string ht h
  refine ⟨rfl, rfl, rfl, fun j hj => ?_⟩
  obtain rfl : j = 0 := by omega
  exact .s _ s.data.toList
theorem zmY {t : TypeId} {k : IntKind} (ht : Tryz.prog.underlying t = some (.int k)) : Tells enc W t 1 (fun d => [.i k (intOf d)]) := fun fuel cs x h => by
  obtain ⟨n, rfl, rfl, _⟩ := DataW.trod_int ht h
  refine ⟨rfl, rfl, rfl, fun j hj => ?_⟩
  obtain rfl : j = 0 := by omega
  exact .i _ k n
theorem zen {t : TypeId} (ht : Tryz.prog.underlying t = some .bool) : Tells enc W t 1 (fun d => [.b (boolOf d)]) := fun fuel cs x h => by
  obtain ⟨b, rfl, rfl⟩ := DataW.trod_bool ht h
  refine ⟨rfl, rfl, rfl, fun j hj => ?_⟩
  obtain rfl : j = 0 := by omega
  exact .b _ b
theorem zbA {t e z : Nat} {G : DataW H → List D} (ht : Tryz.prog.underlying t = some (.slice e)) (hc : Tryz.prog.cellsOf e = z) (hz : 0 < z) (hG : Tells enc W e z G) :
    Tells enc W t 1 (fun d => [.sl z (kids d).length (fun i => G ((kids d).getD i .nil))]) := fun fuel cs x h => by
  rcases DataW.trod_slice ht h with ⟨rfl, rfl⟩ | ⟨a, len, cap, elems, rest, n, rfl, rfl, rfl, hb, hl, hm, hlen, hel, _, _⟩
  · refine ⟨rfl, rfl, rfl, fun j hj => ?_⟩
    obtain rfl : j = 0 := by omega
    exact .sl _ z 0 _ none 0 (fun _ _ => undef) (Nat.le_refl _) (by unfold maxLen; omega) (fun i hi => by omega) (fun i j hi => by omega) (fun i j hi => by omega)
  · refine ⟨rfl, rfl, rfl, fun j hj => ?_⟩
    obtain rfl : j = 0 := by omega
    have each : ∀ i, i < len → ∃ cs' y, elems[i]? = some y ∧ W.cells? 0 (a.add (i * z)) z = some cs' ∧ DataW.trod enc Tryz.prog W 0 (fun _ => true) true n e cs' = some y := fun i hi => by
      have h1 := hel i hi
      have hi' : i < elems.length := by omega
      rw [hc, List.getElem?_eq_getElem hi'] at h1
      cases hcs : W.cells? 0 (a.add (i * z)) z with
      | none => rw [hcs] at h1; cases h1
      | some cs' =>
        rw [hcs] at h1
        exact ⟨cs', elems[i], List.getElem?_eq_getElem hi', rfl, h1⟩
    have hlen' : (elems.map (·.1)).length = len := by simp [hlen]
    have hk : ∀ i y, elems[i]? = some y → (elems.map (·.1)).getD i .nil = y.1 := fun i y hy => by
      simp [List.getD_eq_getElem?_getD, hy]
    have hspot : 0 < len → a.spot = none := fun h0 => by
      obtain ⟨cs', y, _, h2, h3⟩ := each 0 h0
      obtain ⟨_, hn, h4⟩ := World.cells?_some h2
      have h5 := h4 0 hz
      have hlt : 0 < cs'.length := by omega
      rw [List.getElem?_eq_getElem hlt] at h5
      cases hsp : a.spot with
      | none => rfl
      | some k =>
        exfalso
        simp only [Nat.zero_mul, Addr.add, if_true, World.cell?, hsp, Option.isSome_some] at h5
        split at h5 <;> simp at h5
    have hcl : ∀ i j, i < len → j < z → ∃ cs' y v, elems[i]? = some y ∧ DataW.trod enc Tryz.prog W 0 (fun _ => true) true n e cs' = some y ∧ cs'[j]? = some v ∧ W.cell? ⟨a.block, a.off + i * z + j, none⟩ = some v := fun i j hi hj => by
      obtain ⟨cs', y, h1, h2, h3⟩ := each i hi
      obtain ⟨_, hn, h4⟩ := World.cells?_some h2
      have h5 := h4 j hj
      have hlt : j < cs'.length := by omega
      rw [List.getElem?_eq_getElem hlt] at h5
      refine ⟨cs', y, cs'[j], h1, h3, List.getElem?_eq_getElem hlt, ?_⟩
      rw [← h5]
      have hsp := hspot (by omega)
      congr 1
      obtain ⟨ab, ao, asp⟩ := a
      simp only at hsp
      subst hsp
      simp only [Addr.add]
      split <;> split <;> simp_all <;> omega
    have hcell := fun i j hi hj => hcl i j hi hj
    show Rel (allOf W) W noRho (.sl z (elems.map (·.1)).length (fun i => G ((elems.map (·.1)).getD i .nil))) (.slice (some a) len cap)
    rw [hlen']
    refine .sl _ z len _ (some a) cap (fun i j => (W.cell? ⟨a.block, a.off + i * z + j, none⟩).getD undef) (by omega) hm (fun i hi => ?_) (fun i j hi hj => ?_) (fun i j hi hj => ?_)
    · obtain ⟨cs', y, h1, _, h3⟩ := each i hi
      rw [hk i y h1]
      have := hG _ _ _ h3
      exact ⟨this.2.1, this.2.2.1⟩
    · obtain ⟨cs', y, v, _, _, _, h4⟩ := hcl i j hi hj
      refine ⟨a.block, a.off, ?_, ?_, by rw [h4]; rfl⟩
      · have hsp := hspot (by omega)
        obtain ⟨ab, ao, asp⟩ := a
        simp only at hsp
        subst hsp
        rfl
      · show a.block < W.heap.size
        unfold World.cell? at h4
        split at h4
        · rename_i hh
          exact (Array.getElem?_eq_some_iff.1 hh).1
        · cases h4
    · obtain ⟨cs', y, v, h1, h2, h3, h4⟩ := hcl i j hi hj
      rw [hk i y h1, h4]
      have := (hG _ _ _ h2).2.2.2 j hj
      rw [List.getD_eq_getElem?_getD (l := cs'), h3] at this
      exact this
inductive TellsF (enc : TypeId × Value → H) (W : World) : List Field → Nat → List (DataW H → List D) → Nat → Prop
  | nil (off : Nat) : TellsF enc W [] off [] off
  | cons (f : Field) (fs : List Field) (off z N : Nat) (G : DataW H → List D) (Gs : List (DataW H → List D)) (ho : f.offset = off) (hc : Tryz.prog.cellsOf f.type = z) (hG : Tells enc W f.type z G) (h : TellsF enc W fs (off + z) Gs N) : TellsF enc W (f :: fs) off (G :: Gs) N
def catG : List (DataW H → List D) → List (DataW H) → List D
  | [], _ => []
  | g :: r, l => g (l.getD 0 .nil) ++ catG r (l.drop 1)
theorem zes {n : Nat} {cs : List Value} : ∀ {fs : List Field} {off N : Nat} {Gs : List (DataW H → List D)} {xs : List (DataW H × List MemPlace)}, TellsF enc W fs off Gs N → cs.length = N → xs.length = fs.length →
    (∀ (i : Nat) (f : Field), fs[i]? = some f → DataW.trod enc Tryz.prog W 0 (fun _ => true) true n f.type ((cs.drop f.offset).take (Tryz.prog.cellsOf f.type)) = xs[i]?) →
    (catG Gs (xs.map (·.1))).length + off = N ∧ (catG Gs (xs.map (·.1))).all D.plain = true ∧ ∀ j, off + j < N → Rel (allOf W) W noRho ((catG Gs (xs.map (·.1))).getD j .any) (cs.getD (off + j) undef)
  | [], off, N, Gs, xs, h, hN, hn, hx => by
    cases h
    exact ⟨by simp [catG], rfl, fun j hj => by omega⟩
  | f :: fs, off, N, Gs, xs, h, hN, hn, hx => by
    cases h with
    | cons _ _ _ z _ G Gs ho hc hG h =>
      match xs, hn with
      | x :: xs, hn =>
        have h0 := hx 0 f rfl
        rw [ho, hc] at h0
        obtain ⟨k1, k2, k3, k4⟩ := hG _ _ _ h0
        obtain ⟨i1, i2, i3⟩ := zes (xs := xs) h hN (by simpa using hn) (fun i g hg => hx (i + 1) g hg)
        simp only [List.map_cons, catG, List.getD_cons_zero, List.drop_succ_cons, List.drop_zero]
        refine ⟨by rw [List.length_append]; omega, by rw [List.all_append, k3, i2]; rfl, fun j hj => ?_⟩
        by_cases hjz : j < z
        · have e1 : (G x.1 ++ catG Gs (xs.map (·.1))).getD j .any = (G x.1).getD j .any := by
            simp [List.getD_eq_getElem?_getD, List.getElem?_append_left (show j < (G x.1).length by omega)]
          rw [e1]
          have := k4 j hjz
          have e2 : ((cs.drop off).take z).getD j undef = cs.getD (off + j) undef := by
            simp [List.getD_eq_getElem?_getD, hjz]
          rwa [e2] at this
        · have e1 : (G x.1 ++ catG Gs (xs.map (·.1))).getD j .any = (catG Gs (xs.map (·.1))).getD (j - z) .any := by
            simp only [List.getD_eq_getElem?_getD]
            rw [List.getElem?_append_right (by omega), k2]
          rw [e1]
          have := i3 (j - z) (by omega)
          rwa [show off + z + (j - z) = off + j by omega] at this
theorem zcX {t z : Nat} {fs : Array Field} {l : List Field} {Gs : List (DataW H → List D)} (ht : Tryz.prog.underlying t = some (.struct fs)) (hl : fs.toList = l) (hc : Tryz.prog.cellsOf t = z) (h : TellsF enc W l 0 Gs z) :
    Tells enc W t z (fun d => catG Gs (kids d)) := fun fuel cs x hx => by
  obtain ⟨xs, n, rfl, rfl, hlen, hn, hf⟩ := DataW.trod_struct ht hx
  rw [hc] at hlen
  have := zes (n := n) (xs := xs) h hlen (by rw [hn, ← hl]; simp) (fun i f hi => hf i f (by rw [← hl] at hi; simpa using hi))
  refine ⟨hlen, by simpa [kids] using this.1, this.2.1, fun j hj => by simpa [kids] using this.2.2 j (by omega)⟩
theorem zgq {t e z n m : Nat} {G : DataW H → List D} (ht : Tryz.prog.underlying t = some (.array n e)) (hc : Tryz.prog.cellsOf e = z) (hm : Tryz.prog.cellsOf t = m) (hnm : n * z = m) (hG : Tells enc W e z G) :
    Tells enc W t m (fun d => catG (List.replicate n G) (kids d)) := fun fuel cs x hx => by
  obtain ⟨xs, k, rfl, rfl, hlen, hn, hf⟩ := DataW.trod_array ht hx
  rw [hm] at hlen
  rw [hc] at hf
  have key : ∀ (n' : Nat) (ys : List (DataW H × List MemPlace)) (off : Nat), ys.length = n' → off * z + n' * z = m → (∀ i, i < n' → DataW.trod enc Tryz.prog W 0 (fun _ => true) true k e ((cs.drop ((off + i) * z)).take z) = ys[i]?) →
      (catG (List.replicate n' G) (ys.map (·.1))).length = n' * z ∧ (catG (List.replicate n' G) (ys.map (·.1))).all D.plain = true ∧ ∀ j, j < n' * z → Rel (allOf W) W noRho ((catG (List.replicate n' G) (ys.map (·.1))).getD j .any) (cs.getD (off * z + j) undef) := by
    intro n'
    induction n' with
    | zero => intro ys off _ _ _; exact ⟨by simp [catG], rfl, fun j hj => by omega⟩
    | succ n' ih =>
      intro ys off hy hoff hf
      match ys, hy with
      | y :: ys, hy =>
        have h0 := hf 0 (by omega)
        obtain ⟨k1, k2, k3, k4⟩ := hG _ _ _ h0
        obtain ⟨i1, i2, i3⟩ := ih ys (off + 1) (by simpa using hy) (by rw [Nat.add_mul] at hoff ⊢; omega) (fun i hi => by
          have := hf (i + 1) (by omega)
          rwa [show off + (i + 1) = off + 1 + i by omega] at this)
        simp only [List.replicate_succ, List.map_cons, catG, List.getD_cons_zero, List.drop_succ_cons, List.drop_zero]
        refine ⟨by rw [List.length_append, k2, i1, Nat.add_mul]; omega, by rw [List.all_append, k3, i2]; rfl, fun j hj => ?_⟩
        by_cases hjz : j < z
        · have e1 : (G y.1 ++ catG (List.replicate n' G) (ys.map (·.1))).getD j .any = (G y.1).getD j .any := by
            simp [List.getD_eq_getElem?_getD, List.getElem?_append_left (show j < (G y.1).length by omega)]
          rw [e1]
          have := k4 j hjz
          have e2 : ((cs.drop ((off + 0) * z)).take z).getD j undef = cs.getD (off * z + j) undef := by
            simp [List.getD_eq_getElem?_getD, hjz]
          rwa [e2] at this
        · have e1 : (G y.1 ++ catG (List.replicate n' G) (ys.map (·.1))).getD j .any = (catG (List.replicate n' G) (ys.map (·.1))).getD (j - z) .any := by
            simp only [List.getD_eq_getElem?_getD]
            rw [List.getElem?_append_right (by omega), k2]
          rw [e1]
          have := i3 (j - z) (by rw [Nat.add_mul] at hj; omega)
          rwa [show (off + 1) * z + (j - z) = off * z + j by rw [Nat.add_mul]; omega] at this
  have := key n xs 0 hn (by omega) (fun i hi => by simpa using hf i hi)
  refine ⟨hlen, by rw [← hnm]; exact this.1, this.2.1, fun j hj => by simpa [kids] using this.2.2 j (by omega)⟩
theorem zlQ {base : Nat} {t : TypeId} {v : Value} {d : DataW H} {ps : List MemPlace} (ht : Tryz.prog.underlying t = some .string) (hv : Value.okWide Tryz.prog W .any base t v) (h : DataW.Trod enc Tryz.prog W 0 (fun _ => true) true t v d ps) : Rel (allOf W) W noRho (.s (strOf d)) v := by
  obtain ⟨s, rfl⟩ := okWide_string ht hv
  obtain ⟨fuel, hf⟩ := h
  have := (zbN ht _ _ _ hf).2.2.2 0 (by omega)
  exact this
theorem zin {base : Nat} {t e z : Nat} {v : Value} {d : DataW H} {ps : List MemPlace} {G : DataW H → List D} (ht : Tryz.prog.underlying t = some (.slice e)) (hc : Tryz.prog.cellsOf e = z) (hz : 0 < z) (hG : Tells enc W e z G)
    (hv : Value.okWide Tryz.prog W .any base t v) (h : DataW.Trod enc Tryz.prog W 0 (fun _ => true) true t v d ps) : Rel (allOf W) W noRho (.sl z (kids d).length (fun i => G ((kids d).getD i .nil))) v := by
  obtain ⟨a, len, cap, rfl⟩ := okWide_slice ht hv
  obtain ⟨fuel, hf⟩ := h
  have := (zbA ht hc hz hG _ _ _ hf).2.2.2 0 (by omega)
  exact this
theorem zei {base : Nat} {t z : Nat} {fs : Array Field} {v : Value} {d : DataW H} {ps : List MemPlace} {G : DataW H → List D} (ht : Tryz.prog.underlying t = some (.struct fs)) (hG : Tells enc W t z G)
    (hv : Value.okWide Tryz.prog W .any base t v) (h : DataW.Trod enc Tryz.prog W 0 (fun _ => true) true t v d ps) : Rel (allOf W) W noRho (.ag (G d)) v := by
  obtain ⟨cs, rfl, hs⟩ := okWide_struct ht hv
  obtain ⟨fuel, hf⟩ := h
  obtain ⟨h1, h2, h3, h4⟩ := hG _ _ _ hf
  replace h2 : (G d).length = z := h2
  have h1' : cs.size = z := by simpa [Value.cells] using h1
  refine .ag _ _ cs (by omega) (fun j hj => ?_)
  have := h4 j (by omega)
  simpa [Value.cells, Array.getD_eq_getD_getElem?, List.getD_eq_getElem?_getD] using this
theorem zhm (d : DataW H) : 1 ≤ Rows.uptoBulk d := by
  cases d with
  | lit l => cases l <;> simp [Rows.uptoBulk]
  | _ => simp [Rows.uptoBulk]
theorem zgR {d : DataW H} : ∀ {l : List (DataW H)}, d ∈ l → Rows.uptoBulk d ≤ Rows.uptoBulkAll l
  | x :: r, h => by
    simp only [Rows.uptoBulkAll]
    rcases List.mem_cons.1 h with rfl | h
    · omega
    · have := zgR h
      omega
theorem zeE : ∀ (l : List (DataW H)), l.length ≤ Rows.uptoBulkAll l
  | [] => by simp
  | x :: r => by
    have := zhm x
    have := zeE r
    simp only [Rows.uptoBulkAll, List.length_cons]
    omega
theorem zdJ (d : DataW H) : Rows.uptoBulkAll (kids d) ≤ Rows.uptoBulk d := by
  cases d <;> simp [kids, Rows.uptoBulk, Rows.uptoBulkAll] <;> omega
theorem zdh (d : DataW H) : (strOf d).length ≤ Rows.uptoBulk d := by
  cases d with
  | lit l => cases l <;> simp [strOf, Rows.uptoBulk]
  | _ => simp [strOf]
theorem zdd {α β : Type} (f : α → β) (l : List α) (a : α) (i : Nat) : (l.map f).getD i (f a) = f (l.getD i a) := by
  simp only [List.getD_eq_getElem?_getD, List.getElem?_map]
  cases l[i]? <;> rfl

set_option maxRecDepth 100000
variable {H : Type} {enc : TypeId × Value → H} {W : World}
def TellsP (enc : TypeId × Value → H) (W : World) (P : DataW H → Prop) (t z : Nat) (G : DataW H → List D) : Prop :=
  ∀ fuel cs x, P x.1 → DataW.trod enc Tryz.prog W 0 (fun _ => true) true fuel t cs = some x → cs.length = z ∧ (G x.1).length = z ∧ (G x.1).all D.plain = true ∧ ∀ j, j < z → Rel (allOf W) W noRho ((G x.1).getD j .any) (cs.getD j undef)
inductive TellsFP (enc : TypeId × Value → H) (W : World) (Q : DataW H → Prop) : List Field → Nat → List (DataW H → List D) → Nat → Prop
  | nil (off : Nat) : TellsFP enc W Q [] off [] off
  | cons (f : Field) (fs : List Field) (off z N : Nat) (G : DataW H → List D) (Gs : List (DataW H → List D)) (ho : f.offset = off) (hc : Tryz.prog.cellsOf f.type = z) (hG : TellsP enc W Q f.type z G) (h : TellsFP enc W Q fs (off + z) Gs N) : TellsFP enc W Q (f :: fs) off (G :: Gs) N
end Go.Proofs.YtkkaamhocpmhkaaGreatDoor.Flow
