/-
  A part of the proof: it is imported by YtjdiibhkdanbiaaTop. Nothing here is a claim of its own.
-/
import Derived.Test.YtjdiibhkdanbiaaK2
section
namespace Go.Xe.Ytjdiibhkdanbiaa
open Go Go.Xe
def x3 : XFun := ⟨91, [.tmp 2],
  .seq (.region [
    ⟨(some 1), .box 30 (.tmp 0), none⟩,
    ⟨(some 2), .move (.const (Go.Value.bool false)), none⟩]) (.seq (.seq (.region [
    ⟨(some 10), .loadN 10 (.tmp 1), none⟩,
    ⟨(some 11), .call 8 [(.const (Go.Value.int Go.IntKind.i64 2000)), (.tmp 10)], none⟩,
    ⟨(some 12), .un .not (.tmp 11), none⟩]) (.cond (.tmp 12) (.seq (.region [
    ⟨(some 13), .call 9 [], none⟩,
    ⟨(some 2), .move (.tmp 13), none⟩]) (.ret)) (.skip))) (.seq (.regionD [
    ⟨(some 14), .loadN 10 (.tmp 1), none⟩,
    ⟨(some 15), .call 10 [(.tmp 14)], none⟩,
    ⟨(some 16), .loadN 10 (.tmp 1), none⟩,
    ⟨(some 17), .call 11 [(.tmp 16)], none⟩,
    ⟨(some 3), .move (.tmp 15), none⟩,
    ⟨(some 4), .move (.tmp 17), none⟩] [(1, 2)]) (.seq (.regionD [
    ⟨(some 18), .loadN 10 (.tmp 1), none⟩,
    ⟨(some 19), .call 12 [(.tmp 18)], none⟩,
    ⟨(some 20), .loadN 10 (.tmp 1), none⟩,
    ⟨(some 21), .call 13 [(.tmp 20)], none⟩,
    ⟨(some 5), .move (.tmp 19), none⟩,
    ⟨(some 6), .move (.tmp 21), none⟩] [(1, 2)]) (.seq (.seq (.region [
    ⟨(some 22), .move (.tmp 3), none⟩,
    ⟨(some 23), .lenSlice (.tmp 22), none⟩,
    ⟨(some 24), .move (.tmp 4), none⟩,
    ⟨(some 25), .lenSlice (.tmp 24), none⟩,
    ⟨(some 26), .bin .neq (.tmp 23) (.tmp 25), none⟩,
    ⟨(some 27), .move (.tmp 26), none⟩,
    ⟨(some 28), .move (.tmp 5), (some (27, false))⟩,
    ⟨(some 29), .lenSlice (.tmp 28), (some (27, false))⟩,
    ⟨(some 30), .move (.tmp 6), (some (27, false))⟩,
    ⟨(some 31), .lenSlice (.tmp 30), (some (27, false))⟩,
    ⟨(some 32), .bin .neq (.tmp 29) (.tmp 31), (some (27, false))⟩,
    ⟨(some 33), .pick (.tmp 27) (.const (Go.Value.bool true)) (.tmp 32), none⟩]) (.cond (.tmp 33) (.seq (.region [
    ⟨(some 2), .move (.const (Go.Value.bool false)), none⟩]) (.ret)) (.skip))) (.seq (.seq (.region [
    ⟨(some 7), .move (.const (Go.Value.int Go.IntKind.i64 0)), none⟩]) (.block 0 (.loop (.seq (.seq (.region [
    ⟨(some 34), .move (.tmp 7), none⟩,
    ⟨(some 35), .move (.tmp 3), none⟩,
    ⟨(some 36), .lenSlice (.tmp 35), none⟩,
    ⟨(some 37), .bin .lss (.tmp 34) (.tmp 36), none⟩]) (.cond (.tmp 37) (.skip) (.exit 0))) (.seq (.block 1 (.seq (.seq (.regionD [
    ⟨(some 40), .move (.tmp 3), none⟩,
    ⟨(some 41), .move (.tmp 7), none⟩,
    ⟨(some 42), .indexAddr 1 (.tmp 40) (.tmp 41), none⟩,
    ⟨(some 43), .load1 (.tmp 42), none⟩,
    ⟨(some 44), .lenSlice (.tmp 43), none⟩,
    ⟨(some 45), .move (.tmp 4), none⟩,
    ⟨(some 46), .move (.tmp 7), none⟩,
    ⟨(some 47), .indexAddr 1 (.tmp 45) (.tmp 46), none⟩,
    ⟨(some 48), .load1 (.tmp 47), none⟩,
    ⟨(some 49), .lenSlice (.tmp 48), none⟩,
    ⟨(some 50), .bin .neq (.tmp 44) (.tmp 49), none⟩] []) (.cond (.tmp 50) (.seq (.region [
    ⟨(some 2), .move (.const (Go.Value.bool false)), none⟩]) (.ret)) (.skip))) (.seq (.region [
    ⟨(some 8), .move (.const (Go.Value.int Go.IntKind.i64 0)), none⟩]) (.block 2 (.loop (.seq (.seq (.region [
    ⟨(some 51), .move (.tmp 8), none⟩,
    ⟨(some 52), .move (.tmp 3), none⟩,
    ⟨(some 53), .move (.tmp 7), none⟩,
    ⟨(some 54), .indexAddr 1 (.tmp 52) (.tmp 53), none⟩,
    ⟨(some 55), .load1 (.tmp 54), none⟩,
    ⟨(some 56), .lenSlice (.tmp 55), none⟩,
    ⟨(some 57), .bin .lss (.tmp 51) (.tmp 56), none⟩]) (.cond (.tmp 57) (.skip) (.exit 2))) (.seq (.block 3 (.seq (.regionD [
    ⟨(some 60), .move (.tmp 3), none⟩,
    ⟨(some 61), .move (.tmp 7), none⟩,
    ⟨(some 62), .indexAddr 1 (.tmp 60) (.tmp 61), none⟩,
    ⟨(some 63), .load1 (.tmp 62), none⟩,
    ⟨(some 64), .move (.tmp 8), none⟩,
    ⟨(some 65), .indexAddr 1 (.tmp 63) (.tmp 64), none⟩,
    ⟨(some 66), .load1 (.tmp 65), none⟩,
    ⟨(some 67), .move (.tmp 4), none⟩,
    ⟨(some 68), .move (.tmp 7), none⟩,
    ⟨(some 69), .indexAddr 1 (.tmp 67) (.tmp 68), none⟩,
    ⟨(some 70), .load1 (.tmp 69), none⟩,
    ⟨(some 71), .move (.tmp 8), none⟩,
    ⟨(some 72), .indexAddr 1 (.tmp 70) (.tmp 71), none⟩,
    ⟨(some 73), .load1 (.tmp 72), none⟩,
    ⟨(some 74), .bin .neq (.tmp 66) (.tmp 73), none⟩] []) (.cond (.tmp 74) (.seq (.region [
    ⟨(some 2), .move (.const (Go.Value.bool false)), none⟩]) (.ret)) (.skip)))) (.region [
    ⟨(some 58), .move (.tmp 8), none⟩,
    ⟨(some 59), .bin .add (.tmp 58) (.const (Go.Value.int Go.IntKind.i64 1)), none⟩,
    ⟨(some 8), .move (.tmp 59), none⟩])))))))) (.region [
    ⟨(some 38), .move (.tmp 7), none⟩,
    ⟨(some 39), .bin .add (.tmp 38) (.const (Go.Value.int Go.IntKind.i64 1)), none⟩,
    ⟨(some 7), .move (.tmp 39), none⟩])))))) (.seq (.seq (.region [
    ⟨(some 9), .move (.const (Go.Value.int Go.IntKind.i64 0)), none⟩]) (.block 4 (.loop (.seq (.seq (.region [
    ⟨(some 75), .move (.tmp 9), none⟩,
    ⟨(some 76), .move (.tmp 5), none⟩,
    ⟨(some 77), .lenSlice (.tmp 76), none⟩,
    ⟨(some 78), .bin .lss (.tmp 75) (.tmp 77), none⟩]) (.cond (.tmp 78) (.skip) (.exit 4))) (.seq (.block 5 (.seq (.regionD [
    ⟨(some 81), .move (.tmp 5), none⟩,
    ⟨(some 82), .move (.tmp 9), none⟩,
    ⟨(some 83), .indexAddr 1 (.tmp 81) (.tmp 82), none⟩,
    ⟨(some 84), .load1 (.tmp 83), none⟩,
    ⟨(some 85), .move (.tmp 6), none⟩,
    ⟨(some 86), .move (.tmp 9), none⟩,
    ⟨(some 87), .indexAddr 1 (.tmp 85) (.tmp 86), none⟩,
    ⟨(some 88), .load1 (.tmp 87), none⟩,
    ⟨(some 89), .eq .bool true (.tmp 84) (.tmp 88), none⟩] []) (.cond (.tmp 89) (.seq (.region [
    ⟨(some 2), .move (.const (Go.Value.bool false)), none⟩]) (.ret)) (.skip)))) (.region [
    ⟨(some 79), .move (.tmp 9), none⟩,
    ⟨(some 80), .bin .add (.tmp 79) (.const (Go.Value.int Go.IntKind.i64 1)), none⟩,
    ⟨(some 9), .move (.tmp 80), none⟩])))))) (.seq (.region [
    ⟨(some 90), .call 9 [], none⟩,
    ⟨(some 2), .move (.tmp 90), none⟩]) (.ret))))))))⟩
def x8 : XFun := ⟨104, [.tmp 4],
  .seq (.region [
    ⟨(some 3), .box 30 (.tmp 1), none⟩,
    ⟨(some 4), .move (.const (Go.Value.bool false)), none⟩]) (.seq (.seq (.region [
    ⟨(some 10), .addr 0 (.tmp 3), none⟩,
    ⟨(some 11), .load1 (.tmp 10), none⟩,
    ⟨(some 12), .lenSlice (.tmp 11), none⟩,
    ⟨(some 13), .bin .gtr (.tmp 12) (.const (Go.Value.int Go.IntKind.i64 100)), none⟩,
    ⟨(some 14), .move (.tmp 13), none⟩,
    ⟨(some 15), .addr 1 (.tmp 3), (some (14, false))⟩,
    ⟨(some 16), .load1 (.tmp 15), (some (14, false))⟩,
    ⟨(some 17), .lenSlice (.tmp 16), (some (14, false))⟩,
    ⟨(some 18), .bin .gtr (.tmp 17) (.const (Go.Value.int Go.IntKind.i64 100)), (some (14, false))⟩,
    ⟨(some 19), .pick (.tmp 14) (.const (Go.Value.bool true)) (.tmp 18), none⟩]) (.cond (.tmp 19) (.seq (.region [
    ⟨(some 4), .move (.const (Go.Value.bool false)), none⟩]) (.ret)) (.skip))) (.seq (.region [
    ⟨(some 20), .addr 2 (.tmp 3), none⟩,
    ⟨(some 21), .loadN 8 (.tmp 20), none⟩,
    ⟨(some 22), .buildSlice 28 8 [(Go.Value.int Go.IntKind.i64 0), (Go.Value.int Go.IntKind.i64 0), (Go.Value.string { data := #[] }), (Go.Value.slice none 0 0), (Go.Value.slice none 0 0), (Go.Value.slice none 0 0), (Go.Value.int Go.IntKind.i64 0), (Go.Value.int Go.IntKind.i64 0)] 1 [(0, 8, (.tmp 21))], none⟩,
    ⟨(some 5), .move (.tmp 22), none⟩]) (.seq (.region [
    ⟨(some 6), .move (.const (Go.Value.slice none 0 0)), none⟩]) (.seq (.seq (.region [
    ⟨(some 7), .move (.const (Go.Value.int Go.IntKind.i64 0)), none⟩]) (.block 0 (.loop (.seq (.seq (.region [
    ⟨(some 23), .move (.tmp 7), none⟩,
    ⟨(some 24), .addr 0 (.tmp 3), none⟩,
    ⟨(some 25), .load1 (.tmp 24), none⟩,
    ⟨(some 26), .lenSlice (.tmp 25), none⟩,
    ⟨(some 27), .bin .lss (.tmp 23) (.tmp 26), none⟩]) (.cond (.tmp 27) (.skip) (.exit 0))) (.seq (.block 1 (.region [
    ⟨(some 30), .move (.tmp 6), none⟩,
    ⟨(some 31), .addr 0 (.tmp 3), none⟩,
    ⟨(some 32), .load1 (.tmp 31), none⟩,
    ⟨(some 33), .move (.tmp 7), none⟩,
    ⟨(some 34), .indexAddr 5 (.tmp 32) (.tmp 33), none⟩,
    ⟨(some 35), .addr 1 (.tmp 34), none⟩,
    ⟨(some 36), .loadN 2 (.tmp 35), none⟩,
    ⟨(some 37), .buildSlice 45 2 [(Go.Value.int Go.IntKind.i64 0), (Go.Value.slice none 0 0)] 1 [(0, 2, (.tmp 36))], none⟩,
    ⟨(some 38), .append 45 2 32 (.tmp 30) (.tmp 37), none⟩,
    ⟨(some 6), .move (.tmp 38), none⟩])) (.region [
    ⟨(some 28), .move (.tmp 7), none⟩,
    ⟨(some 29), .bin .add (.tmp 28) (.const (Go.Value.int Go.IntKind.i64 1)), none⟩,
    ⟨(some 7), .move (.tmp 29), none⟩])))))) (.seq (.seq (.region [
    ⟨(some 8), .move (.const (Go.Value.int Go.IntKind.i64 0)), none⟩]) (.block 2 (.loop (.seq (.seq (.region [
    ⟨(some 39), .move (.tmp 8), none⟩,
    ⟨(some 40), .addr 1 (.tmp 3), none⟩,
    ⟨(some 41), .load1 (.tmp 40), none⟩,
    ⟨(some 42), .lenSlice (.tmp 41), none⟩,
    ⟨(some 43), .bin .lss (.tmp 39) (.tmp 42), none⟩]) (.cond (.tmp 43) (.skip) (.exit 2))) (.seq (.block 3 (.seq (.seq (.region [
    ⟨(some 46), .addr 1 (.tmp 3), none⟩,
    ⟨(some 47), .load1 (.tmp 46), none⟩,
    ⟨(some 48), .move (.tmp 8), none⟩,
    ⟨(some 49), .indexAddr 14 (.tmp 47) (.tmp 48), none⟩,
    ⟨(some 50), .addr 1 (.tmp 49), none⟩,
    ⟨(some 51), .load1 (.tmp 50), none⟩,
    ⟨(some 52), .lenSlice (.tmp 51), none⟩,
    ⟨(some 53), .bin .gtr (.tmp 52) (.const (Go.Value.int Go.IntKind.i64 100)), none⟩]) (.cond (.tmp 53) (.seq (.region [
    ⟨(some 4), .move (.const (Go.Value.bool false)), none⟩]) (.ret)) (.skip))) (.seq (.region [
    ⟨(some 54), .move (.tmp 5), none⟩,
    ⟨(some 55), .addr 1 (.tmp 3), none⟩,
    ⟨(some 56), .load1 (.tmp 55), none⟩,
    ⟨(some 57), .move (.tmp 8), none⟩,
    ⟨(some 58), .indexAddr 14 (.tmp 56) (.tmp 57), none⟩,
    ⟨(some 59), .addr 4 (.tmp 58), none⟩,
    ⟨(some 60), .loadN 8 (.tmp 59), none⟩,
    ⟨(some 61), .buildSlice 28 8 [(Go.Value.int Go.IntKind.i64 0), (Go.Value.int Go.IntKind.i64 0), (Go.Value.string { data := #[] }), (Go.Value.slice none 0 0), (Go.Value.slice none 0 0), (Go.Value.slice none 0 0), (Go.Value.int Go.IntKind.i64 0), (Go.Value.int Go.IntKind.i64 0)] 1 [(0, 8, (.tmp 60))], none⟩,
    ⟨(some 62), .append 28 8 120 (.tmp 54) (.tmp 61), none⟩,
    ⟨(some 5), .move (.tmp 62), none⟩]) (.seq (.region [
    ⟨(some 63), .move (.tmp 6), none⟩,
    ⟨(some 64), .addr 1 (.tmp 3), none⟩,
    ⟨(some 65), .load1 (.tmp 64), none⟩,
    ⟨(some 66), .move (.tmp 8), none⟩,
    ⟨(some 67), .indexAddr 14 (.tmp 65) (.tmp 66), none⟩,
    ⟨(some 68), .addr 2 (.tmp 67), none⟩,
    ⟨(some 69), .loadN 2 (.tmp 68), none⟩,
    ⟨(some 70), .buildSlice 45 2 [(Go.Value.int Go.IntKind.i64 0), (Go.Value.slice none 0 0)] 1 [(0, 2, (.tmp 69))], none⟩,
    ⟨(some 71), .append 45 2 32 (.tmp 63) (.tmp 70), none⟩,
    ⟨(some 6), .move (.tmp 71), none⟩]) (.seq (.region [
    ⟨(some 9), .move (.const (Go.Value.int Go.IntKind.i64 0)), none⟩]) (.block 4 (.loop (.seq (.seq (.region [
    ⟨(some 72), .move (.tmp 9), none⟩,
    ⟨(some 73), .addr 1 (.tmp 3), none⟩,
    ⟨(some 74), .load1 (.tmp 73), none⟩,
    ⟨(some 75), .move (.tmp 8), none⟩,
    ⟨(some 76), .indexAddr 14 (.tmp 74) (.tmp 75), none⟩,
    ⟨(some 77), .addr 1 (.tmp 76), none⟩,
    ⟨(some 78), .load1 (.tmp 77), none⟩,
    ⟨(some 79), .lenSlice (.tmp 78), none⟩,
    ⟨(some 80), .bin .lss (.tmp 72) (.tmp 79), none⟩]) (.cond (.tmp 80) (.skip) (.exit 4))) (.seq (.block 5 (.region [
    ⟨(some 83), .move (.tmp 6), none⟩,
    ⟨(some 84), .addr 1 (.tmp 3), none⟩,
    ⟨(some 85), .load1 (.tmp 84), none⟩,
    ⟨(some 86), .move (.tmp 8), none⟩,
    ⟨(some 87), .indexAddr 14 (.tmp 85) (.tmp 86), none⟩,
    ⟨(some 88), .addr 1 (.tmp 87), none⟩,
    ⟨(some 89), .load1 (.tmp 88), none⟩,
    ⟨(some 90), .move (.tmp 9), none⟩,
    ⟨(some 91), .indexAddr 5 (.tmp 89) (.tmp 90), none⟩,
    ⟨(some 92), .addr 1 (.tmp 91), none⟩,
    ⟨(some 93), .loadN 2 (.tmp 92), none⟩,
    ⟨(some 94), .buildSlice 45 2 [(Go.Value.int Go.IntKind.i64 0), (Go.Value.slice none 0 0)] 1 [(0, 2, (.tmp 93))], none⟩,
    ⟨(some 95), .append 45 2 32 (.tmp 83) (.tmp 94), none⟩,
    ⟨(some 6), .move (.tmp 95), none⟩])) (.region [
    ⟨(some 81), .move (.tmp 9), none⟩,
    ⟨(some 82), .bin .add (.tmp 81) (.const (Go.Value.int Go.IntKind.i64 1)), none⟩,
    ⟨(some 9), .move (.tmp 82), none⟩])))))))))) (.region [
    ⟨(some 44), .move (.tmp 8), none⟩,
    ⟨(some 45), .bin .add (.tmp 44) (.const (Go.Value.int Go.IntKind.i64 1)), none⟩,
    ⟨(some 8), .move (.tmp 45), none⟩])))))) (.seq (.region [
    ⟨(some 96), .move (.tmp 0), none⟩,
    ⟨(some 97), .move (.tmp 5), none⟩,
    ⟨(some 98), .call 24 [(.tmp 96), (.tmp 97)], none⟩,
    ⟨(some 99), .move (.tmp 98), none⟩,
    ⟨(some 100), .move (.tmp 0), (some (99, true))⟩,
    ⟨(some 101), .move (.tmp 6), (some (99, true))⟩,
    ⟨(some 102), .call 20 [(.tmp 100), (.tmp 101)], (some (99, true))⟩,
    ⟨(some 103), .pick (.tmp 99) (.tmp 102) (.const (Go.Value.bool false)), none⟩,
    ⟨(some 4), .move (.tmp 103), none⟩]) (.ret)))))))⟩
def x9 : XFun := ⟨103, [.tmp 0],
  .seq (.region [
    ⟨(some 0), .move (.const (Go.Value.bool false)), none⟩]) (.seq (.region [
    ⟨(some 12), .call 25 [(.const (Go.Value.string { data := #[105, 102, 32, 49, 32, 116, 104, 101, 110, 32, 50, 32, 101, 108, 115, 101, 32, 51] }))], none⟩,
    ⟨(some 11), .move (.tmp 12), none⟩,
    ⟨(some 13), .extract (.tmp 11) 0, none⟩,
    ⟨(some 14), .extract (.tmp 11) 1, none⟩,
    ⟨(some 1), .alloc 45 [(Go.Value.int Go.IntKind.i64 0), (Go.Value.slice none 0 0)], none⟩,
    ⟨(some 2), .alloc 40 [(Go.Value.int Go.IntKind.i64 0), (Go.Value.string { data := #[] }), (Go.Value.int Go.IntKind.i64 0), (Go.Value.int Go.IntKind.i64 0)], none⟩,
    ⟨none, .store 2 (.tmp 1) (.tmp 13), none⟩,
    ⟨none, .store 4 (.tmp 2) (.tmp 14), none⟩]) (.seq (.region [
    ⟨(some 16), .call 25 [(.const (Go.Value.string { data := #[108, 101, 116, 32, 120, 32, 61, 32, 91, 93, 32, 105, 110, 32, 120, 32, 61, 61, 32, 91, 49, 93] }))], none⟩,
    ⟨(some 15), .move (.tmp 16), none⟩,
    ⟨(some 17), .extract (.tmp 15) 0, none⟩,
    ⟨(some 18), .extract (.tmp 15) 1, none⟩,
    ⟨(some 3), .alloc 45 [(Go.Value.int Go.IntKind.i64 0), (Go.Value.slice none 0 0)], none⟩,
    ⟨(some 4), .alloc 40 [(Go.Value.int Go.IntKind.i64 0), (Go.Value.string { data := #[] }), (Go.Value.int Go.IntKind.i64 0), (Go.Value.int Go.IntKind.i64 0)], none⟩,
    ⟨none, .store 2 (.tmp 3) (.tmp 17), none⟩,
    ⟨none, .store 4 (.tmp 4) (.tmp 18), none⟩]) (.seq (.region [
    ⟨(some 20), .call 25 [(.const (Go.Value.string { data := #[102, 40, 49, 41] }))], none⟩,
    ⟨(some 19), .move (.tmp 20), none⟩,
    ⟨(some 21), .extract (.tmp 19) 0, none⟩,
    ⟨(some 22), .extract (.tmp 19) 1, none⟩,
    ⟨(some 5), .alloc 45 [(Go.Value.int Go.IntKind.i64 0), (Go.Value.slice none 0 0)], none⟩,
    ⟨(some 6), .alloc 40 [(Go.Value.int Go.IntKind.i64 0), (Go.Value.string { data := #[] }), (Go.Value.int Go.IntKind.i64 0), (Go.Value.int Go.IntKind.i64 0)], none⟩,
    ⟨none, .store 2 (.tmp 5) (.tmp 21), none⟩,
    ⟨none, .store 4 (.tmp 6) (.tmp 22), none⟩]) (.seq (.region [
    ⟨(some 24), .call 14 [(.const (Go.Value.string { data := #[102, 117, 110, 32, 102, 40, 110, 58, 32, 105, 110, 116, 41, 58, 32, 105, 110, 116, 32, 61, 32, 103, 40, 110, 41, 59, 10, 102, 117, 110, 32, 103, 40, 110, 58, 32, 105, 110, 116, 41, 58, 32, 105, 110, 116, 32, 61, 32, 110, 59, 10, 102, 117, 110, 32, 104, 40, 41, 58, 32, 105, 110, 116, 32, 61, 32, 49, 59, 10, 102, 40, 49, 41] }))], none⟩,
    ⟨(some 23), .move (.tmp 24), none⟩,
    ⟨(some 25), .extract (.tmp 23) 0, none⟩,
    ⟨(some 26), .extract (.tmp 23) 1, none⟩,
    ⟨(some 7), .alloc 30 [(Go.Value.slice none 0 0), (Go.Value.slice none 0 0), (Go.Value.int Go.IntKind.i64 0), (Go.Value.int Go.IntKind.i64 0), (Go.Value.string { data := #[] }), (Go.Value.slice none 0 0), (Go.Value.slice none 0 0), (Go.Value.slice none 0 0), (Go.Value.int Go.IntKind.i64 0), (Go.Value.int Go.IntKind.i64 0)], none⟩,
    ⟨(some 8), .alloc 40 [(Go.Value.int Go.IntKind.i64 0), (Go.Value.string { data := #[] }), (Go.Value.int Go.IntKind.i64 0), (Go.Value.int Go.IntKind.i64 0)], none⟩,
    ⟨none, .store 10 (.tmp 7) (.tmp 25), none⟩,
    ⟨none, .store 4 (.tmp 8) (.tmp 26), none⟩]) (.seq (.region [
    ⟨(some 27), .loadN 10 (.tmp 7), none⟩,
    ⟨(some 28), .call 10 [(.tmp 27)], none⟩,
    ⟨(some 9), .move (.tmp 28), none⟩]) (.seq (.region [
    ⟨(some 29), .loadN 10 (.tmp 7), none⟩,
    ⟨(some 30), .call 12 [(.tmp 29)], none⟩,
    ⟨(some 10), .move (.tmp 30), none⟩]) (.seq (.seq (.region [
    ⟨(some 31), .move (.tmp 9), none⟩,
    ⟨(some 32), .lenSlice (.tmp 31), none⟩,
    ⟨(some 33), .bin .neq (.tmp 32) (.const (Go.Value.int Go.IntKind.i64 4)), none⟩,
    ⟨(some 34), .move (.tmp 33), none⟩,
    ⟨(some 35), .move (.tmp 10), (some (34, false))⟩,
    ⟨(some 36), .lenSlice (.tmp 35), (some (34, false))⟩,
    ⟨(some 37), .bin .neq (.tmp 36) (.const (Go.Value.int Go.IntKind.i64 3)), (some (34, false))⟩,
    ⟨(some 38), .pick (.tmp 34) (.const (Go.Value.bool true)) (.tmp 37), none⟩,
    ⟨(some 39), .move (.tmp 38), none⟩,
    ⟨(some 40), .move (.tmp 9), (some (39, false))⟩,
    ⟨(some 41), .indexAddr 1 (.tmp 40) (.const (Go.Value.int Go.IntKind.i64 0)), (some (39, false))⟩,
    ⟨(some 42), .load1 (.tmp 41), (some (39, false))⟩,
    ⟨(some 43), .lenSlice (.tmp 42), (some (39, false))⟩,
    ⟨(some 44), .bin .neq (.tmp 43) (.const (Go.Value.int Go.IntKind.i64 1)), (some (39, false))⟩,
    ⟨(some 45), .pick (.tmp 39) (.const (Go.Value.bool true)) (.tmp 44), none⟩,
    ⟨(some 46), .move (.tmp 45), none⟩,
    ⟨(some 47), .move (.tmp 9), (some (46, false))⟩,
    ⟨(some 48), .indexAddr 1 (.tmp 47) (.const (Go.Value.int Go.IntKind.i64 3)), (some (46, false))⟩,
    ⟨(some 49), .load1 (.tmp 48), (some (46, false))⟩,
    ⟨(some 50), .lenSlice (.tmp 49), (some (46, false))⟩,
    ⟨(some 51), .bin .neq (.tmp 50) (.const (Go.Value.int Go.IntKind.i64 1)), (some (46, false))⟩,
    ⟨(some 52), .pick (.tmp 46) (.const (Go.Value.bool true)) (.tmp 51), none⟩]) (.cond (.tmp 52) (.seq (.region [
    ⟨(some 0), .move (.const (Go.Value.bool false)), none⟩]) (.ret)) (.skip))) (.seq (.region [
    ⟨(some 53), .loadN 4 (.tmp 2), none⟩,
    ⟨(some 54), .build [(Go.Value.int Go.IntKind.i64 0), (Go.Value.string { data := #[] }), (Go.Value.int Go.IntKind.i64 0), (Go.Value.int Go.IntKind.i64 0)] [(0, 1, (.const (Go.Value.int Go.IntKind.i64 14))), (2, 1, (.const (Go.Value.int Go.IntKind.i64 1))), (3, 1, (.const (Go.Value.int Go.IntKind.i64 4)))], none⟩,
    ⟨(some 55), .eq (.agg [(0, .int), (1, .str), (2, .int), (3, .int)]) false (.tmp 53) (.tmp 54), none⟩,
    ⟨(some 56), .move (.tmp 55), none⟩,
    ⟨(some 57), .addr 0 (.tmp 3), (some (56, true))⟩,
    ⟨(some 58), .load1 (.tmp 57), (some (56, true))⟩,
    ⟨(some 59), .bin .eql (.tmp 58) (.const (Go.Value.int Go.IntKind.i64 1)), (some (56, true))⟩,
    ⟨(some 60), .pick (.tmp 56) (.tmp 59) (.const (Go.Value.bool false)), none⟩,
    ⟨(some 61), .move (.tmp 60), none⟩,
    ⟨(some 62), .loadN 4 (.tmp 4), (some (61, true))⟩,
    ⟨(some 63), .build [(Go.Value.int Go.IntKind.i64 0), (Go.Value.string { data := #[] }), (Go.Value.int Go.IntKind.i64 0), (Go.Value.int Go.IntKind.i64 0)] [], (some (61, true))⟩,
    ⟨(some 64), .eq (.agg [(0, .int), (1, .str), (2, .int), (3, .int)]) false (.tmp 62) (.tmp 63), (some (61, true))⟩,
    ⟨(some 65), .pick (.tmp 61) (.tmp 64) (.const (Go.Value.bool false)), none⟩,
    ⟨(some 66), .move (.tmp 65), none⟩,
    ⟨(some 67), .loadN 4 (.tmp 6), (some (66, true))⟩,
    ⟨(some 68), .build [(Go.Value.int Go.IntKind.i64 0), (Go.Value.string { data := #[] }), (Go.Value.int Go.IntKind.i64 0), (Go.Value.int Go.IntKind.i64 0)] [(0, 1, (.const (Go.Value.int Go.IntKind.i64 12))), (1, 1, (.const (Go.Value.string { data := #[102] }))), (2, 1, (.const (Go.Value.int Go.IntKind.i64 1))), (3, 1, (.const (Go.Value.int Go.IntKind.i64 1)))], (some (66, true))⟩,
    ⟨(some 69), .eq (.agg [(0, .int), (1, .str), (2, .int), (3, .int)]) false (.tmp 67) (.tmp 68), (some (66, true))⟩,
    ⟨(some 70), .pick (.tmp 66) (.tmp 69) (.const (Go.Value.bool false)), none⟩,
    ⟨(some 71), .move (.tmp 70), none⟩,
    ⟨(some 72), .move (.tmp 9), (some (71, true))⟩,
    ⟨(some 73), .indexAddr 1 (.tmp 72) (.const (Go.Value.int Go.IntKind.i64 0)), (some (71, true))⟩,
    ⟨(some 74), .load1 (.tmp 73), (some (71, true))⟩,
    ⟨(some 75), .indexAddr 1 (.tmp 74) (.const (Go.Value.int Go.IntKind.i64 0)), (some (71, true))⟩,
    ⟨(some 76), .load1 (.tmp 75), (some (71, true))⟩,
    ⟨(some 77), .bin .eql (.tmp 76) (.const (Go.Value.int Go.IntKind.i64 1)), (some (71, true))⟩,
    ⟨(some 78), .pick (.tmp 71) (.tmp 77) (.const (Go.Value.bool false)), none⟩,
    ⟨(some 79), .move (.tmp 78), none⟩,
    ⟨(some 80), .move (.tmp 9), (some (79, true))⟩,
    ⟨(some 81), .indexAddr 1 (.tmp 80) (.const (Go.Value.int Go.IntKind.i64 3)), (some (79, true))⟩,
    ⟨(some 82), .load1 (.tmp 81), (some (79, true))⟩,
    ⟨(some 83), .indexAddr 1 (.tmp 82) (.const (Go.Value.int Go.IntKind.i64 0)), (some (79, true))⟩,
    ⟨(some 84), .load1 (.tmp 83), (some (79, true))⟩,
    ⟨(some 85), .bin .eql (.tmp 84) (.const (Go.Value.int Go.IntKind.i64 0)), (some (79, true))⟩,
    ⟨(some 86), .pick (.tmp 79) (.tmp 85) (.const (Go.Value.bool false)), none⟩,
    ⟨(some 87), .move (.tmp 86), none⟩,
    ⟨(some 88), .move (.tmp 10), (some (87, true))⟩,
    ⟨(some 89), .indexAddr 1 (.tmp 88) (.const (Go.Value.int Go.IntKind.i64 0)), (some (87, true))⟩,
    ⟨(some 90), .load1 (.tmp 89), (some (87, true))⟩,
    ⟨(some 91), .pick (.tmp 87) (.tmp 90) (.const (Go.Value.bool false)), none⟩,
    ⟨(some 92), .move (.tmp 91), none⟩,
    ⟨(some 93), .move (.tmp 10), (some (92, true))⟩,
    ⟨(some 94), .indexAddr 1 (.tmp 93) (.const (Go.Value.int Go.IntKind.i64 1)), (some (92, true))⟩,
    ⟨(some 95), .load1 (.tmp 94), (some (92, true))⟩,
    ⟨(some 96), .pick (.tmp 92) (.tmp 95) (.const (Go.Value.bool false)), none⟩,
    ⟨(some 97), .move (.tmp 96), none⟩,
    ⟨(some 98), .move (.tmp 10), (some (97, true))⟩,
    ⟨(some 99), .indexAddr 1 (.tmp 98) (.const (Go.Value.int Go.IntKind.i64 2)), (some (97, true))⟩,
    ⟨(some 100), .load1 (.tmp 99), (some (97, true))⟩,
    ⟨(some 101), .un .not (.tmp 100), (some (97, true))⟩,
    ⟨(some 102), .pick (.tmp 97) (.tmp 101) (.const (Go.Value.bool false)), none⟩,
    ⟨(some 0), .move (.tmp 102), none⟩]) (.ret)))))))))⟩
def x10 : XFun := ⟨58, [.tmp 2],
  .seq (.region [
    ⟨(some 1), .box 30 (.tmp 0), none⟩,
    ⟨(some 2), .move (.const (Go.Value.slice none 0 0)), none⟩]) (.seq (.region [
    ⟨(some 3), .move (.const (Go.Value.slice none 0 0)), none⟩]) (.seq (.seq (.region [
    ⟨(some 10), .addr 1 (.tmp 1), none⟩,
    ⟨(some 11), .load1 (.tmp 10), none⟩,
    ⟨(some 12), .lenSlice (.tmp 11), none⟩,
    ⟨(some 13), .bin .add (.tmp 12) (.const (Go.Value.int Go.IntKind.i64 1)), none⟩,
    ⟨(some 14), .move (.const (Go.Value.int Go.IntKind.i64 0)), none⟩]) (.block 0 (.loop (.seq (.region [
    ⟨(some 15), .bin .lss (.tmp 14) (.tmp 13), none⟩]) (.seq (.cond (.tmp 15) (.skip) (.exit 0)) (.seq (.block 1 (.seq (.region [
    ⟨(some 16), .move (.tmp 14), none⟩,
    ⟨(some 4), .move (.tmp 16), none⟩]) (.seq (.region [
    ⟨(some 17), .addr 2 (.tmp 1), none⟩,
    ⟨(some 18), .loadN 8 (.tmp 17), none⟩,
    ⟨(some 5), .alloc 28 [(Go.Value.int Go.IntKind.i64 0), (Go.Value.int Go.IntKind.i64 0), (Go.Value.string { data := #[] }), (Go.Value.slice none 0 0), (Go.Value.slice none 0 0), (Go.Value.slice none 0 0), (Go.Value.int Go.IntKind.i64 0), (Go.Value.int Go.IntKind.i64 0)], none⟩,
    ⟨none, .store 8 (.tmp 5) (.tmp 18), none⟩]) (.seq (.seq (.region [
    ⟨(some 19), .move (.tmp 4), none⟩,
    ⟨(some 20), .addr 1 (.tmp 1), none⟩,
    ⟨(some 21), .load1 (.tmp 20), none⟩,
    ⟨(some 22), .lenSlice (.tmp 21), none⟩,
    ⟨(some 23), .bin .lss (.tmp 19) (.tmp 22), none⟩]) (.cond (.tmp 23) (.region [
    ⟨(some 24), .addr 1 (.tmp 1), none⟩,
    ⟨(some 25), .load1 (.tmp 24), none⟩,
    ⟨(some 26), .move (.tmp 4), none⟩,
    ⟨(some 27), .indexAddr 14 (.tmp 25) (.tmp 26), none⟩,
    ⟨(some 28), .addr 4 (.tmp 27), none⟩,
    ⟨(some 29), .loadN 8 (.tmp 28), none⟩,
    ⟨none, .store 8 (.tmp 5) (.tmp 29), none⟩]) (.skip))) (.seq (.region [
    ⟨(some 30), .addr 1 (.tmp 1), none⟩,
    ⟨(some 31), .load1 (.tmp 30), none⟩,
    ⟨(some 32), .lenSlice (.tmp 31), none⟩,
    ⟨(some 33), .mkSlice 4 [(Go.Value.bool false)] 1 (.tmp 32) (.tmp 32), none⟩,
    ⟨(some 6), .move (.tmp 33), none⟩]) (.seq (.region [
    ⟨(some 34), .loadN 10 (.tmp 1), none⟩,
    ⟨(some 35), .loadN 8 (.tmp 5), none⟩,
    ⟨(some 36), .move (.tmp 6), none⟩,
    ⟨(some 37), .call 26 [(.tmp 34), (.tmp 35), (.tmp 36)], none⟩]) (.seq (.region [
    ⟨(some 38), .buildSlice 3 1 [(Go.Value.int Go.IntKind.i64 0)] 0 [], none⟩,
    ⟨(some 7), .move (.tmp 38), none⟩]) (.seq (.seq (.region [
    ⟨(some 39), .move (.tmp 6), none⟩,
    ⟨(some 40), .lenSlice (.tmp 39), none⟩,
    ⟨(some 41), .move (.const (Go.Value.int Go.IntKind.i64 0)), none⟩]) (.block 2 (.loop (.seq (.region [
    ⟨(some 42), .bin .lss (.tmp 41) (.tmp 40), none⟩]) (.seq (.cond (.tmp 42) (.skip) (.exit 2)) (.seq (.block 3 (.seq (.region [
    ⟨(some 43), .move (.tmp 41), none⟩,
    ⟨(some 44), .indexAddr 1 (.tmp 39) (.tmp 41), none⟩,
    ⟨(some 45), .load1 (.tmp 44), none⟩,
    ⟨(some 8), .move (.tmp 43), none⟩,
    ⟨(some 9), .move (.tmp 45), none⟩]) (.seq (.region [
    ⟨(some 46), .move (.tmp 9), none⟩]) (.cond (.tmp 46) (.region [
    ⟨(some 47), .move (.tmp 7), none⟩,
    ⟨(some 48), .move (.tmp 8), none⟩,
    ⟨(some 49), .buildSlice 3 1 [(Go.Value.int Go.IntKind.i64 0)] 1 [(0, 1, (.tmp 48))], none⟩,
    ⟨(some 50), .append 3 1 8 (.tmp 47) (.tmp 49), none⟩,
    ⟨(some 7), .move (.tmp 50), none⟩]) (.skip))))) (.region [
    ⟨(some 51), .bin .add (.tmp 41) (.const (Go.Value.int Go.IntKind.i64 1)), none⟩,
    ⟨(some 41), .move (.tmp 51), none⟩]))))))) (.region [
    ⟨(some 52), .move (.tmp 3), none⟩,
    ⟨(some 53), .move (.tmp 7), none⟩,
    ⟨(some 54), .buildSlice 25 1 [(Go.Value.slice none 0 0)] 1 [(0, 1, (.tmp 53))], none⟩,
    ⟨(some 55), .append 25 1 24 (.tmp 52) (.tmp 54), none⟩,
    ⟨(some 3), .move (.tmp 55), none⟩]))))))))) (.region [
    ⟨(some 56), .bin .add (.tmp 14) (.const (Go.Value.int Go.IntKind.i64 1)), none⟩,
    ⟨(some 14), .move (.tmp 56), none⟩]))))))) (.seq (.region [
    ⟨(some 57), .move (.tmp 3), none⟩,
    ⟨(some 2), .move (.tmp 57), none⟩]) (.ret))))⟩
def x11 : XFun := ⟨60, [.tmp 2],
  .seq (.region [
    ⟨(some 1), .box 30 (.tmp 0), none⟩,
    ⟨(some 2), .move (.const (Go.Value.slice none 0 0)), none⟩]) (.seq (.region [
    ⟨(some 3), .move (.const (Go.Value.slice none 0 0)), none⟩]) (.seq (.seq (.region [
    ⟨(some 4), .move (.const (Go.Value.int Go.IntKind.i64 0)), none⟩]) (.block 0 (.loop (.seq (.seq (.region [
    ⟨(some 8), .move (.tmp 4), none⟩,
    ⟨(some 9), .addr 1 (.tmp 1), none⟩,
    ⟨(some 10), .load1 (.tmp 9), none⟩,
    ⟨(some 11), .lenSlice (.tmp 10), none⟩,
    ⟨(some 12), .bin .leq (.tmp 8) (.tmp 11), none⟩]) (.cond (.tmp 12) (.skip) (.exit 0))) (.seq (.block 1 (.seq (.region [
    ⟨(some 15), .addr 1 (.tmp 1), none⟩,
    ⟨(some 16), .load1 (.tmp 15), none⟩,
    ⟨(some 17), .lenSlice (.tmp 16), none⟩,
    ⟨(some 18), .mkSlice 4 [(Go.Value.bool false)] 1 (.tmp 17) (.tmp 17), none⟩,
    ⟨(some 5), .move (.tmp 18), none⟩]) (.seq (.seq (.region [
    ⟨(some 19), .move (.tmp 4), none⟩,
    ⟨(some 20), .addr 1 (.tmp 1), none⟩,
    ⟨(some 21), .load1 (.tmp 20), none⟩,
    ⟨(some 22), .lenSlice (.tmp 21), none⟩,
    ⟨(some 23), .bin .lss (.tmp 19) (.tmp 22), none⟩]) (.cond (.tmp 23) (.regionD [
    ⟨(some 24), .addr 1 (.tmp 1), none⟩,
    ⟨(some 25), .load1 (.tmp 24), none⟩,
    ⟨(some 26), .move (.tmp 4), none⟩,
    ⟨(some 27), .indexAddr 14 (.tmp 25) (.tmp 26), none⟩,
    ⟨(some 28), .addr 4 (.tmp 27), none⟩,
    ⟨(some 29), .loadN 8 (.tmp 28), none⟩,
    ⟨(some 30), .addr 1 (.tmp 1), none⟩,
    ⟨(some 31), .load1 (.tmp 30), none⟩,
    ⟨(some 32), .move (.tmp 5), none⟩,
    ⟨(some 33), .call 27 [(.tmp 29), (.tmp 31), (.tmp 32)], none⟩] []) (.region [
    ⟨(some 34), .addr 2 (.tmp 1), none⟩,
    ⟨(some 35), .loadN 8 (.tmp 34), none⟩,
    ⟨(some 36), .addr 1 (.tmp 1), none⟩,
    ⟨(some 37), .load1 (.tmp 36), none⟩,
    ⟨(some 38), .move (.tmp 5), none⟩,
    ⟨(some 39), .call 27 [(.tmp 35), (.tmp 37), (.tmp 38)], none⟩]))) (.seq (.region [
    ⟨(some 40), .buildSlice 3 1 [(Go.Value.int Go.IntKind.i64 0)] 0 [], none⟩,
    ⟨(some 6), .move (.tmp 40), none⟩]) (.seq (.seq (.region [
    ⟨(some 7), .move (.const (Go.Value.int Go.IntKind.i64 0)), none⟩]) (.block 2 (.loop (.seq (.seq (.region [
    ⟨(some 41), .move (.tmp 7), none⟩,
    ⟨(some 42), .move (.tmp 5), none⟩,
    ⟨(some 43), .lenSlice (.tmp 42), none⟩,
    ⟨(some 44), .bin .lss (.tmp 41) (.tmp 43), none⟩]) (.cond (.tmp 44) (.skip) (.exit 2))) (.seq (.block 3 (.seq (.region [
    ⟨(some 47), .move (.tmp 5), none⟩,
    ⟨(some 48), .move (.tmp 7), none⟩,
    ⟨(some 49), .indexAddr 1 (.tmp 47) (.tmp 48), none⟩,
    ⟨(some 50), .load1 (.tmp 49), none⟩]) (.cond (.tmp 50) (.region [
    ⟨(some 51), .move (.tmp 6), none⟩,
    ⟨(some 52), .move (.tmp 7), none⟩,
    ⟨(some 53), .buildSlice 3 1 [(Go.Value.int Go.IntKind.i64 0)] 1 [(0, 1, (.tmp 52))], none⟩,
    ⟨(some 54), .append 3 1 8 (.tmp 51) (.tmp 53), none⟩,
    ⟨(some 6), .move (.tmp 54), none⟩]) (.skip)))) (.region [
    ⟨(some 45), .move (.tmp 7), none⟩,
    ⟨(some 46), .bin .add (.tmp 45) (.const (Go.Value.int Go.IntKind.i64 1)), none⟩,
    ⟨(some 7), .move (.tmp 46), none⟩])))))) (.region [
    ⟨(some 55), .move (.tmp 3), none⟩,
    ⟨(some 56), .move (.tmp 6), none⟩,
    ⟨(some 57), .buildSlice 25 1 [(Go.Value.slice none 0 0)] 1 [(0, 1, (.tmp 56))], none⟩,
    ⟨(some 58), .append 25 1 24 (.tmp 55) (.tmp 57), none⟩,
    ⟨(some 3), .move (.tmp 58), none⟩])))))) (.region [
    ⟨(some 13), .move (.tmp 4), none⟩,
    ⟨(some 14), .bin .add (.tmp 13) (.const (Go.Value.int Go.IntKind.i64 1)), none⟩,
    ⟨(some 4), .move (.tmp 14), none⟩])))))) (.seq (.region [
    ⟨(some 59), .move (.tmp 3), none⟩,
    ⟨(some 2), .move (.tmp 59), none⟩]) (.ret))))⟩
def x12 : XFun := ⟨22, [.tmp 2],
  .seq (.region [
    ⟨(some 1), .box 30 (.tmp 0), none⟩,
    ⟨(some 2), .move (.const (Go.Value.slice none 0 0)), none⟩]) (.seq (.region [
    ⟨(some 6), .loadN 10 (.tmp 1), none⟩,
    ⟨(some 7), .call 10 [(.tmp 6)], none⟩,
    ⟨(some 3), .alloc 33 [(Go.Value.slice none 0 0)], none⟩,
    ⟨none, .store 1 (.tmp 3) (.tmp 7), none⟩]) (.seq (.region [
    ⟨(some 8), .addr 1 (.tmp 1), none⟩,
    ⟨(some 9), .load1 (.tmp 8), none⟩,
    ⟨(some 10), .lenSlice (.tmp 9), none⟩,
    ⟨(some 11), .mkSlice 4 [(Go.Value.bool false)] 1 (.tmp 10) (.tmp 10), none⟩,
    ⟨(some 4), .alloc 35 [(Go.Value.slice none 0 0)], none⟩,
    ⟨none, .store 1 (.tmp 4) (.tmp 11), none⟩]) (.seq (.region [
    ⟨(some 5), .alloc 65 [Go.Value.nilFunc], none⟩]) (.seq (.region [
    ⟨(some 12), .mkFunc (Go.Fn.func 28) [] [(.tmp 4), (.tmp 5), (.tmp 3)], none⟩,
    ⟨none, .store 1 (.tmp 5) (.tmp 12), none⟩]) (.seq (.regionD [
    ⟨(some 13), .load1 (.tmp 5), none⟩,
    ⟨(some 14), .load1 (.tmp 3), none⟩,
    ⟨(some 15), .addr 1 (.tmp 1), none⟩,
    ⟨(some 16), .load1 (.tmp 15), none⟩,
    ⟨(some 17), .lenSlice (.tmp 16), none⟩,
    ⟨(some 18), .indexAddr 1 (.tmp 14) (.tmp 17), none⟩,
    ⟨(some 19), .load1 (.tmp 18), none⟩,
    ⟨(some 20), .callV (.tmp 13) [(.tmp 19)], none⟩] []) (.seq (.region [
    ⟨(some 21), .load1 (.tmp 4), none⟩,
    ⟨(some 2), .move (.tmp 21), none⟩]) (.ret)))))))⟩
def x13 : XFun := ⟨45, [.tmp 2],
  .seq (.region [
    ⟨(some 1), .box 30 (.tmp 0), none⟩,
    ⟨(some 2), .move (.const (Go.Value.slice none 0 0)), none⟩]) (.seq (.region [
    ⟨(some 8), .loadN 10 (.tmp 1), none⟩,
    ⟨(some 9), .call 11 [(.tmp 8)], none⟩,
    ⟨(some 3), .move (.tmp 9), none⟩]) (.seq (.region [
    ⟨(some 10), .addr 1 (.tmp 1), none⟩,
    ⟨(some 11), .load1 (.tmp 10), none⟩,
    ⟨(some 12), .lenSlice (.tmp 11), none⟩,
    ⟨(some 13), .mkSlice 4 [(Go.Value.bool false)] 1 (.tmp 12) (.tmp 12), none⟩,
    ⟨(some 4), .move (.tmp 13), none⟩]) (.seq (.region [
    ⟨(some 14), .move (.tmp 3), none⟩,
    ⟨(some 15), .addr 1 (.tmp 1), none⟩,
    ⟨(some 16), .load1 (.tmp 15), none⟩,
    ⟨(some 17), .lenSlice (.tmp 16), none⟩,
    ⟨(some 18), .indexAddr 1 (.tmp 14) (.tmp 17), none⟩,
    ⟨(some 19), .load1 (.tmp 18), none⟩,
    ⟨(some 5), .move (.tmp 19), none⟩]) (.seq (.seq (.region [
    ⟨(some 6), .move (.const (Go.Value.int Go.IntKind.i64 0)), none⟩]) (.block 0 (.loop (.seq (.seq (.region [
    ⟨(some 20), .move (.tmp 6), none⟩,
    ⟨(some 21), .move (.tmp 5), none⟩,
    ⟨(some 22), .lenSlice (.tmp 21), none⟩,
    ⟨(some 23), .bin .lss (.tmp 20) (.tmp 22), none⟩]) (.cond (.tmp 23) (.skip) (.exit 0))) (.seq (.block 1 (.seq (.region [
    ⟨(some 26), .move (.tmp 5), none⟩,
    ⟨(some 27), .move (.tmp 6), none⟩,
    ⟨(some 28), .indexAddr 1 (.tmp 26) (.tmp 27), none⟩,
    ⟨(some 29), .load1 (.tmp 28), none⟩,
    ⟨(some 7), .move (.tmp 29), none⟩]) (.seq (.region [
    ⟨(some 30), .move (.tmp 4), none⟩,
    ⟨(some 31), .move (.tmp 7), none⟩,
    ⟨(some 32), .indexAddr 1 (.tmp 30) (.tmp 31), none⟩,
    ⟨(some 33), .load1 (.tmp 32), none⟩,
    ⟨(some 34), .un .not (.tmp 33), none⟩]) (.cond (.tmp 34) (.seq (.region [
    ⟨(some 35), .move (.tmp 4), none⟩,
    ⟨(some 36), .move (.tmp 7), none⟩,
    ⟨(some 37), .indexAddr 1 (.tmp 35) (.tmp 36), none⟩,
    ⟨none, .store 1 (.tmp 37) (.const (Go.Value.bool true)), none⟩]) (.region [
    ⟨(some 38), .move (.tmp 5), none⟩,
    ⟨(some 39), .move (.tmp 3), none⟩,
    ⟨(some 40), .move (.tmp 7), none⟩,
    ⟨(some 41), .indexAddr 1 (.tmp 39) (.tmp 40), none⟩,
    ⟨(some 42), .load1 (.tmp 41), none⟩,
    ⟨(some 43), .append 3 1 8 (.tmp 38) (.tmp 42), none⟩,
    ⟨(some 5), .move (.tmp 43), none⟩])) (.skip))))) (.region [
    ⟨(some 24), .move (.tmp 6), none⟩,
    ⟨(some 25), .bin .add (.tmp 24) (.const (Go.Value.int Go.IntKind.i64 1)), none⟩,
    ⟨(some 6), .move (.tmp 25), none⟩])))))) (.seq (.region [
    ⟨(some 44), .move (.tmp 4), none⟩,
    ⟨(some 2), .move (.tmp 44), none⟩]) (.ret))))))⟩
def x14 : XFun := ⟨21, [.cellN 2 10, .cellN 3 4],
  .seq (.region [
    ⟨(some 2), .alloc 30 [(Go.Value.slice none 0 0), (Go.Value.slice none 0 0), (Go.Value.int Go.IntKind.i64 0), (Go.Value.int Go.IntKind.i64 0), (Go.Value.string { data := #[] }), (Go.Value.slice none 0 0), (Go.Value.slice none 0 0), (Go.Value.slice none 0 0), (Go.Value.int Go.IntKind.i64 0), (Go.Value.int Go.IntKind.i64 0)], none⟩,
    ⟨(some 3), .alloc 40 [(Go.Value.int Go.IntKind.i64 0), (Go.Value.string { data := #[] }), (Go.Value.int Go.IntKind.i64 0), (Go.Value.int Go.IntKind.i64 0)], none⟩]) (.seq (.region [
    ⟨(some 4), .alloc 30 [(Go.Value.slice none 0 0), (Go.Value.slice none 0 0), (Go.Value.int Go.IntKind.i64 0), (Go.Value.int Go.IntKind.i64 0), (Go.Value.string { data := #[] }), (Go.Value.slice none 0 0), (Go.Value.slice none 0 0), (Go.Value.slice none 0 0), (Go.Value.int Go.IntKind.i64 0), (Go.Value.int Go.IntKind.i64 0)], none⟩]) (.seq (.region [
    ⟨(some 6), .move (.tmp 0), none⟩,
    ⟨(some 7), .mkFunc (Go.Fn.func 30) [] [(.tmp 4)], none⟩,
    ⟨(some 8), .call 29 [(.tmp 6), (.tmp 7)], none⟩,
    ⟨(some 5), .alloc 40 [(Go.Value.int Go.IntKind.i64 0), (Go.Value.string { data := #[] }), (Go.Value.int Go.IntKind.i64 0), (Go.Value.int Go.IntKind.i64 0)], none⟩,
    ⟨none, .store 4 (.tmp 5) (.tmp 8), none⟩]) (.seq (.seq (.region [
    ⟨(some 9), .addr 0 (.tmp 5), none⟩,
    ⟨(some 10), .load1 (.tmp 9), none⟩,
    ⟨(some 11), .bin .eql (.tmp 10) (.const (Go.Value.int Go.IntKind.i64 0)), none⟩]) (.cond (.tmp 11) (.region [
    ⟨(some 12), .loadN 10 (.tmp 4), none⟩,
    ⟨(some 13), .call 32 [(.tmp 12)], none⟩,
    ⟨none, .store 4 (.tmp 5) (.tmp 13), none⟩]) (.skip))) (.seq (.seq (.region [
    ⟨(some 14), .addr 0 (.tmp 5), none⟩,
    ⟨(some 15), .load1 (.tmp 14), none⟩,
    ⟨(some 16), .bin .neq (.tmp 15) (.const (Go.Value.int Go.IntKind.i64 0)), none⟩]) (.cond (.tmp 16) (.seq (.regionD [
    ⟨(some 17), .build [(Go.Value.slice none 0 0), (Go.Value.slice none 0 0), (Go.Value.int Go.IntKind.i64 0), (Go.Value.int Go.IntKind.i64 0), (Go.Value.string { data := #[] }), (Go.Value.slice none 0 0), (Go.Value.slice none 0 0), (Go.Value.slice none 0 0), (Go.Value.int Go.IntKind.i64 0), (Go.Value.int Go.IntKind.i64 0)] [], none⟩,
    ⟨(some 18), .loadN 4 (.tmp 5), none⟩,
    ⟨none, .store 10 (.tmp 2) (.tmp 17), none⟩,
    ⟨none, .store 4 (.tmp 3) (.tmp 18), none⟩] [(1, 2)]) (.ret)) (.skip))) (.seq (.regionD [
    ⟨(some 19), .loadN 10 (.tmp 4), none⟩,
    ⟨(some 20), .loadN 4 (.tmp 5), none⟩,
    ⟨none, .store 10 (.tmp 2) (.tmp 19), none⟩,
    ⟨none, .store 4 (.tmp 3) (.tmp 20), none⟩] [(1, 2)]) (.ret))))))⟩
def x15 : XFun := ⟨143, [.cellN 2 2, .cellN 3 4],
  .seq (.region [
    ⟨(some 1), .box 30 (.tmp 0), none⟩,
    ⟨(some 2), .alloc 45 [(Go.Value.int Go.IntKind.i64 0), (Go.Value.slice none 0 0)], none⟩,
    ⟨(some 3), .alloc 40 [(Go.Value.int Go.IntKind.i64 0), (Go.Value.string { data := #[] }), (Go.Value.int Go.IntKind.i64 0), (Go.Value.int Go.IntKind.i64 0)], none⟩]) (.seq (.region [
    ⟨(some 14), .mkFunc (Go.Fn.func 33) [] [(.tmp 2), (.tmp 3)], none⟩,
    ⟨none, .defer (.tmp 14) [], none⟩]) (.seq (.seq (.region [
    ⟨(some 15), .addr 0 (.tmp 1), none⟩,
    ⟨(some 16), .load1 (.tmp 15), none⟩,
    ⟨(some 17), .lenSlice (.tmp 16), none⟩,
    ⟨(some 18), .bin .gtr (.tmp 17) (.const (Go.Value.int Go.IntKind.i64 8)), none⟩,
    ⟨(some 19), .move (.tmp 18), none⟩,
    ⟨(some 20), .addr 1 (.tmp 1), (some (19, false))⟩,
    ⟨(some 21), .load1 (.tmp 20), (some (19, false))⟩,
    ⟨(some 22), .lenSlice (.tmp 21), (some (19, false))⟩,
    ⟨(some 23), .bin .gtr (.tmp 22) (.const (Go.Value.int Go.IntKind.i64 40)), (some (19, false))⟩,
    ⟨(some 24), .pick (.tmp 19) (.const (Go.Value.bool true)) (.tmp 23), none⟩]) (.cond (.tmp 24) (.region [
    ⟨(some 25), .call 34 [(.const (Go.Value.int Go.IntKind.i64 2)), (.const (Go.Value.string { data := #[] })), (.const (Go.Value.int Go.IntKind.i64 0)), (.const (Go.Value.int Go.IntKind.i64 0))], none⟩]) (.skip))) (.seq (.region [
    ⟨(some 26), .addr 0 (.tmp 1), none⟩,
    ⟨(some 27), .load1 (.tmp 26), none⟩,
    ⟨(some 28), .call 35 [(.tmp 27)], none⟩,
    ⟨(some 4), .move (.tmp 28), none⟩]) (.seq (.region [
    ⟨(some 5), .move (.const (Go.Value.slice none 0 0)), none⟩]) (.seq (.seq (.region [
    ⟨(some 29), .addr 1 (.tmp 1), none⟩,
    ⟨(some 30), .load1 (.tmp 29), none⟩,
    ⟨(some 31), .lenSlice (.tmp 30), none⟩,
    ⟨(some 32), .move (.const (Go.Value.int Go.IntKind.i64 0)), none⟩]) (.block 0 (.loop (.seq (.region [
    ⟨(some 33), .bin .lss (.tmp 32) (.tmp 31), none⟩]) (.seq (.cond (.tmp 33) (.skip) (.exit 0)) (.seq (.block 1 (.seq (.region [
    ⟨(some 34), .move (.tmp 32), none⟩,
    ⟨(some 35), .indexAddr 14 (.tmp 30) (.tmp 32), none⟩,
    ⟨(some 36), .loadN 14 (.tmp 35), none⟩,
    ⟨(some 7), .alloc 56 [(Go.Value.string { data := #[] }), (Go.Value.slice none 0 0), (Go.Value.int Go.IntKind.i64 0), (Go.Value.slice none 0 0), (Go.Value.int Go.IntKind.i64 0), (Go.Value.int Go.IntKind.i64 0), (Go.Value.string { data := #[] }), (Go.Value.slice none 0 0), (Go.Value.slice none 0 0), (Go.Value.slice none 0 0), (Go.Value.int Go.IntKind.i64 0), (Go.Value.int Go.IntKind.i64 0), (Go.Value.int Go.IntKind.i64 0), (Go.Value.int Go.IntKind.i64 0)], none⟩,
    ⟨(some 6), .move (.tmp 34), none⟩,
    ⟨none, .store 14 (.tmp 7) (.tmp 36), none⟩]) (.seq (.seq (.region [
    ⟨(some 37), .addr 0 (.tmp 7), none⟩,
    ⟨(some 38), .load1 (.tmp 37), none⟩,
    ⟨(some 39), .call 36 [(.tmp 38)], none⟩,
    ⟨(some 40), .un .not (.tmp 39), none⟩]) (.cond (.tmp 40) (.region [
    ⟨(some 41), .addr 0 (.tmp 7), none⟩,
    ⟨(some 42), .load1 (.tmp 41), none⟩,
    ⟨(some 43), .addr 12 (.tmp 7), none⟩,
    ⟨(some 44), .load1 (.tmp 43), none⟩,
    ⟨(some 45), .addr 13 (.tmp 7), none⟩,
    ⟨(some 46), .load1 (.tmp 45), none⟩,
    ⟨(some 47), .call 34 [(.const (Go.Value.int Go.IntKind.i64 12)), (.tmp 42), (.tmp 44), (.tmp 46)], none⟩]) (.skip))) (.seq (.seq (.region [
    ⟨(some 48), .addr 1 (.tmp 1), none⟩,
    ⟨(some 49), .load1 (.tmp 48), none⟩,
    ⟨(some 50), .move (.tmp 6), none⟩,
    ⟨(some 51), .slice 14 (.tmp 49) none (some (.tmp 50)) none, none⟩,
    ⟨(some 52), .lenSlice (.tmp 51), none⟩,
    ⟨(some 53), .move (.const (Go.Value.int Go.IntKind.i64 0)), none⟩]) (.block 2 (.loop (.seq (.region [
    ⟨(some 54), .bin .lss (.tmp 53) (.tmp 52), none⟩]) (.seq (.cond (.tmp 54) (.skip) (.exit 2)) (.seq (.block 3 (.seq (.region [
    ⟨(some 55), .indexAddr 14 (.tmp 51) (.tmp 53), none⟩,
    ⟨(some 56), .loadN 14 (.tmp 55), none⟩,
    ⟨(some 9), .alloc 56 [(Go.Value.string { data := #[] }), (Go.Value.slice none 0 0), (Go.Value.int Go.IntKind.i64 0), (Go.Value.slice none 0 0), (Go.Value.int Go.IntKind.i64 0), (Go.Value.int Go.IntKind.i64 0), (Go.Value.string { data := #[] }), (Go.Value.slice none 0 0), (Go.Value.slice none 0 0), (Go.Value.slice none 0 0), (Go.Value.int Go.IntKind.i64 0), (Go.Value.int Go.IntKind.i64 0), (Go.Value.int Go.IntKind.i64 0), (Go.Value.int Go.IntKind.i64 0)], none⟩,
    ⟨none, .store 14 (.tmp 9) (.tmp 56), none⟩]) (.seq (.region [
    ⟨(some 57), .addr 0 (.tmp 9), none⟩,
    ⟨(some 58), .load1 (.tmp 57), none⟩,
    ⟨(some 59), .addr 0 (.tmp 7), none⟩,
    ⟨(some 60), .load1 (.tmp 59), none⟩,
    ⟨(some 61), .bin .eql (.tmp 58) (.tmp 60), none⟩]) (.cond (.tmp 61) (.region [
    ⟨(some 62), .addr 0 (.tmp 7), none⟩,
    ⟨(some 63), .load1 (.tmp 62), none⟩,
    ⟨(some 64), .addr 12 (.tmp 7), none⟩,
    ⟨(some 65), .load1 (.tmp 64), none⟩,
    ⟨(some 66), .addr 13 (.tmp 7), none⟩,
    ⟨(some 67), .load1 (.tmp 66), none⟩,
    ⟨(some 68), .call 34 [(.const (Go.Value.int Go.IntKind.i64 13)), (.tmp 63), (.tmp 65), (.tmp 67)], none⟩]) (.skip))))) (.region [
    ⟨(some 69), .bin .add (.tmp 53) (.const (Go.Value.int Go.IntKind.i64 1)), none⟩,
    ⟨(some 53), .move (.tmp 69), none⟩]))))))) (.seq (.seq (.region [
    ⟨(some 70), .addr 1 (.tmp 7), none⟩,
    ⟨(some 71), .load1 (.tmp 70), none⟩,
    ⟨(some 72), .lenSlice (.tmp 71), none⟩,
    ⟨(some 73), .bin .gtr (.tmp 72) (.const (Go.Value.int Go.IntKind.i64 8)), none⟩]) (.cond (.tmp 73) (.region [
    ⟨(some 74), .addr 0 (.tmp 7), none⟩,
    ⟨(some 75), .load1 (.tmp 74), none⟩,
    ⟨(some 76), .addr 12 (.tmp 7), none⟩,
    ⟨(some 77), .load1 (.tmp 76), none⟩,
    ⟨(some 78), .addr 13 (.tmp 7), none⟩,
    ⟨(some 79), .load1 (.tmp 78), none⟩,
    ⟨(some 80), .call 34 [(.const (Go.Value.int Go.IntKind.i64 2)), (.tmp 75), (.tmp 77), (.tmp 79)], none⟩]) (.skip))) (.seq (.region [
    ⟨(some 81), .move (.tmp 5), none⟩,
    ⟨(some 82), .addr 1 (.tmp 7), none⟩,
    ⟨(some 83), .load1 (.tmp 82), none⟩,
    ⟨(some 84), .call 35 [(.tmp 83)], none⟩,
    ⟨(some 85), .buildSlice 73 1 [(Go.Value.slice none 0 0)] 1 [(0, 1, (.tmp 84))], none⟩,
    ⟨(some 86), .append 73 1 24 (.tmp 81) (.tmp 85), none⟩,
    ⟨(some 5), .move (.tmp 86), none⟩]) (.seq (.region [
    ⟨(some 87), .addr 2 (.tmp 7), none⟩,
    ⟨(some 88), .loadN 2 (.tmp 87), none⟩,
    ⟨(some 89), .call 37 [(.tmp 88)], none⟩,
    ⟨(some 90), .un .not (.tmp 89), none⟩]) (.cond (.tmp 90) (.region [
    ⟨(some 91), .addr 0 (.tmp 7), none⟩,
    ⟨(some 92), .load1 (.tmp 91), none⟩,
    ⟨(some 93), .addr 12 (.tmp 7), none⟩,
    ⟨(some 94), .load1 (.tmp 93), none⟩,
    ⟨(some 95), .addr 13 (.tmp 7), none⟩,
    ⟨(some 96), .load1 (.tmp 95), none⟩,
    ⟨(some 97), .call 34 [(.const (Go.Value.int Go.IntKind.i64 14)), (.tmp 92), (.tmp 94), (.tmp 96)], none⟩]) (.skip))))))))) (.region [
    ⟨(some 98), .bin .add (.tmp 32) (.const (Go.Value.int Go.IntKind.i64 1)), none⟩,
    ⟨(some 32), .move (.tmp 98), none⟩]))))))) (.seq (.region [
    ⟨(some 99), .loadN 10 (.tmp 1), none⟩,
    ⟨(some 100), .build [(Go.Value.slice none 0 0), (Go.Value.slice none 0 0), (Go.Value.int Go.IntKind.i64 0), (Go.Value.int Go.IntKind.i64 0), (Go.Value.string { data := #[] }), (Go.Value.slice none 0 0), (Go.Value.slice none 0 0), (Go.Value.slice none 0 0), (Go.Value.int Go.IntKind.i64 0), (Go.Value.int Go.IntKind.i64 0)] [(0, 10, (.tmp 99))], none⟩,
    ⟨(some 101), .box 79 (.tmp 100), none⟩,
    ⟨(some 10), .move (.tmp 101), none⟩]) (.seq (.seq (.region [
    ⟨(some 102), .addr 1 (.tmp 1), none⟩,
    ⟨(some 103), .load1 (.tmp 102), none⟩,
    ⟨(some 104), .lenSlice (.tmp 103), none⟩,
    ⟨(some 105), .move (.const (Go.Value.int Go.IntKind.i64 0)), none⟩]) (.block 4 (.loop (.seq (.region [
    ⟨(some 106), .bin .lss (.tmp 105) (.tmp 104), none⟩]) (.seq (.cond (.tmp 106) (.skip) (.exit 4)) (.seq (.block 5 (.seq (.region [
    ⟨(some 107), .move (.tmp 105), none⟩,
    ⟨(some 108), .indexAddr 14 (.tmp 103) (.tmp 105), none⟩,
    ⟨(some 109), .loadN 14 (.tmp 108), none⟩,
    ⟨(some 12), .alloc 56 [(Go.Value.string { data := #[] }), (Go.Value.slice none 0 0), (Go.Value.int Go.IntKind.i64 0), (Go.Value.slice none 0 0), (Go.Value.int Go.IntKind.i64 0), (Go.Value.int Go.IntKind.i64 0), (Go.Value.string { data := #[] }), (Go.Value.slice none 0 0), (Go.Value.slice none 0 0), (Go.Value.slice none 0 0), (Go.Value.int Go.IntKind.i64 0), (Go.Value.int Go.IntKind.i64 0), (Go.Value.int Go.IntKind.i64 0), (Go.Value.int Go.IntKind.i64 0)], none⟩,
    ⟨(some 11), .move (.tmp 107), none⟩,
    ⟨none, .store 14 (.tmp 12) (.tmp 109), none⟩]) (.regionD [
    ⟨(some 110), .move (.tmp 10), none⟩,
    ⟨(some 111), .addr 4 (.tmp 12), none⟩,
    ⟨(some 112), .loadN 8 (.tmp 111), none⟩,
    ⟨(some 113), .move (.tmp 5), none⟩,
    ⟨(some 114), .move (.tmp 11), none⟩,
    ⟨(some 115), .indexAddr 1 (.tmp 113) (.tmp 114), none⟩,
    ⟨(some 116), .load1 (.tmp 115), none⟩,
    ⟨(some 117), .addr 2 (.tmp 12), none⟩,
    ⟨(some 118), .loadN 2 (.tmp 117), none⟩,
    ⟨(some 119), .call 39 [(.tmp 118)], none⟩,
    ⟨(some 120), .call 38 [(.tmp 110), (.tmp 112), (.tmp 116), (.tmp 119)], none⟩] [(2, 9), (6, 9)]))) (.region [
    ⟨(some 121), .bin .add (.tmp 105) (.const (Go.Value.int Go.IntKind.i64 1)), none⟩,
    ⟨(some 105), .move (.tmp 121), none⟩]))))))) (.seq (.region [
    ⟨(some 122), .call 40 [], none⟩,
    ⟨(some 13), .move (.tmp 122), none⟩]) (.seq (.region [
    ⟨(some 123), .move (.tmp 10), none⟩,
    ⟨(some 124), .addr 2 (.tmp 1), none⟩,
    ⟨(some 125), .loadN 8 (.tmp 124), none⟩,
    ⟨(some 126), .move (.tmp 4), none⟩,
    ⟨(some 127), .move (.tmp 13), none⟩,
    ⟨(some 128), .call 38 [(.tmp 123), (.tmp 125), (.tmp 126), (.tmp 127)], none⟩]) (.seq (.seq (.region [
    ⟨(some 129), .move (.tmp 13), none⟩,
    ⟨(some 130), .mkMap, none⟩,
    ⟨(some 131), .call 41 [(.tmp 129), (.tmp 130)], none⟩,
    ⟨(some 132), .bin .gtr (.tmp 131) (.const (Go.Value.int Go.IntKind.i64 40)), none⟩,
    ⟨(some 133), .move (.tmp 132), none⟩,
    ⟨(some 134), .move (.tmp 13), (some (133, false))⟩,
    ⟨(some 135), .mkMap, (some (133, false))⟩,
    ⟨(some 136), .call 42 [(.tmp 134), (.tmp 135)], (some (133, false))⟩,
    ⟨(some 137), .bin .gtr (.tmp 136) (.const (Go.Value.int Go.IntKind.i64 1000)), (some (133, false))⟩,
    ⟨(some 138), .pick (.tmp 133) (.const (Go.Value.bool true)) (.tmp 137), none⟩]) (.cond (.tmp 138) (.region [
    ⟨(some 139), .call 34 [(.const (Go.Value.int Go.IntKind.i64 2)), (.const (Go.Value.string { data := #[] })), (.const (Go.Value.int Go.IntKind.i64 0)), (.const (Go.Value.int Go.IntKind.i64 0))], none⟩]) (.skip))) (.seq (.region [
    ⟨(some 140), .move (.tmp 13), none⟩,
    ⟨(some 141), .call 43 [(.tmp 140)], none⟩,
    ⟨(some 142), .build [(Go.Value.int Go.IntKind.i64 0), (Go.Value.string { data := #[] }), (Go.Value.int Go.IntKind.i64 0), (Go.Value.int Go.IntKind.i64 0)] [], none⟩,
    ⟨none, .store 2 (.tmp 2) (.tmp 141), none⟩,
    ⟨none, .store 4 (.tmp 3) (.tmp 142), none⟩]) (.ret))))))))))))⟩
def x20 : XFun := ⟨23, [.tmp 4],
  .seq (.region [
    ⟨(some 4), .move (.const (Go.Value.bool false)), none⟩]) (.seq (.region [
    ⟨(some 5), .move (.const (Go.Value.int Go.IntKind.i64 0)), none⟩]) (.seq (.seq (.region [
    ⟨(some 6), .move (.const (Go.Value.int Go.IntKind.i64 0)), none⟩]) (.block 0 (.loop (.seq (.seq (.region [
    ⟨(some 7), .move (.tmp 6), none⟩,
    ⟨(some 8), .move (.tmp 1), none⟩,
    ⟨(some 9), .lenSlice (.tmp 8), none⟩,
    ⟨(some 10), .bin .lss (.tmp 7) (.tmp 9), none⟩]) (.cond (.tmp 10) (.skip) (.exit 0))) (.seq (.block 1 (.region [
    ⟨(some 13), .move (.tmp 1), none⟩,
    ⟨(some 14), .move (.tmp 6), none⟩,
    ⟨(some 15), .indexAddr 2 (.tmp 13) (.tmp 14), none⟩,
    ⟨(some 16), .loadN 2 (.tmp 15), none⟩,
    ⟨(some 17), .move (.tmp 5), none⟩,
    ⟨(some 18), .move (.tmp 0), none⟩,
    ⟨(some 19), .call 47 [(.tmp 16), (.tmp 17), (.tmp 18)], none⟩,
    ⟨(some 5), .move (.tmp 19), none⟩])) (.region [
    ⟨(some 11), .move (.tmp 6), none⟩,
    ⟨(some 12), .bin .add (.tmp 11) (.const (Go.Value.int Go.IntKind.i64 1)), none⟩,
    ⟨(some 6), .move (.tmp 12), none⟩])))))) (.seq (.region [
    ⟨(some 20), .move (.tmp 5), none⟩,
    ⟨(some 21), .move (.tmp 0), none⟩,
    ⟨(some 22), .bin .leq (.tmp 20) (.tmp 21), none⟩,
    ⟨(some 4), .move (.tmp 22), none⟩]) (.ret))))⟩
def x24 : XFun := ⟨23, [.tmp 4],
  .seq (.region [
    ⟨(some 4), .move (.const (Go.Value.bool false)), none⟩]) (.seq (.region [
    ⟨(some 5), .move (.const (Go.Value.int Go.IntKind.i64 0)), none⟩]) (.seq (.seq (.region [
    ⟨(some 6), .move (.const (Go.Value.int Go.IntKind.i64 0)), none⟩]) (.block 0 (.loop (.seq (.seq (.region [
    ⟨(some 7), .move (.tmp 6), none⟩,
    ⟨(some 8), .move (.tmp 1), none⟩,
    ⟨(some 9), .lenSlice (.tmp 8), none⟩,
    ⟨(some 10), .bin .lss (.tmp 7) (.tmp 9), none⟩]) (.cond (.tmp 10) (.skip) (.exit 0))) (.seq (.block 1 (.region [
    ⟨(some 13), .move (.tmp 1), none⟩,
    ⟨(some 14), .move (.tmp 6), none⟩,
    ⟨(some 15), .indexAddr 8 (.tmp 13) (.tmp 14), none⟩,
    ⟨(some 16), .loadN 8 (.tmp 15), none⟩,
    ⟨(some 17), .move (.tmp 5), none⟩,
    ⟨(some 18), .move (.tmp 0), none⟩,
    ⟨(some 19), .call 48 [(.tmp 16), (.tmp 17), (.tmp 18)], none⟩,
    ⟨(some 5), .move (.tmp 19), none⟩])) (.region [
    ⟨(some 11), .move (.tmp 6), none⟩,
    ⟨(some 12), .bin .add (.tmp 11) (.const (Go.Value.int Go.IntKind.i64 1)), none⟩,
    ⟨(some 6), .move (.tmp 12), none⟩])))))) (.seq (.region [
    ⟨(some 20), .move (.tmp 5), none⟩,
    ⟨(some 21), .move (.tmp 0), none⟩,
    ⟨(some 22), .bin .leq (.tmp 20) (.tmp 21), none⟩,
    ⟨(some 4), .move (.tmp 22), none⟩]) (.ret))))⟩
def x25 : XFun := ⟨15, [.cellN 2 2, .cellN 3 4],
  .seq (.region [
    ⟨(some 2), .alloc 45 [(Go.Value.int Go.IntKind.i64 0), (Go.Value.slice none 0 0)], none⟩,
    ⟨(some 3), .alloc 40 [(Go.Value.int Go.IntKind.i64 0), (Go.Value.string { data := #[] }), (Go.Value.int Go.IntKind.i64 0), (Go.Value.int Go.IntKind.i64 0)], none⟩]) (.seq (.region [
    ⟨(some 7), .move (.tmp 0), none⟩,
    ⟨(some 8), .call 14 [(.tmp 7)], none⟩,
    ⟨(some 6), .move (.tmp 8), none⟩,
    ⟨(some 9), .extract (.tmp 6) 0, none⟩,
    ⟨(some 10), .extract (.tmp 6) 1, none⟩,
    ⟨(some 4), .alloc 30 [(Go.Value.slice none 0 0), (Go.Value.slice none 0 0), (Go.Value.int Go.IntKind.i64 0), (Go.Value.int Go.IntKind.i64 0), (Go.Value.string { data := #[] }), (Go.Value.slice none 0 0), (Go.Value.slice none 0 0), (Go.Value.slice none 0 0), (Go.Value.int Go.IntKind.i64 0), (Go.Value.int Go.IntKind.i64 0)], none⟩,
    ⟨(some 5), .alloc 40 [(Go.Value.int Go.IntKind.i64 0), (Go.Value.string { data := #[] }), (Go.Value.int Go.IntKind.i64 0), (Go.Value.int Go.IntKind.i64 0)], none⟩,
    ⟨none, .store 10 (.tmp 4) (.tmp 9), none⟩,
    ⟨none, .store 4 (.tmp 5) (.tmp 10), none⟩]) (.seq (.region [
    ⟨(some 11), .loadN 10 (.tmp 4), none⟩,
    ⟨(some 12), .call 15 [(.tmp 11)], none⟩,
    ⟨(some 13), .extract (.tmp 12) 0, none⟩,
    ⟨(some 14), .extract (.tmp 12) 1, none⟩,
    ⟨none, .store 2 (.tmp 2) (.tmp 13), none⟩,
    ⟨none, .store 4 (.tmp 3) (.tmp 14), none⟩]) (.ret)))⟩
def x26 : XFun := ⟨42, [],
  .seq (.region [
    ⟨(some 3), .box 30 (.tmp 0), none⟩,
    ⟨(some 4), .box 28 (.tmp 1), none⟩]) (.seq (.seq (.region [
    ⟨(some 10), .addr 0 (.tmp 4), none⟩,
    ⟨(some 11), .load1 (.tmp 10), none⟩,
    ⟨(some 12), .bin .eql (.tmp 11) (.const (Go.Value.int Go.IntKind.i64 4)), none⟩]) (.cond (.tmp 12) (.seq (.region [
    ⟨(some 13), .addr 1 (.tmp 3), none⟩,
    ⟨(some 14), .load1 (.tmp 13), none⟩,
    ⟨(some 15), .lenSlice (.tmp 14), none⟩,
    ⟨(some 16), .move (.const (Go.Value.int Go.IntKind.i64 0)), none⟩]) (.block 0 (.loop (.seq (.region [
    ⟨(some 17), .bin .lss (.tmp 16) (.tmp 15), none⟩]) (.seq (.cond (.tmp 17) (.skip) (.exit 0)) (.seq (.block 1 (.seq (.region [
    ⟨(some 18), .move (.tmp 16), none⟩,
    ⟨(some 19), .indexAddr 14 (.tmp 14) (.tmp 16), none⟩,
    ⟨(some 20), .loadN 14 (.tmp 19), none⟩,
    ⟨(some 7), .alloc 56 [(Go.Value.string { data := #[] }), (Go.Value.slice none 0 0), (Go.Value.int Go.IntKind.i64 0), (Go.Value.slice none 0 0), (Go.Value.int Go.IntKind.i64 0), (Go.Value.int Go.IntKind.i64 0), (Go.Value.string { data := #[] }), (Go.Value.slice none 0 0), (Go.Value.slice none 0 0), (Go.Value.slice none 0 0), (Go.Value.int Go.IntKind.i64 0), (Go.Value.int Go.IntKind.i64 0), (Go.Value.int Go.IntKind.i64 0), (Go.Value.int Go.IntKind.i64 0)], none⟩,
    ⟨(some 6), .move (.tmp 18), none⟩,
    ⟨none, .store 14 (.tmp 7) (.tmp 20), none⟩]) (.seq (.region [
    ⟨(some 21), .addr 0 (.tmp 7), none⟩,
    ⟨(some 22), .load1 (.tmp 21), none⟩,
    ⟨(some 23), .addr 2 (.tmp 4), none⟩,
    ⟨(some 24), .load1 (.tmp 23), none⟩,
    ⟨(some 25), .bin .eql (.tmp 22) (.tmp 24), none⟩]) (.cond (.tmp 25) (.seq (.region [
    ⟨(some 26), .move (.tmp 2), none⟩,
    ⟨(some 27), .move (.tmp 6), none⟩,
    ⟨(some 28), .indexAddr 1 (.tmp 26) (.tmp 27), none⟩,
    ⟨none, .store 1 (.tmp 28) (.const (Go.Value.bool true)), none⟩]) (.exit 0)) (.skip))))) (.region [
    ⟨(some 29), .bin .add (.tmp 16) (.const (Go.Value.int Go.IntKind.i64 1)), none⟩,
    ⟨(some 16), .move (.tmp 29), none⟩]))))))) (.skip))) (.seq (.region [
    ⟨(some 30), .addr 5 (.tmp 4), none⟩,
    ⟨(some 31), .load1 (.tmp 30), none⟩,
    ⟨(some 32), .lenSlice (.tmp 31), none⟩,
    ⟨(some 33), .move (.const (Go.Value.int Go.IntKind.i64 0)), none⟩]) (.block 2 (.loop (.seq (.region [
    ⟨(some 34), .bin .lss (.tmp 33) (.tmp 32), none⟩]) (.seq (.cond (.tmp 34) (.skip) (.exit 2)) (.seq (.block 3 (.seq (.region [
    ⟨(some 35), .indexAddr 8 (.tmp 31) (.tmp 33), none⟩,
    ⟨(some 36), .loadN 8 (.tmp 35), none⟩,
    ⟨(some 9), .alloc 28 [(Go.Value.int Go.IntKind.i64 0), (Go.Value.int Go.IntKind.i64 0), (Go.Value.string { data := #[] }), (Go.Value.slice none 0 0), (Go.Value.slice none 0 0), (Go.Value.slice none 0 0), (Go.Value.int Go.IntKind.i64 0), (Go.Value.int Go.IntKind.i64 0)], none⟩,
    ⟨none, .store 8 (.tmp 9) (.tmp 36), none⟩]) (.region [
    ⟨(some 37), .loadN 10 (.tmp 3), none⟩,
    ⟨(some 38), .loadN 8 (.tmp 9), none⟩,
    ⟨(some 39), .move (.tmp 2), none⟩,
    ⟨(some 40), .call 26 [(.tmp 37), (.tmp 38), (.tmp 39)], none⟩]))) (.region [
    ⟨(some 41), .bin .add (.tmp 33) (.const (Go.Value.int Go.IntKind.i64 1)), none⟩,
    ⟨(some 33), .move (.tmp 41), none⟩]))))))))⟩
def x27 : XFun := ⟨43, [],
  .seq (.region [
    ⟨(some 3), .box 28 (.tmp 0), none⟩]) (.seq (.seq (.region [
    ⟨(some 8), .addr 0 (.tmp 3), none⟩,
    ⟨(some 9), .load1 (.tmp 8), none⟩,
    ⟨(some 10), .bin .eql (.tmp 9) (.const (Go.Value.int Go.IntKind.i64 4)), none⟩]) (.cond (.tmp 10) (.seq (.region [
    ⟨(some 6), .move (.const (Go.Value.int Go.IntKind.i64 0)), none⟩]) (.block 0 (.loop (.seq (.seq (.region [
    ⟨(some 11), .move (.tmp 6), none⟩,
    ⟨(some 12), .move (.tmp 1), none⟩,
    ⟨(some 13), .lenSlice (.tmp 12), none⟩,
    ⟨(some 14), .bin .lss (.tmp 11) (.tmp 13), none⟩]) (.cond (.tmp 14) (.skip) (.exit 0))) (.seq (.block 1 (.seq (.regionD [
    ⟨(some 17), .move (.tmp 1), none⟩,
    ⟨(some 18), .move (.tmp 6), none⟩,
    ⟨(some 19), .indexAddr 14 (.tmp 17) (.tmp 18), none⟩,
    ⟨(some 20), .addr 0 (.tmp 19), none⟩,
    ⟨(some 21), .load1 (.tmp 20), none⟩,
    ⟨(some 22), .addr 2 (.tmp 3), none⟩,
    ⟨(some 23), .load1 (.tmp 22), none⟩,
    ⟨(some 24), .bin .eql (.tmp 21) (.tmp 23), none⟩] []) (.cond (.tmp 24) (.seq (.region [
    ⟨(some 25), .move (.tmp 2), none⟩,
    ⟨(some 26), .move (.tmp 6), none⟩,
    ⟨(some 27), .indexAddr 1 (.tmp 25) (.tmp 26), none⟩,
    ⟨none, .store 1 (.tmp 27) (.const (Go.Value.bool true)), none⟩]) (.exit 0)) (.skip)))) (.region [
    ⟨(some 15), .move (.tmp 6), none⟩,
    ⟨(some 16), .bin .add (.tmp 15) (.const (Go.Value.int Go.IntKind.i64 1)), none⟩,
    ⟨(some 6), .move (.tmp 16), none⟩])))))) (.skip))) (.seq (.region [
    ⟨(some 7), .move (.const (Go.Value.int Go.IntKind.i64 0)), none⟩]) (.block 2 (.loop (.seq (.seq (.region [
    ⟨(some 28), .move (.tmp 7), none⟩,
    ⟨(some 29), .addr 5 (.tmp 3), none⟩,
    ⟨(some 30), .load1 (.tmp 29), none⟩,
    ⟨(some 31), .lenSlice (.tmp 30), none⟩,
    ⟨(some 32), .bin .lss (.tmp 28) (.tmp 31), none⟩]) (.cond (.tmp 32) (.skip) (.exit 2))) (.seq (.block 3 (.region [
    ⟨(some 35), .addr 5 (.tmp 3), none⟩,
    ⟨(some 36), .load1 (.tmp 35), none⟩,
    ⟨(some 37), .move (.tmp 7), none⟩,
    ⟨(some 38), .indexAddr 8 (.tmp 36) (.tmp 37), none⟩,
    ⟨(some 39), .loadN 8 (.tmp 38), none⟩,
    ⟨(some 40), .move (.tmp 1), none⟩,
    ⟨(some 41), .move (.tmp 2), none⟩,
    ⟨(some 42), .call 27 [(.tmp 39), (.tmp 40), (.tmp 41)], none⟩])) (.region [
    ⟨(some 33), .move (.tmp 7), none⟩,
    ⟨(some 34), .bin .add (.tmp 33) (.const (Go.Value.int Go.IntKind.i64 1)), none⟩,
    ⟨(some 7), .move (.tmp 34), none⟩])))))))⟩
def x28 : XFun := ⟨28, [],
  .seq (.region [
    ⟨(some 7), .move (.tmp 0), none⟩,
    ⟨(some 8), .lenSlice (.tmp 7), none⟩,
    ⟨(some 9), .move (.const (Go.Value.int Go.IntKind.i64 0)), none⟩]) (.block 0 (.loop (.seq (.region [
    ⟨(some 10), .bin .lss (.tmp 9) (.tmp 8), none⟩]) (.seq (.cond (.tmp 10) (.skip) (.exit 0)) (.seq (.block 1 (.seq (.region [
    ⟨(some 11), .indexAddr 1 (.tmp 7) (.tmp 9), none⟩,
    ⟨(some 12), .load1 (.tmp 11), none⟩,
    ⟨(some 6), .move (.tmp 12), none⟩]) (.seq (.region [
    ⟨(some 13), .load1 (.tmp 1), none⟩,
    ⟨(some 14), .move (.tmp 6), none⟩,
    ⟨(some 15), .indexAddr 1 (.tmp 13) (.tmp 14), none⟩,
    ⟨(some 16), .load1 (.tmp 15), none⟩,
    ⟨(some 17), .un .not (.tmp 16), none⟩]) (.cond (.tmp 17) (.seq (.region [
    ⟨(some 18), .load1 (.tmp 1), none⟩,
    ⟨(some 19), .move (.tmp 6), none⟩,
    ⟨(some 20), .indexAddr 1 (.tmp 18) (.tmp 19), none⟩,
    ⟨none, .store 1 (.tmp 20) (.const (Go.Value.bool true)), none⟩]) (.regionD [
    ⟨(some 21), .load1 (.tmp 2), none⟩,
    ⟨(some 22), .load1 (.tmp 3), none⟩,
    ⟨(some 23), .move (.tmp 6), none⟩,
    ⟨(some 24), .indexAddr 1 (.tmp 22) (.tmp 23), none⟩,
    ⟨(some 25), .load1 (.tmp 24), none⟩,
    ⟨(some 26), .callV (.tmp 21) [(.tmp 25)], none⟩] [])) (.skip))))) (.region [
    ⟨(some 27), .bin .add (.tmp 9) (.const (Go.Value.int Go.IntKind.i64 1)), none⟩,
    ⟨(some 9), .move (.tmp 27), none⟩]))))))⟩
def x29 : XFun := ⟨30, [.cellN 4 4],
  .seq (.region [
    ⟨(some 4), .alloc 40 [(Go.Value.int Go.IntKind.i64 0), (Go.Value.string { data := #[] }), (Go.Value.int Go.IntKind.i64 0), (Go.Value.int Go.IntKind.i64 0)], none⟩]) (.seq (.region [
    ⟨(some 8), .move (.tmp 0), none⟩,
    ⟨(some 9), .call 49 [(.tmp 8)], none⟩,
    ⟨(some 7), .move (.tmp 9), none⟩,
    ⟨(some 10), .extract (.tmp 7) 0, none⟩,
    ⟨(some 11), .extract (.tmp 7) 1, none⟩,
    ⟨(some 5), .move (.tmp 10), none⟩,
    ⟨none, .store 4 (.tmp 4) (.tmp 11), none⟩]) (.seq (.seq (.region [
    ⟨(some 12), .addr 0 (.tmp 4), none⟩,
    ⟨(some 13), .load1 (.tmp 12), none⟩,
    ⟨(some 14), .bin .neq (.tmp 13) (.const (Go.Value.int Go.IntKind.i64 0)), none⟩]) (.cond (.tmp 14) (.seq (.region [
    ⟨(some 15), .loadN 4 (.tmp 4), none⟩,
    ⟨none, .store 4 (.tmp 4) (.tmp 15), none⟩]) (.ret)) (.skip))) (.seq (.region [
    ⟨(some 16), .mkFunc (Go.Fn.func 50) [] [(.tmp 4)], none⟩,
    ⟨none, .defer (.tmp 16) [], none⟩]) (.seq (.region [
    ⟨(some 17), .move (.tmp 5), none⟩,
    ⟨(some 18), .build [(Go.Value.slice none 0 0), (Go.Value.int Go.IntKind.i64 0)] [(0, 1, (.tmp 17))], none⟩,
    ⟨(some 19), .box 96 (.tmp 18), none⟩,
    ⟨(some 6), .move (.tmp 19), none⟩]) (.seq (.region [
    ⟨(some 20), .move (.tmp 1), none⟩,
    ⟨(some 21), .move (.tmp 6), none⟩,
    ⟨(some 22), .callV (.tmp 20) [(.tmp 21)], none⟩]) (.seq (.seq (.region [
    ⟨(some 23), .move (.tmp 6), none⟩,
    ⟨(some 24), .call 51 [(.tmp 23)], none⟩,
    ⟨(some 25), .field1 0 (.tmp 24), none⟩,
    ⟨(some 26), .bin .neq (.tmp 25) (.const (Go.Value.int Go.IntKind.i64 5)), none⟩]) (.cond (.tmp 26) (.region [
    ⟨(some 27), .move (.tmp 6), none⟩,
    ⟨(some 28), .call 52 [(.tmp 27)], none⟩]) (.skip))) (.seq (.region [
    ⟨(some 29), .build [(Go.Value.int Go.IntKind.i64 0), (Go.Value.string { data := #[] }), (Go.Value.int Go.IntKind.i64 0), (Go.Value.int Go.IntKind.i64 0)] [], none⟩,
    ⟨none, .store 4 (.tmp 4) (.tmp 29), none⟩]) (.ret))))))))⟩
def x30 : XFun := ⟨5, [],
  .region [
    ⟨(some 3), .move (.tmp 0), none⟩,
    ⟨(some 4), .call 31 [(.tmp 3)], none⟩,
    ⟨none, .store 10 (.tmp 1) (.tmp 4), none⟩]⟩
def x31 : XFun := ⟨28, [.cellN 2 10],
  .seq (.region [
    ⟨(some 2), .alloc 30 [(Go.Value.slice none 0 0), (Go.Value.slice none 0 0), (Go.Value.int Go.IntKind.i64 0), (Go.Value.int Go.IntKind.i64 0), (Go.Value.string { data := #[] }), (Go.Value.slice none 0 0), (Go.Value.slice none 0 0), (Go.Value.slice none 0 0), (Go.Value.int Go.IntKind.i64 0), (Go.Value.int Go.IntKind.i64 0)], none⟩]) (.seq (.region [
    ⟨(some 3), .alloc 30 [(Go.Value.slice none 0 0), (Go.Value.slice none 0 0), (Go.Value.int Go.IntKind.i64 0), (Go.Value.int Go.IntKind.i64 0), (Go.Value.string { data := #[] }), (Go.Value.slice none 0 0), (Go.Value.slice none 0 0), (Go.Value.slice none 0 0), (Go.Value.int Go.IntKind.i64 0), (Go.Value.int Go.IntKind.i64 0)], none⟩]) (.seq (.block 0 (.loop (.seq (.seq (.region [
    ⟨(some 4), .move (.tmp 0), none⟩,
    ⟨(some 5), .call 53 [(.tmp 4), (.const (Go.Value.string { data := #[105, 110, 112, 117, 116] }))], none⟩]) (.cond (.tmp 5) (.skip) (.exit 0))) (.block 1 (.seq (.regionD [
    ⟨(some 6), .addr 0 (.tmp 3), none⟩,
    ⟨(some 7), .load1 (.tmp 6), none⟩,
    ⟨(some 8), .move (.tmp 0), none⟩,
    ⟨(some 9), .call 54 [(.tmp 8)], none⟩,
    ⟨(some 10), .buildSlice 60 5 [(Go.Value.string { data := #[] }), (Go.Value.int Go.IntKind.i64 0), (Go.Value.slice none 0 0), (Go.Value.int Go.IntKind.i64 0), (Go.Value.int Go.IntKind.i64 0)] 1 [(0, 5, (.tmp 9))], none⟩,
    ⟨(some 11), .append 60 5 64 (.tmp 7) (.tmp 10), none⟩,
    ⟨(some 12), .addr 0 (.tmp 3), none⟩,
    ⟨none, .store 1 (.tmp 12) (.tmp 11), none⟩] [(1, 3), (1, 4)]) (.region [
    ⟨(some 13), .move (.tmp 0), none⟩,
    ⟨(some 14), .call 55 [(.tmp 13), (.const (Go.Value.string { data := #[59] }))], none⟩])))))) (.seq (.block 2 (.loop (.seq (.seq (.region [
    ⟨(some 15), .move (.tmp 0), none⟩,
    ⟨(some 16), .call 53 [(.tmp 15), (.const (Go.Value.string { data := #[102, 117, 110] }))], none⟩]) (.cond (.tmp 16) (.skip) (.exit 2))) (.block 3 (.regionD [
    ⟨(some 17), .addr 1 (.tmp 3), none⟩,
    ⟨(some 18), .load1 (.tmp 17), none⟩,
    ⟨(some 19), .move (.tmp 0), none⟩,
    ⟨(some 20), .call 56 [(.tmp 19)], none⟩,
    ⟨(some 21), .buildSlice 56 14 [(Go.Value.string { data := #[] }), (Go.Value.slice none 0 0), (Go.Value.int Go.IntKind.i64 0), (Go.Value.slice none 0 0), (Go.Value.int Go.IntKind.i64 0), (Go.Value.int Go.IntKind.i64 0), (Go.Value.string { data := #[] }), (Go.Value.slice none 0 0), (Go.Value.slice none 0 0), (Go.Value.slice none 0 0), (Go.Value.int Go.IntKind.i64 0), (Go.Value.int Go.IntKind.i64 0), (Go.Value.int Go.IntKind.i64 0), (Go.Value.int Go.IntKind.i64 0)] 1 [(0, 14, (.tmp 20))], none⟩,
    ⟨(some 22), .append 56 14 208 (.tmp 18) (.tmp 21), none⟩,
    ⟨(some 23), .addr 1 (.tmp 3), none⟩,
    ⟨none, .store 1 (.tmp 23) (.tmp 22), none⟩] [(1, 3), (1, 4)]))))) (.seq (.region [
    ⟨(some 24), .move (.tmp 0), none⟩,
    ⟨(some 25), .call 57 [(.tmp 24)], none⟩,
    ⟨(some 26), .addr 2 (.tmp 3), none⟩,
    ⟨none, .store 8 (.tmp 26) (.tmp 25), none⟩]) (.seq (.region [
    ⟨(some 27), .loadN 10 (.tmp 3), none⟩,
    ⟨none, .store 10 (.tmp 2) (.tmp 27), none⟩]) (.ret))))))⟩
def x32 : XFun := ⟨84, [.cellN 2 4],
  .seq (.region [
    ⟨(some 1), .box 30 (.tmp 0), none⟩,
    ⟨(some 2), .alloc 40 [(Go.Value.int Go.IntKind.i64 0), (Go.Value.string { data := #[] }), (Go.Value.int Go.IntKind.i64 0), (Go.Value.int Go.IntKind.i64 0)], none⟩]) (.seq (.region [
    ⟨(some 3), .move (.func 58), none⟩]) (.seq (.seq (.region [
    ⟨(some 14), .addr 0 (.tmp 1), none⟩,
    ⟨(some 15), .load1 (.tmp 14), none⟩,
    ⟨(some 16), .lenSlice (.tmp 15), none⟩,
    ⟨(some 17), .move (.const (Go.Value.int Go.IntKind.i64 0)), none⟩]) (.block 0 (.loop (.seq (.region [
    ⟨(some 18), .bin .lss (.tmp 17) (.tmp 16), none⟩]) (.seq (.cond (.tmp 18) (.skip) (.exit 0)) (.seq (.block 1 (.seq (.region [
    ⟨(some 19), .indexAddr 5 (.tmp 15) (.tmp 17), none⟩,
    ⟨(some 20), .loadN 5 (.tmp 19), none⟩,
    ⟨(some 5), .alloc 60 [(Go.Value.string { data := #[] }), (Go.Value.int Go.IntKind.i64 0), (Go.Value.slice none 0 0), (Go.Value.int Go.IntKind.i64 0), (Go.Value.int Go.IntKind.i64 0)], none⟩,
    ⟨none, .store 5 (.tmp 5) (.tmp 20), none⟩]) (.seq (.region [
    ⟨(some 21), .move (.tmp 3), none⟩,
    ⟨(some 22), .addr 1 (.tmp 5), none⟩,
    ⟨(some 23), .loadN 2 (.tmp 22), none⟩,
    ⟨(some 24), .addr 3 (.tmp 5), none⟩,
    ⟨(some 25), .load1 (.tmp 24), none⟩,
    ⟨(some 26), .addr 4 (.tmp 5), none⟩,
    ⟨(some 27), .load1 (.tmp 26), none⟩,
    ⟨(some 28), .callV (.tmp 21) [(.tmp 23), (.tmp 25), (.tmp 27)], none⟩,
    ⟨(some 6), .alloc 40 [(Go.Value.int Go.IntKind.i64 0), (Go.Value.string { data := #[] }), (Go.Value.int Go.IntKind.i64 0), (Go.Value.int Go.IntKind.i64 0)], none⟩,
    ⟨none, .store 4 (.tmp 6) (.tmp 28), none⟩]) (.seq (.region [
    ⟨(some 29), .addr 0 (.tmp 6), none⟩,
    ⟨(some 30), .load1 (.tmp 29), none⟩,
    ⟨(some 31), .bin .neq (.tmp 30) (.const (Go.Value.int Go.IntKind.i64 0)), none⟩]) (.cond (.tmp 31) (.seq (.region [
    ⟨(some 32), .loadN 4 (.tmp 6), none⟩,
    ⟨none, .store 4 (.tmp 2) (.tmp 32), none⟩]) (.ret)) (.skip)))))) (.region [
    ⟨(some 33), .bin .add (.tmp 17) (.const (Go.Value.int Go.IntKind.i64 1)), none⟩,
    ⟨(some 17), .move (.tmp 33), none⟩]))))))) (.seq (.seq (.region [
    ⟨(some 34), .addr 1 (.tmp 1), none⟩,
    ⟨(some 35), .load1 (.tmp 34), none⟩,
    ⟨(some 36), .lenSlice (.tmp 35), none⟩,
    ⟨(some 37), .move (.const (Go.Value.int Go.IntKind.i64 0)), none⟩]) (.block 2 (.loop (.seq (.region [
    ⟨(some 38), .bin .lss (.tmp 37) (.tmp 36), none⟩]) (.seq (.cond (.tmp 38) (.skip) (.exit 2)) (.seq (.block 3 (.seq (.region [
    ⟨(some 39), .indexAddr 14 (.tmp 35) (.tmp 37), none⟩,
    ⟨(some 40), .loadN 14 (.tmp 39), none⟩,
    ⟨(some 8), .alloc 56 [(Go.Value.string { data := #[] }), (Go.Value.slice none 0 0), (Go.Value.int Go.IntKind.i64 0), (Go.Value.slice none 0 0), (Go.Value.int Go.IntKind.i64 0), (Go.Value.int Go.IntKind.i64 0), (Go.Value.string { data := #[] }), (Go.Value.slice none 0 0), (Go.Value.slice none 0 0), (Go.Value.slice none 0 0), (Go.Value.int Go.IntKind.i64 0), (Go.Value.int Go.IntKind.i64 0), (Go.Value.int Go.IntKind.i64 0), (Go.Value.int Go.IntKind.i64 0)], none⟩,
    ⟨none, .store 14 (.tmp 8) (.tmp 40), none⟩]) (.seq (.seq (.region [
    ⟨(some 41), .addr 1 (.tmp 8), none⟩,
    ⟨(some 42), .load1 (.tmp 41), none⟩,
    ⟨(some 43), .lenSlice (.tmp 42), none⟩,
    ⟨(some 44), .move (.const (Go.Value.int Go.IntKind.i64 0)), none⟩]) (.block 4 (.loop (.seq (.region [
    ⟨(some 45), .bin .lss (.tmp 44) (.tmp 43), none⟩]) (.seq (.cond (.tmp 45) (.skip) (.exit 4)) (.seq (.block 5 (.seq (.region [
    ⟨(some 46), .indexAddr 5 (.tmp 42) (.tmp 44), none⟩,
    ⟨(some 47), .loadN 5 (.tmp 46), none⟩,
    ⟨(some 10), .alloc 60 [(Go.Value.string { data := #[] }), (Go.Value.int Go.IntKind.i64 0), (Go.Value.slice none 0 0), (Go.Value.int Go.IntKind.i64 0), (Go.Value.int Go.IntKind.i64 0)], none⟩,
    ⟨none, .store 5 (.tmp 10) (.tmp 47), none⟩]) (.seq (.region [
    ⟨(some 48), .move (.tmp 3), none⟩,
    ⟨(some 49), .addr 1 (.tmp 10), none⟩,
    ⟨(some 50), .loadN 2 (.tmp 49), none⟩,
    ⟨(some 51), .addr 3 (.tmp 10), none⟩,
    ⟨(some 52), .load1 (.tmp 51), none⟩,
    ⟨(some 53), .addr 4 (.tmp 10), none⟩,
    ⟨(some 54), .load1 (.tmp 53), none⟩,
    ⟨(some 55), .callV (.tmp 48) [(.tmp 50), (.tmp 52), (.tmp 54)], none⟩,
    ⟨(some 11), .alloc 40 [(Go.Value.int Go.IntKind.i64 0), (Go.Value.string { data := #[] }), (Go.Value.int Go.IntKind.i64 0), (Go.Value.int Go.IntKind.i64 0)], none⟩,
    ⟨none, .store 4 (.tmp 11) (.tmp 55), none⟩]) (.seq (.region [
    ⟨(some 56), .addr 0 (.tmp 11), none⟩,
    ⟨(some 57), .load1 (.tmp 56), none⟩,
    ⟨(some 58), .bin .neq (.tmp 57) (.const (Go.Value.int Go.IntKind.i64 0)), none⟩]) (.cond (.tmp 58) (.seq (.region [
    ⟨(some 59), .loadN 4 (.tmp 11), none⟩,
    ⟨none, .store 4 (.tmp 2) (.tmp 59), none⟩]) (.ret)) (.skip)))))) (.region [
    ⟨(some 60), .bin .add (.tmp 44) (.const (Go.Value.int Go.IntKind.i64 1)), none⟩,
    ⟨(some 44), .move (.tmp 60), none⟩]))))))) (.seq (.seq (.region [
    ⟨(some 61), .move (.tmp 3), none⟩,
    ⟨(some 62), .addr 2 (.tmp 8), none⟩,
    ⟨(some 63), .loadN 2 (.tmp 62), none⟩,
    ⟨(some 64), .addr 12 (.tmp 8), none⟩,
    ⟨(some 65), .load1 (.tmp 64), none⟩,
    ⟨(some 66), .addr 13 (.tmp 8), none⟩,
    ⟨(some 67), .load1 (.tmp 66), none⟩,
    ⟨(some 68), .callV (.tmp 61) [(.tmp 63), (.tmp 65), (.tmp 67)], none⟩,
    ⟨(some 12), .alloc 40 [(Go.Value.int Go.IntKind.i64 0), (Go.Value.string { data := #[] }), (Go.Value.int Go.IntKind.i64 0), (Go.Value.int Go.IntKind.i64 0)], none⟩,
    ⟨none, .store 4 (.tmp 12) (.tmp 68), none⟩]) (.seq (.region [
    ⟨(some 69), .addr 0 (.tmp 12), none⟩,
    ⟨(some 70), .load1 (.tmp 69), none⟩,
    ⟨(some 71), .bin .neq (.tmp 70) (.const (Go.Value.int Go.IntKind.i64 0)), none⟩]) (.cond (.tmp 71) (.seq (.region [
    ⟨(some 72), .loadN 4 (.tmp 12), none⟩,
    ⟨none, .store 4 (.tmp 2) (.tmp 72), none⟩]) (.ret)) (.skip)))) (.seq (.region [
    ⟨(some 73), .addr 4 (.tmp 8), none⟩,
    ⟨(some 74), .loadN 8 (.tmp 73), none⟩,
    ⟨(some 75), .call 60 [(.tmp 74)], none⟩,
    ⟨(some 13), .alloc 40 [(Go.Value.int Go.IntKind.i64 0), (Go.Value.string { data := #[] }), (Go.Value.int Go.IntKind.i64 0), (Go.Value.int Go.IntKind.i64 0)], none⟩,
    ⟨none, .store 4 (.tmp 13) (.tmp 75), none⟩]) (.seq (.region [
    ⟨(some 76), .addr 0 (.tmp 13), none⟩,
    ⟨(some 77), .load1 (.tmp 76), none⟩,
    ⟨(some 78), .bin .neq (.tmp 77) (.const (Go.Value.int Go.IntKind.i64 0)), none⟩]) (.cond (.tmp 78) (.seq (.region [
    ⟨(some 79), .loadN 4 (.tmp 13), none⟩,
    ⟨none, .store 4 (.tmp 2) (.tmp 79), none⟩]) (.ret)) (.skip)))))))) (.region [
    ⟨(some 80), .bin .add (.tmp 37) (.const (Go.Value.int Go.IntKind.i64 1)), none⟩,
    ⟨(some 37), .move (.tmp 80), none⟩]))))))) (.seq (.region [
    ⟨(some 81), .addr 2 (.tmp 1), none⟩,
    ⟨(some 82), .loadN 8 (.tmp 81), none⟩,
    ⟨(some 83), .call 60 [(.tmp 82)], none⟩,
    ⟨none, .store 4 (.tmp 2) (.tmp 83), none⟩]) (.ret)))))⟩
def x33 : XFun := ⟨18, [],
  .seq (.region [
    ⟨(some 5), .recover, none⟩,
    ⟨(some 2), .move (.tmp 5), none⟩]) (.seq (.region [
    ⟨(some 6), .move (.tmp 2), none⟩,
    ⟨(some 7), .eq .ifaceNil true (.tmp 6) (.const Go.Value.nilIface), none⟩]) (.cond (.tmp 7) (.seq (.region [
    ⟨(some 9), .move (.tmp 2), none⟩,
    ⟨(some 10), .assertT 40 (Go.Value.agg #[(Go.Value.int Go.IntKind.i64 0), (Go.Value.string { data := #[] }), (Go.Value.int Go.IntKind.i64 0), (Go.Value.int Go.IntKind.i64 0)]) (.tmp 9) true, none⟩,
    ⟨(some 8), .move (.tmp 10), none⟩,
    ⟨(some 11), .extract (.tmp 8) 0, none⟩,
    ⟨(some 12), .extract (.tmp 8) 1, none⟩,
    ⟨(some 3), .alloc 40 [(Go.Value.int Go.IntKind.i64 0), (Go.Value.string { data := #[] }), (Go.Value.int Go.IntKind.i64 0), (Go.Value.int Go.IntKind.i64 0)], none⟩,
    ⟨none, .store 4 (.tmp 3) (.tmp 11), none⟩,
    ⟨(some 4), .move (.tmp 12), none⟩]) (.seq (.seq (.region [
    ⟨(some 13), .move (.tmp 4), none⟩,
    ⟨(some 14), .un .not (.tmp 13), none⟩]) (.cond (.tmp 14) (.region [
    ⟨(some 15), .move (.tmp 2), none⟩,
    ⟨none, .panic (.tmp 15), none⟩]) (.skip))) (.regionD [
    ⟨(some 16), .build [(Go.Value.int Go.IntKind.i64 0), (Go.Value.slice none 0 0)] [], none⟩,
    ⟨(some 17), .loadN 4 (.tmp 3), none⟩,
    ⟨none, .store 2 (.tmp 0) (.tmp 16), none⟩,
    ⟨none, .store 4 (.tmp 1) (.tmp 17), none⟩] [(1, 2)]))) (.skip)))⟩
def x34 : XFun := ⟨14, [],
  .region [
    ⟨(some 8), .move (.tmp 0), none⟩,
    ⟨(some 9), .move (.tmp 1), none⟩,
    ⟨(some 10), .move (.tmp 2), none⟩,
    ⟨(some 11), .move (.tmp 3), none⟩,
    ⟨(some 12), .build [(Go.Value.int Go.IntKind.i64 0), (Go.Value.string { data := #[] }), (Go.Value.int Go.IntKind.i64 0), (Go.Value.int Go.IntKind.i64 0)] [(0, 1, (.tmp 8)), (1, 1, (.tmp 9)), (2, 1, (.tmp 10)), (3, 1, (.tmp 11))], none⟩,
    ⟨(some 13), .mkIface 40 (.tmp 12), none⟩,
    ⟨none, .panic (.tmp 13), none⟩]⟩
def x35 : XFun := ⟨69, [.tmp 2],
  .seq (.region [
    ⟨(some 2), .move (.const (Go.Value.slice none 0 0)), none⟩]) (.seq (.region [
    ⟨(some 3), .move (.const (Go.Value.slice none 0 0)), none⟩]) (.seq (.seq (.region [
    ⟨(some 8), .move (.tmp 0), none⟩,
    ⟨(some 9), .lenSlice (.tmp 8), none⟩,
    ⟨(some 10), .move (.const (Go.Value.int Go.IntKind.i64 0)), none⟩]) (.block 0 (.loop (.seq (.region [
    ⟨(some 11), .bin .lss (.tmp 10) (.tmp 9), none⟩]) (.seq (.cond (.tmp 11) (.skip) (.exit 0)) (.seq (.block 1 (.seq (.region [
    ⟨(some 12), .move (.tmp 10), none⟩,
    ⟨(some 13), .indexAddr 5 (.tmp 8) (.tmp 10), none⟩,
    ⟨(some 14), .loadN 5 (.tmp 13), none⟩,
    ⟨(some 5), .alloc 60 [(Go.Value.string { data := #[] }), (Go.Value.int Go.IntKind.i64 0), (Go.Value.slice none 0 0), (Go.Value.int Go.IntKind.i64 0), (Go.Value.int Go.IntKind.i64 0)], none⟩,
    ⟨(some 4), .move (.tmp 12), none⟩,
    ⟨none, .store 5 (.tmp 5) (.tmp 14), none⟩]) (.seq (.seq (.region [
    ⟨(some 15), .addr 0 (.tmp 5), none⟩,
    ⟨(some 16), .load1 (.tmp 15), none⟩,
    ⟨(some 17), .call 36 [(.tmp 16)], none⟩,
    ⟨(some 18), .un .not (.tmp 17), none⟩]) (.cond (.tmp 18) (.region [
    ⟨(some 19), .addr 0 (.tmp 5), none⟩,
    ⟨(some 20), .load1 (.tmp 19), none⟩,
    ⟨(some 21), .addr 3 (.tmp 5), none⟩,
    ⟨(some 22), .load1 (.tmp 21), none⟩,
    ⟨(some 23), .addr 4 (.tmp 5), none⟩,
    ⟨(some 24), .load1 (.tmp 23), none⟩,
    ⟨(some 25), .call 34 [(.const (Go.Value.int Go.IntKind.i64 12)), (.tmp 20), (.tmp 22), (.tmp 24)], none⟩]) (.skip))) (.seq (.seq (.region [
    ⟨(some 26), .move (.tmp 0), none⟩,
    ⟨(some 27), .move (.tmp 4), none⟩,
    ⟨(some 28), .slice 5 (.tmp 26) none (some (.tmp 27)) none, none⟩,
    ⟨(some 29), .lenSlice (.tmp 28), none⟩,
    ⟨(some 30), .move (.const (Go.Value.int Go.IntKind.i64 0)), none⟩]) (.block 2 (.loop (.seq (.region [
    ⟨(some 31), .bin .lss (.tmp 30) (.tmp 29), none⟩]) (.seq (.cond (.tmp 31) (.skip) (.exit 2)) (.seq (.block 3 (.seq (.region [
    ⟨(some 32), .indexAddr 5 (.tmp 28) (.tmp 30), none⟩,
    ⟨(some 33), .loadN 5 (.tmp 32), none⟩,
    ⟨(some 7), .alloc 60 [(Go.Value.string { data := #[] }), (Go.Value.int Go.IntKind.i64 0), (Go.Value.slice none 0 0), (Go.Value.int Go.IntKind.i64 0), (Go.Value.int Go.IntKind.i64 0)], none⟩,
    ⟨none, .store 5 (.tmp 7) (.tmp 33), none⟩]) (.seq (.region [
    ⟨(some 34), .addr 0 (.tmp 7), none⟩,
    ⟨(some 35), .load1 (.tmp 34), none⟩,
    ⟨(some 36), .addr 0 (.tmp 5), none⟩,
    ⟨(some 37), .load1 (.tmp 36), none⟩,
    ⟨(some 38), .bin .eql (.tmp 35) (.tmp 37), none⟩]) (.cond (.tmp 38) (.region [
    ⟨(some 39), .addr 0 (.tmp 5), none⟩,
    ⟨(some 40), .load1 (.tmp 39), none⟩,
    ⟨(some 41), .addr 3 (.tmp 5), none⟩,
    ⟨(some 42), .load1 (.tmp 41), none⟩,
    ⟨(some 43), .addr 4 (.tmp 5), none⟩,
    ⟨(some 44), .load1 (.tmp 43), none⟩,
    ⟨(some 45), .call 34 [(.const (Go.Value.int Go.IntKind.i64 13)), (.tmp 40), (.tmp 42), (.tmp 44)], none⟩]) (.skip))))) (.region [
    ⟨(some 46), .bin .add (.tmp 30) (.const (Go.Value.int Go.IntKind.i64 1)), none⟩,
    ⟨(some 30), .move (.tmp 46), none⟩]))))))) (.seq (.seq (.region [
    ⟨(some 47), .addr 1 (.tmp 5), none⟩,
    ⟨(some 48), .loadN 2 (.tmp 47), none⟩,
    ⟨(some 49), .call 37 [(.tmp 48)], none⟩,
    ⟨(some 50), .un .not (.tmp 49), none⟩]) (.cond (.tmp 50) (.region [
    ⟨(some 51), .addr 0 (.tmp 5), none⟩,
    ⟨(some 52), .load1 (.tmp 51), none⟩,
    ⟨(some 53), .addr 3 (.tmp 5), none⟩,
    ⟨(some 54), .load1 (.tmp 53), none⟩,
    ⟨(some 55), .addr 4 (.tmp 5), none⟩,
    ⟨(some 56), .load1 (.tmp 55), none⟩,
    ⟨(some 57), .call 34 [(.const (Go.Value.int Go.IntKind.i64 14)), (.tmp 52), (.tmp 54), (.tmp 56)], none⟩]) (.skip))) (.regionD [
    ⟨(some 58), .move (.tmp 3), none⟩,
    ⟨(some 59), .addr 0 (.tmp 5), none⟩,
    ⟨(some 60), .load1 (.tmp 59), none⟩,
    ⟨(some 61), .addr 1 (.tmp 5), none⟩,
    ⟨(some 62), .loadN 2 (.tmp 61), none⟩,
    ⟨(some 63), .call 39 [(.tmp 62)], none⟩,
    ⟨(some 64), .build [(Go.Value.string { data := #[] }), (Go.Value.pointer none)] [(0, 1, (.tmp 60)), (1, 1, (.tmp 63))], none⟩,
    ⟨(some 65), .buildSlice 107 2 [(Go.Value.string { data := #[] }), (Go.Value.pointer none)] 1 [(0, 2, (.tmp 64))], none⟩,
    ⟨(some 66), .append 107 2 24 (.tmp 58) (.tmp 65), none⟩,
    ⟨(some 3), .move (.tmp 66), none⟩] [(2, 5)])))))) (.region [
    ⟨(some 67), .bin .add (.tmp 10) (.const (Go.Value.int Go.IntKind.i64 1)), none⟩,
    ⟨(some 10), .move (.tmp 67), none⟩]))))))) (.seq (.region [
    ⟨(some 68), .move (.tmp 3), none⟩,
    ⟨(some 2), .move (.tmp 68), none⟩]) (.ret))))⟩
def x36 : XFun := ⟨33, [.tmp 2],
  .seq (.region [
    ⟨(some 2), .move (.const (Go.Value.bool false)), none⟩]) (.seq (.region [
    ⟨(some 6), .move (.tmp 0), none⟩,
    ⟨(some 7), .call 49 [(.tmp 6)], none⟩,
    ⟨(some 5), .move (.tmp 7), none⟩,
    ⟨(some 8), .extract (.tmp 5) 0, none⟩,
    ⟨(some 9), .extract (.tmp 5) 1, none⟩,
    ⟨(some 4), .alloc 40 [(Go.Value.int Go.IntKind.i64 0), (Go.Value.string { data := #[] }), (Go.Value.int Go.IntKind.i64 0), (Go.Value.int Go.IntKind.i64 0)], none⟩,
    ⟨(some 3), .move (.tmp 8), none⟩,
    ⟨none, .store 4 (.tmp 4) (.tmp 9), none⟩]) (.seq (.region [
    ⟨(some 10), .addr 0 (.tmp 4), none⟩,
    ⟨(some 11), .load1 (.tmp 10), none⟩,
    ⟨(some 12), .bin .eql (.tmp 11) (.const (Go.Value.int Go.IntKind.i64 0)), none⟩,
    ⟨(some 13), .move (.tmp 12), none⟩,
    ⟨(some 14), .move (.tmp 3), (some (13, true))⟩,
    ⟨(some 15), .lenSlice (.tmp 14), (some (13, true))⟩,
    ⟨(some 16), .bin .eql (.tmp 15) (.const (Go.Value.int Go.IntKind.i64 2)), (some (13, true))⟩,
    ⟨(some 17), .pick (.tmp 13) (.tmp 16) (.const (Go.Value.bool false)), none⟩,
    ⟨(some 18), .move (.tmp 17), none⟩,
    ⟨(some 19), .move (.tmp 3), (some (18, true))⟩,
    ⟨(some 20), .indexAddr 5 (.tmp 19) (.const (Go.Value.int Go.IntKind.i64 0)), (some (18, true))⟩,
    ⟨(some 21), .addr 0 (.tmp 20), (some (18, true))⟩,
    ⟨(some 22), .load1 (.tmp 21), (some (18, true))⟩,
    ⟨(some 23), .bin .eql (.tmp 22) (.const (Go.Value.int Go.IntKind.i64 1)), (some (18, true))⟩,
    ⟨(some 24), .pick (.tmp 18) (.tmp 23) (.const (Go.Value.bool false)), none⟩,
    ⟨(some 25), .move (.tmp 24), none⟩,
    ⟨(some 26), .move (.tmp 3), (some (25, true))⟩,
    ⟨(some 27), .indexAddr 5 (.tmp 26) (.const (Go.Value.int Go.IntKind.i64 0)), (some (25, true))⟩,
    ⟨(some 28), .addr 1 (.tmp 27), (some (25, true))⟩,
    ⟨(some 29), .load1 (.tmp 28), (some (25, true))⟩,
    ⟨(some 30), .move (.tmp 0), (some (25, true))⟩,
    ⟨(some 31), .bin .eql (.tmp 29) (.tmp 30), (some (25, true))⟩,
    ⟨(some 32), .pick (.tmp 25) (.tmp 31) (.const (Go.Value.bool false)), none⟩,
    ⟨(some 2), .move (.tmp 32), none⟩]) (.ret)))⟩
def x37 : XFun := ⟨5, [.tmp 2],
  .seq (.region [
    ⟨(some 1), .box 45 (.tmp 0), none⟩,
    ⟨(some 2), .move (.const (Go.Value.bool false)), none⟩]) (.seq (.region [
    ⟨(some 3), .loadN 2 (.tmp 1), none⟩,
    ⟨(some 4), .call 61 [(.tmp 3), (.const (Go.Value.int Go.IntKind.i64 40))], none⟩,
    ⟨(some 2), .move (.tmp 4), none⟩]) (.ret))⟩
def x38 : XFun := ⟨239, [],
  .seq (.region [
    ⟨(some 5), .box 28 (.tmp 1), none⟩]) (.seq (.seq (.region [
    ⟨(some 23), .loadN 8 (.tmp 5), none⟩,
    ⟨(some 24), .call 62 [(.tmp 23)], none⟩,
    ⟨(some 25), .un .not (.tmp 24), none⟩]) (.cond (.tmp 25) (.region [
    ⟨(some 26), .addr 6 (.tmp 5), none⟩,
    ⟨(some 27), .load1 (.tmp 26), none⟩,
    ⟨(some 28), .addr 7 (.tmp 5), none⟩,
    ⟨(some 29), .load1 (.tmp 28), none⟩,
    ⟨(some 30), .call 34 [(.const (Go.Value.int Go.IntKind.i64 15)), (.const (Go.Value.string { data := #[] })), (.tmp 27), (.tmp 29)], none⟩]) (.skip))) (.seq (.seq (.region [
    ⟨(some 31), .addr 0 (.tmp 5), none⟩,
    ⟨(some 32), .load1 (.tmp 31), none⟩,
    ⟨(some 33), .bin .geq (.tmp 32) (.const (Go.Value.int Go.IntKind.i64 9)), none⟩]) (.cond (.tmp 33) (.seq (.region [
    ⟨(some 34), .move (.tmp 0), none⟩,
    ⟨(some 35), .loadN 8 (.tmp 5), none⟩,
    ⟨(some 36), .move (.tmp 2), none⟩,
    ⟨(some 37), .move (.tmp 3), none⟩,
    ⟨(some 38), .call 63 [(.tmp 34), (.tmp 35), (.tmp 36), (.tmp 37)], none⟩]) (.ret)) (.skip))) (.seq (.region [
    ⟨(some 39), .build [(Go.Value.int Go.IntKind.i64 0), (Go.Value.slice none 0 0), (Go.Value.pointer none)] [(0, 1, (.const (Go.Value.int Go.IntKind.i64 1)))], none⟩,
    ⟨(some 40), .box 111 (.tmp 39), none⟩,
    ⟨(some 41), .build [(Go.Value.int Go.IntKind.i64 0), (Go.Value.slice none 0 0), (Go.Value.pointer none)] [(0, 1, (.const (Go.Value.int Go.IntKind.i64 2)))], none⟩,
    ⟨(some 42), .box 111 (.tmp 41), none⟩,
    ⟨(some 8), .move (.tmp 40), none⟩,
    ⟨(some 9), .move (.tmp 42), none⟩]) (.seq (.region [
    ⟨(some 43), .addr 0 (.tmp 5), none⟩,
    ⟨(some 44), .load1 (.tmp 43), none⟩]) (.block 0 (.seq (.region [
    ⟨(some 46), .bin .eql (.tmp 44) (.const (Go.Value.int Go.IntKind.i64 1)), none⟩,
    ⟨(some 45), .move (.tmp 46), none⟩]) (.cond (.tmp 45) (.region [
    ⟨(some 47), .loadN 8 (.tmp 5), none⟩,
    ⟨(some 48), .move (.tmp 9), none⟩,
    ⟨(some 49), .move (.tmp 3), none⟩,
    ⟨(some 50), .call 64 [(.tmp 47), (.tmp 48), (.tmp 49)], none⟩]) (.seq (.region [
    ⟨(some 52), .bin .eql (.tmp 44) (.const (Go.Value.int Go.IntKind.i64 2)), none⟩,
    ⟨(some 51), .move (.tmp 52), none⟩]) (.cond (.tmp 51) (.region [
    ⟨(some 53), .loadN 8 (.tmp 5), none⟩,
    ⟨(some 54), .move (.tmp 8), none⟩,
    ⟨(some 55), .move (.tmp 3), none⟩,
    ⟨(some 56), .call 64 [(.tmp 53), (.tmp 54), (.tmp 55)], none⟩]) (.seq (.region [
    ⟨(some 58), .bin .eql (.tmp 44) (.const (Go.Value.int Go.IntKind.i64 3)), none⟩,
    ⟨(some 57), .move (.tmp 58), none⟩]) (.cond (.tmp 57) (.seq (.seq (.region [
    ⟨(some 59), .move (.tmp 2), none⟩,
    ⟨(some 60), .lenSlice (.tmp 59), none⟩,
    ⟨(some 61), .bin .sub (.tmp 60) (.const (Go.Value.int Go.IntKind.i64 1)), none⟩,
    ⟨(some 10), .move (.tmp 61), none⟩]) (.block 1 (.loop (.seq (.seq (.region [
    ⟨(some 62), .move (.tmp 10), none⟩,
    ⟨(some 63), .bin .geq (.tmp 62) (.const (Go.Value.int Go.IntKind.i64 0)), none⟩]) (.cond (.tmp 63) (.skip) (.exit 1))) (.seq (.block 2 (.seq (.regionD [
    ⟨(some 66), .move (.tmp 2), none⟩,
    ⟨(some 67), .move (.tmp 10), none⟩,
    ⟨(some 68), .indexAddr 2 (.tmp 66) (.tmp 67), none⟩,
    ⟨(some 69), .addr 0 (.tmp 68), none⟩,
    ⟨(some 70), .load1 (.tmp 69), none⟩,
    ⟨(some 71), .addr 2 (.tmp 5), none⟩,
    ⟨(some 72), .load1 (.tmp 71), none⟩,
    ⟨(some 73), .bin .eql (.tmp 70) (.tmp 72), none⟩] []) (.cond (.tmp 73) (.seq (.regionD [
    ⟨(some 74), .loadN 8 (.tmp 5), none⟩,
    ⟨(some 75), .move (.tmp 2), none⟩,
    ⟨(some 76), .move (.tmp 10), none⟩,
    ⟨(some 77), .indexAddr 2 (.tmp 75) (.tmp 76), none⟩,
    ⟨(some 78), .addr 1 (.tmp 77), none⟩,
    ⟨(some 79), .load1 (.tmp 78), none⟩,
    ⟨(some 80), .move (.tmp 3), none⟩,
    ⟨(some 81), .call 64 [(.tmp 74), (.tmp 79), (.tmp 80)], none⟩] []) (.ret)) (.skip)))) (.region [
    ⟨(some 64), .move (.tmp 10), none⟩,
    ⟨(some 65), .bin .sub (.tmp 64) (.const (Go.Value.int Go.IntKind.i64 1)), none⟩,
    ⟨(some 10), .move (.tmp 65), none⟩])))))) (.region [
    ⟨(some 82), .addr 2 (.tmp 5), none⟩,
    ⟨(some 83), .load1 (.tmp 82), none⟩,
    ⟨(some 84), .addr 6 (.tmp 5), none⟩,
    ⟨(some 85), .load1 (.tmp 84), none⟩,
    ⟨(some 86), .addr 7 (.tmp 5), none⟩,
    ⟨(some 87), .load1 (.tmp 86), none⟩,
    ⟨(some 88), .call 34 [(.const (Go.Value.int Go.IntKind.i64 12)), (.tmp 83), (.tmp 85), (.tmp 87)], none⟩])) (.seq (.region [
    ⟨(some 90), .bin .eql (.tmp 44) (.const (Go.Value.int Go.IntKind.i64 4)), none⟩,
    ⟨(some 89), .move (.tmp 90), none⟩]) (.cond (.tmp 89) (.region [
    ⟨(some 91), .move (.tmp 0), none⟩,
    ⟨(some 92), .loadN 8 (.tmp 5), none⟩,
    ⟨(some 93), .move (.tmp 2), none⟩,
    ⟨(some 94), .move (.tmp 3), none⟩,
    ⟨(some 95), .call 65 [(.tmp 91), (.tmp 92), (.tmp 93), (.tmp 94)], none⟩]) (.seq (.region [
    ⟨(some 97), .bin .eql (.tmp 44) (.const (Go.Value.int Go.IntKind.i64 5)), none⟩,
    ⟨(some 96), .move (.tmp 97), none⟩]) (.cond (.tmp 96) (.seq (.region [
    ⟨(some 98), .build [(Go.Value.int Go.IntKind.i64 0), (Go.Value.slice none 0 0), (Go.Value.pointer none)] [(0, 1, (.const (Go.Value.int Go.IntKind.i64 3)))], none⟩,
    ⟨(some 99), .box 111 (.tmp 98), none⟩,
    ⟨(some 11), .move (.tmp 99), none⟩]) (.seq (.seq (.region [
    ⟨(some 100), .addr 5 (.tmp 5), none⟩,
    ⟨(some 101), .load1 (.tmp 100), none⟩,
    ⟨(some 102), .lenSlice (.tmp 101), none⟩,
    ⟨(some 103), .move (.const (Go.Value.int Go.IntKind.i64 0)), none⟩]) (.block 3 (.loop (.seq (.region [
    ⟨(some 104), .bin .lss (.tmp 103) (.tmp 102), none⟩]) (.seq (.cond (.tmp 104) (.skip) (.exit 3)) (.seq (.block 4 (.regionD [
    ⟨(some 105), .move (.tmp 11), none⟩,
    ⟨(some 106), .move (.tmp 11), none⟩,
    ⟨(some 107), .nilCheck (.tmp 106), none⟩,
    ⟨(some 108), .addr 1 (.tmp 107), none⟩,
    ⟨(some 109), .load1 (.tmp 108), none⟩,
    ⟨(some 110), .call 40 [], none⟩,
    ⟨(some 111), .buildSlice 81 1 [(Go.Value.pointer none)] 1 [(0, 1, (.tmp 110))], none⟩,
    ⟨(some 112), .append 81 1 8 (.tmp 109) (.tmp 111), none⟩,
    ⟨(some 113), .nilCheck (.tmp 105), none⟩,
    ⟨(some 114), .addr 1 (.tmp 113), none⟩,
    ⟨none, .store 1 (.tmp 114) (.tmp 112), none⟩] [(4, 5), (4, 6)])) (.region [
    ⟨(some 115), .bin .add (.tmp 103) (.const (Go.Value.int Go.IntKind.i64 1)), none⟩,
    ⟨(some 103), .move (.tmp 115), none⟩]))))))) (.seq (.region [
    ⟨(some 116), .loadN 8 (.tmp 5), none⟩,
    ⟨(some 117), .move (.tmp 11), none⟩,
    ⟨(some 118), .move (.tmp 3), none⟩,
    ⟨(some 119), .call 64 [(.tmp 116), (.tmp 117), (.tmp 118)], none⟩]) (.seq (.region [
    ⟨(some 120), .move (.tmp 11), none⟩,
    ⟨(some 121), .nilCheck (.tmp 120), none⟩,
    ⟨(some 122), .addr 1 (.tmp 121), none⟩,
    ⟨(some 123), .load1 (.tmp 122), none⟩,
    ⟨(some 12), .move (.tmp 123), none⟩]) (.seq (.region [
    ⟨(some 124), .addr 5 (.tmp 5), none⟩,
    ⟨(some 125), .load1 (.tmp 124), none⟩,
    ⟨(some 126), .lenSlice (.tmp 125), none⟩,
    ⟨(some 127), .move (.const (Go.Value.int Go.IntKind.i64 0)), none⟩]) (.block 5 (.loop (.seq (.region [
    ⟨(some 128), .bin .lss (.tmp 127) (.tmp 126), none⟩]) (.seq (.cond (.tmp 128) (.skip) (.exit 5)) (.seq (.block 6 (.seq (.region [
    ⟨(some 129), .move (.tmp 127), none⟩,
    ⟨(some 130), .indexAddr 8 (.tmp 125) (.tmp 127), none⟩,
    ⟨(some 131), .loadN 8 (.tmp 130), none⟩,
    ⟨(some 14), .alloc 28 [(Go.Value.int Go.IntKind.i64 0), (Go.Value.int Go.IntKind.i64 0), (Go.Value.string { data := #[] }), (Go.Value.slice none 0 0), (Go.Value.slice none 0 0), (Go.Value.slice none 0 0), (Go.Value.int Go.IntKind.i64 0), (Go.Value.int Go.IntKind.i64 0)], none⟩,
    ⟨(some 13), .move (.tmp 129), none⟩,
    ⟨none, .store 8 (.tmp 14) (.tmp 131), none⟩]) (.regionD [
    ⟨(some 132), .move (.tmp 0), none⟩,
    ⟨(some 133), .loadN 8 (.tmp 14), none⟩,
    ⟨(some 134), .move (.tmp 2), none⟩,
    ⟨(some 135), .move (.tmp 12), none⟩,
    ⟨(some 136), .move (.tmp 13), none⟩,
    ⟨(some 137), .indexAddr 1 (.tmp 135) (.tmp 136), none⟩,
    ⟨(some 138), .load1 (.tmp 137), none⟩,
    ⟨(some 139), .call 38 [(.tmp 132), (.tmp 133), (.tmp 134), (.tmp 138)], none⟩] []))) (.region [
    ⟨(some 140), .bin .add (.tmp 127) (.const (Go.Value.int Go.IntKind.i64 1)), none⟩,
    ⟨(some 127), .move (.tmp 140), none⟩]))))))))))) (.seq (.region [
    ⟨(some 142), .bin .eql (.tmp 44) (.const (Go.Value.int Go.IntKind.i64 6)), none⟩,
    ⟨(some 141), .move (.tmp 142), none⟩]) (.cond (.tmp 141) (.seq (.region [
    ⟨(some 143), .call 40 [], none⟩,
    ⟨(some 15), .move (.tmp 143), none⟩]) (.seq (.regionD [
    ⟨(some 144), .loadN 8 (.tmp 5), none⟩,
    ⟨(some 145), .move (.tmp 15), none⟩,
    ⟨(some 146), .call 66 [(.tmp 145)], none⟩,
    ⟨(some 147), .move (.tmp 3), none⟩,
    ⟨(some 148), .call 64 [(.tmp 144), (.tmp 146), (.tmp 147)], none⟩] [(0, 2)]) (.seq (.seq (.region [
    ⟨(some 149), .addr 5 (.tmp 5), none⟩,
    ⟨(some 150), .load1 (.tmp 149), none⟩,
    ⟨(some 151), .lenSlice (.tmp 150), none⟩,
    ⟨(some 152), .bin .gtr (.tmp 151) (.const (Go.Value.int Go.IntKind.i64 32)), none⟩]) (.cond (.tmp 152) (.region [
    ⟨(some 153), .addr 6 (.tmp 5), none⟩,
    ⟨(some 154), .load1 (.tmp 153), none⟩,
    ⟨(some 155), .addr 7 (.tmp 5), none⟩,
    ⟨(some 156), .load1 (.tmp 155), none⟩,
    ⟨(some 157), .call 34 [(.const (Go.Value.int Go.IntKind.i64 2)), (.const (Go.Value.string { data := #[] })), (.tmp 154), (.tmp 156)], none⟩]) (.skip))) (.seq (.region [
    ⟨(some 158), .addr 5 (.tmp 5), none⟩,
    ⟨(some 159), .load1 (.tmp 158), none⟩,
    ⟨(some 160), .lenSlice (.tmp 159), none⟩,
    ⟨(some 161), .move (.const (Go.Value.int Go.IntKind.i64 0)), none⟩]) (.block 7 (.loop (.seq (.region [
    ⟨(some 162), .bin .lss (.tmp 161) (.tmp 160), none⟩]) (.seq (.cond (.tmp 162) (.skip) (.exit 7)) (.seq (.block 8 (.seq (.region [
    ⟨(some 163), .indexAddr 8 (.tmp 159) (.tmp 161), none⟩,
    ⟨(some 164), .loadN 8 (.tmp 163), none⟩,
    ⟨(some 17), .alloc 28 [(Go.Value.int Go.IntKind.i64 0), (Go.Value.int Go.IntKind.i64 0), (Go.Value.string { data := #[] }), (Go.Value.slice none 0 0), (Go.Value.slice none 0 0), (Go.Value.slice none 0 0), (Go.Value.int Go.IntKind.i64 0), (Go.Value.int Go.IntKind.i64 0)], none⟩,
    ⟨none, .store 8 (.tmp 17) (.tmp 164), none⟩]) (.region [
    ⟨(some 165), .move (.tmp 0), none⟩,
    ⟨(some 166), .loadN 8 (.tmp 17), none⟩,
    ⟨(some 167), .move (.tmp 2), none⟩,
    ⟨(some 168), .move (.tmp 15), none⟩,
    ⟨(some 169), .call 38 [(.tmp 165), (.tmp 166), (.tmp 167), (.tmp 168)], none⟩]))) (.region [
    ⟨(some 170), .bin .add (.tmp 161) (.const (Go.Value.int Go.IntKind.i64 1)), none⟩,
    ⟨(some 161), .move (.tmp 170), none⟩])))))))))) (.seq (.region [
    ⟨(some 172), .bin .eql (.tmp 44) (.const (Go.Value.int Go.IntKind.i64 7)), none⟩,
    ⟨(some 171), .move (.tmp 172), none⟩]) (.cond (.tmp 171) (.region [
    ⟨(some 173), .move (.tmp 0), none⟩,
    ⟨(some 174), .loadN 8 (.tmp 5), none⟩,
    ⟨(some 175), .move (.tmp 2), none⟩,
    ⟨(some 176), .move (.tmp 3), none⟩,
    ⟨(some 177), .call 67 [(.tmp 173), (.tmp 174), (.tmp 175), (.tmp 176)], none⟩]) (.seq (.region [
    ⟨(some 179), .bin .eql (.tmp 44) (.const (Go.Value.int Go.IntKind.i64 8)), none⟩,
    ⟨(some 178), .move (.tmp 179), none⟩]) (.cond (.tmp 178) (.seq (.region [
    ⟨(some 180), .call 40 [], none⟩,
    ⟨(some 18), .move (.tmp 180), none⟩]) (.seq (.region [
    ⟨(some 19), .move (.const (Go.Value.slice none 0 0)), none⟩]) (.seq (.seq (.region [
    ⟨(some 181), .addr 3 (.tmp 5), none⟩,
    ⟨(some 182), .load1 (.tmp 181), none⟩,
    ⟨(some 183), .lenSlice (.tmp 182), none⟩,
    ⟨(some 184), .bin .eql (.tmp 183) (.const (Go.Value.int Go.IntKind.i64 1)), none⟩]) (.cond (.tmp 184) (.region [
    ⟨(some 185), .addr 3 (.tmp 5), none⟩,
    ⟨(some 186), .load1 (.tmp 185), none⟩,
    ⟨(some 187), .indexAddr 1 (.tmp 186) (.const (Go.Value.int Go.IntKind.i64 0)), none⟩,
    ⟨(some 188), .load1 (.tmp 187), none⟩,
    ⟨(some 189), .move (.tmp 18), none⟩,
    ⟨(some 190), .build [(Go.Value.string { data := #[] }), (Go.Value.pointer none)] [(0, 1, (.tmp 188)), (1, 1, (.tmp 189))], none⟩,
    ⟨(some 191), .buildSlice 107 2 [(Go.Value.string { data := #[] }), (Go.Value.pointer none)] 1 [(0, 2, (.tmp 190))], none⟩,
    ⟨(some 19), .move (.tmp 191), none⟩]) (.seq (.region [
    ⟨(some 192), .build [(Go.Value.int Go.IntKind.i64 0), (Go.Value.slice none 0 0), (Go.Value.pointer none)] [(0, 1, (.const (Go.Value.int Go.IntKind.i64 3)))], none⟩,
    ⟨(some 193), .box 111 (.tmp 192), none⟩,
    ⟨(some 18), .move (.tmp 193), none⟩]) (.seq (.region [
    ⟨(some 194), .addr 3 (.tmp 5), none⟩,
    ⟨(some 195), .load1 (.tmp 194), none⟩,
    ⟨(some 196), .lenSlice (.tmp 195), none⟩,
    ⟨(some 197), .move (.const (Go.Value.int Go.IntKind.i64 0)), none⟩]) (.block 9 (.loop (.seq (.region [
    ⟨(some 198), .bin .lss (.tmp 197) (.tmp 196), none⟩]) (.seq (.cond (.tmp 198) (.skip) (.exit 9)) (.seq (.block 10 (.seq (.region [
    ⟨(some 199), .indexAddr 1 (.tmp 195) (.tmp 197), none⟩,
    ⟨(some 200), .load1 (.tmp 199), none⟩,
    ⟨(some 21), .move (.tmp 200), none⟩]) (.seq (.region [
    ⟨(some 201), .call 40 [], none⟩,
    ⟨(some 22), .move (.tmp 201), none⟩]) (.seq (.region [
    ⟨(some 202), .move (.tmp 18), none⟩,
    ⟨(some 203), .move (.tmp 18), none⟩,
    ⟨(some 204), .nilCheck (.tmp 203), none⟩,
    ⟨(some 205), .addr 1 (.tmp 204), none⟩,
    ⟨(some 206), .load1 (.tmp 205), none⟩,
    ⟨(some 207), .move (.tmp 22), none⟩,
    ⟨(some 208), .buildSlice 81 1 [(Go.Value.pointer none)] 1 [(0, 1, (.tmp 207))], none⟩,
    ⟨(some 209), .append 81 1 8 (.tmp 206) (.tmp 208), none⟩,
    ⟨(some 210), .nilCheck (.tmp 202), none⟩,
    ⟨(some 211), .addr 1 (.tmp 210), none⟩,
    ⟨none, .store 1 (.tmp 211) (.tmp 209), none⟩]) (.region [
    ⟨(some 212), .move (.tmp 19), none⟩,
    ⟨(some 213), .move (.tmp 21), none⟩,
    ⟨(some 214), .move (.tmp 22), none⟩,
    ⟨(some 215), .build [(Go.Value.string { data := #[] }), (Go.Value.pointer none)] [(0, 1, (.tmp 213)), (1, 1, (.tmp 214))], none⟩,
    ⟨(some 216), .buildSlice 107 2 [(Go.Value.string { data := #[] }), (Go.Value.pointer none)] 1 [(0, 2, (.tmp 215))], none⟩,
    ⟨(some 217), .append 107 2 24 (.tmp 212) (.tmp 216), none⟩,
    ⟨(some 19), .move (.tmp 217), none⟩]))))) (.region [
    ⟨(some 218), .bin .add (.tmp 197) (.const (Go.Value.int Go.IntKind.i64 1)), none⟩,
    ⟨(some 197), .move (.tmp 218), none⟩])))))))))) (.seq (.region [
    ⟨(some 219), .move (.tmp 0), none⟩,
    ⟨(some 220), .addr 5 (.tmp 5), none⟩,
    ⟨(some 221), .load1 (.tmp 220), none⟩,
    ⟨(some 222), .indexAddr 8 (.tmp 221) (.const (Go.Value.int Go.IntKind.i64 0)), none⟩,
    ⟨(some 223), .loadN 8 (.tmp 222), none⟩,
    ⟨(some 224), .move (.tmp 2), none⟩,
    ⟨(some 225), .move (.tmp 18), none⟩,
    ⟨(some 226), .call 38 [(.tmp 219), (.tmp 223), (.tmp 224), (.tmp 225)], none⟩]) (.seq (.region [
    ⟨(some 227), .loadN 8 (.tmp 5), none⟩,
    ⟨(some 228), .call 68 [(.tmp 227)], none⟩]) (.regionD [
    ⟨(some 229), .move (.tmp 0), none⟩,
    ⟨(some 230), .addr 5 (.tmp 5), none⟩,
    ⟨(some 231), .load1 (.tmp 230), none⟩,
    ⟨(some 232), .indexAddr 8 (.tmp 231) (.const (Go.Value.int Go.IntKind.i64 1)), none⟩,
    ⟨(some 233), .loadN 8 (.tmp 232), none⟩,
    ⟨(some 234), .move (.tmp 2), none⟩,
    ⟨(some 235), .move (.tmp 19), none⟩,
    ⟨(some 236), .call 69 [(.tmp 234), (.tmp 235)], none⟩,
    ⟨(some 237), .move (.tmp 3), none⟩,
    ⟨(some 238), .call 38 [(.tmp 229), (.tmp 233), (.tmp 236), (.tmp 237)], none⟩] [(2, 7), (4, 7)])))))) (.skip))))))))))))))))))))))⟩
def x39 : XFun := ⟨30, [.tmp 2],
  .seq (.region [
    ⟨(some 1), .box 45 (.tmp 0), none⟩,
    ⟨(some 2), .move (.const (Go.Value.pointer none)), none⟩]) (.seq (.region [
    ⟨(some 6), .addr 0 (.tmp 1), none⟩,
    ⟨(some 7), .load1 (.tmp 6), none⟩,
    ⟨(some 8), .build [(Go.Value.int Go.IntKind.i64 0), (Go.Value.slice none 0 0), (Go.Value.pointer none)] [(0, 1, (.tmp 7))], none⟩,
    ⟨(some 9), .box 111 (.tmp 8), none⟩,
    ⟨(some 3), .move (.tmp 9), none⟩]) (.seq (.seq (.region [
    ⟨(some 10), .addr 1 (.tmp 1), none⟩,
    ⟨(some 11), .load1 (.tmp 10), none⟩,
    ⟨(some 12), .lenSlice (.tmp 11), none⟩,
    ⟨(some 13), .move (.const (Go.Value.int Go.IntKind.i64 0)), none⟩]) (.block 0 (.loop (.seq (.region [
    ⟨(some 14), .bin .lss (.tmp 13) (.tmp 12), none⟩]) (.seq (.cond (.tmp 14) (.skip) (.exit 0)) (.seq (.block 1 (.seq (.region [
    ⟨(some 15), .indexAddr 2 (.tmp 11) (.tmp 13), none⟩,
    ⟨(some 16), .loadN 2 (.tmp 15), none⟩,
    ⟨(some 5), .alloc 45 [(Go.Value.int Go.IntKind.i64 0), (Go.Value.slice none 0 0)], none⟩,
    ⟨none, .store 2 (.tmp 5) (.tmp 16), none⟩]) (.regionD [
    ⟨(some 17), .move (.tmp 3), none⟩,
    ⟨(some 18), .move (.tmp 3), none⟩,
    ⟨(some 19), .nilCheck (.tmp 18), none⟩,
    ⟨(some 20), .addr 1 (.tmp 19), none⟩,
    ⟨(some 21), .load1 (.tmp 20), none⟩,
    ⟨(some 22), .loadN 2 (.tmp 5), none⟩,
    ⟨(some 23), .call 39 [(.tmp 22)], none⟩,
    ⟨(some 24), .buildSlice 81 1 [(Go.Value.pointer none)] 1 [(0, 1, (.tmp 23))], none⟩,
    ⟨(some 25), .append 81 1 8 (.tmp 21) (.tmp 24), none⟩,
    ⟨(some 26), .nilCheck (.tmp 17), none⟩,
    ⟨(some 27), .addr 1 (.tmp 26), none⟩,
    ⟨none, .store 1 (.tmp 27) (.tmp 25), none⟩] [(4, 6), (4, 7)]))) (.region [
    ⟨(some 28), .bin .add (.tmp 13) (.const (Go.Value.int Go.IntKind.i64 1)), none⟩,
    ⟨(some 13), .move (.tmp 28), none⟩]))))))) (.seq (.region [
    ⟨(some 29), .move (.tmp 3), none⟩,
    ⟨(some 2), .move (.tmp 29), none⟩]) (.ret))))⟩
def x40 : XFun := ⟨3, [.tmp 0],
  .seq (.region [
    ⟨(some 0), .move (.const (Go.Value.pointer none)), none⟩]) (.seq (.region [
    ⟨(some 1), .build [(Go.Value.int Go.IntKind.i64 0), (Go.Value.slice none 0 0), (Go.Value.pointer none)] [], none⟩,
    ⟨(some 2), .box 111 (.tmp 1), none⟩,
    ⟨(some 0), .move (.tmp 2), none⟩]) (.ret))⟩
def x41 : XFun := ⟨41, [.tmp 4],
  .seq (.region [
    ⟨(some 4), .move (.const (Go.Value.int Go.IntKind.i64 0)), none⟩]) (.seq (.region [
    ⟨(some 10), .move (.tmp 0), none⟩,
    ⟨(some 11), .call 70 [(.tmp 10)], none⟩,
    ⟨(some 0), .move (.tmp 11), none⟩]) (.seq (.seq (.region [
    ⟨(some 13), .move (.tmp 1), none⟩,
    ⟨(some 14), .move (.tmp 0), none⟩,
    ⟨(some 15), .lookup .ptr (Go.Value.int Go.IntKind.i64 0) (.tmp 13) (.tmp 14) true, none⟩,
    ⟨(some 12), .move (.tmp 15), none⟩,
    ⟨(some 16), .extract (.tmp 12) 0, none⟩,
    ⟨(some 17), .extract (.tmp 12) 1, none⟩,
    ⟨(some 5), .move (.tmp 16), none⟩,
    ⟨(some 6), .move (.tmp 17), none⟩]) (.seq (.region [
    ⟨(some 18), .move (.tmp 6), none⟩]) (.cond (.tmp 18) (.seq (.region [
    ⟨(some 19), .move (.tmp 5), none⟩,
    ⟨(some 4), .move (.tmp 19), none⟩]) (.ret)) (.skip)))) (.seq (.region [
    ⟨(some 7), .move (.const (Go.Value.int Go.IntKind.i64 0)), none⟩]) (.seq (.seq (.region [
    ⟨(some 20), .move (.tmp 0), none⟩,
    ⟨(some 21), .nilCheck (.tmp 20), none⟩,
    ⟨(some 22), .addr 1 (.tmp 21), none⟩,
    ⟨(some 23), .load1 (.tmp 22), none⟩,
    ⟨(some 24), .lenSlice (.tmp 23), none⟩,
    ⟨(some 25), .move (.const (Go.Value.int Go.IntKind.i64 0)), none⟩]) (.block 0 (.loop (.seq (.region [
    ⟨(some 26), .bin .lss (.tmp 25) (.tmp 24), none⟩]) (.seq (.cond (.tmp 26) (.skip) (.exit 0)) (.seq (.block 1 (.seq (.region [
    ⟨(some 27), .indexAddr 1 (.tmp 23) (.tmp 25), none⟩,
    ⟨(some 28), .load1 (.tmp 27), none⟩,
    ⟨(some 9), .move (.tmp 28), none⟩]) (.region [
    ⟨(some 29), .move (.tmp 7), none⟩,
    ⟨(some 30), .move (.tmp 9), none⟩,
    ⟨(some 31), .move (.tmp 1), none⟩,
    ⟨(some 32), .call 41 [(.tmp 30), (.tmp 31)], none⟩,
    ⟨(some 33), .maxI [(.tmp 29), (.tmp 32)], none⟩,
    ⟨(some 7), .move (.tmp 33), none⟩]))) (.region [
    ⟨(some 34), .bin .add (.tmp 25) (.const (Go.Value.int Go.IntKind.i64 1)), none⟩,
    ⟨(some 25), .move (.tmp 34), none⟩]))))))) (.seq (.region [
    ⟨(some 35), .move (.tmp 1), none⟩,
    ⟨(some 36), .move (.tmp 0), none⟩,
    ⟨(some 37), .move (.tmp 7), none⟩,
    ⟨(some 38), .bin .add (.tmp 37) (.const (Go.Value.int Go.IntKind.i64 1)), none⟩,
    ⟨none, .mapUpdate .ptr (.tmp 35) (.tmp 36) (.tmp 38), none⟩]) (.seq (.region [
    ⟨(some 39), .move (.tmp 7), none⟩,
    ⟨(some 40), .bin .add (.tmp 39) (.const (Go.Value.int Go.IntKind.i64 1)), none⟩,
    ⟨(some 4), .move (.tmp 40), none⟩]) (.ret)))))))⟩
def x42 : XFun := ⟨40, [.tmp 4],
  .seq (.region [
    ⟨(some 4), .move (.const (Go.Value.int Go.IntKind.i64 0)), none⟩]) (.seq (.region [
    ⟨(some 10), .move (.tmp 0), none⟩,
    ⟨(some 11), .call 70 [(.tmp 10)], none⟩,
    ⟨(some 0), .move (.tmp 11), none⟩]) (.seq (.seq (.region [
    ⟨(some 13), .move (.tmp 1), none⟩,
    ⟨(some 14), .move (.tmp 0), none⟩,
    ⟨(some 15), .lookup .ptr (Go.Value.int Go.IntKind.i64 0) (.tmp 13) (.tmp 14) true, none⟩,
    ⟨(some 12), .move (.tmp 15), none⟩,
    ⟨(some 16), .extract (.tmp 12) 0, none⟩,
    ⟨(some 17), .extract (.tmp 12) 1, none⟩,
    ⟨(some 5), .move (.tmp 16), none⟩,
    ⟨(some 6), .move (.tmp 17), none⟩]) (.seq (.region [
    ⟨(some 18), .move (.tmp 6), none⟩]) (.cond (.tmp 18) (.seq (.region [
    ⟨(some 19), .move (.tmp 5), none⟩,
    ⟨(some 4), .move (.tmp 19), none⟩]) (.ret)) (.skip)))) (.seq (.region [
    ⟨(some 7), .move (.const (Go.Value.int Go.IntKind.i64 1)), none⟩]) (.seq (.seq (.region [
    ⟨(some 20), .move (.tmp 0), none⟩,
    ⟨(some 21), .nilCheck (.tmp 20), none⟩,
    ⟨(some 22), .addr 1 (.tmp 21), none⟩,
    ⟨(some 23), .load1 (.tmp 22), none⟩,
    ⟨(some 24), .lenSlice (.tmp 23), none⟩,
    ⟨(some 25), .move (.const (Go.Value.int Go.IntKind.i64 0)), none⟩]) (.block 0 (.loop (.seq (.region [
    ⟨(some 26), .bin .lss (.tmp 25) (.tmp 24), none⟩]) (.seq (.cond (.tmp 26) (.skip) (.exit 0)) (.seq (.block 1 (.seq (.region [
    ⟨(some 27), .indexAddr 1 (.tmp 23) (.tmp 25), none⟩,
    ⟨(some 28), .load1 (.tmp 27), none⟩,
    ⟨(some 9), .move (.tmp 28), none⟩]) (.region [
    ⟨(some 29), .move (.tmp 7), none⟩,
    ⟨(some 30), .move (.tmp 9), none⟩,
    ⟨(some 31), .move (.tmp 1), none⟩,
    ⟨(some 32), .call 42 [(.tmp 30), (.tmp 31)], none⟩,
    ⟨(some 33), .bin .add (.tmp 29) (.tmp 32), none⟩,
    ⟨(some 34), .minI [(.tmp 33), (.const (Go.Value.int Go.IntKind.i64 1001))], none⟩,
    ⟨(some 7), .move (.tmp 34), none⟩]))) (.region [
    ⟨(some 35), .bin .add (.tmp 25) (.const (Go.Value.int Go.IntKind.i64 1)), none⟩,
    ⟨(some 25), .move (.tmp 35), none⟩]))))))) (.seq (.region [
    ⟨(some 36), .move (.tmp 1), none⟩,
    ⟨(some 37), .move (.tmp 0), none⟩,
    ⟨(some 38), .move (.tmp 7), none⟩,
    ⟨none, .mapUpdate .ptr (.tmp 36) (.tmp 37) (.tmp 38), none⟩]) (.seq (.region [
    ⟨(some 39), .move (.tmp 7), none⟩,
    ⟨(some 4), .move (.tmp 39), none⟩]) (.ret)))))))⟩
def x43 : XFun := ⟨37, [.cellN 2 2],
  .seq (.region [
    ⟨(some 2), .alloc 45 [(Go.Value.int Go.IntKind.i64 0), (Go.Value.slice none 0 0)], none⟩]) (.seq (.region [
    ⟨(some 6), .move (.tmp 0), none⟩,
    ⟨(some 7), .call 70 [(.tmp 6)], none⟩,
    ⟨(some 0), .move (.tmp 7), none⟩]) (.seq (.seq (.region [
    ⟨(some 8), .move (.tmp 0), none⟩,
    ⟨(some 9), .nilCheck (.tmp 8), none⟩,
    ⟨(some 10), .addr 0 (.tmp 9), none⟩,
    ⟨(some 11), .load1 (.tmp 10), none⟩,
    ⟨(some 12), .bin .eql (.tmp 11) (.const (Go.Value.int Go.IntKind.i64 0)), none⟩]) (.cond (.tmp 12) (.seq (.region [
    ⟨(some 13), .build [(Go.Value.int Go.IntKind.i64 0), (Go.Value.slice none 0 0)] [(0, 1, (.const (Go.Value.int Go.IntKind.i64 1)))], none⟩,
    ⟨none, .store 2 (.tmp 2) (.tmp 13), none⟩]) (.ret)) (.skip))) (.seq (.region [
    ⟨(some 14), .move (.tmp 0), none⟩,
    ⟨(some 15), .nilCheck (.tmp 14), none⟩,
    ⟨(some 16), .addr 0 (.tmp 15), none⟩,
    ⟨(some 17), .load1 (.tmp 16), none⟩,
    ⟨(some 18), .build [(Go.Value.int Go.IntKind.i64 0), (Go.Value.slice none 0 0)] [(0, 1, (.tmp 17))], none⟩,
    ⟨(some 3), .alloc 45 [(Go.Value.int Go.IntKind.i64 0), (Go.Value.slice none 0 0)], none⟩,
    ⟨none, .store 2 (.tmp 3) (.tmp 18), none⟩]) (.seq (.seq (.region [
    ⟨(some 19), .move (.tmp 0), none⟩,
    ⟨(some 20), .nilCheck (.tmp 19), none⟩,
    ⟨(some 21), .addr 1 (.tmp 20), none⟩,
    ⟨(some 22), .load1 (.tmp 21), none⟩,
    ⟨(some 23), .lenSlice (.tmp 22), none⟩,
    ⟨(some 24), .move (.const (Go.Value.int Go.IntKind.i64 0)), none⟩]) (.block 0 (.loop (.seq (.region [
    ⟨(some 25), .bin .lss (.tmp 24) (.tmp 23), none⟩]) (.seq (.cond (.tmp 25) (.skip) (.exit 0)) (.seq (.block 1 (.seq (.region [
    ⟨(some 26), .indexAddr 1 (.tmp 22) (.tmp 24), none⟩,
    ⟨(some 27), .load1 (.tmp 26), none⟩,
    ⟨(some 5), .move (.tmp 27), none⟩]) (.regionD [
    ⟨(some 28), .addr 1 (.tmp 3), none⟩,
    ⟨(some 29), .load1 (.tmp 28), none⟩,
    ⟨(some 30), .move (.tmp 5), none⟩,
    ⟨(some 31), .call 43 [(.tmp 30)], none⟩,
    ⟨(some 32), .buildSlice 45 2 [(Go.Value.int Go.IntKind.i64 0), (Go.Value.slice none 0 0)] 1 [(0, 2, (.tmp 31))], none⟩,
    ⟨(some 33), .append 45 2 32 (.tmp 29) (.tmp 32), none⟩,
    ⟨(some 34), .addr 1 (.tmp 3), none⟩,
    ⟨none, .store 1 (.tmp 34) (.tmp 33), none⟩] [(1, 3), (1, 4)]))) (.region [
    ⟨(some 35), .bin .add (.tmp 24) (.const (Go.Value.int Go.IntKind.i64 1)), none⟩,
    ⟨(some 24), .move (.tmp 35), none⟩]))))))) (.seq (.region [
    ⟨(some 36), .loadN 2 (.tmp 3), none⟩,
    ⟨none, .store 2 (.tmp 2) (.tmp 36), none⟩]) (.ret))))))⟩
def x47 : XFun := ⟨31, [.tmp 6],
  .seq (.region [
    ⟨(some 3), .box 45 (.tmp 0), none⟩,
    ⟨(some 6), .move (.const (Go.Value.int Go.IntKind.i64 0)), none⟩]) (.seq (.region [
    ⟨(some 8), .move (.tmp 1), none⟩,
    ⟨(some 9), .bin .add (.tmp 8) (.const (Go.Value.int Go.IntKind.i64 1)), none⟩,
    ⟨(some 1), .move (.tmp 9), none⟩]) (.seq (.seq (.region [
    ⟨(some 7), .move (.const (Go.Value.int Go.IntKind.i64 0)), none⟩]) (.block 0 (.loop (.seq (.seq (.region [
    ⟨(some 10), .move (.tmp 7), none⟩,
    ⟨(some 11), .addr 1 (.tmp 3), none⟩,
    ⟨(some 12), .load1 (.tmp 11), none⟩,
    ⟨(some 13), .lenSlice (.tmp 12), none⟩,
    ⟨(some 14), .bin .lss (.tmp 10) (.tmp 13), none⟩,
    ⟨(some 15), .move (.tmp 14), none⟩,
    ⟨(some 16), .move (.tmp 1), (some (15, true))⟩,
    ⟨(some 17), .move (.tmp 2), (some (15, true))⟩,
    ⟨(some 18), .bin .leq (.tmp 16) (.tmp 17), (some (15, true))⟩,
    ⟨(some 19), .pick (.tmp 15) (.tmp 18) (.const (Go.Value.bool false)), none⟩]) (.cond (.tmp 19) (.skip) (.exit 0))) (.seq (.block 1 (.region [
    ⟨(some 22), .addr 1 (.tmp 3), none⟩,
    ⟨(some 23), .load1 (.tmp 22), none⟩,
    ⟨(some 24), .move (.tmp 7), none⟩,
    ⟨(some 25), .indexAddr 2 (.tmp 23) (.tmp 24), none⟩,
    ⟨(some 26), .loadN 2 (.tmp 25), none⟩,
    ⟨(some 27), .move (.tmp 1), none⟩,
    ⟨(some 28), .move (.tmp 2), none⟩,
    ⟨(some 29), .call 47 [(.tmp 26), (.tmp 27), (.tmp 28)], none⟩,
    ⟨(some 1), .move (.tmp 29), none⟩])) (.region [
    ⟨(some 20), .move (.tmp 7), none⟩,
    ⟨(some 21), .bin .add (.tmp 20) (.const (Go.Value.int Go.IntKind.i64 1)), none⟩,
    ⟨(some 7), .move (.tmp 21), none⟩])))))) (.seq (.region [
    ⟨(some 30), .move (.tmp 1), none⟩,
    ⟨(some 6), .move (.tmp 30), none⟩]) (.ret))))⟩
def x48 : XFun := ⟨39, [.tmp 6],
  .seq (.region [
    ⟨(some 3), .box 28 (.tmp 0), none⟩,
    ⟨(some 6), .move (.const (Go.Value.int Go.IntKind.i64 0)), none⟩]) (.seq (.region [
    ⟨(some 8), .move (.tmp 1), none⟩,
    ⟨(some 9), .bin .add (.tmp 8) (.const (Go.Value.int Go.IntKind.i64 1)), none⟩,
    ⟨(some 10), .addr 3 (.tmp 3), none⟩,
    ⟨(some 11), .load1 (.tmp 10), none⟩,
    ⟨(some 12), .lenSlice (.tmp 11), none⟩,
    ⟨(some 13), .bin .add (.tmp 9) (.tmp 12), none⟩,
    ⟨(some 14), .addr 4 (.tmp 3), none⟩,
    ⟨(some 15), .load1 (.tmp 14), none⟩,
    ⟨(some 16), .lenSlice (.tmp 15), none⟩,
    ⟨(some 17), .bin .add (.tmp 13) (.tmp 16), none⟩,
    ⟨(some 1), .move (.tmp 17), none⟩]) (.seq (.seq (.region [
    ⟨(some 7), .move (.const (Go.Value.int Go.IntKind.i64 0)), none⟩]) (.block 0 (.loop (.seq (.seq (.region [
    ⟨(some 18), .move (.tmp 7), none⟩,
    ⟨(some 19), .addr 5 (.tmp 3), none⟩,
    ⟨(some 20), .load1 (.tmp 19), none⟩,
    ⟨(some 21), .lenSlice (.tmp 20), none⟩,
    ⟨(some 22), .bin .lss (.tmp 18) (.tmp 21), none⟩,
    ⟨(some 23), .move (.tmp 22), none⟩,
    ⟨(some 24), .move (.tmp 1), (some (23, true))⟩,
    ⟨(some 25), .move (.tmp 2), (some (23, true))⟩,
    ⟨(some 26), .bin .leq (.tmp 24) (.tmp 25), (some (23, true))⟩,
    ⟨(some 27), .pick (.tmp 23) (.tmp 26) (.const (Go.Value.bool false)), none⟩]) (.cond (.tmp 27) (.skip) (.exit 0))) (.seq (.block 1 (.region [
    ⟨(some 30), .addr 5 (.tmp 3), none⟩,
    ⟨(some 31), .load1 (.tmp 30), none⟩,
    ⟨(some 32), .move (.tmp 7), none⟩,
    ⟨(some 33), .indexAddr 8 (.tmp 31) (.tmp 32), none⟩,
    ⟨(some 34), .loadN 8 (.tmp 33), none⟩,
    ⟨(some 35), .move (.tmp 1), none⟩,
    ⟨(some 36), .move (.tmp 2), none⟩,
    ⟨(some 37), .call 48 [(.tmp 34), (.tmp 35), (.tmp 36)], none⟩,
    ⟨(some 1), .move (.tmp 37), none⟩])) (.region [
    ⟨(some 28), .move (.tmp 7), none⟩,
    ⟨(some 29), .bin .add (.tmp 28) (.const (Go.Value.int Go.IntKind.i64 1)), none⟩,
    ⟨(some 7), .move (.tmp 29), none⟩])))))) (.seq (.region [
    ⟨(some 38), .move (.tmp 1), none⟩,
    ⟨(some 6), .move (.tmp 38), none⟩]) (.ret))))⟩
def x49 : XFun := ⟨102, [.tmp 2, .cellN 3 4],
  .seq (.region [
    ⟨(some 2), .move (.const (Go.Value.slice none 0 0)), none⟩,
    ⟨(some 3), .alloc 40 [(Go.Value.int Go.IntKind.i64 0), (Go.Value.string { data := #[] }), (Go.Value.int Go.IntKind.i64 0), (Go.Value.int Go.IntKind.i64 0)], none⟩]) (.seq (.seq (.region [
    ⟨(some 11), .move (.tmp 0), none⟩,
    ⟨(some 12), .lenStr (.tmp 11), none⟩,
    ⟨(some 13), .bin .gtr (.tmp 12) (.const (Go.Value.int Go.IntKind.i64 20000)), none⟩]) (.cond (.tmp 13) (.seq (.region [
    ⟨(some 14), .build [(Go.Value.int Go.IntKind.i64 0), (Go.Value.string { data := #[] }), (Go.Value.int Go.IntKind.i64 0), (Go.Value.int Go.IntKind.i64 0)] [(0, 1, (.const (Go.Value.int Go.IntKind.i64 2)))], none⟩,
    ⟨(some 2), .move (.const (Go.Value.slice none 0 0)), none⟩,
    ⟨none, .store 4 (.tmp 3) (.tmp 14), none⟩]) (.ret)) (.skip))) (.seq (.region [
    ⟨(some 4), .move (.const (Go.Value.slice none 0 0)), none⟩]) (.seq (.region [
    ⟨(some 5), .move (.const (Go.Value.int Go.IntKind.i64 1)), none⟩,
    ⟨(some 6), .move (.const (Go.Value.int Go.IntKind.i64 0)), none⟩]) (.seq (.seq (.region [
    ⟨(some 7), .move (.const (Go.Value.int Go.IntKind.i64 0)), none⟩]) (.block 0 (.loop (.seq (.seq (.region [
    ⟨(some 15), .move (.tmp 7), none⟩,
    ⟨(some 16), .move (.tmp 0), none⟩,
    ⟨(some 17), .lenStr (.tmp 16), none⟩,
    ⟨(some 18), .bin .lss (.tmp 15) (.tmp 17), none⟩]) (.cond (.tmp 18) (.skip) (.exit 0))) (.block 1 (.seq (.seq (.region [
    ⟨(some 19), .move (.tmp 0), none⟩,
    ⟨(some 20), .move (.tmp 7), none⟩,
    ⟨(some 21), .indexStr (.tmp 19) (.tmp 20), none⟩,
    ⟨(some 8), .move (.tmp 21), none⟩]) (.block 2 (.seq (.region [
    ⟨(some 23), .move (.tmp 8), none⟩,
    ⟨(some 24), .bin .eql (.tmp 23) (.const (Go.Value.int Go.IntKind.u8 10)), none⟩,
    ⟨(some 22), .move (.tmp 24), none⟩]) (.cond (.tmp 22) (.seq (.region [
    ⟨(some 25), .move (.tmp 7), none⟩,
    ⟨(some 26), .bin .add (.tmp 25) (.const (Go.Value.int Go.IntKind.i64 1)), none⟩,
    ⟨(some 7), .move (.tmp 26), none⟩]) (.seq (.region [
    ⟨(some 27), .move (.tmp 5), none⟩,
    ⟨(some 28), .bin .add (.tmp 27) (.const (Go.Value.int Go.IntKind.i64 1)), none⟩,
    ⟨(some 29), .move (.tmp 7), none⟩,
    ⟨(some 5), .move (.tmp 28), none⟩,
    ⟨(some 6), .move (.tmp 29), none⟩]) (.exit 1))) (.seq (.region [
    ⟨(some 31), .move (.tmp 8), none⟩,
    ⟨(some 32), .bin .eql (.tmp 31) (.const (Go.Value.int Go.IntKind.u8 32)), none⟩,
    ⟨(some 33), .move (.tmp 32), none⟩,
    ⟨(some 34), .move (.tmp 8), (some (33, false))⟩,
    ⟨(some 35), .bin .eql (.tmp 34) (.const (Go.Value.int Go.IntKind.u8 9)), (some (33, false))⟩,
    ⟨(some 36), .pick (.tmp 33) (.const (Go.Value.bool true)) (.tmp 35), none⟩,
    ⟨(some 37), .move (.tmp 36), none⟩,
    ⟨(some 38), .move (.tmp 8), (some (37, false))⟩,
    ⟨(some 39), .bin .eql (.tmp 38) (.const (Go.Value.int Go.IntKind.u8 13)), (some (37, false))⟩,
    ⟨(some 40), .pick (.tmp 37) (.const (Go.Value.bool true)) (.tmp 39), none⟩,
    ⟨(some 30), .move (.tmp 40), none⟩]) (.cond (.tmp 30) (.seq (.region [
    ⟨(some 41), .move (.tmp 7), none⟩,
    ⟨(some 42), .bin .add (.tmp 41) (.const (Go.Value.int Go.IntKind.i64 1)), none⟩,
    ⟨(some 7), .move (.tmp 42), none⟩]) (.exit 1)) (.seq (.region [
    ⟨(some 44), .move (.tmp 8), none⟩,
    ⟨(some 45), .bin .eql (.tmp 44) (.const (Go.Value.int Go.IntKind.u8 35)), none⟩,
    ⟨(some 43), .move (.tmp 45), none⟩]) (.cond (.tmp 43) (.seq (.block 3 (.loop (.seq (.seq (.region [
    ⟨(some 46), .move (.tmp 7), none⟩,
    ⟨(some 47), .move (.tmp 0), none⟩,
    ⟨(some 48), .lenStr (.tmp 47), none⟩,
    ⟨(some 49), .bin .lss (.tmp 46) (.tmp 48), none⟩,
    ⟨(some 50), .move (.tmp 49), none⟩,
    ⟨(some 51), .move (.tmp 0), (some (50, true))⟩,
    ⟨(some 52), .move (.tmp 7), (some (50, true))⟩,
    ⟨(some 53), .indexStr (.tmp 51) (.tmp 52), (some (50, true))⟩,
    ⟨(some 54), .bin .neq (.tmp 53) (.const (Go.Value.int Go.IntKind.u8 10)), (some (50, true))⟩,
    ⟨(some 55), .pick (.tmp 50) (.tmp 54) (.const (Go.Value.bool false)), none⟩]) (.cond (.tmp 55) (.skip) (.exit 3))) (.block 4 (.region [
    ⟨(some 56), .move (.tmp 7), none⟩,
    ⟨(some 57), .bin .add (.tmp 56) (.const (Go.Value.int Go.IntKind.i64 1)), none⟩,
    ⟨(some 7), .move (.tmp 57), none⟩]))))) (.exit 1)) (.skip))))))))) (.seq (.region [
    ⟨(some 59), .move (.tmp 0), none⟩,
    ⟨(some 60), .move (.tmp 7), none⟩,
    ⟨(some 61), .sliceStr (.tmp 59) (some (.tmp 60)) none, none⟩,
    ⟨(some 62), .call 71 [(.tmp 61)], none⟩,
    ⟨(some 58), .move (.tmp 62), none⟩,
    ⟨(some 63), .extract (.tmp 58) 0, none⟩,
    ⟨(some 64), .extract (.tmp 58) 1, none⟩,
    ⟨(some 9), .alloc 98 [(Go.Value.int Go.IntKind.i64 0), (Go.Value.string { data := #[] }), (Go.Value.int Go.IntKind.i64 0), (Go.Value.int Go.IntKind.i64 0), (Go.Value.int Go.IntKind.i64 0)], none⟩,
    ⟨none, .store 5 (.tmp 9) (.tmp 63), none⟩,
    ⟨(some 10), .move (.tmp 64), none⟩]) (.seq (.region [
    ⟨(some 65), .move (.tmp 5), none⟩,
    ⟨(some 66), .move (.tmp 7), none⟩,
    ⟨(some 67), .move (.tmp 6), none⟩,
    ⟨(some 68), .bin .sub (.tmp 66) (.tmp 67), none⟩,
    ⟨(some 69), .bin .add (.tmp 68) (.const (Go.Value.int Go.IntKind.i64 1)), none⟩,
    ⟨(some 70), .addr 3 (.tmp 9), none⟩,
    ⟨none, .store 1 (.tmp 70) (.tmp 65), none⟩,
    ⟨(some 71), .addr 4 (.tmp 9), none⟩,
    ⟨none, .store 1 (.tmp 71) (.tmp 69), none⟩]) (.seq (.seq (.region [
    ⟨(some 72), .move (.tmp 10), none⟩,
    ⟨(some 73), .bin .neq (.tmp 72) (.const (Go.Value.int Go.IntKind.i64 0)), none⟩]) (.cond (.tmp 73) (.seq (.regionD [
    ⟨(some 74), .move (.tmp 10), none⟩,
    ⟨(some 75), .addr 1 (.tmp 9), none⟩,
    ⟨(some 76), .load1 (.tmp 75), none⟩,
    ⟨(some 77), .addr 3 (.tmp 9), none⟩,
    ⟨(some 78), .load1 (.tmp 77), none⟩,
    ⟨(some 79), .addr 4 (.tmp 9), none⟩,
    ⟨(some 80), .load1 (.tmp 79), none⟩,
    ⟨(some 81), .build [(Go.Value.int Go.IntKind.i64 0), (Go.Value.string { data := #[] }), (Go.Value.int Go.IntKind.i64 0), (Go.Value.int Go.IntKind.i64 0)] [(0, 1, (.tmp 74)), (1, 1, (.tmp 76)), (2, 1, (.tmp 78)), (3, 1, (.tmp 80))], none⟩,
    ⟨(some 2), .move (.const (Go.Value.slice none 0 0)), none⟩,
    ⟨none, .store 4 (.tmp 3) (.tmp 81), none⟩] []) (.ret)) (.skip))) (.seq (.region [
    ⟨(some 82), .move (.tmp 4), none⟩,
    ⟨(some 83), .loadN 5 (.tmp 9), none⟩,
    ⟨(some 84), .buildSlice 98 5 [(Go.Value.int Go.IntKind.i64 0), (Go.Value.string { data := #[] }), (Go.Value.int Go.IntKind.i64 0), (Go.Value.int Go.IntKind.i64 0), (Go.Value.int Go.IntKind.i64 0)] 1 [(0, 5, (.tmp 83))], none⟩,
    ⟨(some 85), .append 98 5 48 (.tmp 82) (.tmp 84), none⟩,
    ⟨(some 4), .move (.tmp 85), none⟩]) (.region [
    ⟨(some 86), .move (.tmp 7), none⟩,
    ⟨(some 87), .addr 1 (.tmp 9), none⟩,
    ⟨(some 88), .load1 (.tmp 87), none⟩,
    ⟨(some 89), .lenStr (.tmp 88), none⟩,
    ⟨(some 90), .bin .add (.tmp 86) (.tmp 89), none⟩,
    ⟨(some 7), .move (.tmp 90), none⟩]))))))))))) (.seq (.region [
    ⟨(some 91), .move (.tmp 4), none⟩,
    ⟨(some 92), .move (.tmp 5), none⟩,
    ⟨(some 93), .move (.tmp 0), none⟩,
    ⟨(some 94), .lenStr (.tmp 93), none⟩,
    ⟨(some 95), .move (.tmp 6), none⟩,
    ⟨(some 96), .bin .sub (.tmp 94) (.tmp 95), none⟩,
    ⟨(some 97), .bin .add (.tmp 96) (.const (Go.Value.int Go.IntKind.i64 1)), none⟩,
    ⟨(some 98), .build [(Go.Value.int Go.IntKind.i64 0), (Go.Value.string { data := #[] }), (Go.Value.int Go.IntKind.i64 0), (Go.Value.int Go.IntKind.i64 0), (Go.Value.int Go.IntKind.i64 0)] [(0, 1, (.const (Go.Value.int Go.IntKind.i64 5))), (3, 1, (.tmp 92)), (4, 1, (.tmp 97))], none⟩,
    ⟨(some 99), .buildSlice 98 5 [(Go.Value.int Go.IntKind.i64 0), (Go.Value.string { data := #[] }), (Go.Value.int Go.IntKind.i64 0), (Go.Value.int Go.IntKind.i64 0), (Go.Value.int Go.IntKind.i64 0)] 1 [(0, 5, (.tmp 98))], none⟩,
    ⟨(some 100), .append 98 5 48 (.tmp 91) (.tmp 99), none⟩,
    ⟨(some 101), .build [(Go.Value.int Go.IntKind.i64 0), (Go.Value.string { data := #[] }), (Go.Value.int Go.IntKind.i64 0), (Go.Value.int Go.IntKind.i64 0)] [], none⟩,
    ⟨(some 2), .move (.tmp 100), none⟩,
    ⟨none, .store 4 (.tmp 3) (.tmp 101), none⟩]) (.ret))))))⟩
def x50 : XFun := ⟨16, [],
  .seq (.region [
    ⟨(some 4), .recover, none⟩,
    ⟨(some 1), .move (.tmp 4), none⟩]) (.seq (.region [
    ⟨(some 5), .move (.tmp 1), none⟩,
    ⟨(some 6), .eq .ifaceNil true (.tmp 5) (.const Go.Value.nilIface), none⟩]) (.cond (.tmp 6) (.seq (.region [
    ⟨(some 8), .move (.tmp 1), none⟩,
    ⟨(some 9), .assertT 40 (Go.Value.agg #[(Go.Value.int Go.IntKind.i64 0), (Go.Value.string { data := #[] }), (Go.Value.int Go.IntKind.i64 0), (Go.Value.int Go.IntKind.i64 0)]) (.tmp 8) true, none⟩,
    ⟨(some 7), .move (.tmp 9), none⟩,
    ⟨(some 10), .extract (.tmp 7) 0, none⟩,
    ⟨(some 11), .extract (.tmp 7) 1, none⟩,
    ⟨(some 2), .alloc 40 [(Go.Value.int Go.IntKind.i64 0), (Go.Value.string { data := #[] }), (Go.Value.int Go.IntKind.i64 0), (Go.Value.int Go.IntKind.i64 0)], none⟩,
    ⟨none, .store 4 (.tmp 2) (.tmp 10), none⟩,
    ⟨(some 3), .move (.tmp 11), none⟩]) (.seq (.seq (.region [
    ⟨(some 12), .move (.tmp 3), none⟩,
    ⟨(some 13), .un .not (.tmp 12), none⟩]) (.cond (.tmp 13) (.region [
    ⟨(some 14), .move (.tmp 1), none⟩,
    ⟨none, .panic (.tmp 14), none⟩]) (.skip))) (.region [
    ⟨(some 15), .loadN 4 (.tmp 2), none⟩,
    ⟨none, .store 4 (.tmp 0) (.tmp 15), none⟩]))) (.skip)))⟩
def x51 : XFun := ⟨13, [.cellN 2 5],
  .seq (.region [
    ⟨(some 2), .alloc 98 [(Go.Value.int Go.IntKind.i64 0), (Go.Value.string { data := #[] }), (Go.Value.int Go.IntKind.i64 0), (Go.Value.int Go.IntKind.i64 0), (Go.Value.int Go.IntKind.i64 0)], none⟩]) (.seq (.regionD [
    ⟨(some 3), .move (.tmp 0), none⟩,
    ⟨(some 4), .nilCheck (.tmp 3), none⟩,
    ⟨(some 5), .addr 0 (.tmp 4), none⟩,
    ⟨(some 6), .load1 (.tmp 5), none⟩,
    ⟨(some 7), .move (.tmp 0), none⟩,
    ⟨(some 8), .nilCheck (.tmp 7), none⟩,
    ⟨(some 9), .addr 1 (.tmp 8), none⟩,
    ⟨(some 10), .load1 (.tmp 9), none⟩,
    ⟨(some 11), .indexAddr 5 (.tmp 6) (.tmp 10), none⟩,
    ⟨(some 12), .loadN 5 (.tmp 11), none⟩,
    ⟨none, .store 5 (.tmp 2) (.tmp 12), none⟩] []) (.ret))⟩
def x52 : XFun := ⟨13, [],
  .seq (.region [
    ⟨(some 3), .move (.tmp 0), none⟩,
    ⟨(some 4), .call 51 [(.tmp 3)], none⟩,
    ⟨(some 2), .alloc 98 [(Go.Value.int Go.IntKind.i64 0), (Go.Value.string { data := #[] }), (Go.Value.int Go.IntKind.i64 0), (Go.Value.int Go.IntKind.i64 0), (Go.Value.int Go.IntKind.i64 0)], none⟩,
    ⟨none, .store 5 (.tmp 2) (.tmp 4), none⟩]) (.region [
    ⟨(some 5), .addr 1 (.tmp 2), none⟩,
    ⟨(some 6), .load1 (.tmp 5), none⟩,
    ⟨(some 7), .addr 3 (.tmp 2), none⟩,
    ⟨(some 8), .load1 (.tmp 7), none⟩,
    ⟨(some 9), .addr 4 (.tmp 2), none⟩,
    ⟨(some 10), .load1 (.tmp 9), none⟩,
    ⟨(some 11), .build [(Go.Value.int Go.IntKind.i64 0), (Go.Value.string { data := #[] }), (Go.Value.int Go.IntKind.i64 0), (Go.Value.int Go.IntKind.i64 0)] [(0, 1, (.const (Go.Value.int Go.IntKind.i64 11))), (1, 1, (.tmp 6)), (2, 1, (.tmp 8)), (3, 1, (.tmp 10))], none⟩,
    ⟨(some 12), .mkIface 40 (.tmp 11), none⟩,
    ⟨none, .panic (.tmp 12), none⟩])⟩
def x53 : XFun := ⟨15, [.tmp 4],
  .seq (.region [
    ⟨(some 4), .move (.const (Go.Value.bool false)), none⟩]) (.seq (.seq (.region [
    ⟨(some 5), .move (.tmp 0), none⟩,
    ⟨(some 6), .move (.tmp 1), none⟩,
    ⟨(some 7), .call 72 [(.tmp 5), (.tmp 6)], none⟩]) (.cond (.tmp 7) (.seq (.region [
    ⟨(some 8), .move (.tmp 0), none⟩,
    ⟨(some 9), .nilCheck (.tmp 8), none⟩,
    ⟨(some 10), .addr 1 (.tmp 9), none⟩,
    ⟨(some 11), .load1 (.tmp 10), none⟩,
    ⟨(some 12), .bin .add (.tmp 11) (.const (Go.Value.int Go.IntKind.i64 1)), none⟩,
    ⟨(some 13), .nilCheck (.tmp 8), none⟩,
    ⟨(some 14), .addr 1 (.tmp 13), none⟩,
    ⟨none, .store 1 (.tmp 14) (.tmp 12), none⟩]) (.seq (.region [
    ⟨(some 4), .move (.const (Go.Value.bool true)), none⟩]) (.ret))) (.skip))) (.seq (.region [
    ⟨(some 4), .move (.const (Go.Value.bool false)), none⟩]) (.ret)))⟩
def x54 : XFun := ⟨17, [.cellN 2 5],
  .seq (.region [
    ⟨(some 2), .alloc 60 [(Go.Value.string { data := #[] }), (Go.Value.int Go.IntKind.i64 0), (Go.Value.slice none 0 0), (Go.Value.int Go.IntKind.i64 0), (Go.Value.int Go.IntKind.i64 0)], none⟩]) (.seq (.region [
    ⟨(some 4), .move (.tmp 0), none⟩,
    ⟨(some 5), .call 73 [(.tmp 4), (.const (Go.Value.int Go.IntKind.i64 1))], none⟩,
    ⟨(some 3), .alloc 98 [(Go.Value.int Go.IntKind.i64 0), (Go.Value.string { data := #[] }), (Go.Value.int Go.IntKind.i64 0), (Go.Value.int Go.IntKind.i64 0), (Go.Value.int Go.IntKind.i64 0)], none⟩,
    ⟨none, .store 5 (.tmp 3) (.tmp 5), none⟩]) (.seq (.region [
    ⟨(some 6), .move (.tmp 0), none⟩,
    ⟨(some 7), .call 55 [(.tmp 6), (.const (Go.Value.string { data := #[58] }))], none⟩]) (.seq (.regionD [
    ⟨(some 8), .addr 1 (.tmp 3), none⟩,
    ⟨(some 9), .load1 (.tmp 8), none⟩,
    ⟨(some 10), .move (.tmp 0), none⟩,
    ⟨(some 11), .call 74 [(.tmp 10)], none⟩,
    ⟨(some 12), .addr 3 (.tmp 3), none⟩,
    ⟨(some 13), .load1 (.tmp 12), none⟩,
    ⟨(some 14), .addr 4 (.tmp 3), none⟩,
    ⟨(some 15), .load1 (.tmp 14), none⟩,
    ⟨(some 16), .build [(Go.Value.string { data := #[] }), (Go.Value.int Go.IntKind.i64 0), (Go.Value.slice none 0 0), (Go.Value.int Go.IntKind.i64 0), (Go.Value.int Go.IntKind.i64 0)] [(0, 1, (.tmp 9)), (1, 2, (.tmp 11)), (3, 1, (.tmp 13)), (4, 1, (.tmp 15))], none⟩,
    ⟨none, .store 5 (.tmp 2) (.tmp 16), none⟩] [(1, 3), (3, 5), (3, 7)]) (.ret))))⟩
def x55 : XFun := ⟨10, [],
  .seq (.region [
    ⟨(some 4), .move (.tmp 0), none⟩,
    ⟨(some 5), .move (.tmp 1), none⟩,
    ⟨(some 6), .call 53 [(.tmp 4), (.tmp 5)], none⟩,
    ⟨(some 7), .un .not (.tmp 6), none⟩]) (.cond (.tmp 7) (.region [
    ⟨(some 8), .move (.tmp 0), none⟩,
    ⟨(some 9), .call 52 [(.tmp 8)], none⟩]) (.skip))⟩
def x56 : XFun := ⟨50, [.cellN 2 14],
  .seq (.region [
    ⟨(some 2), .alloc 56 [(Go.Value.string { data := #[] }), (Go.Value.slice none 0 0), (Go.Value.int Go.IntKind.i64 0), (Go.Value.slice none 0 0), (Go.Value.int Go.IntKind.i64 0), (Go.Value.int Go.IntKind.i64 0), (Go.Value.string { data := #[] }), (Go.Value.slice none 0 0), (Go.Value.slice none 0 0), (Go.Value.slice none 0 0), (Go.Value.int Go.IntKind.i64 0), (Go.Value.int Go.IntKind.i64 0), (Go.Value.int Go.IntKind.i64 0), (Go.Value.int Go.IntKind.i64 0)], none⟩]) (.seq (.region [
    ⟨(some 5), .move (.tmp 0), none⟩,
    ⟨(some 6), .call 73 [(.tmp 5), (.const (Go.Value.int Go.IntKind.i64 1))], none⟩,
    ⟨(some 3), .alloc 98 [(Go.Value.int Go.IntKind.i64 0), (Go.Value.string { data := #[] }), (Go.Value.int Go.IntKind.i64 0), (Go.Value.int Go.IntKind.i64 0), (Go.Value.int Go.IntKind.i64 0)], none⟩,
    ⟨none, .store 5 (.tmp 3) (.tmp 6), none⟩]) (.seq (.region [
    ⟨(some 7), .addr 1 (.tmp 3), none⟩,
    ⟨(some 8), .load1 (.tmp 7), none⟩,
    ⟨(some 9), .addr 3 (.tmp 3), none⟩,
    ⟨(some 10), .load1 (.tmp 9), none⟩,
    ⟨(some 11), .addr 4 (.tmp 3), none⟩,
    ⟨(some 12), .load1 (.tmp 11), none⟩,
    ⟨(some 13), .build [(Go.Value.string { data := #[] }), (Go.Value.slice none 0 0), (Go.Value.int Go.IntKind.i64 0), (Go.Value.slice none 0 0), (Go.Value.int Go.IntKind.i64 0), (Go.Value.int Go.IntKind.i64 0), (Go.Value.string { data := #[] }), (Go.Value.slice none 0 0), (Go.Value.slice none 0 0), (Go.Value.slice none 0 0), (Go.Value.int Go.IntKind.i64 0), (Go.Value.int Go.IntKind.i64 0), (Go.Value.int Go.IntKind.i64 0), (Go.Value.int Go.IntKind.i64 0)] [(0, 1, (.tmp 8)), (12, 1, (.tmp 10)), (13, 1, (.tmp 12))], none⟩,
    ⟨(some 4), .alloc 56 [(Go.Value.string { data := #[] }), (Go.Value.slice none 0 0), (Go.Value.int Go.IntKind.i64 0), (Go.Value.slice none 0 0), (Go.Value.int Go.IntKind.i64 0), (Go.Value.int Go.IntKind.i64 0), (Go.Value.string { data := #[] }), (Go.Value.slice none 0 0), (Go.Value.slice none 0 0), (Go.Value.slice none 0 0), (Go.Value.int Go.IntKind.i64 0), (Go.Value.int Go.IntKind.i64 0), (Go.Value.int Go.IntKind.i64 0), (Go.Value.int Go.IntKind.i64 0)], none⟩,
    ⟨none, .store 14 (.tmp 4) (.tmp 13), none⟩]) (.seq (.region [
    ⟨(some 14), .move (.tmp 0), none⟩,
    ⟨(some 15), .call 55 [(.tmp 14), (.const (Go.Value.string { data := #[40] }))], none⟩]) (.seq (.seq (.region [
    ⟨(some 16), .move (.tmp 0), none⟩,
    ⟨(some 17), .call 72 [(.tmp 16), (.const (Go.Value.string { data := #[41] }))], none⟩,
    ⟨(some 18), .un .not (.tmp 17), none⟩]) (.cond (.tmp 18) (.seq (.regionD [
    ⟨(some 19), .addr 1 (.tmp 4), none⟩,
    ⟨(some 20), .load1 (.tmp 19), none⟩,
    ⟨(some 21), .move (.tmp 0), none⟩,
    ⟨(some 22), .call 54 [(.tmp 21)], none⟩,
    ⟨(some 23), .buildSlice 60 5 [(Go.Value.string { data := #[] }), (Go.Value.int Go.IntKind.i64 0), (Go.Value.slice none 0 0), (Go.Value.int Go.IntKind.i64 0), (Go.Value.int Go.IntKind.i64 0)] 1 [(0, 5, (.tmp 22))], none⟩,
    ⟨(some 24), .append 60 5 64 (.tmp 20) (.tmp 23), none⟩,
    ⟨(some 25), .addr 1 (.tmp 4), none⟩,
    ⟨none, .store 1 (.tmp 25) (.tmp 24), none⟩] [(1, 3), (1, 4)]) (.block 0 (.loop (.seq (.seq (.region [
    ⟨(some 26), .move (.tmp 0), none⟩,
    ⟨(some 27), .call 53 [(.tmp 26), (.const (Go.Value.string { data := #[44] }))], none⟩]) (.cond (.tmp 27) (.skip) (.exit 0))) (.block 1 (.regionD [
    ⟨(some 28), .addr 1 (.tmp 4), none⟩,
    ⟨(some 29), .load1 (.tmp 28), none⟩,
    ⟨(some 30), .move (.tmp 0), none⟩,
    ⟨(some 31), .call 54 [(.tmp 30)], none⟩,
    ⟨(some 32), .buildSlice 60 5 [(Go.Value.string { data := #[] }), (Go.Value.int Go.IntKind.i64 0), (Go.Value.slice none 0 0), (Go.Value.int Go.IntKind.i64 0), (Go.Value.int Go.IntKind.i64 0)] 1 [(0, 5, (.tmp 31))], none⟩,
    ⟨(some 33), .append 60 5 64 (.tmp 29) (.tmp 32), none⟩,
    ⟨(some 34), .addr 1 (.tmp 4), none⟩,
    ⟨none, .store 1 (.tmp 34) (.tmp 33), none⟩] [(1, 3), (1, 4)])))))) (.skip))) (.seq (.region [
    ⟨(some 35), .move (.tmp 0), none⟩,
    ⟨(some 36), .call 55 [(.tmp 35), (.const (Go.Value.string { data := #[41] }))], none⟩]) (.seq (.region [
    ⟨(some 37), .move (.tmp 0), none⟩,
    ⟨(some 38), .call 55 [(.tmp 37), (.const (Go.Value.string { data := #[58] }))], none⟩]) (.seq (.region [
    ⟨(some 39), .move (.tmp 0), none⟩,
    ⟨(some 40), .call 74 [(.tmp 39)], none⟩,
    ⟨(some 41), .addr 2 (.tmp 4), none⟩,
    ⟨none, .store 2 (.tmp 41) (.tmp 40), none⟩]) (.seq (.region [
    ⟨(some 42), .move (.tmp 0), none⟩,
    ⟨(some 43), .call 55 [(.tmp 42), (.const (Go.Value.string { data := #[61] }))], none⟩]) (.seq (.region [
    ⟨(some 44), .move (.tmp 0), none⟩,
    ⟨(some 45), .call 57 [(.tmp 44)], none⟩,
    ⟨(some 46), .addr 4 (.tmp 4), none⟩,
    ⟨none, .store 8 (.tmp 46) (.tmp 45), none⟩]) (.seq (.region [
    ⟨(some 47), .move (.tmp 0), none⟩,
    ⟨(some 48), .call 55 [(.tmp 47), (.const (Go.Value.string { data := #[59] }))], none⟩]) (.seq (.region [
    ⟨(some 49), .loadN 14 (.tmp 4), none⟩,
    ⟨none, .store 14 (.tmp 2) (.tmp 49), none⟩]) (.ret))))))))))))⟩
def x57 : XFun := ⟨200, [.cellN 2 8],
  .seq (.region [
    ⟨(some 2), .alloc 28 [(Go.Value.int Go.IntKind.i64 0), (Go.Value.int Go.IntKind.i64 0), (Go.Value.string { data := #[] }), (Go.Value.slice none 0 0), (Go.Value.slice none 0 0), (Go.Value.slice none 0 0), (Go.Value.int Go.IntKind.i64 0), (Go.Value.int Go.IntKind.i64 0)], none⟩]) (.seq (.region [
    ⟨(some 11), .move (.tmp 0), none⟩,
    ⟨(some 12), .call 51 [(.tmp 11)], none⟩,
    ⟨(some 3), .alloc 98 [(Go.Value.int Go.IntKind.i64 0), (Go.Value.string { data := #[] }), (Go.Value.int Go.IntKind.i64 0), (Go.Value.int Go.IntKind.i64 0), (Go.Value.int Go.IntKind.i64 0)], none⟩,
    ⟨none, .store 5 (.tmp 3) (.tmp 12), none⟩]) (.seq (.block 0 (.seq (.region [
    ⟨(some 14), .move (.tmp 0), none⟩,
    ⟨(some 15), .call 53 [(.tmp 14), (.const (Go.Value.string { data := #[108, 101, 116] }))], none⟩,
    ⟨(some 13), .move (.tmp 15), none⟩]) (.cond (.tmp 13) (.seq (.region [
    ⟨(some 16), .loadN 5 (.tmp 3), none⟩,
    ⟨(some 17), .call 75 [(.const (Go.Value.int Go.IntKind.i64 8)), (.tmp 16)], none⟩,
    ⟨(some 4), .alloc 28 [(Go.Value.int Go.IntKind.i64 0), (Go.Value.int Go.IntKind.i64 0), (Go.Value.string { data := #[] }), (Go.Value.slice none 0 0), (Go.Value.slice none 0 0), (Go.Value.slice none 0 0), (Go.Value.int Go.IntKind.i64 0), (Go.Value.int Go.IntKind.i64 0)], none⟩,
    ⟨none, .store 8 (.tmp 4) (.tmp 17), none⟩]) (.seq (.seq (.region [
    ⟨(some 18), .move (.tmp 0), none⟩,
    ⟨(some 19), .call 53 [(.tmp 18), (.const (Go.Value.string { data := #[40] }))], none⟩]) (.cond (.tmp 19) (.seq (.region [
    ⟨(some 20), .move (.tmp 0), none⟩,
    ⟨(some 21), .call 73 [(.tmp 20), (.const (Go.Value.int Go.IntKind.i64 1))], none⟩,
    ⟨(some 22), .field1 1 (.tmp 21), none⟩,
    ⟨(some 23), .buildSlice 9 1 [(Go.Value.string { data := #[] })] 1 [(0, 1, (.tmp 22))], none⟩,
    ⟨(some 24), .addr 3 (.tmp 4), none⟩,
    ⟨none, .store 1 (.tmp 24) (.tmp 23), none⟩]) (.seq (.region [
    ⟨(some 25), .move (.tmp 0), none⟩,
    ⟨(some 26), .call 55 [(.tmp 25), (.const (Go.Value.string { data := #[44] }))], none⟩]) (.seq (.regionD [
    ⟨(some 27), .addr 3 (.tmp 4), none⟩,
    ⟨(some 28), .load1 (.tmp 27), none⟩,
    ⟨(some 29), .move (.tmp 0), none⟩,
    ⟨(some 30), .call 73 [(.tmp 29), (.const (Go.Value.int Go.IntKind.i64 1))], none⟩,
    ⟨(some 31), .field1 1 (.tmp 30), none⟩,
    ⟨(some 32), .buildSlice 9 1 [(Go.Value.string { data := #[] })] 1 [(0, 1, (.tmp 31))], none⟩,
    ⟨(some 33), .append 9 1 16 (.tmp 28) (.tmp 32), none⟩,
    ⟨(some 34), .addr 3 (.tmp 4), none⟩,
    ⟨none, .store 1 (.tmp 34) (.tmp 33), none⟩] [(1, 3), (1, 5)]) (.seq (.block 1 (.loop (.seq (.seq (.region [
    ⟨(some 35), .move (.tmp 0), none⟩,
    ⟨(some 36), .call 53 [(.tmp 35), (.const (Go.Value.string { data := #[44] }))], none⟩]) (.cond (.tmp 36) (.skip) (.exit 1))) (.block 2 (.regionD [
    ⟨(some 37), .addr 3 (.tmp 4), none⟩,
    ⟨(some 38), .load1 (.tmp 37), none⟩,
    ⟨(some 39), .move (.tmp 0), none⟩,
    ⟨(some 40), .call 73 [(.tmp 39), (.const (Go.Value.int Go.IntKind.i64 1))], none⟩,
    ⟨(some 41), .field1 1 (.tmp 40), none⟩,
    ⟨(some 42), .buildSlice 9 1 [(Go.Value.string { data := #[] })] 1 [(0, 1, (.tmp 41))], none⟩,
    ⟨(some 43), .append 9 1 16 (.tmp 38) (.tmp 42), none⟩,
    ⟨(some 44), .addr 3 (.tmp 4), none⟩,
    ⟨none, .store 1 (.tmp 44) (.tmp 43), none⟩] [(1, 3), (1, 5)]))))) (.region [
    ⟨(some 45), .move (.tmp 0), none⟩,
    ⟨(some 46), .call 55 [(.tmp 45), (.const (Go.Value.string { data := #[41] }))], none⟩]))))) (.region [
    ⟨(some 47), .move (.tmp 0), none⟩,
    ⟨(some 48), .call 73 [(.tmp 47), (.const (Go.Value.int Go.IntKind.i64 1))], none⟩,
    ⟨(some 49), .field1 1 (.tmp 48), none⟩,
    ⟨(some 50), .buildSlice 9 1 [(Go.Value.string { data := #[] })] 1 [(0, 1, (.tmp 49))], none⟩,
    ⟨(some 51), .addr 3 (.tmp 4), none⟩,
    ⟨none, .store 1 (.tmp 51) (.tmp 50), none⟩]))) (.seq (.region [
    ⟨(some 52), .move (.tmp 0), none⟩,
    ⟨(some 53), .call 55 [(.tmp 52), (.const (Go.Value.string { data := #[61] }))], none⟩]) (.seq (.regionD [
    ⟨(some 54), .addr 5 (.tmp 4), none⟩,
    ⟨(some 55), .load1 (.tmp 54), none⟩,
    ⟨(some 56), .move (.tmp 0), none⟩,
    ⟨(some 57), .call 57 [(.tmp 56)], none⟩,
    ⟨(some 58), .buildSlice 28 8 [(Go.Value.int Go.IntKind.i64 0), (Go.Value.int Go.IntKind.i64 0), (Go.Value.string { data := #[] }), (Go.Value.slice none 0 0), (Go.Value.slice none 0 0), (Go.Value.slice none 0 0), (Go.Value.int Go.IntKind.i64 0), (Go.Value.int Go.IntKind.i64 0)] 1 [(0, 8, (.tmp 57))], none⟩,
    ⟨(some 59), .append 28 8 120 (.tmp 55) (.tmp 58), none⟩,
    ⟨(some 60), .addr 5 (.tmp 4), none⟩,
    ⟨none, .store 1 (.tmp 60) (.tmp 59), none⟩] [(1, 3), (1, 4)]) (.seq (.region [
    ⟨(some 61), .move (.tmp 0), none⟩,
    ⟨(some 62), .call 55 [(.tmp 61), (.const (Go.Value.string { data := #[105, 110] }))], none⟩]) (.seq (.regionD [
    ⟨(some 63), .addr 5 (.tmp 4), none⟩,
    ⟨(some 64), .load1 (.tmp 63), none⟩,
    ⟨(some 65), .move (.tmp 0), none⟩,
    ⟨(some 66), .call 57 [(.tmp 65)], none⟩,
    ⟨(some 67), .buildSlice 28 8 [(Go.Value.int Go.IntKind.i64 0), (Go.Value.int Go.IntKind.i64 0), (Go.Value.string { data := #[] }), (Go.Value.slice none 0 0), (Go.Value.slice none 0 0), (Go.Value.slice none 0 0), (Go.Value.int Go.IntKind.i64 0), (Go.Value.int Go.IntKind.i64 0)] 1 [(0, 8, (.tmp 66))], none⟩,
    ⟨(some 68), .append 28 8 120 (.tmp 64) (.tmp 67), none⟩,
    ⟨(some 69), .addr 5 (.tmp 4), none⟩,
    ⟨none, .store 1 (.tmp 69) (.tmp 68), none⟩] [(1, 3), (1, 4)]) (.seq (.region [
    ⟨(some 70), .loadN 8 (.tmp 4), none⟩,
    ⟨none, .store 8 (.tmp 2) (.tmp 70), none⟩]) (.ret)))))))) (.seq (.region [
    ⟨(some 72), .move (.tmp 0), none⟩,
    ⟨(some 73), .call 53 [(.tmp 72), (.const (Go.Value.string { data := #[105, 102] }))], none⟩,
    ⟨(some 71), .move (.tmp 73), none⟩]) (.cond (.tmp 71) (.seq (.region [
    ⟨(some 74), .loadN 5 (.tmp 3), none⟩,
    ⟨(some 75), .call 75 [(.const (Go.Value.int Go.IntKind.i64 9)), (.tmp 74)], none⟩,
    ⟨(some 5), .alloc 28 [(Go.Value.int Go.IntKind.i64 0), (Go.Value.int Go.IntKind.i64 0), (Go.Value.string { data := #[] }), (Go.Value.slice none 0 0), (Go.Value.slice none 0 0), (Go.Value.slice none 0 0), (Go.Value.int Go.IntKind.i64 0), (Go.Value.int Go.IntKind.i64 0)], none⟩,
    ⟨none, .store 8 (.tmp 5) (.tmp 75), none⟩]) (.seq (.regionD [
    ⟨(some 76), .addr 5 (.tmp 5), none⟩,
    ⟨(some 77), .load1 (.tmp 76), none⟩,
    ⟨(some 78), .move (.tmp 0), none⟩,
    ⟨(some 79), .call 57 [(.tmp 78)], none⟩,
    ⟨(some 80), .buildSlice 28 8 [(Go.Value.int Go.IntKind.i64 0), (Go.Value.int Go.IntKind.i64 0), (Go.Value.string { data := #[] }), (Go.Value.slice none 0 0), (Go.Value.slice none 0 0), (Go.Value.slice none 0 0), (Go.Value.int Go.IntKind.i64 0), (Go.Value.int Go.IntKind.i64 0)] 1 [(0, 8, (.tmp 79))], none⟩,
    ⟨(some 81), .append 28 8 120 (.tmp 77) (.tmp 80), none⟩,
    ⟨(some 82), .addr 5 (.tmp 5), none⟩,
    ⟨none, .store 1 (.tmp 82) (.tmp 81), none⟩] [(1, 3), (1, 4)]) (.seq (.region [
    ⟨(some 83), .move (.tmp 0), none⟩,
    ⟨(some 84), .call 55 [(.tmp 83), (.const (Go.Value.string { data := #[116, 104, 101, 110] }))], none⟩]) (.seq (.regionD [
    ⟨(some 85), .addr 5 (.tmp 5), none⟩,
    ⟨(some 86), .load1 (.tmp 85), none⟩,
    ⟨(some 87), .move (.tmp 0), none⟩,
    ⟨(some 88), .call 57 [(.tmp 87)], none⟩,
    ⟨(some 89), .buildSlice 28 8 [(Go.Value.int Go.IntKind.i64 0), (Go.Value.int Go.IntKind.i64 0), (Go.Value.string { data := #[] }), (Go.Value.slice none 0 0), (Go.Value.slice none 0 0), (Go.Value.slice none 0 0), (Go.Value.int Go.IntKind.i64 0), (Go.Value.int Go.IntKind.i64 0)] 1 [(0, 8, (.tmp 88))], none⟩,
    ⟨(some 90), .append 28 8 120 (.tmp 86) (.tmp 89), none⟩,
    ⟨(some 91), .addr 5 (.tmp 5), none⟩,
    ⟨none, .store 1 (.tmp 91) (.tmp 90), none⟩] [(1, 3), (1, 4)]) (.seq (.region [
    ⟨(some 92), .move (.tmp 0), none⟩,
    ⟨(some 93), .call 55 [(.tmp 92), (.const (Go.Value.string { data := #[101, 108, 115, 101] }))], none⟩]) (.seq (.regionD [
    ⟨(some 94), .addr 5 (.tmp 5), none⟩,
    ⟨(some 95), .load1 (.tmp 94), none⟩,
    ⟨(some 96), .move (.tmp 0), none⟩,
    ⟨(some 97), .call 57 [(.tmp 96)], none⟩,
    ⟨(some 98), .buildSlice 28 8 [(Go.Value.int Go.IntKind.i64 0), (Go.Value.int Go.IntKind.i64 0), (Go.Value.string { data := #[] }), (Go.Value.slice none 0 0), (Go.Value.slice none 0 0), (Go.Value.slice none 0 0), (Go.Value.int Go.IntKind.i64 0), (Go.Value.int Go.IntKind.i64 0)] 1 [(0, 8, (.tmp 97))], none⟩,
    ⟨(some 99), .append 28 8 120 (.tmp 95) (.tmp 98), none⟩,
    ⟨(some 100), .addr 5 (.tmp 5), none⟩,
    ⟨none, .store 1 (.tmp 100) (.tmp 99), none⟩] [(1, 3), (1, 4)]) (.seq (.region [
    ⟨(some 101), .loadN 8 (.tmp 5), none⟩,
    ⟨none, .store 8 (.tmp 2) (.tmp 101), none⟩]) (.ret)))))))) (.seq (.region [
    ⟨(some 103), .move (.tmp 0), none⟩,
    ⟨(some 104), .call 53 [(.tmp 103), (.const (Go.Value.string { data := #[99, 97, 115, 101] }))], none⟩,
    ⟨(some 102), .move (.tmp 104), none⟩]) (.cond (.tmp 102) (.seq (.region [
    ⟨(some 105), .loadN 5 (.tmp 3), none⟩,
    ⟨(some 106), .call 75 [(.const (Go.Value.int Go.IntKind.i64 10)), (.tmp 105)], none⟩,
    ⟨(some 6), .alloc 28 [(Go.Value.int Go.IntKind.i64 0), (Go.Value.int Go.IntKind.i64 0), (Go.Value.string { data := #[] }), (Go.Value.slice none 0 0), (Go.Value.slice none 0 0), (Go.Value.slice none 0 0), (Go.Value.int Go.IntKind.i64 0), (Go.Value.int Go.IntKind.i64 0)], none⟩,
    ⟨none, .store 8 (.tmp 6) (.tmp 106), none⟩]) (.seq (.regionD [
    ⟨(some 107), .addr 5 (.tmp 6), none⟩,
    ⟨(some 108), .load1 (.tmp 107), none⟩,
    ⟨(some 109), .move (.tmp 0), none⟩,
    ⟨(some 110), .call 57 [(.tmp 109)], none⟩,
    ⟨(some 111), .buildSlice 28 8 [(Go.Value.int Go.IntKind.i64 0), (Go.Value.int Go.IntKind.i64 0), (Go.Value.string { data := #[] }), (Go.Value.slice none 0 0), (Go.Value.slice none 0 0), (Go.Value.slice none 0 0), (Go.Value.int Go.IntKind.i64 0), (Go.Value.int Go.IntKind.i64 0)] 1 [(0, 8, (.tmp 110))], none⟩,
    ⟨(some 112), .append 28 8 120 (.tmp 108) (.tmp 111), none⟩,
    ⟨(some 113), .addr 5 (.tmp 6), none⟩,
    ⟨none, .store 1 (.tmp 113) (.tmp 112), none⟩] [(1, 3), (1, 4)]) (.seq (.seq (.region [
    ⟨(some 114), .buildSlice 9 1 [(Go.Value.string { data := #[] })] 4 [(0, 1, (.const (Go.Value.string { data := #[111, 102] }))), (1, 1, (.const (Go.Value.string { data := #[91] }))), (2, 1, (.const (Go.Value.string { data := #[93] }))), (3, 1, (.const (Go.Value.string { data := #[61, 62] })))], none⟩,
    ⟨(some 115), .lenSlice (.tmp 114), none⟩,
    ⟨(some 116), .move (.const (Go.Value.int Go.IntKind.i64 0)), none⟩]) (.block 3 (.loop (.seq (.region [
    ⟨(some 117), .bin .lss (.tmp 116) (.tmp 115), none⟩]) (.seq (.cond (.tmp 117) (.skip) (.exit 3)) (.seq (.block 4 (.seq (.region [
    ⟨(some 118), .indexAddr 1 (.tmp 114) (.tmp 116), none⟩,
    ⟨(some 119), .load1 (.tmp 118), none⟩,
    ⟨(some 8), .move (.tmp 119), none⟩]) (.region [
    ⟨(some 120), .move (.tmp 0), none⟩,
    ⟨(some 121), .move (.tmp 8), none⟩,
    ⟨(some 122), .call 55 [(.tmp 120), (.tmp 121)], none⟩]))) (.region [
    ⟨(some 123), .bin .add (.tmp 116) (.const (Go.Value.int Go.IntKind.i64 1)), none⟩,
    ⟨(some 116), .move (.tmp 123), none⟩]))))))) (.seq (.regionD [
    ⟨(some 124), .addr 5 (.tmp 6), none⟩,
    ⟨(some 125), .load1 (.tmp 124), none⟩,
    ⟨(some 126), .move (.tmp 0), none⟩,
    ⟨(some 127), .call 57 [(.tmp 126)], none⟩,
    ⟨(some 128), .buildSlice 28 8 [(Go.Value.int Go.IntKind.i64 0), (Go.Value.int Go.IntKind.i64 0), (Go.Value.string { data := #[] }), (Go.Value.slice none 0 0), (Go.Value.slice none 0 0), (Go.Value.slice none 0 0), (Go.Value.int Go.IntKind.i64 0), (Go.Value.int Go.IntKind.i64 0)] 1 [(0, 8, (.tmp 127))], none⟩,
    ⟨(some 129), .append 28 8 120 (.tmp 125) (.tmp 128), none⟩,
    ⟨(some 130), .addr 5 (.tmp 6), none⟩,
    ⟨none, .store 1 (.tmp 130) (.tmp 129), none⟩] [(1, 3), (1, 4)]) (.seq (.region [
    ⟨(some 131), .move (.tmp 0), none⟩,
    ⟨(some 132), .call 55 [(.tmp 131), (.const (Go.Value.string { data := #[124] }))], none⟩]) (.seq (.region [
    ⟨(some 133), .move (.tmp 0), none⟩,
    ⟨(some 134), .call 73 [(.tmp 133), (.const (Go.Value.int Go.IntKind.i64 1))], none⟩,
    ⟨(some 135), .field1 1 (.tmp 134), none⟩,
    ⟨(some 136), .buildSlice 9 1 [(Go.Value.string { data := #[] })] 1 [(0, 1, (.tmp 135))], none⟩,
    ⟨(some 137), .addr 3 (.tmp 6), none⟩,
    ⟨none, .store 1 (.tmp 137) (.tmp 136), none⟩]) (.seq (.region [
    ⟨(some 138), .move (.tmp 0), none⟩,
    ⟨(some 139), .call 55 [(.tmp 138), (.const (Go.Value.string { data := #[58, 58] }))], none⟩]) (.seq (.regionD [
    ⟨(some 140), .addr 3 (.tmp 6), none⟩,
    ⟨(some 141), .load1 (.tmp 140), none⟩,
    ⟨(some 142), .move (.tmp 0), none⟩,
    ⟨(some 143), .call 73 [(.tmp 142), (.const (Go.Value.int Go.IntKind.i64 1))], none⟩,
    ⟨(some 144), .field1 1 (.tmp 143), none⟩,
    ⟨(some 145), .buildSlice 9 1 [(Go.Value.string { data := #[] })] 1 [(0, 1, (.tmp 144))], none⟩,
    ⟨(some 146), .append 9 1 16 (.tmp 141) (.tmp 145), none⟩,
    ⟨(some 147), .addr 3 (.tmp 6), none⟩,
    ⟨none, .store 1 (.tmp 147) (.tmp 146), none⟩] [(1, 3), (1, 5)]) (.seq (.region [
    ⟨(some 148), .move (.tmp 0), none⟩,
    ⟨(some 149), .call 55 [(.tmp 148), (.const (Go.Value.string { data := #[61, 62] }))], none⟩]) (.seq (.regionD [
    ⟨(some 150), .addr 5 (.tmp 6), none⟩,
    ⟨(some 151), .load1 (.tmp 150), none⟩,
    ⟨(some 152), .move (.tmp 0), none⟩,
    ⟨(some 153), .call 57 [(.tmp 152)], none⟩,
    ⟨(some 154), .buildSlice 28 8 [(Go.Value.int Go.IntKind.i64 0), (Go.Value.int Go.IntKind.i64 0), (Go.Value.string { data := #[] }), (Go.Value.slice none 0 0), (Go.Value.slice none 0 0), (Go.Value.slice none 0 0), (Go.Value.int Go.IntKind.i64 0), (Go.Value.int Go.IntKind.i64 0)] 1 [(0, 8, (.tmp 153))], none⟩,
    ⟨(some 155), .append 28 8 120 (.tmp 151) (.tmp 154), none⟩,
    ⟨(some 156), .addr 5 (.tmp 6), none⟩,
    ⟨none, .store 1 (.tmp 156) (.tmp 155), none⟩] [(1, 3), (1, 4)]) (.seq (.region [
    ⟨(some 157), .loadN 8 (.tmp 6), none⟩,
    ⟨none, .store 8 (.tmp 2) (.tmp 157), none⟩]) (.ret)))))))))))) (.seq (.region [
    ⟨(some 159), .move (.tmp 0), none⟩,
    ⟨(some 160), .call 53 [(.tmp 159), (.const (Go.Value.string { data := #[111, 98, 115, 101, 114, 118, 101] }))], none⟩,
    ⟨(some 158), .move (.tmp 160), none⟩]) (.cond (.tmp 158) (.seq (.region [
    ⟨(some 161), .loadN 5 (.tmp 3), none⟩,
    ⟨(some 162), .call 75 [(.const (Go.Value.int Go.IntKind.i64 11)), (.tmp 161)], none⟩,
    ⟨(some 9), .alloc 28 [(Go.Value.int Go.IntKind.i64 0), (Go.Value.int Go.IntKind.i64 0), (Go.Value.string { data := #[] }), (Go.Value.slice none 0 0), (Go.Value.slice none 0 0), (Go.Value.slice none 0 0), (Go.Value.int Go.IntKind.i64 0), (Go.Value.int Go.IntKind.i64 0)], none⟩,
    ⟨none, .store 8 (.tmp 9) (.tmp 162), none⟩]) (.seq (.regionD [
    ⟨(some 163), .addr 5 (.tmp 9), none⟩,
    ⟨(some 164), .load1 (.tmp 163), none⟩,
    ⟨(some 165), .move (.tmp 0), none⟩,
    ⟨(some 166), .call 57 [(.tmp 165)], none⟩,
    ⟨(some 167), .buildSlice 28 8 [(Go.Value.int Go.IntKind.i64 0), (Go.Value.int Go.IntKind.i64 0), (Go.Value.string { data := #[] }), (Go.Value.slice none 0 0), (Go.Value.slice none 0 0), (Go.Value.slice none 0 0), (Go.Value.int Go.IntKind.i64 0), (Go.Value.int Go.IntKind.i64 0)] 1 [(0, 8, (.tmp 166))], none⟩,
    ⟨(some 168), .append 28 8 120 (.tmp 164) (.tmp 167), none⟩,
    ⟨(some 169), .addr 5 (.tmp 9), none⟩,
    ⟨none, .store 1 (.tmp 169) (.tmp 168), none⟩] [(1, 3), (1, 4)]) (.seq (.region [
    ⟨(some 170), .move (.tmp 0), none⟩,
    ⟨(some 171), .call 55 [(.tmp 170), (.const (Go.Value.string { data := #[105, 110] }))], none⟩]) (.seq (.regionD [
    ⟨(some 172), .addr 5 (.tmp 9), none⟩,
    ⟨(some 173), .load1 (.tmp 172), none⟩,
    ⟨(some 174), .move (.tmp 0), none⟩,
    ⟨(some 175), .call 57 [(.tmp 174)], none⟩,
    ⟨(some 176), .buildSlice 28 8 [(Go.Value.int Go.IntKind.i64 0), (Go.Value.int Go.IntKind.i64 0), (Go.Value.string { data := #[] }), (Go.Value.slice none 0 0), (Go.Value.slice none 0 0), (Go.Value.slice none 0 0), (Go.Value.int Go.IntKind.i64 0), (Go.Value.int Go.IntKind.i64 0)] 1 [(0, 8, (.tmp 175))], none⟩,
    ⟨(some 177), .append 28 8 120 (.tmp 173) (.tmp 176), none⟩,
    ⟨(some 178), .addr 5 (.tmp 9), none⟩,
    ⟨none, .store 1 (.tmp 178) (.tmp 177), none⟩] [(1, 3), (1, 4)]) (.seq (.region [
    ⟨(some 179), .loadN 8 (.tmp 9), none⟩,
    ⟨none, .store 8 (.tmp 2) (.tmp 179), none⟩]) (.ret)))))) (.seq (.region [
    ⟨(some 181), .move (.tmp 0), none⟩,
    ⟨(some 182), .call 53 [(.tmp 181), (.const (Go.Value.string { data := #[115, 99, 111, 114, 101] }))], none⟩,
    ⟨(some 180), .move (.tmp 182), none⟩]) (.cond (.tmp 180) (.seq (.region [
    ⟨(some 183), .loadN 5 (.tmp 3), none⟩,
    ⟨(some 184), .call 75 [(.const (Go.Value.int Go.IntKind.i64 12)), (.tmp 183)], none⟩,
    ⟨(some 10), .alloc 28 [(Go.Value.int Go.IntKind.i64 0), (Go.Value.int Go.IntKind.i64 0), (Go.Value.string { data := #[] }), (Go.Value.slice none 0 0), (Go.Value.slice none 0 0), (Go.Value.slice none 0 0), (Go.Value.int Go.IntKind.i64 0), (Go.Value.int Go.IntKind.i64 0)], none⟩,
    ⟨none, .store 8 (.tmp 10) (.tmp 184), none⟩]) (.seq (.region [
    ⟨(some 185), .move (.tmp 0), none⟩,
    ⟨(some 186), .call 76 [(.tmp 185)], none⟩,
    ⟨(some 187), .addr 4 (.tmp 10), none⟩,
    ⟨none, .store 1 (.tmp 187) (.tmp 186), none⟩]) (.seq (.region [
    ⟨(some 188), .move (.tmp 0), none⟩,
    ⟨(some 189), .call 55 [(.tmp 188), (.const (Go.Value.string { data := #[105, 110] }))], none⟩]) (.seq (.regionD [
    ⟨(some 190), .addr 5 (.tmp 10), none⟩,
    ⟨(some 191), .load1 (.tmp 190), none⟩,
    ⟨(some 192), .move (.tmp 0), none⟩,
    ⟨(some 193), .call 57 [(.tmp 192)], none⟩,
    ⟨(some 194), .buildSlice 28 8 [(Go.Value.int Go.IntKind.i64 0), (Go.Value.int Go.IntKind.i64 0), (Go.Value.string { data := #[] }), (Go.Value.slice none 0 0), (Go.Value.slice none 0 0), (Go.Value.slice none 0 0), (Go.Value.int Go.IntKind.i64 0), (Go.Value.int Go.IntKind.i64 0)] 1 [(0, 8, (.tmp 193))], none⟩,
    ⟨(some 195), .append 28 8 120 (.tmp 191) (.tmp 194), none⟩,
    ⟨(some 196), .addr 5 (.tmp 10), none⟩,
    ⟨none, .store 1 (.tmp 196) (.tmp 195), none⟩] [(1, 3), (1, 4)]) (.seq (.region [
    ⟨(some 197), .loadN 8 (.tmp 10), none⟩,
    ⟨none, .store 8 (.tmp 2) (.tmp 197), none⟩]) (.ret)))))) (.skip)))))))))))) (.seq (.region [
    ⟨(some 198), .move (.tmp 0), none⟩,
    ⟨(some 199), .call 77 [(.tmp 198), (.const (Go.Value.int Go.IntKind.i64 0))], none⟩,
    ⟨none, .store 8 (.tmp 2) (.tmp 199), none⟩]) (.ret))))⟩
def x58 : XFun := ⟨14, [.cellN 6 4],
  .seq (.region [
    ⟨(some 3), .box 45 (.tmp 0), none⟩,
    ⟨(some 6), .alloc 40 [(Go.Value.int Go.IntKind.i64 0), (Go.Value.string { data := #[] }), (Go.Value.int Go.IntKind.i64 0), (Go.Value.int Go.IntKind.i64 0)], none⟩]) (.seq (.seq (.region [
    ⟨(some 7), .loadN 2 (.tmp 3), none⟩,
    ⟨(some 8), .call 59 [(.tmp 7)], none⟩,
    ⟨(some 9), .bin .gtr (.tmp 8) (.const (Go.Value.int Go.IntKind.i64 40)), none⟩]) (.cond (.tmp 9) (.seq (.region [
    ⟨(some 10), .move (.tmp 1), none⟩,
    ⟨(some 11), .move (.tmp 2), none⟩,
    ⟨(some 12), .build [(Go.Value.int Go.IntKind.i64 0), (Go.Value.string { data := #[] }), (Go.Value.int Go.IntKind.i64 0), (Go.Value.int Go.IntKind.i64 0)] [(0, 1, (.const (Go.Value.int Go.IntKind.i64 2))), (2, 1, (.tmp 10)), (3, 1, (.tmp 11))], none⟩,
    ⟨none, .store 4 (.tmp 6) (.tmp 12), none⟩]) (.ret)) (.skip))) (.seq (.region [
    ⟨(some 13), .build [(Go.Value.int Go.IntKind.i64 0), (Go.Value.string { data := #[] }), (Go.Value.int Go.IntKind.i64 0), (Go.Value.int Go.IntKind.i64 0)] [], none⟩,
    ⟨none, .store 4 (.tmp 6) (.tmp 13), none⟩]) (.ret)))⟩
def x59 : XFun := ⟨20, [.tmp 2],
  .seq (.region [
    ⟨(some 1), .box 45 (.tmp 0), none⟩,
    ⟨(some 2), .move (.const (Go.Value.int Go.IntKind.i64 0)), none⟩]) (.seq (.region [
    ⟨(some 3), .move (.const (Go.Value.int Go.IntKind.i64 0)), none⟩]) (.seq (.seq (.region [
    ⟨(some 6), .addr 1 (.tmp 1), none⟩,
    ⟨(some 7), .load1 (.tmp 6), none⟩,
    ⟨(some 8), .lenSlice (.tmp 7), none⟩,
    ⟨(some 9), .move (.const (Go.Value.int Go.IntKind.i64 0)), none⟩]) (.block 0 (.loop (.seq (.region [
    ⟨(some 10), .bin .lss (.tmp 9) (.tmp 8), none⟩]) (.seq (.cond (.tmp 10) (.skip) (.exit 0)) (.seq (.block 1 (.seq (.region [
    ⟨(some 11), .indexAddr 2 (.tmp 7) (.tmp 9), none⟩,
    ⟨(some 12), .loadN 2 (.tmp 11), none⟩,
    ⟨(some 5), .alloc 45 [(Go.Value.int Go.IntKind.i64 0), (Go.Value.slice none 0 0)], none⟩,
    ⟨none, .store 2 (.tmp 5) (.tmp 12), none⟩]) (.region [
    ⟨(some 13), .move (.tmp 3), none⟩,
    ⟨(some 14), .loadN 2 (.tmp 5), none⟩,
    ⟨(some 15), .call 59 [(.tmp 14)], none⟩,
    ⟨(some 16), .maxI [(.tmp 13), (.tmp 15)], none⟩,
    ⟨(some 3), .move (.tmp 16), none⟩]))) (.region [
    ⟨(some 17), .bin .add (.tmp 9) (.const (Go.Value.int Go.IntKind.i64 1)), none⟩,
    ⟨(some 9), .move (.tmp 17), none⟩]))))))) (.seq (.region [
    ⟨(some 18), .move (.tmp 3), none⟩,
    ⟨(some 19), .bin .add (.tmp 18) (.const (Go.Value.int Go.IntKind.i64 1)), none⟩,
    ⟨(some 2), .move (.tmp 19), none⟩]) (.ret))))⟩
def x60 : XFun := ⟨17, [.cellN 2 4],
  .seq (.region [
    ⟨(some 1), .box 28 (.tmp 0), none⟩,
    ⟨(some 2), .alloc 40 [(Go.Value.int Go.IntKind.i64 0), (Go.Value.string { data := #[] }), (Go.Value.int Go.IntKind.i64 0), (Go.Value.int Go.IntKind.i64 0)], none⟩]) (.seq (.seq (.region [
    ⟨(some 6), .loadN 8 (.tmp 1), none⟩,
    ⟨(some 7), .call 78 [(.tmp 6), (.const (Go.Value.int Go.IntKind.i64 40))], none⟩,
    ⟨(some 5), .move (.tmp 7), none⟩,
    ⟨(some 8), .extract (.tmp 5) 0, none⟩,
    ⟨(some 9), .extract (.tmp 5) 1, none⟩,
    ⟨(some 3), .alloc 28 [(Go.Value.int Go.IntKind.i64 0), (Go.Value.int Go.IntKind.i64 0), (Go.Value.string { data := #[] }), (Go.Value.slice none 0 0), (Go.Value.slice none 0 0), (Go.Value.slice none 0 0), (Go.Value.int Go.IntKind.i64 0), (Go.Value.int Go.IntKind.i64 0)], none⟩,
    ⟨none, .store 8 (.tmp 3) (.tmp 8), none⟩,
    ⟨(some 4), .move (.tmp 9), none⟩]) (.seq (.region [
    ⟨(some 10), .move (.tmp 4), none⟩]) (.cond (.tmp 10) (.seq (.region [
    ⟨(some 11), .addr 6 (.tmp 3), none⟩,
    ⟨(some 12), .load1 (.tmp 11), none⟩,
    ⟨(some 13), .addr 7 (.tmp 3), none⟩,
    ⟨(some 14), .load1 (.tmp 13), none⟩,
    ⟨(some 15), .build [(Go.Value.int Go.IntKind.i64 0), (Go.Value.string { data := #[] }), (Go.Value.int Go.IntKind.i64 0), (Go.Value.int Go.IntKind.i64 0)] [(0, 1, (.const (Go.Value.int Go.IntKind.i64 2))), (2, 1, (.tmp 12)), (3, 1, (.tmp 14))], none⟩,
    ⟨none, .store 4 (.tmp 2) (.tmp 15), none⟩]) (.ret)) (.skip)))) (.seq (.region [
    ⟨(some 16), .build [(Go.Value.int Go.IntKind.i64 0), (Go.Value.string { data := #[] }), (Go.Value.int Go.IntKind.i64 0), (Go.Value.int Go.IntKind.i64 0)] [], none⟩,
    ⟨none, .store 4 (.tmp 2) (.tmp 16), none⟩]) (.ret)))⟩
def x61 : XFun := ⟨39, [.tmp 4],
  .seq (.region [
    ⟨(some 2), .box 45 (.tmp 0), none⟩,
    ⟨(some 3), .box 3 (.tmp 1), none⟩,
    ⟨(some 4), .move (.const (Go.Value.bool false)), none⟩]) (.seq (.seq (.region [
    ⟨(some 5), .load1 (.tmp 3), none⟩,
    ⟨(some 6), .bin .lss (.tmp 5) (.const (Go.Value.int Go.IntKind.i64 1)), none⟩]) (.cond (.tmp 6) (.seq (.region [
    ⟨(some 4), .move (.const (Go.Value.bool false)), none⟩]) (.ret)) (.skip))) (.seq (.seq (.region [
    ⟨(some 7), .addr 0 (.tmp 2), none⟩,
    ⟨(some 8), .load1 (.tmp 7), none⟩]) (.block 0 (.seq (.seq (.region [
    ⟨(some 10), .bin .eql (.tmp 8) (.const (Go.Value.int Go.IntKind.i64 1)), none⟩,
    ⟨(some 9), .move (.tmp 10), none⟩]) (.cond (.tmp 9) (.skip) (.region [
    ⟨(some 11), .bin .eql (.tmp 8) (.const (Go.Value.int Go.IntKind.i64 2)), none⟩,
    ⟨(some 9), .move (.tmp 11), none⟩]))) (.cond (.tmp 9) (.seq (.region [
    ⟨(some 12), .addr 1 (.tmp 2), none⟩,
    ⟨(some 13), .load1 (.tmp 12), none⟩,
    ⟨(some 14), .lenSlice (.tmp 13), none⟩,
    ⟨(some 15), .bin .eql (.tmp 14) (.const (Go.Value.int Go.IntKind.i64 0)), none⟩,
    ⟨(some 4), .move (.tmp 15), none⟩]) (.ret)) (.seq (.region [
    ⟨(some 17), .bin .eql (.tmp 8) (.const (Go.Value.int Go.IntKind.i64 3)), none⟩,
    ⟨(some 16), .move (.tmp 17), none⟩]) (.cond (.tmp 16) (.seq (.region [
    ⟨(some 18), .addr 1 (.tmp 2), none⟩,
    ⟨(some 19), .load1 (.tmp 18), none⟩,
    ⟨(some 20), .lenSlice (.tmp 19), none⟩,
    ⟨(some 21), .bin .lss (.tmp 20) (.const (Go.Value.int Go.IntKind.i64 2)), none⟩,
    ⟨(some 22), .move (.tmp 21), none⟩,
    ⟨(some 23), .addr 1 (.tmp 2), (some (22, false))⟩,
    ⟨(some 24), .load1 (.tmp 23), (some (22, false))⟩,
    ⟨(some 25), .lenSlice (.tmp 24), (some (22, false))⟩,
    ⟨(some 26), .bin .gtr (.tmp 25) (.const (Go.Value.int Go.IntKind.i64 4)), (some (22, false))⟩,
    ⟨(some 27), .pick (.tmp 22) (.const (Go.Value.bool true)) (.tmp 26), none⟩]) (.cond (.tmp 27) (.seq (.region [
    ⟨(some 4), .move (.const (Go.Value.bool false)), none⟩]) (.ret)) (.skip))) (.seq (.region [
    ⟨(some 29), .bin .eql (.tmp 8) (.const (Go.Value.int Go.IntKind.i64 4)), none⟩,
    ⟨(some 28), .move (.tmp 29), none⟩]) (.cond (.tmp 28) (.seq (.region [
    ⟨(some 30), .addr 1 (.tmp 2), none⟩,
    ⟨(some 31), .load1 (.tmp 30), none⟩,
    ⟨(some 32), .lenSlice (.tmp 31), none⟩,
    ⟨(some 33), .bin .neq (.tmp 32) (.const (Go.Value.int Go.IntKind.i64 1)), none⟩]) (.cond (.tmp 33) (.seq (.region [
    ⟨(some 4), .move (.const (Go.Value.bool false)), none⟩]) (.ret)) (.skip))) (.seq (.region [
    ⟨(some 4), .move (.const (Go.Value.bool false)), none⟩]) (.ret)))))))))) (.seq (.region [
    ⟨(some 34), .addr 1 (.tmp 2), none⟩,
    ⟨(some 35), .load1 (.tmp 34), none⟩,
    ⟨(some 36), .mkFunc (Go.Fn.func 80) [] [(.tmp 3)], none⟩,
    ⟨(some 37), .call 79 [(.tmp 35), (.tmp 36)], none⟩,
    ⟨(some 38), .un .not (.tmp 37), none⟩,
    ⟨(some 4), .move (.tmp 38), none⟩]) (.ret))))⟩
def x62 : XFun := ⟨175, [.tmp 2],
  .seq (.region [
    ⟨(some 1), .box 28 (.tmp 0), none⟩,
    ⟨(some 2), .move (.const (Go.Value.bool false)), none⟩]) (.seq (.region [
    ⟨(some 3), .move (.const (Go.Value.int Go.IntKind.i64 0)), none⟩,
    ⟨(some 4), .move (.const (Go.Value.int Go.IntKind.i64 0)), none⟩,
    ⟨(some 5), .move (.const (Go.Value.int Go.IntKind.i64 0)), none⟩]) (.seq (.region [
    ⟨(some 6), .move (.const (Go.Value.bool false)), none⟩,
    ⟨(some 7), .move (.const (Go.Value.bool false)), none⟩]) (.seq (.seq (.region [
    ⟨(some 10), .addr 0 (.tmp 1), none⟩,
    ⟨(some 11), .load1 (.tmp 10), none⟩]) (.block 0 (.seq (.region [
    ⟨(some 13), .bin .eql (.tmp 11) (.const (Go.Value.int Go.IntKind.i64 1)), none⟩,
    ⟨(some 12), .move (.tmp 13), none⟩]) (.cond (.tmp 12) (.region [
    ⟨(some 14), .addr 1 (.tmp 1), none⟩,
    ⟨(some 15), .load1 (.tmp 14), none⟩,
    ⟨(some 16), .bin .geq (.tmp 15) (.const (Go.Value.int Go.IntKind.i64 0)), none⟩,
    ⟨(some 17), .move (.tmp 16), none⟩,
    ⟨(some 18), .addr 1 (.tmp 1), (some (17, true))⟩,
    ⟨(some 19), .load1 (.tmp 18), (some (17, true))⟩,
    ⟨(some 20), .bin .leq (.tmp 19) (.const (Go.Value.int Go.IntKind.i64 2147483647)), (some (17, true))⟩,
    ⟨(some 21), .pick (.tmp 17) (.tmp 20) (.const (Go.Value.bool false)), none⟩,
    ⟨(some 6), .move (.tmp 21), none⟩]) (.seq (.region [
    ⟨(some 23), .bin .eql (.tmp 11) (.const (Go.Value.int Go.IntKind.i64 2)), none⟩,
    ⟨(some 22), .move (.tmp 23), none⟩]) (.cond (.tmp 22) (.region [
    ⟨(some 24), .addr 1 (.tmp 1), none⟩,
    ⟨(some 25), .load1 (.tmp 24), none⟩,
    ⟨(some 26), .bin .eql (.tmp 25) (.const (Go.Value.int Go.IntKind.i64 0)), none⟩,
    ⟨(some 27), .move (.tmp 26), none⟩,
    ⟨(some 28), .addr 1 (.tmp 1), (some (27, false))⟩,
    ⟨(some 29), .load1 (.tmp 28), (some (27, false))⟩,
    ⟨(some 30), .bin .eql (.tmp 29) (.const (Go.Value.int Go.IntKind.i64 1)), (some (27, false))⟩,
    ⟨(some 31), .pick (.tmp 27) (.const (Go.Value.bool true)) (.tmp 30), none⟩,
    ⟨(some 6), .move (.tmp 31), none⟩]) (.seq (.region [
    ⟨(some 33), .bin .eql (.tmp 11) (.const (Go.Value.int Go.IntKind.i64 3)), none⟩,
    ⟨(some 32), .move (.tmp 33), none⟩]) (.cond (.tmp 32) (.seq (.region [
    ⟨(some 34), .addr 2 (.tmp 1), none⟩,
    ⟨(some 35), .load1 (.tmp 34), none⟩,
    ⟨(some 36), .call 81 [(.tmp 35)], none⟩,
    ⟨(some 7), .move (.tmp 36), none⟩]) (.region [
    ⟨(some 37), .addr 1 (.tmp 1), none⟩,
    ⟨(some 38), .load1 (.tmp 37), none⟩,
    ⟨(some 39), .bin .eql (.tmp 38) (.const (Go.Value.int Go.IntKind.i64 0)), none⟩,
    ⟨(some 6), .move (.tmp 39), none⟩])) (.seq (.region [
    ⟨(some 41), .bin .eql (.tmp 11) (.const (Go.Value.int Go.IntKind.i64 4)), none⟩,
    ⟨(some 40), .move (.tmp 41), none⟩]) (.cond (.tmp 40) (.regionD [
    ⟨(some 42), .addr 2 (.tmp 1), none⟩,
    ⟨(some 43), .load1 (.tmp 42), none⟩,
    ⟨(some 44), .call 81 [(.tmp 43)], none⟩,
    ⟨(some 45), .addr 5 (.tmp 1), none⟩,
    ⟨(some 46), .load1 (.tmp 45), none⟩,
    ⟨(some 47), .lenSlice (.tmp 46), none⟩,
    ⟨(some 7), .move (.tmp 44), none⟩,
    ⟨(some 3), .move (.tmp 47), none⟩] [(2, 4)]) (.seq (.region [
    ⟨(some 49), .bin .eql (.tmp 11) (.const (Go.Value.int Go.IntKind.i64 5)), none⟩,
    ⟨(some 48), .move (.tmp 49), none⟩]) (.cond (.tmp 48) (.region [
    ⟨(some 50), .addr 5 (.tmp 1), none⟩,
    ⟨(some 51), .load1 (.tmp 50), none⟩,
    ⟨(some 52), .lenSlice (.tmp 51), none⟩,
    ⟨(some 53), .maxI [(.tmp 52), (.const (Go.Value.int Go.IntKind.i64 2))], none⟩,
    ⟨(some 54), .minI [(.tmp 53), (.const (Go.Value.int Go.IntKind.i64 4))], none⟩,
    ⟨(some 3), .move (.tmp 54), none⟩]) (.seq (.region [
    ⟨(some 56), .bin .eql (.tmp 11) (.const (Go.Value.int Go.IntKind.i64 6)), none⟩,
    ⟨(some 55), .move (.tmp 56), none⟩]) (.cond (.tmp 55) (.region [
    ⟨(some 57), .addr 5 (.tmp 1), none⟩,
    ⟨(some 58), .load1 (.tmp 57), none⟩,
    ⟨(some 59), .lenSlice (.tmp 58), none⟩,
    ⟨(some 3), .move (.tmp 59), none⟩]) (.seq (.region [
    ⟨(some 61), .bin .eql (.tmp 11) (.const (Go.Value.int Go.IntKind.i64 7)), none⟩,
    ⟨(some 60), .move (.tmp 61), none⟩]) (.cond (.tmp 60) (.seq (.region [
    ⟨(some 62), .addr 2 (.tmp 1), none⟩,
    ⟨(some 63), .load1 (.tmp 62), none⟩,
    ⟨(some 64), .call 82 [(.tmp 63)], none⟩,
    ⟨(some 65), .bin .gtr (.tmp 64) (.const (Go.Value.int Go.IntKind.i64 0)), none⟩,
    ⟨(some 7), .move (.tmp 65), none⟩,
    ⟨(some 3), .move (.const (Go.Value.int Go.IntKind.i64 2)), none⟩]) (.seq (.region [
    ⟨(some 66), .addr 2 (.tmp 1), none⟩,
    ⟨(some 67), .load1 (.tmp 66), none⟩,
    ⟨(some 68), .call 82 [(.tmp 67)], none⟩,
    ⟨(some 69), .bin .eql (.tmp 68) (.const (Go.Value.int Go.IntKind.i64 7)), none⟩]) (.cond (.tmp 69) (.region [
    ⟨(some 3), .move (.const (Go.Value.int Go.IntKind.i64 1)), none⟩]) (.skip)))) (.seq (.region [
    ⟨(some 71), .bin .eql (.tmp 11) (.const (Go.Value.int Go.IntKind.i64 8)), none⟩,
    ⟨(some 70), .move (.tmp 71), none⟩]) (.cond (.tmp 70) (.regionD [
    ⟨(some 72), .addr 3 (.tmp 1), none⟩,
    ⟨(some 73), .load1 (.tmp 72), none⟩,
    ⟨(some 74), .lenSlice (.tmp 73), none⟩,
    ⟨(some 75), .maxI [(.tmp 74), (.const (Go.Value.int Go.IntKind.i64 1))], none⟩,
    ⟨(some 76), .minI [(.tmp 75), (.const (Go.Value.int Go.IntKind.i64 4))], none⟩,
    ⟨(some 3), .move (.const (Go.Value.int Go.IntKind.i64 2)), none⟩,
    ⟨(some 5), .move (.tmp 76), none⟩] []) (.seq (.region [
    ⟨(some 78), .bin .eql (.tmp 11) (.const (Go.Value.int Go.IntKind.i64 9)), none⟩,
    ⟨(some 77), .move (.tmp 78), none⟩]) (.cond (.tmp 77) (.region [
    ⟨(some 3), .move (.const (Go.Value.int Go.IntKind.i64 3)), none⟩]) (.seq (.region [
    ⟨(some 80), .bin .eql (.tmp 11) (.const (Go.Value.int Go.IntKind.i64 10)), none⟩,
    ⟨(some 79), .move (.tmp 80), none⟩]) (.cond (.tmp 79) (.region [
    ⟨(some 3), .move (.const (Go.Value.int Go.IntKind.i64 3)), none⟩,
    ⟨(some 5), .move (.const (Go.Value.int Go.IntKind.i64 2)), none⟩]) (.seq (.region [
    ⟨(some 82), .bin .eql (.tmp 11) (.const (Go.Value.int Go.IntKind.i64 11)), none⟩,
    ⟨(some 81), .move (.tmp 82), none⟩]) (.cond (.tmp 81) (.region [
    ⟨(some 3), .move (.const (Go.Value.int Go.IntKind.i64 2)), none⟩]) (.seq (.region [
    ⟨(some 84), .bin .eql (.tmp 11) (.const (Go.Value.int Go.IntKind.i64 12)), none⟩,
    ⟨(some 83), .move (.tmp 84), none⟩]) (.cond (.tmp 83) (.region [
    ⟨(some 3), .move (.const (Go.Value.int Go.IntKind.i64 1)), none⟩,
    ⟨(some 4), .move (.const (Go.Value.int Go.IntKind.i64 2)), none⟩]) (.seq (.region [
    ⟨(some 86), .bin .eql (.tmp 11) (.const (Go.Value.int Go.IntKind.i64 13)), none⟩,
    ⟨(some 85), .move (.tmp 86), none⟩]) (.cond (.tmp 85) (.seq (.region [
    ⟨(some 87), .addr 5 (.tmp 1), none⟩,
    ⟨(some 88), .load1 (.tmp 87), none⟩,
    ⟨(some 89), .lenSlice (.tmp 88), none⟩,
    ⟨(some 90), .maxI [(.tmp 89), (.const (Go.Value.int Go.IntKind.i64 1))], none⟩,
    ⟨(some 3), .move (.tmp 90), none⟩]) (.region [
    ⟨(some 91), .move (.tmp 3), none⟩,
    ⟨(some 4), .move (.tmp 91), none⟩])) (.seq (.seq (.region [
    ⟨(some 93), .bin .eql (.tmp 11) (.const (Go.Value.int Go.IntKind.i64 14)), none⟩,
    ⟨(some 92), .move (.tmp 93), none⟩]) (.cond (.tmp 92) (.skip) (.region [
    ⟨(some 94), .bin .eql (.tmp 11) (.const (Go.Value.int Go.IntKind.i64 15)), none⟩,
    ⟨(some 92), .move (.tmp 94), none⟩]))) (.cond (.tmp 92) (.region [
    ⟨(some 4), .move (.const (Go.Value.int Go.IntKind.i64 2)), none⟩]) (.seq (.region [
    ⟨(some 2), .move (.const (Go.Value.bool false)), none⟩]) (.ret)))))))))))))))))))))))))))))))) (.seq (.seq (.region [
    ⟨(some 95), .addr 0 (.tmp 1), none⟩,
    ⟨(some 96), .load1 (.tmp 95), none⟩,
    ⟨(some 97), .bin .neq (.tmp 96) (.const (Go.Value.int Go.IntKind.i64 1)), none⟩,
    ⟨(some 98), .move (.tmp 97), none⟩,
    ⟨(some 99), .addr 0 (.tmp 1), (some (98, true))⟩,
    ⟨(some 100), .load1 (.tmp 99), (some (98, true))⟩,
    ⟨(some 101), .bin .neq (.tmp 100) (.const (Go.Value.int Go.IntKind.i64 2)), (some (98, true))⟩,
    ⟨(some 102), .pick (.tmp 98) (.tmp 101) (.const (Go.Value.bool false)), none⟩]) (.cond (.tmp 102) (.region [
    ⟨(some 103), .addr 1 (.tmp 1), none⟩,
    ⟨(some 104), .load1 (.tmp 103), none⟩,
    ⟨(some 105), .bin .eql (.tmp 104) (.const (Go.Value.int Go.IntKind.i64 0)), none⟩,
    ⟨(some 6), .move (.tmp 105), none⟩]) (.skip))) (.seq (.seq (.region [
    ⟨(some 106), .addr 0 (.tmp 1), none⟩,
    ⟨(some 107), .load1 (.tmp 106), none⟩,
    ⟨(some 108), .bin .neq (.tmp 107) (.const (Go.Value.int Go.IntKind.i64 3)), none⟩,
    ⟨(some 109), .move (.tmp 108), none⟩,
    ⟨(some 110), .addr 0 (.tmp 1), (some (109, true))⟩,
    ⟨(some 111), .load1 (.tmp 110), (some (109, true))⟩,
    ⟨(some 112), .bin .neq (.tmp 111) (.const (Go.Value.int Go.IntKind.i64 4)), (some (109, true))⟩,
    ⟨(some 113), .pick (.tmp 109) (.tmp 112) (.const (Go.Value.bool false)), none⟩,
    ⟨(some 114), .move (.tmp 113), none⟩,
    ⟨(some 115), .addr 0 (.tmp 1), (some (114, true))⟩,
    ⟨(some 116), .load1 (.tmp 115), (some (114, true))⟩,
    ⟨(some 117), .bin .neq (.tmp 116) (.const (Go.Value.int Go.IntKind.i64 7)), (some (114, true))⟩,
    ⟨(some 118), .pick (.tmp 114) (.tmp 117) (.const (Go.Value.bool false)), none⟩]) (.cond (.tmp 118) (.region [
    ⟨(some 119), .addr 2 (.tmp 1), none⟩,
    ⟨(some 120), .load1 (.tmp 119), none⟩,
    ⟨(some 121), .bin .eql (.tmp 120) (.const (Go.Value.string { data := #[] })), none⟩,
    ⟨(some 7), .move (.tmp 121), none⟩]) (.skip))) (.seq (.seq (.region [
    ⟨(some 122), .addr 4 (.tmp 1), none⟩,
    ⟨(some 123), .load1 (.tmp 122), none⟩,
    ⟨(some 124), .lenSlice (.tmp 123), none⟩,
    ⟨(some 125), .move (.const (Go.Value.int Go.IntKind.i64 0)), none⟩]) (.block 1 (.loop (.seq (.region [
    ⟨(some 126), .bin .lss (.tmp 125) (.tmp 124), none⟩]) (.seq (.cond (.tmp 126) (.skip) (.exit 1)) (.seq (.block 2 (.seq (.region [
    ⟨(some 127), .indexAddr 1 (.tmp 123) (.tmp 125), none⟩,
    ⟨(some 128), .load1 (.tmp 127), none⟩,
    ⟨(some 9), .move (.tmp 128), none⟩]) (.seq (.region [
    ⟨(some 129), .move (.tmp 9), none⟩,
    ⟨(some 130), .bin .gtr (.tmp 129) (.const (Go.Value.int Go.IntKind.i64 2147483647)), none⟩,
    ⟨(some 131), .move (.tmp 130), none⟩,
    ⟨(some 132), .move (.tmp 9), (some (131, false))⟩,
    ⟨(some 133), .bin .lss (.tmp 132) (.const (Go.Value.int Go.IntKind.i64 0)), (some (131, false))⟩,
    ⟨(some 134), .move (.tmp 133), (some (131, false))⟩,
    ⟨(some 135), .addr 0 (.tmp 1), (some (134, true))⟩,
    ⟨(some 136), .load1 (.tmp 135), (some (134, true))⟩,
    ⟨(some 137), .bin .neq (.tmp 136) (.const (Go.Value.int Go.IntKind.i64 15)), (some (134, true))⟩,
    ⟨(some 138), .move (.tmp 137), (some (134, true))⟩,
    ⟨(some 139), .move (.tmp 9), (some (138, false))⟩,
    ⟨(some 140), .bin .lss (.tmp 139) (.const (Go.Value.int Go.IntKind.i64 (-2147483647))), (some (138, false))⟩,
    ⟨(some 141), .pick (.tmp 138) (.const (Go.Value.bool true)) (.tmp 140), (some (134, true))⟩,
    ⟨(some 142), .pick (.tmp 134) (.tmp 141) (.const (Go.Value.bool false)), (some (131, false))⟩,
    ⟨(some 143), .pick (.tmp 131) (.const (Go.Value.bool true)) (.tmp 142), none⟩]) (.cond (.tmp 143) (.seq (.region [
    ⟨(some 2), .move (.const (Go.Value.bool false)), none⟩]) (.ret)) (.skip))))) (.region [
    ⟨(some 144), .bin .add (.tmp 125) (.const (Go.Value.int Go.IntKind.i64 1)), none⟩,
    ⟨(some 125), .move (.tmp 144), none⟩]))))))) (.seq (.region [
    ⟨(some 145), .move (.tmp 6), none⟩,
    ⟨(some 146), .move (.tmp 145), none⟩,
    ⟨(some 147), .move (.tmp 7), (some (146, true))⟩,
    ⟨(some 148), .pick (.tmp 146) (.tmp 147) (.const (Go.Value.bool false)), none⟩,
    ⟨(some 149), .move (.tmp 148), none⟩,
    ⟨(some 150), .addr 5 (.tmp 1), (some (149, true))⟩,
    ⟨(some 151), .load1 (.tmp 150), (some (149, true))⟩,
    ⟨(some 152), .lenSlice (.tmp 151), (some (149, true))⟩,
    ⟨(some 153), .move (.tmp 3), (some (149, true))⟩,
    ⟨(some 154), .bin .eql (.tmp 152) (.tmp 153), (some (149, true))⟩,
    ⟨(some 155), .pick (.tmp 149) (.tmp 154) (.const (Go.Value.bool false)), none⟩,
    ⟨(some 156), .move (.tmp 155), none⟩,
    ⟨(some 157), .addr 4 (.tmp 1), (some (156, true))⟩,
    ⟨(some 158), .load1 (.tmp 157), (some (156, true))⟩,
    ⟨(some 159), .lenSlice (.tmp 158), (some (156, true))⟩,
    ⟨(some 160), .move (.tmp 4), (some (156, true))⟩,
    ⟨(some 161), .bin .eql (.tmp 159) (.tmp 160), (some (156, true))⟩,
    ⟨(some 162), .pick (.tmp 156) (.tmp 161) (.const (Go.Value.bool false)), none⟩,
    ⟨(some 163), .move (.tmp 162), none⟩,
    ⟨(some 164), .addr 3 (.tmp 1), (some (163, true))⟩,
    ⟨(some 165), .load1 (.tmp 164), (some (163, true))⟩,
    ⟨(some 166), .lenSlice (.tmp 165), (some (163, true))⟩,
    ⟨(some 167), .move (.tmp 5), (some (163, true))⟩,
    ⟨(some 168), .bin .eql (.tmp 166) (.tmp 167), (some (163, true))⟩,
    ⟨(some 169), .pick (.tmp 163) (.tmp 168) (.const (Go.Value.bool false)), none⟩,
    ⟨(some 170), .move (.tmp 169), none⟩,
    ⟨(some 171), .addr 3 (.tmp 1), (some (170, true))⟩,
    ⟨(some 172), .load1 (.tmp 171), (some (170, true))⟩,
    ⟨(some 173), .call 83 [(.tmp 172)], (some (170, true))⟩,
    ⟨(some 174), .pick (.tmp 170) (.tmp 173) (.const (Go.Value.bool false)), none⟩,
    ⟨(some 2), .move (.tmp 174), none⟩]) (.ret))))))))⟩
def x63 : XFun := ⟨211, [],
  .seq (.region [
    ⟨(some 5), .box 28 (.tmp 1), none⟩]) (.seq (.region [
    ⟨(some 17), .build [(Go.Value.int Go.IntKind.i64 0), (Go.Value.slice none 0 0), (Go.Value.pointer none)] [(0, 1, (.const (Go.Value.int Go.IntKind.i64 1)))], none⟩,
    ⟨(some 18), .box 111 (.tmp 17), none⟩,
    ⟨(some 19), .build [(Go.Value.int Go.IntKind.i64 0), (Go.Value.slice none 0 0), (Go.Value.pointer none)] [(0, 1, (.const (Go.Value.int Go.IntKind.i64 2)))], none⟩,
    ⟨(some 20), .box 111 (.tmp 19), none⟩,
    ⟨(some 8), .move (.tmp 18), none⟩,
    ⟨(some 9), .move (.tmp 20), none⟩]) (.seq (.region [
    ⟨(some 21), .addr 0 (.tmp 5), none⟩,
    ⟨(some 22), .load1 (.tmp 21), none⟩]) (.block 0 (.seq (.region [
    ⟨(some 24), .bin .eql (.tmp 22) (.const (Go.Value.int Go.IntKind.i64 9)), none⟩,
    ⟨(some 23), .move (.tmp 24), none⟩]) (.cond (.tmp 23) (.seq (.region [
    ⟨(some 25), .move (.tmp 0), none⟩,
    ⟨(some 26), .addr 5 (.tmp 5), none⟩,
    ⟨(some 27), .load1 (.tmp 26), none⟩,
    ⟨(some 28), .indexAddr 8 (.tmp 27) (.const (Go.Value.int Go.IntKind.i64 0)), none⟩,
    ⟨(some 29), .loadN 8 (.tmp 28), none⟩,
    ⟨(some 30), .move (.tmp 2), none⟩,
    ⟨(some 31), .move (.tmp 8), none⟩,
    ⟨(some 32), .call 38 [(.tmp 25), (.tmp 29), (.tmp 30), (.tmp 31)], none⟩]) (.seq (.region [
    ⟨(some 33), .move (.tmp 0), none⟩,
    ⟨(some 34), .addr 5 (.tmp 5), none⟩,
    ⟨(some 35), .load1 (.tmp 34), none⟩,
    ⟨(some 36), .indexAddr 8 (.tmp 35) (.const (Go.Value.int Go.IntKind.i64 1)), none⟩,
    ⟨(some 37), .loadN 8 (.tmp 36), none⟩,
    ⟨(some 38), .move (.tmp 2), none⟩,
    ⟨(some 39), .move (.tmp 3), none⟩,
    ⟨(some 40), .call 38 [(.tmp 33), (.tmp 37), (.tmp 38), (.tmp 39)], none⟩]) (.region [
    ⟨(some 41), .move (.tmp 0), none⟩,
    ⟨(some 42), .addr 5 (.tmp 5), none⟩,
    ⟨(some 43), .load1 (.tmp 42), none⟩,
    ⟨(some 44), .indexAddr 8 (.tmp 43) (.const (Go.Value.int Go.IntKind.i64 2)), none⟩,
    ⟨(some 45), .loadN 8 (.tmp 44), none⟩,
    ⟨(some 46), .move (.tmp 2), none⟩,
    ⟨(some 47), .move (.tmp 3), none⟩,
    ⟨(some 48), .call 38 [(.tmp 41), (.tmp 45), (.tmp 46), (.tmp 47)], none⟩]))) (.seq (.region [
    ⟨(some 50), .bin .eql (.tmp 22) (.const (Go.Value.int Go.IntKind.i64 10)), none⟩,
    ⟨(some 49), .move (.tmp 50), none⟩]) (.cond (.tmp 49) (.seq (.region [
    ⟨(some 51), .call 40 [], none⟩,
    ⟨(some 10), .move (.tmp 51), none⟩]) (.seq (.regionD [
    ⟨(some 52), .move (.tmp 0), none⟩,
    ⟨(some 53), .addr 5 (.tmp 5), none⟩,
    ⟨(some 54), .load1 (.tmp 53), none⟩,
    ⟨(some 55), .indexAddr 8 (.tmp 54) (.const (Go.Value.int Go.IntKind.i64 0)), none⟩,
    ⟨(some 56), .loadN 8 (.tmp 55), none⟩,
    ⟨(some 57), .move (.tmp 2), none⟩,
    ⟨(some 58), .move (.tmp 10), none⟩,
    ⟨(some 59), .call 66 [(.tmp 58)], none⟩,
    ⟨(some 60), .call 38 [(.tmp 52), (.tmp 56), (.tmp 57), (.tmp 59)], none⟩] [(2, 7), (4, 7)]) (.seq (.region [
    ⟨(some 61), .move (.tmp 0), none⟩,
    ⟨(some 62), .addr 5 (.tmp 5), none⟩,
    ⟨(some 63), .load1 (.tmp 62), none⟩,
    ⟨(some 64), .indexAddr 8 (.tmp 63) (.const (Go.Value.int Go.IntKind.i64 1)), none⟩,
    ⟨(some 65), .loadN 8 (.tmp 64), none⟩,
    ⟨(some 66), .move (.tmp 2), none⟩,
    ⟨(some 67), .move (.tmp 3), none⟩,
    ⟨(some 68), .call 38 [(.tmp 61), (.tmp 65), (.tmp 66), (.tmp 67)], none⟩]) (.seq (.region [
    ⟨(some 69), .loadN 8 (.tmp 5), none⟩,
    ⟨(some 70), .call 68 [(.tmp 69)], none⟩]) (.regionD [
    ⟨(some 71), .move (.tmp 0), none⟩,
    ⟨(some 72), .addr 5 (.tmp 5), none⟩,
    ⟨(some 73), .load1 (.tmp 72), none⟩,
    ⟨(some 74), .indexAddr 8 (.tmp 73) (.const (Go.Value.int Go.IntKind.i64 2)), none⟩,
    ⟨(some 75), .loadN 8 (.tmp 74), none⟩,
    ⟨(some 76), .move (.tmp 2), none⟩,
    ⟨(some 77), .addr 3 (.tmp 5), none⟩,
    ⟨(some 78), .load1 (.tmp 77), none⟩,
    ⟨(some 79), .indexAddr 1 (.tmp 78) (.const (Go.Value.int Go.IntKind.i64 0)), none⟩,
    ⟨(some 80), .load1 (.tmp 79), none⟩,
    ⟨(some 81), .move (.tmp 10), none⟩,
    ⟨(some 82), .build [(Go.Value.string { data := #[] }), (Go.Value.pointer none)] [(0, 1, (.tmp 80)), (1, 1, (.tmp 81))], none⟩,
    ⟨(some 83), .addr 3 (.tmp 5), none⟩,
    ⟨(some 84), .load1 (.tmp 83), none⟩,
    ⟨(some 85), .indexAddr 1 (.tmp 84) (.const (Go.Value.int Go.IntKind.i64 1)), none⟩,
    ⟨(some 86), .load1 (.tmp 85), none⟩,
    ⟨(some 87), .move (.tmp 10), none⟩,
    ⟨(some 88), .call 66 [(.tmp 87)], none⟩,
    ⟨(some 89), .build [(Go.Value.string { data := #[] }), (Go.Value.pointer none)] [(0, 1, (.tmp 86)), (1, 1, (.tmp 88))], none⟩,
    ⟨(some 90), .buildSlice 107 2 [(Go.Value.string { data := #[] }), (Go.Value.pointer none)] 2 [(0, 2, (.tmp 82)), (2, 2, (.tmp 89))], none⟩,
    ⟨(some 91), .call 69 [(.tmp 76), (.tmp 90)], none⟩,
    ⟨(some 92), .move (.tmp 3), none⟩,
    ⟨(some 93), .call 38 [(.tmp 71), (.tmp 75), (.tmp 91), (.tmp 92)], none⟩] [(2, 17), (4, 17), (7, 17), (9, 17), (13, 17), (15, 17), (2, 19), (4, 19), (2, 20), (4, 20)]))))) (.seq (.region [
    ⟨(some 95), .bin .eql (.tmp 22) (.const (Go.Value.int Go.IntKind.i64 11)), none⟩,
    ⟨(some 94), .move (.tmp 95), none⟩]) (.cond (.tmp 94) (.seq (.region [
    ⟨(some 96), .move (.tmp 0), none⟩,
    ⟨(some 97), .addr 5 (.tmp 5), none⟩,
    ⟨(some 98), .load1 (.tmp 97), none⟩,
    ⟨(some 99), .indexAddr 8 (.tmp 98) (.const (Go.Value.int Go.IntKind.i64 0)), none⟩,
    ⟨(some 100), .loadN 8 (.tmp 99), none⟩,
    ⟨(some 101), .move (.tmp 2), none⟩,
    ⟨(some 102), .move (.tmp 8), none⟩,
    ⟨(some 103), .call 38 [(.tmp 96), (.tmp 100), (.tmp 101), (.tmp 102)], none⟩]) (.region [
    ⟨(some 104), .move (.tmp 0), none⟩,
    ⟨(some 105), .addr 5 (.tmp 5), none⟩,
    ⟨(some 106), .load1 (.tmp 105), none⟩,
    ⟨(some 107), .indexAddr 8 (.tmp 106) (.const (Go.Value.int Go.IntKind.i64 1)), none⟩,
    ⟨(some 108), .loadN 8 (.tmp 107), none⟩,
    ⟨(some 109), .move (.tmp 2), none⟩,
    ⟨(some 110), .move (.tmp 3), none⟩,
    ⟨(some 111), .call 38 [(.tmp 104), (.tmp 108), (.tmp 109), (.tmp 110)], none⟩])) (.seq (.region [
    ⟨(some 113), .bin .eql (.tmp 22) (.const (Go.Value.int Go.IntKind.i64 12)), none⟩,
    ⟨(some 112), .move (.tmp 113), none⟩]) (.cond (.tmp 112) (.seq (.region [
    ⟨(some 114), .loadN 8 (.tmp 5), none⟩,
    ⟨(some 115), .call 84 [(.tmp 114)], none⟩]) (.region [
    ⟨(some 116), .move (.tmp 0), none⟩,
    ⟨(some 117), .addr 5 (.tmp 5), none⟩,
    ⟨(some 118), .load1 (.tmp 117), none⟩,
    ⟨(some 119), .indexAddr 8 (.tmp 118) (.const (Go.Value.int Go.IntKind.i64 0)), none⟩,
    ⟨(some 120), .loadN 8 (.tmp 119), none⟩,
    ⟨(some 121), .move (.tmp 2), none⟩,
    ⟨(some 122), .move (.tmp 3), none⟩,
    ⟨(some 123), .call 38 [(.tmp 116), (.tmp 120), (.tmp 121), (.tmp 122)], none⟩])) (.seq (.region [
    ⟨(some 125), .bin .eql (.tmp 22) (.const (Go.Value.int Go.IntKind.i64 13)), none⟩,
    ⟨(some 124), .move (.tmp 125), none⟩]) (.cond (.tmp 124) (.seq (.seq (.region [
    ⟨(some 126), .addr 5 (.tmp 5), none⟩,
    ⟨(some 127), .load1 (.tmp 126), none⟩,
    ⟨(some 128), .lenSlice (.tmp 127), none⟩,
    ⟨(some 129), .bin .gtr (.tmp 128) (.const (Go.Value.int Go.IntKind.i64 64)), none⟩]) (.cond (.tmp 129) (.region [
    ⟨(some 130), .addr 6 (.tmp 5), none⟩,
    ⟨(some 131), .load1 (.tmp 130), none⟩,
    ⟨(some 132), .addr 7 (.tmp 5), none⟩,
    ⟨(some 133), .load1 (.tmp 132), none⟩,
    ⟨(some 134), .call 34 [(.const (Go.Value.int Go.IntKind.i64 16)), (.const (Go.Value.string { data := #[] })), (.tmp 131), (.tmp 133)], none⟩]) (.skip))) (.seq (.seq (.region [
    ⟨(some 135), .addr 4 (.tmp 5), none⟩,
    ⟨(some 136), .load1 (.tmp 135), none⟩,
    ⟨(some 137), .lenSlice (.tmp 136), none⟩,
    ⟨(some 138), .move (.const (Go.Value.int Go.IntKind.i64 0)), none⟩]) (.block 1 (.loop (.seq (.region [
    ⟨(some 139), .bin .lss (.tmp 138) (.tmp 137), none⟩]) (.seq (.cond (.tmp 139) (.skip) (.exit 1)) (.seq (.block 2 (.seq (.region [
    ⟨(some 140), .indexAddr 1 (.tmp 136) (.tmp 138), none⟩,
    ⟨(some 141), .load1 (.tmp 140), none⟩,
    ⟨(some 12), .move (.tmp 141), none⟩]) (.seq (.region [
    ⟨(some 142), .move (.tmp 12), none⟩,
    ⟨(some 143), .bin .lss (.tmp 142) (.const (Go.Value.int Go.IntKind.i64 1)), none⟩,
    ⟨(some 144), .move (.tmp 143), none⟩,
    ⟨(some 145), .move (.tmp 12), (some (144, false))⟩,
    ⟨(some 146), .bin .gtr (.tmp 145) (.const (Go.Value.int Go.IntKind.i64 1000)), (some (144, false))⟩,
    ⟨(some 147), .pick (.tmp 144) (.const (Go.Value.bool true)) (.tmp 146), none⟩]) (.cond (.tmp 147) (.region [
    ⟨(some 148), .addr 6 (.tmp 5), none⟩,
    ⟨(some 149), .load1 (.tmp 148), none⟩,
    ⟨(some 150), .addr 7 (.tmp 5), none⟩,
    ⟨(some 151), .load1 (.tmp 150), none⟩,
    ⟨(some 152), .call 34 [(.const (Go.Value.int Go.IntKind.i64 16)), (.const (Go.Value.string { data := #[] })), (.tmp 149), (.tmp 151)], none⟩]) (.skip))))) (.region [
    ⟨(some 153), .bin .add (.tmp 138) (.const (Go.Value.int Go.IntKind.i64 1)), none⟩,
    ⟨(some 138), .move (.tmp 153), none⟩]))))))) (.seq (.region [
    ⟨(some 154), .addr 5 (.tmp 5), none⟩,
    ⟨(some 155), .load1 (.tmp 154), none⟩,
    ⟨(some 156), .lenSlice (.tmp 155), none⟩,
    ⟨(some 157), .move (.const (Go.Value.int Go.IntKind.i64 0)), none⟩]) (.block 3 (.loop (.seq (.region [
    ⟨(some 158), .bin .lss (.tmp 157) (.tmp 156), none⟩]) (.seq (.cond (.tmp 158) (.skip) (.exit 3)) (.seq (.block 4 (.seq (.region [
    ⟨(some 159), .indexAddr 8 (.tmp 155) (.tmp 157), none⟩,
    ⟨(some 160), .loadN 8 (.tmp 159), none⟩,
    ⟨(some 14), .alloc 28 [(Go.Value.int Go.IntKind.i64 0), (Go.Value.int Go.IntKind.i64 0), (Go.Value.string { data := #[] }), (Go.Value.slice none 0 0), (Go.Value.slice none 0 0), (Go.Value.slice none 0 0), (Go.Value.int Go.IntKind.i64 0), (Go.Value.int Go.IntKind.i64 0)], none⟩,
    ⟨none, .store 8 (.tmp 14) (.tmp 160), none⟩]) (.region [
    ⟨(some 161), .move (.tmp 0), none⟩,
    ⟨(some 162), .loadN 8 (.tmp 14), none⟩,
    ⟨(some 163), .move (.tmp 2), none⟩,
    ⟨(some 164), .move (.tmp 3), none⟩,
    ⟨(some 165), .call 38 [(.tmp 161), (.tmp 162), (.tmp 163), (.tmp 164)], none⟩]))) (.region [
    ⟨(some 166), .bin .add (.tmp 157) (.const (Go.Value.int Go.IntKind.i64 1)), none⟩,
    ⟨(some 157), .move (.tmp 166), none⟩]))))))))) (.seq (.region [
    ⟨(some 168), .bin .eql (.tmp 22) (.const (Go.Value.int Go.IntKind.i64 14)), none⟩,
    ⟨(some 167), .move (.tmp 168), none⟩]) (.cond (.tmp 167) (.seq (.region [
    ⟨(some 169), .loadN 8 (.tmp 5), none⟩,
    ⟨(some 170), .call 84 [(.tmp 169)], none⟩]) (.region [
    ⟨(some 171), .loadN 8 (.tmp 5), none⟩,
    ⟨(some 172), .move (.tmp 8), none⟩,
    ⟨(some 173), .move (.tmp 3), none⟩,
    ⟨(some 174), .call 64 [(.tmp 171), (.tmp 172), (.tmp 173)], none⟩])) (.seq (.region [
    ⟨(some 176), .bin .eql (.tmp 22) (.const (Go.Value.int Go.IntKind.i64 15)), none⟩,
    ⟨(some 175), .move (.tmp 176), none⟩]) (.cond (.tmp 175) (.seq (.seq (.regionD [
    ⟨(some 177), .addr 4 (.tmp 5), none⟩,
    ⟨(some 178), .load1 (.tmp 177), none⟩,
    ⟨(some 179), .indexAddr 1 (.tmp 178) (.const (Go.Value.int Go.IntKind.i64 0)), none⟩,
    ⟨(some 180), .load1 (.tmp 179), none⟩,
    ⟨(some 181), .addr 4 (.tmp 5), none⟩,
    ⟨(some 182), .load1 (.tmp 181), none⟩,
    ⟨(some 183), .indexAddr 1 (.tmp 182) (.const (Go.Value.int Go.IntKind.i64 1)), none⟩,
    ⟨(some 184), .load1 (.tmp 183), none⟩,
    ⟨(some 15), .move (.tmp 180), none⟩,
    ⟨(some 16), .move (.tmp 184), none⟩] []) (.seq (.region [
    ⟨(some 185), .move (.tmp 15), none⟩,
    ⟨(some 186), .move (.tmp 16), none⟩,
    ⟨(some 187), .bin .gtr (.tmp 185) (.tmp 186), none⟩,
    ⟨(some 188), .move (.tmp 187), none⟩,
    ⟨(some 189), .move (.tmp 15), (some (188, false))⟩,
    ⟨(some 190), .bin .lss (.tmp 189) (.const (Go.Value.int Go.IntKind.i64 (-2147483648))), (some (188, false))⟩,
    ⟨(some 191), .pick (.tmp 188) (.const (Go.Value.bool true)) (.tmp 190), none⟩,
    ⟨(some 192), .move (.tmp 191), none⟩,
    ⟨(some 193), .move (.tmp 16), (some (192, false))⟩,
    ⟨(some 194), .bin .gtr (.tmp 193) (.const (Go.Value.int Go.IntKind.i64 2147483647)), (some (192, false))⟩,
    ⟨(some 195), .pick (.tmp 192) (.const (Go.Value.bool true)) (.tmp 194), none⟩,
    ⟨(some 196), .move (.tmp 195), none⟩,
    ⟨(some 197), .move (.tmp 16), (some (196, false))⟩,
    ⟨(some 198), .move (.tmp 15), (some (196, false))⟩,
    ⟨(some 199), .bin .sub (.tmp 197) (.tmp 198), (some (196, false))⟩,
    ⟨(some 200), .bin .geq (.tmp 199) (.const (Go.Value.int Go.IntKind.i64 64)), (some (196, false))⟩,
    ⟨(some 201), .pick (.tmp 196) (.const (Go.Value.bool true)) (.tmp 200), none⟩]) (.cond (.tmp 201) (.region [
    ⟨(some 202), .addr 6 (.tmp 5), none⟩,
    ⟨(some 203), .load1 (.tmp 202), none⟩,
    ⟨(some 204), .addr 7 (.tmp 5), none⟩,
    ⟨(some 205), .load1 (.tmp 204), none⟩,
    ⟨(some 206), .call 34 [(.const (Go.Value.int Go.IntKind.i64 16)), (.const (Go.Value.string { data := #[] })), (.tmp 203), (.tmp 205)], none⟩]) (.skip)))) (.region [
    ⟨(some 207), .loadN 8 (.tmp 5), none⟩,
    ⟨(some 208), .move (.tmp 9), none⟩,
    ⟨(some 209), .move (.tmp 3), none⟩,
    ⟨(some 210), .call 64 [(.tmp 207), (.tmp 208), (.tmp 209)], none⟩])) (.skip))))))))))))))))))⟩
def x64 : XFun := ⟨27, [],
  .seq (.region [
    ⟨(some 3), .box 28 (.tmp 0), none⟩]) (.seq (.region [
    ⟨(some 7), .move (.tmp 1), none⟩,
    ⟨(some 8), .move (.tmp 2), none⟩,
    ⟨(some 9), .call 85 [(.tmp 7), (.tmp 8)], none⟩,
    ⟨(some 10), .un .not (.tmp 9), none⟩]) (.cond (.tmp 10) (.seq (.region [
    ⟨(some 6), .move (.const (Go.Value.string { data := #[] })), none⟩]) (.seq (.seq (.region [
    ⟨(some 11), .addr 0 (.tmp 3), none⟩,
    ⟨(some 12), .load1 (.tmp 11), none⟩,
    ⟨(some 13), .bin .eql (.tmp 12) (.const (Go.Value.int Go.IntKind.i64 3)), none⟩,
    ⟨(some 14), .move (.tmp 13), none⟩,
    ⟨(some 15), .addr 0 (.tmp 3), (some (14, false))⟩,
    ⟨(some 16), .load1 (.tmp 15), (some (14, false))⟩,
    ⟨(some 17), .bin .eql (.tmp 16) (.const (Go.Value.int Go.IntKind.i64 4)), (some (14, false))⟩,
    ⟨(some 18), .pick (.tmp 14) (.const (Go.Value.bool true)) (.tmp 17), none⟩]) (.cond (.tmp 18) (.region [
    ⟨(some 19), .addr 2 (.tmp 3), none⟩,
    ⟨(some 20), .load1 (.tmp 19), none⟩,
    ⟨(some 6), .move (.tmp 20), none⟩]) (.skip))) (.region [
    ⟨(some 21), .move (.tmp 6), none⟩,
    ⟨(some 22), .addr 6 (.tmp 3), none⟩,
    ⟨(some 23), .load1 (.tmp 22), none⟩,
    ⟨(some 24), .addr 7 (.tmp 3), none⟩,
    ⟨(some 25), .load1 (.tmp 24), none⟩,
    ⟨(some 26), .call 34 [(.const (Go.Value.int Go.IntKind.i64 14)), (.tmp 21), (.tmp 23), (.tmp 25)], none⟩]))) (.skip)))⟩
def x65 : XFun := ⟨75, [],
  .seq (.region [
    ⟨(some 5), .box 28 (.tmp 1), none⟩]) (.seq (.seq (.region [
    ⟨(some 12), .move (.tmp 0), none⟩,
    ⟨(some 13), .nilCheck (.tmp 12), none⟩,
    ⟨(some 14), .addr 0 (.tmp 13), none⟩,
    ⟨(some 15), .addr 1 (.tmp 14), none⟩,
    ⟨(some 16), .load1 (.tmp 15), none⟩,
    ⟨(some 17), .lenSlice (.tmp 16), none⟩,
    ⟨(some 18), .move (.const (Go.Value.int Go.IntKind.i64 0)), none⟩]) (.block 0 (.loop (.seq (.region [
    ⟨(some 19), .bin .lss (.tmp 18) (.tmp 17), none⟩]) (.seq (.cond (.tmp 19) (.skip) (.exit 0)) (.seq (.block 1 (.seq (.region [
    ⟨(some 20), .indexAddr 14 (.tmp 16) (.tmp 18), none⟩,
    ⟨(some 21), .loadN 14 (.tmp 20), none⟩,
    ⟨(some 9), .alloc 56 [(Go.Value.string { data := #[] }), (Go.Value.slice none 0 0), (Go.Value.int Go.IntKind.i64 0), (Go.Value.slice none 0 0), (Go.Value.int Go.IntKind.i64 0), (Go.Value.int Go.IntKind.i64 0), (Go.Value.string { data := #[] }), (Go.Value.slice none 0 0), (Go.Value.slice none 0 0), (Go.Value.slice none 0 0), (Go.Value.int Go.IntKind.i64 0), (Go.Value.int Go.IntKind.i64 0), (Go.Value.int Go.IntKind.i64 0), (Go.Value.int Go.IntKind.i64 0)], none⟩,
    ⟨none, .store 14 (.tmp 9) (.tmp 21), none⟩]) (.seq (.seq (.region [
    ⟨(some 22), .addr 0 (.tmp 9), none⟩,
    ⟨(some 23), .load1 (.tmp 22), none⟩,
    ⟨(some 24), .addr 2 (.tmp 5), none⟩,
    ⟨(some 25), .load1 (.tmp 24), none⟩,
    ⟨(some 26), .bin .neq (.tmp 23) (.tmp 25), none⟩]) (.cond (.tmp 26) (.exit 1) (.skip))) (.seq (.seq (.region [
    ⟨(some 27), .addr 1 (.tmp 9), none⟩,
    ⟨(some 28), .load1 (.tmp 27), none⟩,
    ⟨(some 29), .lenSlice (.tmp 28), none⟩,
    ⟨(some 30), .addr 5 (.tmp 5), none⟩,
    ⟨(some 31), .load1 (.tmp 30), none⟩,
    ⟨(some 32), .lenSlice (.tmp 31), none⟩,
    ⟨(some 33), .bin .neq (.tmp 29) (.tmp 32), none⟩]) (.cond (.tmp 33) (.region [
    ⟨(some 34), .addr 2 (.tmp 5), none⟩,
    ⟨(some 35), .load1 (.tmp 34), none⟩,
    ⟨(some 36), .addr 6 (.tmp 5), none⟩,
    ⟨(some 37), .load1 (.tmp 36), none⟩,
    ⟨(some 38), .addr 7 (.tmp 5), none⟩,
    ⟨(some 39), .load1 (.tmp 38), none⟩,
    ⟨(some 40), .call 34 [(.const (Go.Value.int Go.IntKind.i64 15)), (.tmp 35), (.tmp 37), (.tmp 39)], none⟩]) (.skip))) (.seq (.regionD [
    ⟨(some 41), .loadN 8 (.tmp 5), none⟩,
    ⟨(some 42), .addr 2 (.tmp 9), none⟩,
    ⟨(some 43), .loadN 2 (.tmp 42), none⟩,
    ⟨(some 44), .call 39 [(.tmp 43)], none⟩,
    ⟨(some 45), .move (.tmp 3), none⟩,
    ⟨(some 46), .call 64 [(.tmp 41), (.tmp 44), (.tmp 45)], none⟩] [(0, 3)]) (.seq (.seq (.region [
    ⟨(some 47), .addr 5 (.tmp 5), none⟩,
    ⟨(some 48), .load1 (.tmp 47), none⟩,
    ⟨(some 49), .lenSlice (.tmp 48), none⟩,
    ⟨(some 50), .move (.const (Go.Value.int Go.IntKind.i64 0)), none⟩]) (.block 2 (.loop (.seq (.region [
    ⟨(some 51), .bin .lss (.tmp 50) (.tmp 49), none⟩]) (.seq (.cond (.tmp 51) (.skip) (.exit 2)) (.seq (.block 3 (.seq (.region [
    ⟨(some 52), .move (.tmp 50), none⟩,
    ⟨(some 53), .indexAddr 8 (.tmp 48) (.tmp 50), none⟩,
    ⟨(some 54), .loadN 8 (.tmp 53), none⟩,
    ⟨(some 11), .alloc 28 [(Go.Value.int Go.IntKind.i64 0), (Go.Value.int Go.IntKind.i64 0), (Go.Value.string { data := #[] }), (Go.Value.slice none 0 0), (Go.Value.slice none 0 0), (Go.Value.slice none 0 0), (Go.Value.int Go.IntKind.i64 0), (Go.Value.int Go.IntKind.i64 0)], none⟩,
    ⟨(some 10), .move (.tmp 52), none⟩,
    ⟨none, .store 8 (.tmp 11) (.tmp 54), none⟩]) (.regionD [
    ⟨(some 55), .move (.tmp 0), none⟩,
    ⟨(some 56), .loadN 8 (.tmp 11), none⟩,
    ⟨(some 57), .move (.tmp 2), none⟩,
    ⟨(some 58), .addr 1 (.tmp 9), none⟩,
    ⟨(some 59), .load1 (.tmp 58), none⟩,
    ⟨(some 60), .move (.tmp 10), none⟩,
    ⟨(some 61), .indexAddr 5 (.tmp 59) (.tmp 60), none⟩,
    ⟨(some 62), .addr 1 (.tmp 61), none⟩,
    ⟨(some 63), .loadN 2 (.tmp 62), none⟩,
    ⟨(some 64), .call 39 [(.tmp 63)], none⟩,
    ⟨(some 65), .call 38 [(.tmp 55), (.tmp 56), (.tmp 57), (.tmp 64)], none⟩] [(1, 9)]))) (.region [
    ⟨(some 66), .bin .add (.tmp 50) (.const (Go.Value.int Go.IntKind.i64 1)), none⟩,
    ⟨(some 50), .move (.tmp 66), none⟩]))))))) (.ret))))))) (.region [
    ⟨(some 67), .bin .add (.tmp 18) (.const (Go.Value.int Go.IntKind.i64 1)), none⟩,
    ⟨(some 18), .move (.tmp 67), none⟩]))))))) (.region [
    ⟨(some 68), .addr 2 (.tmp 5), none⟩,
    ⟨(some 69), .load1 (.tmp 68), none⟩,
    ⟨(some 70), .addr 6 (.tmp 5), none⟩,
    ⟨(some 71), .load1 (.tmp 70), none⟩,
    ⟨(some 72), .addr 7 (.tmp 5), none⟩,
    ⟨(some 73), .load1 (.tmp 72), none⟩,
    ⟨(some 74), .call 34 [(.const (Go.Value.int Go.IntKind.i64 12)), (.tmp 69), (.tmp 71), (.tmp 73)], none⟩]))⟩
def x66 : XFun := ⟨7, [.tmp 2],
  .seq (.region [
    ⟨(some 2), .move (.const (Go.Value.pointer none)), none⟩]) (.seq (.region [
    ⟨(some 3), .move (.tmp 0), none⟩,
    ⟨(some 4), .buildSlice 81 1 [(Go.Value.pointer none)] 1 [(0, 1, (.tmp 3))], none⟩,
    ⟨(some 5), .build [(Go.Value.int Go.IntKind.i64 0), (Go.Value.slice none 0 0), (Go.Value.pointer none)] [(0, 1, (.const (Go.Value.int Go.IntKind.i64 4))), (1, 1, (.tmp 4))], none⟩,
    ⟨(some 6), .box 111 (.tmp 5), none⟩,
    ⟨(some 2), .move (.tmp 6), none⟩]) (.ret))⟩
def x67 : XFun := ⟨77, [],
  .seq (.region [
    ⟨(some 5), .box 28 (.tmp 1), none⟩]) (.seq (.region [
    ⟨(some 15), .build [(Go.Value.int Go.IntKind.i64 0), (Go.Value.slice none 0 0), (Go.Value.pointer none)] [(0, 1, (.const (Go.Value.int Go.IntKind.i64 1)))], none⟩,
    ⟨(some 16), .box 111 (.tmp 15), none⟩,
    ⟨(some 17), .build [(Go.Value.int Go.IntKind.i64 0), (Go.Value.slice none 0 0), (Go.Value.pointer none)] [(0, 1, (.const (Go.Value.int Go.IntKind.i64 2)))], none⟩,
    ⟨(some 18), .box 111 (.tmp 17), none⟩,
    ⟨(some 19), .call 40 [], none⟩,
    ⟨(some 8), .move (.tmp 16), none⟩,
    ⟨(some 9), .move (.tmp 18), none⟩,
    ⟨(some 10), .move (.tmp 19), none⟩]) (.seq (.region [
    ⟨(some 20), .move (.tmp 8), none⟩,
    ⟨(some 21), .move (.tmp 8), none⟩,
    ⟨(some 22), .move (.tmp 8), none⟩,
    ⟨(some 23), .buildSlice 81 1 [(Go.Value.pointer none)] 2 [(0, 1, (.tmp 21)), (1, 1, (.tmp 22))], none⟩,
    ⟨(some 11), .move (.tmp 20), none⟩,
    ⟨(some 12), .move (.tmp 23), none⟩]) (.seq (.seq (.region [
    ⟨(some 24), .addr 2 (.tmp 5), none⟩,
    ⟨(some 25), .load1 (.tmp 24), none⟩]) (.block 0 (.seq (.seq (.region [
    ⟨(some 27), .bin .eql (.tmp 25) (.const (Go.Value.string { data := #[43] })), none⟩,
    ⟨(some 26), .move (.tmp 27), none⟩]) (.cond (.tmp 26) (.skip) (.seq (.region [
    ⟨(some 28), .bin .eql (.tmp 25) (.const (Go.Value.string { data := #[45] })), none⟩,
    ⟨(some 26), .move (.tmp 28), none⟩]) (.cond (.tmp 26) (.skip) (.seq (.region [
    ⟨(some 29), .bin .eql (.tmp 25) (.const (Go.Value.string { data := #[42] })), none⟩,
    ⟨(some 26), .move (.tmp 29), none⟩]) (.cond (.tmp 26) (.skip) (.seq (.region [
    ⟨(some 30), .bin .eql (.tmp 25) (.const (Go.Value.string { data := #[47] })), none⟩,
    ⟨(some 26), .move (.tmp 30), none⟩]) (.cond (.tmp 26) (.skip) (.seq (.region [
    ⟨(some 31), .bin .eql (.tmp 25) (.const (Go.Value.string { data := #[37] })), none⟩,
    ⟨(some 26), .move (.tmp 31), none⟩]) (.cond (.tmp 26) (.skip) (.region [
    ⟨(some 32), .bin .eql (.tmp 25) (.const (Go.Value.string { data := #[110, 101, 103] })), none⟩,
    ⟨(some 26), .move (.tmp 32), none⟩]))))))))))) (.cond (.tmp 26) (.region [
    ⟨(some 33), .move (.tmp 9), none⟩,
    ⟨(some 34), .move (.tmp 9), none⟩,
    ⟨(some 35), .move (.tmp 9), none⟩,
    ⟨(some 36), .buildSlice 81 1 [(Go.Value.pointer none)] 2 [(0, 1, (.tmp 34)), (1, 1, (.tmp 35))], none⟩,
    ⟨(some 11), .move (.tmp 33), none⟩,
    ⟨(some 12), .move (.tmp 36), none⟩]) (.seq (.seq (.region [
    ⟨(some 38), .bin .eql (.tmp 25) (.const (Go.Value.string { data := #[60] })), none⟩,
    ⟨(some 37), .move (.tmp 38), none⟩]) (.cond (.tmp 37) (.skip) (.region [
    ⟨(some 39), .bin .eql (.tmp 25) (.const (Go.Value.string { data := #[60, 61] })), none⟩,
    ⟨(some 37), .move (.tmp 39), none⟩]))) (.cond (.tmp 37) (.region [
    ⟨(some 40), .move (.tmp 9), none⟩,
    ⟨(some 41), .move (.tmp 9), none⟩,
    ⟨(some 42), .buildSlice 81 1 [(Go.Value.pointer none)] 2 [(0, 1, (.tmp 40)), (1, 1, (.tmp 41))], none⟩,
    ⟨(some 12), .move (.tmp 42), none⟩]) (.seq (.region [
    ⟨(some 44), .bin .eql (.tmp 25) (.const (Go.Value.string { data := #[61, 61] })), none⟩,
    ⟨(some 43), .move (.tmp 44), none⟩]) (.cond (.tmp 43) (.region [
    ⟨(some 45), .move (.tmp 10), none⟩,
    ⟨(some 46), .move (.tmp 10), none⟩,
    ⟨(some 47), .buildSlice 81 1 [(Go.Value.pointer none)] 2 [(0, 1, (.tmp 45)), (1, 1, (.tmp 46))], none⟩,
    ⟨(some 12), .move (.tmp 47), none⟩]) (.seq (.region [
    ⟨(some 49), .bin .eql (.tmp 25) (.const (Go.Value.string { data := #[58, 58] })), none⟩,
    ⟨(some 48), .move (.tmp 49), none⟩]) (.cond (.tmp 48) (.region [
    ⟨(some 50), .move (.tmp 10), none⟩,
    ⟨(some 51), .call 66 [(.tmp 50)], none⟩,
    ⟨(some 52), .move (.tmp 10), none⟩,
    ⟨(some 53), .move (.tmp 10), none⟩,
    ⟨(some 54), .call 66 [(.tmp 53)], none⟩,
    ⟨(some 55), .buildSlice 81 1 [(Go.Value.pointer none)] 2 [(0, 1, (.tmp 52)), (1, 1, (.tmp 54))], none⟩,
    ⟨(some 11), .move (.tmp 51), none⟩,
    ⟨(some 12), .move (.tmp 55), none⟩]) (.skip))))))))))) (.seq (.region [
    ⟨(some 56), .loadN 8 (.tmp 5), none⟩,
    ⟨(some 57), .move (.tmp 11), none⟩,
    ⟨(some 58), .move (.tmp 3), none⟩,
    ⟨(some 59), .call 64 [(.tmp 56), (.tmp 57), (.tmp 58)], none⟩]) (.seq (.region [
    ⟨(some 60), .addr 5 (.tmp 5), none⟩,
    ⟨(some 61), .load1 (.tmp 60), none⟩,
    ⟨(some 62), .lenSlice (.tmp 61), none⟩,
    ⟨(some 63), .move (.const (Go.Value.int Go.IntKind.i64 0)), none⟩]) (.block 1 (.loop (.seq (.region [
    ⟨(some 64), .bin .lss (.tmp 63) (.tmp 62), none⟩]) (.seq (.cond (.tmp 64) (.skip) (.exit 1)) (.seq (.block 2 (.seq (.region [
    ⟨(some 65), .move (.tmp 63), none⟩,
    ⟨(some 66), .indexAddr 8 (.tmp 61) (.tmp 63), none⟩,
    ⟨(some 67), .loadN 8 (.tmp 66), none⟩,
    ⟨(some 14), .alloc 28 [(Go.Value.int Go.IntKind.i64 0), (Go.Value.int Go.IntKind.i64 0), (Go.Value.string { data := #[] }), (Go.Value.slice none 0 0), (Go.Value.slice none 0 0), (Go.Value.slice none 0 0), (Go.Value.int Go.IntKind.i64 0), (Go.Value.int Go.IntKind.i64 0)], none⟩,
    ⟨(some 13), .move (.tmp 65), none⟩,
    ⟨none, .store 8 (.tmp 14) (.tmp 67), none⟩]) (.regionD [
    ⟨(some 68), .move (.tmp 0), none⟩,
    ⟨(some 69), .loadN 8 (.tmp 14), none⟩,
    ⟨(some 70), .move (.tmp 2), none⟩,
    ⟨(some 71), .move (.tmp 12), none⟩,
    ⟨(some 72), .move (.tmp 13), none⟩,
    ⟨(some 73), .indexAddr 1 (.tmp 71) (.tmp 72), none⟩,
    ⟨(some 74), .load1 (.tmp 73), none⟩,
    ⟨(some 75), .call 38 [(.tmp 68), (.tmp 69), (.tmp 70), (.tmp 74)], none⟩] []))) (.region [
    ⟨(some 76), .bin .add (.tmp 63) (.const (Go.Value.int Go.IntKind.i64 1)), none⟩,
    ⟨(some 63), .move (.tmp 76), none⟩])))))))))))⟩
def x68 : XFun := ⟨34, [],
  .seq (.region [
    ⟨(some 1), .box 28 (.tmp 0), none⟩]) (.seq (.region [
    ⟨(some 6), .addr 3 (.tmp 1), none⟩,
    ⟨(some 7), .load1 (.tmp 6), none⟩,
    ⟨(some 8), .lenSlice (.tmp 7), none⟩,
    ⟨(some 9), .move (.const (Go.Value.int Go.IntKind.i64 0)), none⟩]) (.block 0 (.loop (.seq (.region [
    ⟨(some 10), .bin .lss (.tmp 9) (.tmp 8), none⟩]) (.seq (.cond (.tmp 10) (.skip) (.exit 0)) (.seq (.block 1 (.seq (.region [
    ⟨(some 11), .move (.tmp 9), none⟩,
    ⟨(some 12), .indexAddr 1 (.tmp 7) (.tmp 9), none⟩,
    ⟨(some 13), .load1 (.tmp 12), none⟩,
    ⟨(some 2), .move (.tmp 11), none⟩,
    ⟨(some 3), .move (.tmp 13), none⟩]) (.seq (.region [
    ⟨(some 14), .addr 3 (.tmp 1), none⟩,
    ⟨(some 15), .load1 (.tmp 14), none⟩,
    ⟨(some 16), .move (.tmp 2), none⟩,
    ⟨(some 17), .slice 1 (.tmp 15) none (some (.tmp 16)) none, none⟩,
    ⟨(some 18), .lenSlice (.tmp 17), none⟩,
    ⟨(some 19), .move (.const (Go.Value.int Go.IntKind.i64 0)), none⟩]) (.block 2 (.loop (.seq (.region [
    ⟨(some 20), .bin .lss (.tmp 19) (.tmp 18), none⟩]) (.seq (.cond (.tmp 20) (.skip) (.exit 2)) (.seq (.block 3 (.seq (.region [
    ⟨(some 21), .indexAddr 1 (.tmp 17) (.tmp 19), none⟩,
    ⟨(some 22), .load1 (.tmp 21), none⟩,
    ⟨(some 5), .move (.tmp 22), none⟩]) (.seq (.region [
    ⟨(some 23), .move (.tmp 3), none⟩,
    ⟨(some 24), .move (.tmp 5), none⟩,
    ⟨(some 25), .bin .eql (.tmp 23) (.tmp 24), none⟩]) (.cond (.tmp 25) (.region [
    ⟨(some 26), .move (.tmp 3), none⟩,
    ⟨(some 27), .addr 6 (.tmp 1), none⟩,
    ⟨(some 28), .load1 (.tmp 27), none⟩,
    ⟨(some 29), .addr 7 (.tmp 1), none⟩,
    ⟨(some 30), .load1 (.tmp 29), none⟩,
    ⟨(some 31), .call 34 [(.const (Go.Value.int Go.IntKind.i64 13)), (.tmp 26), (.tmp 28), (.tmp 30)], none⟩]) (.skip))))) (.region [
    ⟨(some 32), .bin .add (.tmp 19) (.const (Go.Value.int Go.IntKind.i64 1)), none⟩,
    ⟨(some 19), .move (.tmp 32), none⟩]))))))))) (.region [
    ⟨(some 33), .bin .add (.tmp 9) (.const (Go.Value.int Go.IntKind.i64 1)), none⟩,
    ⟨(some 9), .move (.tmp 33), none⟩])))))))⟩
def x69 : XFun := ⟨10, [.tmp 4],
  .seq (.region [
    ⟨(some 4), .move (.const (Go.Value.slice none 0 0)), none⟩]) (.seq (.region [
    ⟨(some 5), .buildSlice 107 2 [(Go.Value.string { data := #[] }), (Go.Value.pointer none)] 0 [], none⟩,
    ⟨(some 6), .move (.tmp 0), none⟩,
    ⟨(some 7), .append 107 2 24 (.tmp 5) (.tmp 6), none⟩,
    ⟨(some 8), .move (.tmp 1), none⟩,
    ⟨(some 9), .append 107 2 24 (.tmp 7) (.tmp 8), none⟩,
    ⟨(some 4), .move (.tmp 9), none⟩]) (.ret))⟩
def x70 : XFun := ⟨31, [.tmp 2],
  .seq (.region [
    ⟨(some 2), .move (.const (Go.Value.pointer none)), none⟩]) (.seq (.block 0 (.loop (.seq (.seq (.region [
    ⟨(some 3), .move (.tmp 0), none⟩,
    ⟨(some 4), .nilCheck (.tmp 3), none⟩,
    ⟨(some 5), .addr 2 (.tmp 4), none⟩,
    ⟨(some 6), .load1 (.tmp 5), none⟩,
    ⟨(some 7), .eq .ptr true (.tmp 6) (.const (Go.Value.pointer none)), none⟩]) (.cond (.tmp 7) (.skip) (.exit 0))) (.block 1 (.seq (.seq (.region [
    ⟨(some 8), .move (.tmp 0), none⟩,
    ⟨(some 9), .nilCheck (.tmp 8), none⟩,
    ⟨(some 10), .addr 2 (.tmp 9), none⟩,
    ⟨(some 11), .load1 (.tmp 10), none⟩,
    ⟨(some 12), .nilCheck (.tmp 11), none⟩,
    ⟨(some 13), .addr 2 (.tmp 12), none⟩,
    ⟨(some 14), .load1 (.tmp 13), none⟩,
    ⟨(some 15), .eq .ptr true (.tmp 14) (.const (Go.Value.pointer none)), none⟩]) (.cond (.tmp 15) (.region [
    ⟨(some 16), .move (.tmp 0), none⟩,
    ⟨(some 17), .move (.tmp 0), none⟩,
    ⟨(some 18), .nilCheck (.tmp 17), none⟩,
    ⟨(some 19), .addr 2 (.tmp 18), none⟩,
    ⟨(some 20), .load1 (.tmp 19), none⟩,
    ⟨(some 21), .nilCheck (.tmp 20), none⟩,
    ⟨(some 22), .addr 2 (.tmp 21), none⟩,
    ⟨(some 23), .load1 (.tmp 22), none⟩,
    ⟨(some 24), .nilCheck (.tmp 16), none⟩,
    ⟨(some 25), .addr 2 (.tmp 24), none⟩,
    ⟨none, .store 1 (.tmp 25) (.tmp 23), none⟩]) (.skip))) (.region [
    ⟨(some 26), .move (.tmp 0), none⟩,
    ⟨(some 27), .nilCheck (.tmp 26), none⟩,
    ⟨(some 28), .addr 2 (.tmp 27), none⟩,
    ⟨(some 29), .load1 (.tmp 28), none⟩,
    ⟨(some 0), .move (.tmp 29), none⟩])))))) (.seq (.region [
    ⟨(some 30), .move (.tmp 0), none⟩,
    ⟨(some 2), .move (.tmp 30), none⟩]) (.ret)))⟩
def x71 : XFun := ⟨100, [.cellN 2 5, .tmp 3],
  .seq (.region [
    ⟨(some 2), .alloc 98 [(Go.Value.int Go.IntKind.i64 0), (Go.Value.string { data := #[] }), (Go.Value.int Go.IntKind.i64 0), (Go.Value.int Go.IntKind.i64 0), (Go.Value.int Go.IntKind.i64 0)], none⟩,
    ⟨(some 3), .move (.const (Go.Value.int Go.IntKind.i64 0)), none⟩]) (.seq (.region [
    ⟨(some 4), .move (.const (Go.Value.int Go.IntKind.i64 0)), none⟩]) (.seq (.block 0 (.seq (.region [
    ⟨(some 8), .move (.tmp 0), none⟩,
    ⟨(some 9), .indexStr (.tmp 8) (.const (Go.Value.int Go.IntKind.i64 0)), none⟩,
    ⟨(some 10), .call 86 [(.tmp 9)], none⟩,
    ⟨(some 7), .move (.tmp 10), none⟩]) (.cond (.tmp 7) (.seq (.block 1 (.loop (.seq (.seq (.region [
    ⟨(some 11), .move (.tmp 4), none⟩,
    ⟨(some 12), .move (.tmp 0), none⟩,
    ⟨(some 13), .lenStr (.tmp 12), none⟩,
    ⟨(some 14), .bin .lss (.tmp 11) (.tmp 13), none⟩,
    ⟨(some 15), .move (.tmp 14), none⟩,
    ⟨(some 16), .move (.tmp 0), (some (15, true))⟩,
    ⟨(some 17), .move (.tmp 4), (some (15, true))⟩,
    ⟨(some 18), .indexStr (.tmp 16) (.tmp 17), (some (15, true))⟩,
    ⟨(some 19), .call 86 [(.tmp 18)], (some (15, true))⟩,
    ⟨(some 20), .move (.tmp 19), (some (15, true))⟩,
    ⟨(some 21), .move (.tmp 0), (some (20, false))⟩,
    ⟨(some 22), .move (.tmp 4), (some (20, false))⟩,
    ⟨(some 23), .indexStr (.tmp 21) (.tmp 22), (some (20, false))⟩,
    ⟨(some 24), .call 87 [(.tmp 23)], (some (20, false))⟩,
    ⟨(some 25), .pick (.tmp 20) (.const (Go.Value.bool true)) (.tmp 24), (some (15, true))⟩,
    ⟨(some 26), .move (.tmp 25), (some (15, true))⟩,
    ⟨(some 27), .move (.tmp 0), (some (26, false))⟩,
    ⟨(some 28), .move (.tmp 4), (some (26, false))⟩,
    ⟨(some 29), .indexStr (.tmp 27) (.tmp 28), (some (26, false))⟩,
    ⟨(some 30), .bin .eql (.tmp 29) (.const (Go.Value.int Go.IntKind.u8 95)), (some (26, false))⟩,
    ⟨(some 31), .pick (.tmp 26) (.const (Go.Value.bool true)) (.tmp 30), (some (15, true))⟩,
    ⟨(some 32), .pick (.tmp 15) (.tmp 31) (.const (Go.Value.bool false)), none⟩]) (.cond (.tmp 32) (.skip) (.exit 1))) (.block 2 (.region [
    ⟨(some 33), .move (.tmp 4), none⟩,
    ⟨(some 34), .bin .add (.tmp 33) (.const (Go.Value.int Go.IntKind.i64 1)), none⟩,
    ⟨(some 4), .move (.tmp 34), none⟩]))))) (.seq (.seq (.region [
    ⟨(some 35), .move (.tmp 4), none⟩,
    ⟨(some 36), .bin .gtr (.tmp 35) (.const (Go.Value.int Go.IntKind.i64 24)), none⟩]) (.cond (.tmp 36) (.seq (.region [
    ⟨(some 37), .move (.tmp 0), none⟩,
    ⟨(some 38), .move (.tmp 4), none⟩,
    ⟨(some 39), .sliceStr (.tmp 37) none (some (.tmp 38)), none⟩,
    ⟨(some 40), .build [(Go.Value.int Go.IntKind.i64 0), (Go.Value.string { data := #[] }), (Go.Value.int Go.IntKind.i64 0), (Go.Value.int Go.IntKind.i64 0), (Go.Value.int Go.IntKind.i64 0)] [(1, 1, (.tmp 39))], none⟩,
    ⟨none, .store 5 (.tmp 2) (.tmp 40), none⟩,
    ⟨(some 3), .move (.const (Go.Value.int Go.IntKind.i64 2)), none⟩]) (.ret)) (.skip))) (.seq (.seq (.region [
    ⟨(some 41), .move (.tmp 0), none⟩,
    ⟨(some 42), .move (.tmp 4), none⟩,
    ⟨(some 43), .sliceStr (.tmp 41) none (some (.tmp 42)), none⟩,
    ⟨(some 44), .bin .add (.const (Go.Value.string { data := #[32] })) (.tmp 43), none⟩,
    ⟨(some 45), .bin .add (.tmp 44) (.const (Go.Value.string { data := #[32] })), none⟩,
    ⟨(some 46), .call 88 [(.const (Go.Value.string { data := #[32, 97, 110, 100, 32, 98, 111, 111, 108, 32, 99, 97, 115, 101, 32, 101, 108, 115, 101, 32, 102, 97, 108, 115, 101, 32, 102, 108, 105, 112, 32, 102, 117, 110, 32, 105, 102, 32, 105, 110, 32, 105, 110, 112, 117, 116, 32, 105, 110, 116, 32, 108, 101, 116, 32, 110, 111, 116, 32, 111, 98, 115, 101, 114, 118, 101, 32, 111, 102, 32, 111, 114, 32, 112, 105, 99, 107, 32, 114, 97, 110, 103, 101, 32, 115, 99, 111, 114, 101, 32, 116, 104, 101, 110, 32, 116, 114, 117, 101, 32] })), (.tmp 45)], none⟩]) (.cond (.tmp 46) (.seq (.region [
    ⟨(some 47), .move (.tmp 0), none⟩,
    ⟨(some 48), .move (.tmp 4), none⟩,
    ⟨(some 49), .sliceStr (.tmp 47) none (some (.tmp 48)), none⟩,
    ⟨(some 50), .build [(Go.Value.int Go.IntKind.i64 0), (Go.Value.string { data := #[] }), (Go.Value.int Go.IntKind.i64 0), (Go.Value.int Go.IntKind.i64 0), (Go.Value.int Go.IntKind.i64 0)] [(0, 1, (.const (Go.Value.int Go.IntKind.i64 2))), (1, 1, (.tmp 49))], none⟩,
    ⟨none, .store 5 (.tmp 2) (.tmp 50), none⟩,
    ⟨(some 3), .move (.const (Go.Value.int Go.IntKind.i64 0)), none⟩]) (.ret)) (.skip))) (.seq (.region [
    ⟨(some 51), .move (.tmp 0), none⟩,
    ⟨(some 52), .move (.tmp 4), none⟩,
    ⟨(some 53), .sliceStr (.tmp 51) none (some (.tmp 52)), none⟩,
    ⟨(some 54), .build [(Go.Value.int Go.IntKind.i64 0), (Go.Value.string { data := #[] }), (Go.Value.int Go.IntKind.i64 0), (Go.Value.int Go.IntKind.i64 0), (Go.Value.int Go.IntKind.i64 0)] [(0, 1, (.const (Go.Value.int Go.IntKind.i64 1))), (1, 1, (.tmp 53))], none⟩,
    ⟨none, .store 5 (.tmp 2) (.tmp 54), none⟩,
    ⟨(some 3), .move (.const (Go.Value.int Go.IntKind.i64 0)), none⟩]) (.ret))))) (.seq (.region [
    ⟨(some 56), .move (.tmp 0), none⟩,
    ⟨(some 57), .indexStr (.tmp 56) (.const (Go.Value.int Go.IntKind.i64 0)), none⟩,
    ⟨(some 58), .call 87 [(.tmp 57)], none⟩,
    ⟨(some 55), .move (.tmp 58), none⟩]) (.cond (.tmp 55) (.seq (.region [
    ⟨(some 5), .move (.const (Go.Value.int Go.IntKind.i64 0)), none⟩]) (.seq (.block 3 (.loop (.seq (.seq (.region [
    ⟨(some 59), .move (.tmp 4), none⟩,
    ⟨(some 60), .move (.tmp 0), none⟩,
    ⟨(some 61), .lenStr (.tmp 60), none⟩,
    ⟨(some 62), .bin .lss (.tmp 59) (.tmp 61), none⟩,
    ⟨(some 63), .move (.tmp 62), none⟩,
    ⟨(some 64), .move (.tmp 0), (some (63, true))⟩,
    ⟨(some 65), .move (.tmp 4), (some (63, true))⟩,
    ⟨(some 66), .indexStr (.tmp 64) (.tmp 65), (some (63, true))⟩,
    ⟨(some 67), .call 87 [(.tmp 66)], (some (63, true))⟩,
    ⟨(some 68), .pick (.tmp 63) (.tmp 67) (.const (Go.Value.bool false)), none⟩]) (.cond (.tmp 68) (.skip) (.exit 3))) (.seq (.block 4 (.region [
    ⟨(some 71), .move (.tmp 5), none⟩,
    ⟨(some 72), .bin .mul (.tmp 71) (.const (Go.Value.int Go.IntKind.i64 10)), none⟩,
    ⟨(some 73), .move (.tmp 0), none⟩,
    ⟨(some 74), .move (.tmp 4), none⟩,
    ⟨(some 75), .indexStr (.tmp 73) (.tmp 74), none⟩,
    ⟨(some 76), .bin .sub (.tmp 75) (.const (Go.Value.int Go.IntKind.u8 48)), none⟩,
    ⟨(some 77), .toInt .i64 (.tmp 76), none⟩,
    ⟨(some 78), .bin .add (.tmp 72) (.tmp 77), none⟩,
    ⟨(some 79), .minI [(.tmp 78), (.const (Go.Value.int Go.IntKind.i64 2147483648))], none⟩,
    ⟨(some 5), .move (.tmp 79), none⟩])) (.region [
    ⟨(some 69), .move (.tmp 4), none⟩,
    ⟨(some 70), .bin .add (.tmp 69) (.const (Go.Value.int Go.IntKind.i64 1)), none⟩,
    ⟨(some 4), .move (.tmp 70), none⟩]))))) (.seq (.seq (.region [
    ⟨(some 80), .move (.tmp 5), none⟩,
    ⟨(some 81), .bin .gtr (.tmp 80) (.const (Go.Value.int Go.IntKind.i64 2147483647)), none⟩]) (.cond (.tmp 81) (.seq (.region [
    ⟨(some 82), .move (.tmp 0), none⟩,
    ⟨(some 83), .move (.tmp 4), none⟩,
    ⟨(some 84), .sliceStr (.tmp 82) none (some (.tmp 83)), none⟩,
    ⟨(some 85), .build [(Go.Value.int Go.IntKind.i64 0), (Go.Value.string { data := #[] }), (Go.Value.int Go.IntKind.i64 0), (Go.Value.int Go.IntKind.i64 0), (Go.Value.int Go.IntKind.i64 0)] [(1, 1, (.tmp 84))], none⟩,
    ⟨none, .store 5 (.tmp 2) (.tmp 85), none⟩,
    ⟨(some 3), .move (.const (Go.Value.int Go.IntKind.i64 2)), none⟩]) (.ret)) (.skip))) (.seq (.region [
    ⟨(some 86), .move (.tmp 0), none⟩,
    ⟨(some 87), .move (.tmp 4), none⟩,
    ⟨(some 88), .sliceStr (.tmp 86) none (some (.tmp 87)), none⟩,
    ⟨(some 89), .move (.tmp 5), none⟩,
    ⟨(some 90), .build [(Go.Value.int Go.IntKind.i64 0), (Go.Value.string { data := #[] }), (Go.Value.int Go.IntKind.i64 0), (Go.Value.int Go.IntKind.i64 0), (Go.Value.int Go.IntKind.i64 0)] [(0, 1, (.const (Go.Value.int Go.IntKind.i64 3))), (1, 1, (.tmp 88)), (2, 1, (.tmp 89))], none⟩,
    ⟨none, .store 5 (.tmp 2) (.tmp 90), none⟩,
    ⟨(some 3), .move (.const (Go.Value.int Go.IntKind.i64 0)), none⟩]) (.ret))))) (.skip)))))) (.seq (.seq (.region [
    ⟨(some 91), .move (.tmp 0), none⟩,
    ⟨(some 92), .call 89 [(.tmp 91)], none⟩,
    ⟨(some 6), .move (.tmp 92), none⟩]) (.seq (.region [
    ⟨(some 93), .move (.tmp 6), none⟩,
    ⟨(some 94), .bin .neq (.tmp 93) (.const (Go.Value.string { data := #[] })), none⟩]) (.cond (.tmp 94) (.seq (.region [
    ⟨(some 95), .move (.tmp 6), none⟩,
    ⟨(some 96), .build [(Go.Value.int Go.IntKind.i64 0), (Go.Value.string { data := #[] }), (Go.Value.int Go.IntKind.i64 0), (Go.Value.int Go.IntKind.i64 0), (Go.Value.int Go.IntKind.i64 0)] [(0, 1, (.const (Go.Value.int Go.IntKind.i64 4))), (1, 1, (.tmp 95))], none⟩,
    ⟨none, .store 5 (.tmp 2) (.tmp 96), none⟩,
    ⟨(some 3), .move (.const (Go.Value.int Go.IntKind.i64 0)), none⟩]) (.ret)) (.skip)))) (.seq (.region [
    ⟨(some 97), .move (.tmp 0), none⟩,
    ⟨(some 98), .sliceStr (.tmp 97) none (some (.const (Go.Value.int Go.IntKind.i64 1))), none⟩,
    ⟨(some 99), .build [(Go.Value.int Go.IntKind.i64 0), (Go.Value.string { data := #[] }), (Go.Value.int Go.IntKind.i64 0), (Go.Value.int Go.IntKind.i64 0), (Go.Value.int Go.IntKind.i64 0)] [(1, 1, (.tmp 98))], none⟩,
    ⟨none, .store 5 (.tmp 2) (.tmp 99), none⟩,
    ⟨(some 3), .move (.const (Go.Value.int Go.IntKind.i64 10)), none⟩]) (.ret)))))⟩
end Go.Xe.Ytjdiibhkdanbiaa
end
