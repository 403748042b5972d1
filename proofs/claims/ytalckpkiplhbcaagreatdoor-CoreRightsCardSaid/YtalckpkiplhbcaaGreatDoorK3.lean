/-
  A part of the proof: it is imported by YtalckpkiplhbcaaGreatDoorTop. Nothing here is a claim of its own.
-/
import Derived.Test.YtalckpkiplhbcaaGreatDoorK2
import Derived.Test.YtalckpkiplhbcaaGreatDoorChecked
import Derived.KernelRfl
import Derived.Deep.Slices
import Derived.ChangeArms
import Derived.DataReads
section
namespace Go.Xe.YtalckpkiplhbcaaGreatDoor
open Go Go.Xe
def x95 : XFun := ⟨9, [.tmp 4], .seq (.region [⟨some 4, .move (.const (.bool false)), none⟩]) (.seq (.region [⟨some 5, .move (.tmp 0), none⟩, ⟨some 6, .move (.tmp 1), none⟩, ⟨some 7, .call 149 [(.tmp 5), (.tmp 6)], none⟩, ⟨some 8, .bin .geq (.tmp 7) (.const (.int .i64 0)), none⟩, ⟨some 4, .move (.tmp 8), none⟩]) (.ret))⟩
def x96 : XFun := ⟨9, [.tmp 3], .seq (.region [⟨some 2, .box 65 (.tmp 0), none⟩, ⟨some 3, .move (.const (.bool false)), none⟩]) (.seq (.region [⟨some 4, .loadN 2 (.tmp 2), none⟩, ⟨some 5, .load1 (.tmp 1), none⟩, ⟨some 6, .bin .sub (.tmp 5) (.const (.int .i64 1)), none⟩, ⟨some 7, .call 56 [(.tmp 4), (.tmp 6)], none⟩, ⟨some 8, .un .not (.tmp 7), none⟩, ⟨some 3, .move (.tmp 8), none⟩]) (.ret))⟩
def x97 : XFun := ⟨79, [.tmp 4], .seq (.region [⟨some 3, .box 30 (.tmp 1), none⟩, ⟨some 4, .move (.const (.int .i64 0)), none⟩]) (.seq (.seq (.region [⟨some 5, .addr 0 (.tmp 3), none⟩, ⟨some 6, .load1 (.tmp 5), none⟩]) (.block 0 (.seq (.seq (.region [⟨some 8, .bin .eql (.tmp 6) (.const (.int .i64 1)), none⟩, ⟨some 7, .move (.tmp 8), none⟩]) (.cond (.tmp 7) (.skip) (.region [⟨some 9, .bin .eql (.tmp 6) (.const (.int .i64 2)), none⟩, ⟨some 7, .move (.tmp 9), none⟩]))) (.cond (.tmp 7) (.seq (.region [⟨some 4, .move (.const (.int .i64 0)), none⟩]) (.ret)) (.seq (.region [⟨some 11, .bin .eql (.tmp 6) (.const (.int .i64 3)), none⟩, ⟨some 10, .move (.tmp 11), none⟩]) (.cond (.tmp 10) (.seq (.seq (.regionD [⟨some 12, .addr 1 (.tmp 3), none⟩, ⟨some 13, .load1 (.tmp 12), none⟩, ⟨some 14, .bin .lss (.tmp 13) (.const (.int .i64 0)), none⟩, ⟨some 15, .move (.tmp 14), none⟩, ⟨some 16, .addr 1 (.tmp 3), (some (15, false))⟩, ⟨some 17, .load1 (.tmp 16), (some (15, false))⟩, ⟨some 18, .move (.tmp 0), (some (15, false))⟩, ⟨some 19, .nilCheck (.tmp 18), (some (15, false))⟩, ⟨some 20, .addr 0 (.tmp 19), (some (15, false))⟩, ⟨some 21, .addr 1 (.tmp 20), (some (15, false))⟩, ⟨some 22, .load1 (.tmp 21), (some (15, false))⟩, ⟨some 23, .lenSlice (.tmp 22), (some (15, false))⟩, ⟨some 24, .bin .geq (.tmp 17) (.tmp 23), (some (15, false))⟩, ⟨some 25, .pick (.tmp 15) (.const (.bool true)) (.tmp 24), none⟩] []) (.cond (.tmp 25) (.seq (.region [⟨some 4, .move (.const (.int .i64 (-2))), none⟩]) (.ret)) (.skip))) (.seq (.regionD [⟨some 26, .move (.tmp 0), none⟩, ⟨some 27, .nilCheck (.tmp 26), none⟩, ⟨some 28, .addr 0 (.tmp 27), none⟩, ⟨some 29, .addr 1 (.tmp 28), none⟩, ⟨some 30, .load1 (.tmp 29), none⟩, ⟨some 31, .addr 1 (.tmp 3), none⟩, ⟨some 32, .load1 (.tmp 31), none⟩, ⟨some 33, .indexAddr 10 (.tmp 30) (.tmp 32), none⟩, ⟨some 34, .addr 0 (.tmp 33), none⟩, ⟨some 35, .load1 (.tmp 34), none⟩, ⟨some 4, .move (.tmp 35), none⟩] []) (.ret))) (.seq (.region [⟨some 37, .bin .eql (.tmp 6) (.const (.int .i64 4)), none⟩, ⟨some 36, .move (.tmp 37), none⟩]) (.cond (.tmp 36) (.seq (.region [⟨some 38, .addr 7 (.tmp 3), none⟩, ⟨some 39, .load1 (.tmp 38), none⟩, ⟨some 40, .lenSlice (.tmp 39), none⟩, ⟨some 41, .maxI [(.tmp 40), (.const (.int .i64 2))], none⟩, ⟨some 42, .minI [(.tmp 41), (.const (.int .i64 4))], none⟩, ⟨some 4, .move (.tmp 42), none⟩]) (.ret)) (.seq (.region [⟨some 44, .bin .eql (.tmp 6) (.const (.int .i64 5)), none⟩, ⟨some 43, .move (.tmp 44), none⟩]) (.cond (.tmp 43) (.seq (.region [⟨some 45, .addr 7 (.tmp 3), none⟩, ⟨some 46, .load1 (.tmp 45), none⟩, ⟨some 47, .lenSlice (.tmp 46), none⟩, ⟨some 48, .minI [(.tmp 47), (.const (.int .i64 32))], none⟩, ⟨some 4, .move (.tmp 48), none⟩]) (.ret)) (.seq (.region [⟨some 50, .bin .eql (.tmp 6) (.const (.int .i64 6)), none⟩, ⟨some 49, .move (.tmp 50), none⟩]) (.cond (.tmp 49) (.seq (.block 1 (.seq (.region [⟨some 52, .addr 1 (.tmp 3), none⟩, ⟨some 53, .load1 (.tmp 52), none⟩, ⟨some 54, .bin .lss (.tmp 53) (.const (.int .i64 1)), none⟩, ⟨some 55, .move (.tmp 54), none⟩, ⟨some 56, .addr 1 (.tmp 3), (some (55, false))⟩, ⟨some 57, .load1 (.tmp 56), (some (55, false))⟩, ⟨some 58, .bin .gtr (.tmp 57) (.const (.int .i64 13)), (some (55, false))⟩, ⟨some 59, .pick (.tmp 55) (.const (.bool true)) (.tmp 58), none⟩, ⟨some 51, .move (.tmp 59), none⟩]) (.cond (.tmp 51) (.seq (.region [⟨some 4, .move (.const (.int .i64 (-2))), none⟩]) (.ret)) (.seq (.region [⟨some 61, .addr 1 (.tmp 3), none⟩, ⟨some 62, .load1 (.tmp 61), none⟩, ⟨some 63, .bin .geq (.tmp 62) (.const (.int .i64 12)), none⟩, ⟨some 60, .move (.tmp 63), none⟩]) (.cond (.tmp 60) (.seq (.region [⟨some 4, .move (.const (.int .i64 1)), none⟩]) (.ret)) (.skip)))))) (.seq (.region [⟨some 4, .move (.const (.int .i64 2)), none⟩]) (.ret))) (.seq (.seq (.region [⟨some 65, .bin .eql (.tmp 6) (.const (.int .i64 7)), none⟩, ⟨some 64, .move (.tmp 65), none⟩]) (.cond (.tmp 64) (.skip) (.region [⟨some 66, .bin .eql (.tmp 6) (.const (.int .i64 10)), none⟩, ⟨some 64, .move (.tmp 66), none⟩]))) (.cond (.tmp 64) (.seq (.region [⟨some 4, .move (.const (.int .i64 2)), none⟩]) (.ret)) (.seq (.seq (.region [⟨some 68, .bin .eql (.tmp 6) (.const (.int .i64 8)), none⟩, ⟨some 67, .move (.tmp 68), none⟩]) (.cond (.tmp 67) (.skip) (.region [⟨some 69, .bin .eql (.tmp 6) (.const (.int .i64 9)), none⟩, ⟨some 67, .move (.tmp 69), none⟩]))) (.cond (.tmp 67) (.seq (.region [⟨some 4, .move (.const (.int .i64 3)), none⟩]) (.ret)) (.seq (.region [⟨some 71, .bin .eql (.tmp 6) (.const (.int .i64 11)), none⟩, ⟨some 70, .move (.tmp 71), none⟩]) (.cond (.tmp 70) (.seq (.region [⟨some 4, .move (.const (.int .i64 1)), none⟩]) (.ret)) (.seq (.region [⟨some 73, .bin .eql (.tmp 6) (.const (.int .i64 12)), none⟩, ⟨some 72, .move (.tmp 73), none⟩]) (.cond (.tmp 72) (.seq (.region [⟨some 74, .addr 6 (.tmp 3), none⟩, ⟨some 75, .load1 (.tmp 74), none⟩, ⟨some 76, .lenSlice (.tmp 75), none⟩, ⟨some 77, .maxI [(.tmp 76), (.const (.int .i64 1))], none⟩, ⟨some 78, .minI [(.tmp 77), (.const (.int .i64 64))], none⟩, ⟨some 4, .move (.tmp 78), none⟩]) (.ret)) (.skip))))))))))))))))))))) (.seq (.region [⟨some 4, .move (.const (.int .i64 (-2))), none⟩]) (.ret)))⟩
def x98 : XFun := ⟨21, [.tmp 2], .seq (.region [⟨some 1, .box 26 (.tmp 0), none⟩, ⟨some 2, .move (.const (.bool false)), none⟩]) (.seq (.region [⟨some 6, .loadN 3 (.tmp 1), none⟩, ⟨some 7, .call 150 [(.tmp 6), (.const (.int .i64 40))], none⟩, ⟨some 5, .move (.tmp 7), none⟩, ⟨some 8, .extract (.tmp 5) 0, none⟩, ⟨some 9, .extract (.tmp 5) 1, none⟩, ⟨some 3, .alloc 65 [(.int .i64 0), (.slice none 0 0)], none⟩, ⟨none, .store 2 (.tmp 3) (.tmp 8), none⟩, ⟨some 4, .move (.tmp 9), none⟩]) (.seq (.region [⟨some 10, .move (.tmp 4), none⟩, ⟨some 11, .move (.tmp 10), none⟩, ⟨some 12, .loadN 2 (.tmp 3), (some (11, true))⟩, ⟨some 13, .call 151 [(.tmp 12)], (some (11, true))⟩, ⟨some 14, .call 28 [(.tmp 13)], (some (11, true))⟩, ⟨some 15, .pick (.tmp 11) (.tmp 14) (.const (.bool false)), none⟩, ⟨some 16, .move (.tmp 15), none⟩, ⟨some 17, .loadN 3 (.tmp 1), (some (16, true))⟩, ⟨some 18, .call 61 [(.tmp 17)], (some (16, true))⟩, ⟨some 19, .bin .leq (.tmp 18) (.const (.int .i64 1000)), (some (16, true))⟩, ⟨some 20, .pick (.tmp 16) (.tmp 19) (.const (.bool false)), none⟩, ⟨some 2, .move (.tmp 20), none⟩]) (.ret)))⟩
def x99 : XFun := ⟨9, [.tmp 4], .seq (.region [⟨some 4, .move (.const (.bool false)), none⟩]) (.seq (.region [⟨some 5, .move (.tmp 0), none⟩, ⟨some 6, .move (.tmp 1), none⟩, ⟨some 7, .call 152 [(.tmp 5), (.tmp 6)], none⟩, ⟨some 8, .bin .geq (.tmp 7) (.const (.int .i64 0)), none⟩, ⟨some 4, .move (.tmp 8), none⟩]) (.ret))⟩
def x100 : XFun := ⟨9, [.tmp 2], .seq (.region [⟨some 2, .move (.const (.bool false)), none⟩]) (.seq (.region [⟨some 3, .move (.tmp 0), none⟩, ⟨some 4, .bin .lss (.tmp 3) (.const (.int .i64 1)), none⟩, ⟨some 5, .move (.tmp 4), none⟩, ⟨some 6, .move (.tmp 0), (some (5, false))⟩, ⟨some 7, .bin .gtr (.tmp 6) (.const (.int .i64 1000)), (some (5, false))⟩, ⟨some 8, .pick (.tmp 5) (.const (.bool true)) (.tmp 7), none⟩, ⟨some 2, .move (.tmp 8), none⟩]) (.ret))⟩
def x101 : XFun := ⟨8, [.tmp 2], .seq (.region [⟨some 2, .move (.const (.slice none 0 0)), none⟩]) (.seq (.seq (.region [⟨some 3, .move (.tmp 0), none⟩, ⟨some 4, .eq .sliceNil false (.tmp 3) (.const (.slice none 0 0)), none⟩]) (.cond (.tmp 4) (.seq (.region [⟨some 2, .move (.const (.slice none 0 0)), none⟩]) (.ret)) (.skip))) (.seq (.region [⟨some 5, .buildSlice 4 1 [(.bool false)] 0 [], none⟩, ⟨some 6, .move (.tmp 0), none⟩, ⟨some 7, .append 4 1 1 (.tmp 5) (.tmp 6), none⟩, ⟨some 2, .move (.tmp 7), none⟩]) (.ret)))⟩
def x102 : XFun := ⟨197, [.tmp 4], .seq (.region [⟨some 3, .box 30 (.tmp 1), none⟩, ⟨some 4, .move (.const (.bool false)), none⟩]) (.seq (.region [⟨some 6, .addr 7 (.tmp 3), none⟩, ⟨some 7, .load1 (.tmp 6), none⟩, ⟨some 8, .lenSlice (.tmp 7), none⟩, ⟨some 5, .move (.tmp 8), none⟩]) (.seq (.seq (.region [⟨some 9, .addr 0 (.tmp 3), none⟩, ⟨some 10, .load1 (.tmp 9), none⟩]) (.block 0 (.seq (.region [⟨some 12, .bin .eql (.tmp 10) (.const (.int .i64 1)), none⟩, ⟨some 11, .move (.tmp 12), none⟩]) (.cond (.tmp 11) (.seq (.region [⟨some 13, .move (.tmp 5), none⟩, ⟨some 14, .bin .eql (.tmp 13) (.const (.int .i64 0)), none⟩, ⟨some 15, .move (.tmp 14), none⟩, ⟨some 16, .addr 3 (.tmp 3), (some (15, true))⟩, ⟨some 17, .loadN 3 (.tmp 16), (some (15, true))⟩, ⟨some 18, .call 153 [(.tmp 17)], (some (15, true))⟩, ⟨some 19, .pick (.tmp 15) (.tmp 18) (.const (.bool false)), none⟩, ⟨some 4, .move (.tmp 19), none⟩]) (.ret)) (.seq (.region [⟨some 21, .bin .eql (.tmp 10) (.const (.int .i64 2)), none⟩, ⟨some 20, .move (.tmp 21), none⟩]) (.cond (.tmp 20) (.seq (.regionD [⟨some 22, .move (.tmp 5), none⟩, ⟨some 23, .bin .eql (.tmp 22) (.const (.int .i64 0)), none⟩, ⟨some 24, .move (.tmp 23), none⟩, ⟨some 25, .addr 1 (.tmp 3), (some (24, true))⟩, ⟨some 26, .load1 (.tmp 25), (some (24, true))⟩, ⟨some 27, .bin .geq (.tmp 26) (.const (.int .i64 0)), (some (24, true))⟩, ⟨some 28, .pick (.tmp 24) (.tmp 27) (.const (.bool false)), none⟩, ⟨some 29, .move (.tmp 28), none⟩, ⟨some 30, .addr 1 (.tmp 3), (some (29, true))⟩, ⟨some 31, .load1 (.tmp 30), (some (29, true))⟩, ⟨some 32, .move (.tmp 0), (some (29, true))⟩, ⟨some 33, .nilCheck (.tmp 32), (some (29, true))⟩, ⟨some 34, .addr 13 (.tmp 33), (some (29, true))⟩, ⟨some 35, .load1 (.tmp 34), (some (29, true))⟩, ⟨some 36, .bin .lss (.tmp 31) (.tmp 35), (some (29, true))⟩, ⟨some 37, .pick (.tmp 29) (.tmp 36) (.const (.bool false)), none⟩, ⟨some 38, .move (.tmp 37), none⟩, ⟨some 39, .move (.tmp 0), (some (38, true))⟩, ⟨some 40, .nilCheck (.tmp 39), (some (38, true))⟩, ⟨some 41, .addr 14 (.tmp 40), (some (38, true))⟩, ⟨some 42, .load1 (.tmp 41), (some (38, true))⟩, ⟨some 43, .addr 1 (.tmp 3), (some (38, true))⟩, ⟨some 44, .load1 (.tmp 43), (some (38, true))⟩, ⟨some 45, .indexAddr 1 (.tmp 42) (.tmp 44), (some (38, true))⟩, ⟨some 46, .load1 (.tmp 45), (some (38, true))⟩, ⟨some 47, .pick (.tmp 38) (.tmp 46) (.const (.bool false)), none⟩, ⟨some 4, .move (.tmp 47), none⟩] []) (.ret)) (.seq (.region [⟨some 49, .bin .eql (.tmp 10) (.const (.int .i64 3)), none⟩, ⟨some 48, .move (.tmp 49), none⟩]) (.cond (.tmp 48) (.seq (.regionD [⟨some 50, .addr 1 (.tmp 3), none⟩, ⟨some 51, .load1 (.tmp 50), none⟩, ⟨some 52, .bin .geq (.tmp 51) (.const (.int .i64 0)), none⟩, ⟨some 53, .move (.tmp 52), none⟩, ⟨some 54, .addr 1 (.tmp 3), (some (53, true))⟩, ⟨some 55, .load1 (.tmp 54), (some (53, true))⟩, ⟨some 56, .move (.tmp 0), (some (53, true))⟩, ⟨some 57, .nilCheck (.tmp 56), (some (53, true))⟩, ⟨some 58, .addr 0 (.tmp 57), (some (53, true))⟩, ⟨some 59, .addr 1 (.tmp 58), (some (53, true))⟩, ⟨some 60, .load1 (.tmp 59), (some (53, true))⟩, ⟨some 61, .lenSlice (.tmp 60), (some (53, true))⟩, ⟨some 62, .bin .lss (.tmp 55) (.tmp 61), (some (53, true))⟩, ⟨some 63, .pick (.tmp 53) (.tmp 62) (.const (.bool false)), none⟩, ⟨some 64, .move (.tmp 63), none⟩, ⟨some 65, .move (.tmp 5), (some (64, true))⟩, ⟨some 66, .move (.tmp 0), (some (64, true))⟩, ⟨some 67, .nilCheck (.tmp 66), (some (64, true))⟩, ⟨some 68, .addr 0 (.tmp 67), (some (64, true))⟩, ⟨some 69, .addr 1 (.tmp 68), (some (64, true))⟩, ⟨some 70, .load1 (.tmp 69), (some (64, true))⟩, ⟨some 71, .addr 1 (.tmp 3), (some (64, true))⟩, ⟨some 72, .load1 (.tmp 71), (some (64, true))⟩, ⟨some 73, .indexAddr 10 (.tmp 70) (.tmp 72), (some (64, true))⟩, ⟨some 74, .addr 0 (.tmp 73), (some (64, true))⟩, ⟨some 75, .load1 (.tmp 74), (some (64, true))⟩, ⟨some 76, .bin .eql (.tmp 65) (.tmp 75), (some (64, true))⟩, ⟨some 77, .pick (.tmp 64) (.tmp 76) (.const (.bool false)), none⟩, ⟨some 4, .move (.tmp 77), none⟩] []) (.ret)) (.seq (.region [⟨some 79, .bin .eql (.tmp 10) (.const (.int .i64 4)), none⟩, ⟨some 78, .move (.tmp 79), none⟩]) (.cond (.tmp 78) (.seq (.region [⟨some 80, .move (.tmp 5), none⟩, ⟨some 81, .bin .geq (.tmp 80) (.const (.int .i64 2)), none⟩, ⟨some 82, .move (.tmp 81), none⟩, ⟨some 83, .move (.tmp 5), (some (82, true))⟩, ⟨some 84, .bin .leq (.tmp 83) (.const (.int .i64 4)), (some (82, true))⟩, ⟨some 85, .pick (.tmp 82) (.tmp 84) (.const (.bool false)), none⟩, ⟨some 4, .move (.tmp 85), none⟩]) (.ret)) (.seq (.region [⟨some 87, .bin .eql (.tmp 10) (.const (.int .i64 5)), none⟩, ⟨some 86, .move (.tmp 87), none⟩]) (.cond (.tmp 86) (.seq (.region [⟨some 88, .move (.tmp 5), none⟩, ⟨some 89, .bin .leq (.tmp 88) (.const (.int .i64 32)), none⟩, ⟨some 4, .move (.tmp 89), none⟩]) (.ret)) (.seq (.region [⟨some 91, .bin .eql (.tmp 10) (.const (.int .i64 6)), none⟩, ⟨some 90, .move (.tmp 91), none⟩]) (.cond (.tmp 90) (.seq (.region [⟨some 92, .addr 1 (.tmp 3), none⟩, ⟨some 93, .load1 (.tmp 92), none⟩, ⟨some 94, .bin .geq (.tmp 93) (.const (.int .i64 1)), none⟩, ⟨some 95, .move (.tmp 94), none⟩, ⟨some 96, .addr 1 (.tmp 3), (some (95, true))⟩, ⟨some 97, .load1 (.tmp 96), (some (95, true))⟩, ⟨some 98, .bin .leq (.tmp 97) (.const (.int .i64 13)), (some (95, true))⟩, ⟨some 99, .pick (.tmp 95) (.tmp 98) (.const (.bool false)), none⟩, ⟨some 100, .move (.tmp 99), none⟩, ⟨some 101, .move (.tmp 5), (some (100, true))⟩, ⟨some 102, .bin .eql (.tmp 101) (.const (.int .i64 1)), (some (100, true))⟩, ⟨some 103, .addr 1 (.tmp 3), (some (100, true))⟩, ⟨some 104, .load1 (.tmp 103), (some (100, true))⟩, ⟨some 105, .bin .eql (.tmp 104) (.const (.int .i64 12)), (some (100, true))⟩, ⟨some 106, .move (.tmp 105), (some (100, true))⟩, ⟨some 107, .addr 1 (.tmp 3), (some (106, false))⟩, ⟨some 108, .load1 (.tmp 107), (some (106, false))⟩, ⟨some 109, .bin .eql (.tmp 108) (.const (.int .i64 13)), (some (106, false))⟩, ⟨some 110, .pick (.tmp 106) (.const (.bool true)) (.tmp 109), (some (100, true))⟩, ⟨some 111, .eq .bool false (.tmp 102) (.tmp 110), (some (100, true))⟩, ⟨some 112, .pick (.tmp 100) (.tmp 111) (.const (.bool false)), none⟩, ⟨some 113, .move (.tmp 112), none⟩, ⟨some 114, .move (.tmp 5), (some (113, true))⟩, ⟨some 115, .bin .eql (.tmp 114) (.const (.int .i64 1)), (some (113, true))⟩, ⟨some 116, .move (.tmp 115), (some (113, true))⟩, ⟨some 117, .move (.tmp 5), (some (116, false))⟩, ⟨some 118, .bin .eql (.tmp 117) (.const (.int .i64 2)), (some (116, false))⟩, ⟨some 119, .pick (.tmp 116) (.const (.bool true)) (.tmp 118), (some (113, true))⟩, ⟨some 120, .pick (.tmp 113) (.tmp 119) (.const (.bool false)), none⟩, ⟨some 4, .move (.tmp 120), none⟩]) (.ret)) (.seq (.region [⟨some 122, .bin .eql (.tmp 10) (.const (.int .i64 7)), none⟩, ⟨some 121, .move (.tmp 122), none⟩]) (.cond (.tmp 121) (.seq (.region [⟨some 123, .move (.tmp 5), none⟩, ⟨some 124, .bin .eql (.tmp 123) (.const (.int .i64 2)), none⟩, ⟨some 125, .move (.tmp 124), none⟩, ⟨some 126, .addr 2 (.tmp 3), (some (125, true))⟩, ⟨some 127, .load1 (.tmp 126), (some (125, true))⟩, ⟨some 128, .bin .geq (.tmp 127) (.const (.int .i64 1)), (some (125, true))⟩, ⟨some 129, .pick (.tmp 125) (.tmp 128) (.const (.bool false)), none⟩, ⟨some 130, .move (.tmp 129), none⟩, ⟨some 131, .addr 2 (.tmp 3), (some (130, true))⟩, ⟨some 132, .load1 (.tmp 131), (some (130, true))⟩, ⟨some 133, .bin .leq (.tmp 132) (.const (.int .i64 4)), (some (130, true))⟩, ⟨some 134, .pick (.tmp 130) (.tmp 133) (.const (.bool false)), none⟩, ⟨some 135, .move (.tmp 134), none⟩, ⟨some 136, .move (.tmp 0), (some (135, true))⟩, ⟨some 137, .addr 1 (.tmp 3), (some (135, true))⟩, ⟨some 138, .load1 (.tmp 137), (some (135, true))⟩, ⟨some 139, .addr 2 (.tmp 3), (some (135, true))⟩, ⟨some 140, .load1 (.tmp 139), (some (135, true))⟩, ⟨some 141, .call 154 [(.tmp 136), (.tmp 138), (.tmp 140)], (some (135, true))⟩, ⟨some 142, .pick (.tmp 135) (.tmp 141) (.const (.bool false)), none⟩, ⟨some 4, .move (.tmp 142), none⟩]) (.ret)) (.seq (.region [⟨some 144, .bin .eql (.tmp 10) (.const (.int .i64 8)), none⟩, ⟨some 143, .move (.tmp 144), none⟩]) (.cond (.tmp 143) (.seq (.region [⟨some 145, .move (.tmp 5), none⟩, ⟨some 146, .bin .eql (.tmp 145) (.const (.int .i64 3)), none⟩, ⟨some 4, .move (.tmp 146), none⟩]) (.ret)) (.seq (.region [⟨some 148, .bin .eql (.tmp 10) (.const (.int .i64 9)), none⟩, ⟨some 147, .move (.tmp 148), none⟩]) (.cond (.tmp 147) (.seq (.region [⟨some 149, .move (.tmp 5), none⟩, ⟨some 150, .bin .eql (.tmp 149) (.const (.int .i64 3)), none⟩, ⟨some 151, .move (.tmp 150), none⟩, ⟨some 152, .move (.tmp 0), (some (151, true))⟩, ⟨some 153, .addr 1 (.tmp 3), (some (151, true))⟩, ⟨some 154, .load1 (.tmp 153), (some (151, true))⟩, ⟨some 155, .call 154 [(.tmp 152), (.tmp 154), (.const (.int .i64 2))], (some (151, true))⟩, ⟨some 156, .pick (.tmp 151) (.tmp 155) (.const (.bool false)), none⟩, ⟨some 4, .move (.tmp 156), none⟩]) (.ret)) (.seq (.region [⟨some 158, .bin .eql (.tmp 10) (.const (.int .i64 10)), none⟩, ⟨some 157, .move (.tmp 158), none⟩]) (.cond (.tmp 157) (.seq (.region [⟨some 159, .move (.tmp 5), none⟩, ⟨some 160, .bin .eql (.tmp 159) (.const (.int .i64 2)), none⟩, ⟨some 4, .move (.tmp 160), none⟩]) (.ret)) (.seq (.region [⟨some 162, .bin .eql (.tmp 10) (.const (.int .i64 11)), none⟩, ⟨some 161, .move (.tmp 162), none⟩]) (.cond (.tmp 161) (.seq (.region [⟨some 163, .move (.tmp 5), none⟩, ⟨some 164, .bin .eql (.tmp 163) (.const (.int .i64 1)), none⟩, ⟨some 165, .move (.tmp 164), none⟩, ⟨some 166, .addr 6 (.tmp 3), (some (165, true))⟩, ⟨some 167, .load1 (.tmp 166), (some (165, true))⟩, ⟨some 168, .call 155 [(.tmp 167)], (some (165, true))⟩, ⟨some 169, .pick (.tmp 165) (.tmp 168) (.const (.bool false)), none⟩, ⟨some 4, .move (.tmp 169), none⟩]) (.ret)) (.seq (.region [⟨some 171, .bin .eql (.tmp 10) (.const (.int .i64 12)), none⟩, ⟨some 170, .move (.tmp 171), none⟩]) (.cond (.tmp 170) (.seq (.regionD [⟨some 172, .move (.tmp 5), none⟩, ⟨some 173, .addr 6 (.tmp 3), none⟩, ⟨some 174, .load1 (.tmp 173), none⟩, ⟨some 175, .lenSlice (.tmp 174), none⟩, ⟨some 176, .bin .eql (.tmp 172) (.tmp 175), none⟩, ⟨some 177, .move (.tmp 176), none⟩, ⟨some 178, .addr 6 (.tmp 3), (some (177, true))⟩, ⟨some 179, .load1 (.tmp 178), (some (177, true))⟩, ⟨some 180, .call 156 [(.tmp 179)], (some (177, true))⟩, ⟨some 181, .pick (.tmp 177) (.tmp 180) (.const (.bool false)), none⟩, ⟨some 182, .move (.tmp 181), none⟩, ⟨some 183, .addr 1 (.tmp 3), (some (182, true))⟩, ⟨some 184, .load1 (.tmp 183), (some (182, true))⟩, ⟨some 185, .bin .geq (.tmp 184) (.const (.int .i64 0)), (some (182, true))⟩, ⟨some 186, .pick (.tmp 182) (.tmp 185) (.const (.bool false)), none⟩, ⟨some 187, .move (.tmp 186), none⟩, ⟨some 188, .addr 1 (.tmp 3), (some (187, true))⟩, ⟨some 189, .load1 (.tmp 188), (some (187, true))⟩, ⟨some 190, .move (.tmp 0), (some (187, true))⟩, ⟨some 191, .nilCheck (.tmp 190), (some (187, true))⟩, ⟨some 192, .addr 0 (.tmp 191), (some (187, true))⟩, ⟨some 193, .addr 12 (.tmp 192), (some (187, true))⟩, ⟨some 194, .load1 (.tmp 193), (some (187, true))⟩, ⟨some 195, .bin .lss (.tmp 189) (.tmp 194), (some (187, true))⟩, ⟨some 196, .pick (.tmp 187) (.tmp 195) (.const (.bool false)), none⟩, ⟨some 4, .move (.tmp 196), none⟩] []) (.ret)) (.skip))))))))))))))))))))))))))) (.seq (.region [⟨some 4, .move (.const (.bool false)), none⟩]) (.ret))))⟩
def x103 : XFun := ⟨9, [.tmp 4], .seq (.region [⟨some 4, .move (.const (.bool false)), none⟩]) (.seq (.region [⟨some 5, .move (.tmp 0), none⟩, ⟨some 6, .move (.tmp 1), none⟩, ⟨some 7, .call 157 [(.tmp 5), (.tmp 6)], none⟩, ⟨some 8, .bin .geq (.tmp 7) (.const (.int .i64 0)), none⟩, ⟨some 4, .move (.tmp 8), none⟩]) (.ret))⟩
def x104 : XFun := ⟨11, [.tmp 3], .seq (.region [⟨some 2, .box 26 (.tmp 0), none⟩, ⟨some 3, .move (.const (.bool false)), none⟩]) (.seq (.regionD [⟨some 4, .addr 1 (.tmp 1), none⟩, ⟨some 5, .load1 (.tmp 4), none⟩, ⟨some 6, .indexAddr 2 (.tmp 5) (.const (.int .i64 0)), none⟩, ⟨some 7, .loadN 2 (.tmp 6), none⟩, ⟨some 8, .loadN 3 (.tmp 2), none⟩, ⟨some 9, .call 60 [(.tmp 7), (.tmp 8)], none⟩, ⟨some 10, .un .not (.tmp 9), none⟩, ⟨some 3, .move (.tmp 10), none⟩] []) (.ret))⟩
def x105 : XFun := ⟨27, [.tmp 4], .seq (.region [⟨some 2, .box 26 (.tmp 0), none⟩, ⟨some 4, .move (.const (.int .i64 0)), none⟩]) (.seq (.region [⟨some 6, .move (.tmp 1), none⟩, ⟨some 7, .bin .add (.tmp 6) (.const (.int .i64 1)), none⟩, ⟨some 1, .move (.tmp 7), none⟩]) (.seq (.seq (.region [⟨some 5, .move (.const (.int .i64 0)), none⟩]) (.block 0 (.loop (.seq (.seq (.region [⟨some 8, .move (.tmp 5), none⟩, ⟨some 9, .addr 2 (.tmp 2), none⟩, ⟨some 10, .load1 (.tmp 9), none⟩, ⟨some 11, .lenSlice (.tmp 10), none⟩, ⟨some 12, .bin .lss (.tmp 8) (.tmp 11), none⟩, ⟨some 13, .move (.tmp 12), none⟩, ⟨some 14, .move (.tmp 1), (some (13, true))⟩, ⟨some 15, .bin .leq (.tmp 14) (.const (.int .i64 1000)), (some (13, true))⟩, ⟨some 16, .pick (.tmp 13) (.tmp 15) (.const (.bool false)), none⟩]) (.cond (.tmp 16) (.skip) (.exit 0))) (.seq (.block 1 (.region [⟨some 19, .addr 2 (.tmp 2), none⟩, ⟨some 20, .load1 (.tmp 19), none⟩, ⟨some 21, .move (.tmp 5), none⟩, ⟨some 22, .indexAddr 3 (.tmp 20) (.tmp 21), none⟩, ⟨some 23, .loadN 3 (.tmp 22), none⟩, ⟨some 24, .move (.tmp 1), none⟩, ⟨some 25, .call 105 [(.tmp 23), (.tmp 24)], none⟩, ⟨some 1, .move (.tmp 25), none⟩])) (.region [⟨some 17, .move (.tmp 5), none⟩, ⟨some 18, .bin .add (.tmp 17) (.const (.int .i64 1)), none⟩, ⟨some 5, .move (.tmp 18), none⟩])))))) (.seq (.region [⟨some 26, .move (.tmp 1), none⟩, ⟨some 4, .move (.tmp 26), none⟩]) (.ret))))⟩
def x149 : XFun := ⟨19, [.tmp 4], .seq (.region [⟨some 4, .move (.const (.int .i64 0)), none⟩]) (.seq (.seq (.region [⟨some 6, .move (.tmp 0), none⟩, ⟨some 7, .lenSlice (.tmp 6), none⟩, ⟨some 8, .move (.const (.int .i64 0)), none⟩]) (.block 0 (.loop (.seq (.region [⟨some 9, .bin .lss (.tmp 8) (.tmp 7), none⟩]) (.seq (.cond (.tmp 9) (.skip) (.exit 0)) (.seq (.block 1 (.seq (.region [⟨some 10, .move (.tmp 8), none⟩, ⟨some 5, .move (.tmp 10), none⟩]) (.seq (.region [⟨some 11, .move (.tmp 1), none⟩, ⟨some 12, .move (.tmp 0), none⟩, ⟨some 13, .move (.tmp 5), none⟩, ⟨some 14, .indexAddr 2 (.tmp 12) (.tmp 13), none⟩, ⟨some 15, .loadN 2 (.tmp 14), none⟩, ⟨some 16, .callV (.tmp 11) [(.tmp 15)], none⟩]) (.cond (.tmp 16) (.seq (.region [⟨some 17, .move (.tmp 5), none⟩, ⟨some 4, .move (.tmp 17), none⟩]) (.ret)) (.skip))))) (.region [⟨some 18, .bin .add (.tmp 8) (.const (.int .i64 1)), none⟩, ⟨some 8, .move (.tmp 18), none⟩]))))))) (.seq (.region [⟨some 4, .move (.const (.int .i64 (-1))), none⟩]) (.ret)))⟩
def x150 : XFun := ⟨127, [.cellN 4 2, .tmp 5], .seq (.region [⟨some 2, .box 26 (.tmp 0), none⟩, ⟨some 4, .alloc 65 [(.int .i64 0), (.slice none 0 0)], none⟩, ⟨some 5, .move (.const (.bool false)), none⟩]) (.seq (.region [⟨some 16, .addr 0 (.tmp 2), none⟩, ⟨some 17, .load1 (.tmp 16), none⟩, ⟨some 18, .build [(.int .i64 0), (.slice none 0 0)] [(0, 1, (.tmp 17))], none⟩, ⟨some 6, .alloc 65 [(.int .i64 0), (.slice none 0 0)], none⟩, ⟨none, .store 2 (.tmp 6) (.tmp 18), none⟩]) (.seq (.block 0 (.seq (.region [⟨some 20, .move (.tmp 1), none⟩, ⟨some 21, .bin .lss (.tmp 20) (.const (.int .i64 1)), none⟩, ⟨some 19, .move (.tmp 21), none⟩]) (.cond (.tmp 19) (.seq (.region [⟨some 22, .loadN 2 (.tmp 6), none⟩, ⟨none, .store 2 (.tmp 4) (.tmp 22), none⟩, ⟨some 5, .move (.const (.bool false)), none⟩]) (.ret)) (.seq (.region [⟨some 24, .addr 0 (.tmp 2), none⟩, ⟨some 25, .load1 (.tmp 24), none⟩, ⟨some 26, .bin .eql (.tmp 25) (.const (.int .i64 1)), none⟩, ⟨some 27, .move (.tmp 26), none⟩, ⟨some 28, .addr 0 (.tmp 2), (some (27, false))⟩, ⟨some 29, .load1 (.tmp 28), (some (27, false))⟩, ⟨some 30, .bin .eql (.tmp 29) (.const (.int .i64 2)), (some (27, false))⟩, ⟨some 31, .pick (.tmp 27) (.const (.bool true)) (.tmp 30), none⟩, ⟨some 23, .move (.tmp 31), none⟩]) (.cond (.tmp 23) (.seq (.regionD [⟨some 32, .loadN 2 (.tmp 6), none⟩, ⟨some 33, .loadN 2 (.tmp 6), none⟩, ⟨some 34, .loadN 3 (.tmp 2), none⟩, ⟨some 35, .call 60 [(.tmp 33), (.tmp 34)], none⟩, ⟨none, .store 2 (.tmp 4) (.tmp 32), none⟩, ⟨some 5, .move (.tmp 35), none⟩] [(0, 3)]) (.ret)) (.seq (.region [⟨some 37, .addr 0 (.tmp 2), none⟩, ⟨some 38, .load1 (.tmp 37), none⟩, ⟨some 39, .bin .eql (.tmp 38) (.const (.int .i64 3)), none⟩, ⟨some 40, .move (.tmp 39), none⟩, ⟨some 41, .addr 1 (.tmp 2), (some (40, true))⟩, ⟨some 42, .load1 (.tmp 41), (some (40, true))⟩, ⟨some 43, .bin .eql (.tmp 42) (.const (.int .i64 0)), (some (40, true))⟩, ⟨some 44, .pick (.tmp 40) (.tmp 43) (.const (.bool false)), none⟩, ⟨some 45, .move (.tmp 44), none⟩, ⟨some 46, .addr 2 (.tmp 2), (some (45, true))⟩, ⟨some 47, .load1 (.tmp 46), (some (45, true))⟩, ⟨some 48, .lenSlice (.tmp 47), (some (45, true))⟩, ⟨some 49, .bin .geq (.tmp 48) (.const (.int .i64 2)), (some (45, true))⟩, ⟨some 50, .pick (.tmp 45) (.tmp 49) (.const (.bool false)), none⟩, ⟨some 51, .move (.tmp 50), none⟩, ⟨some 52, .addr 2 (.tmp 2), (some (51, true))⟩, ⟨some 53, .load1 (.tmp 52), (some (51, true))⟩, ⟨some 54, .lenSlice (.tmp 53), (some (51, true))⟩, ⟨some 55, .bin .leq (.tmp 54) (.const (.int .i64 4)), (some (51, true))⟩, ⟨some 56, .pick (.tmp 51) (.tmp 55) (.const (.bool false)), none⟩, ⟨some 36, .move (.tmp 56), none⟩]) (.cond (.tmp 36) (.seq (.seq (.region [⟨some 57, .addr 2 (.tmp 2), none⟩, ⟨some 58, .load1 (.tmp 57), none⟩, ⟨some 59, .lenSlice (.tmp 58), none⟩, ⟨some 60, .move (.const (.int .i64 0)), none⟩]) (.block 1 (.loop (.seq (.region [⟨some 61, .bin .lss (.tmp 60) (.tmp 59), none⟩]) (.seq (.cond (.tmp 61) (.skip) (.exit 1)) (.seq (.block 2 (.seq (.region [⟨some 62, .indexAddr 3 (.tmp 58) (.tmp 60), none⟩, ⟨some 63, .loadN 3 (.tmp 62), none⟩, ⟨some 8, .alloc 26 [(.int .i64 0), (.int .i64 0), (.slice none 0 0)], none⟩, ⟨none, .store 3 (.tmp 8) (.tmp 63), none⟩]) (.seq (.region [⟨some 65, .loadN 3 (.tmp 8), none⟩, ⟨some 66, .move (.tmp 1), none⟩, ⟨some 67, .bin .sub (.tmp 66) (.const (.int .i64 1)), none⟩, ⟨some 68, .call 150 [(.tmp 65), (.tmp 67)], none⟩, ⟨some 64, .move (.tmp 68), none⟩, ⟨some 69, .extract (.tmp 64) 0, none⟩, ⟨some 70, .extract (.tmp 64) 1, none⟩, ⟨some 9, .alloc 65 [(.int .i64 0), (.slice none 0 0)], none⟩, ⟨none, .store 2 (.tmp 9) (.tmp 69), none⟩, ⟨some 10, .move (.tmp 70), none⟩]) (.seq (.seq (.region [⟨some 71, .move (.tmp 10), none⟩, ⟨some 72, .un .not (.tmp 71), none⟩]) (.cond (.tmp 72) (.seq (.region [⟨some 73, .loadN 2 (.tmp 6), none⟩, ⟨none, .store 2 (.tmp 4) (.tmp 73), none⟩, ⟨some 5, .move (.const (.bool false)), none⟩]) (.ret)) (.skip))) (.region [⟨some 74, .addr 1 (.tmp 6), none⟩, ⟨some 75, .load1 (.tmp 74), none⟩, ⟨some 76, .loadN 2 (.tmp 9), none⟩, ⟨some 77, .buildSlice 65 2 [(.int .i64 0), (.slice none 0 0)] 1 [(0, 2, (.tmp 76))], none⟩, ⟨some 78, .append 65 2 32 (.tmp 75) (.tmp 77), none⟩, ⟨some 79, .addr 1 (.tmp 6), none⟩, ⟨none, .store 1 (.tmp 79) (.tmp 78), none⟩]))))) (.region [⟨some 80, .bin .add (.tmp 60) (.const (.int .i64 1)), none⟩, ⟨some 60, .move (.tmp 80), none⟩]))))))) (.seq (.region [⟨some 81, .loadN 2 (.tmp 6), none⟩, ⟨none, .store 2 (.tmp 4) (.tmp 81), none⟩, ⟨some 5, .move (.const (.bool true)), none⟩]) (.ret))) (.seq (.region [⟨some 83, .addr 0 (.tmp 2), none⟩, ⟨some 84, .load1 (.tmp 83), none⟩, ⟨some 85, .bin .eql (.tmp 84) (.const (.int .i64 4)), none⟩, ⟨some 86, .move (.tmp 85), none⟩, ⟨some 87, .addr 1 (.tmp 2), (some (86, true))⟩, ⟨some 88, .load1 (.tmp 87), (some (86, true))⟩, ⟨some 89, .bin .eql (.tmp 88) (.const (.int .i64 0)), (some (86, true))⟩, ⟨some 90, .pick (.tmp 86) (.tmp 89) (.const (.bool false)), none⟩, ⟨some 91, .move (.tmp 90), none⟩, ⟨some 92, .addr 2 (.tmp 2), (some (91, true))⟩, ⟨some 93, .load1 (.tmp 92), (some (91, true))⟩, ⟨some 94, .lenSlice (.tmp 93), (some (91, true))⟩, ⟨some 95, .bin .leq (.tmp 94) (.const (.int .i64 32)), (some (91, true))⟩, ⟨some 96, .pick (.tmp 91) (.tmp 95) (.const (.bool false)), none⟩, ⟨some 82, .move (.tmp 96), none⟩]) (.cond (.tmp 82) (.seq (.region [⟨some 11, .alloc 65 [(.int .i64 0), (.slice none 0 0)], none⟩]) (.seq (.seq (.region [⟨some 97, .addr 2 (.tmp 2), none⟩, ⟨some 98, .load1 (.tmp 97), none⟩, ⟨some 99, .lenSlice (.tmp 98), none⟩, ⟨some 100, .move (.const (.int .i64 0)), none⟩]) (.block 3 (.loop (.seq (.region [⟨some 101, .bin .lss (.tmp 100) (.tmp 99), none⟩]) (.seq (.cond (.tmp 101) (.skip) (.exit 3)) (.seq (.block 4 (.seq (.region [⟨some 102, .indexAddr 3 (.tmp 98) (.tmp 100), none⟩, ⟨some 103, .loadN 3 (.tmp 102), none⟩, ⟨some 13, .alloc 26 [(.int .i64 0), (.int .i64 0), (.slice none 0 0)], none⟩, ⟨none, .store 3 (.tmp 13) (.tmp 103), none⟩]) (.seq (.region [⟨some 105, .loadN 3 (.tmp 13), none⟩, ⟨some 106, .move (.tmp 1), none⟩, ⟨some 107, .bin .sub (.tmp 106) (.const (.int .i64 1)), none⟩, ⟨some 108, .call 150 [(.tmp 105), (.tmp 107)], none⟩, ⟨some 104, .move (.tmp 108), none⟩, ⟨some 109, .extract (.tmp 104) 0, none⟩, ⟨some 110, .extract (.tmp 104) 1, none⟩, ⟨some 14, .alloc 65 [(.int .i64 0), (.slice none 0 0)], none⟩, ⟨none, .store 2 (.tmp 14) (.tmp 109), none⟩, ⟨some 15, .move (.tmp 110), none⟩]) (.seq (.seq (.region [⟨some 111, .move (.tmp 15), none⟩]) (.cond (.tmp 111) (.region [⟨some 113, .loadN 2 (.tmp 11), none⟩, ⟨some 114, .loadN 2 (.tmp 14), none⟩, ⟨some 115, .call 178 [(.tmp 113), (.tmp 114)], none⟩, ⟨some 112, .move (.tmp 115), none⟩, ⟨some 116, .extract (.tmp 112) 0, none⟩, ⟨some 117, .extract (.tmp 112) 1, none⟩, ⟨none, .store 2 (.tmp 11) (.tmp 116), none⟩, ⟨some 15, .move (.tmp 117), none⟩]) (.skip))) (.seq (.region [⟨some 118, .move (.tmp 15), none⟩, ⟨some 119, .un .not (.tmp 118), none⟩]) (.cond (.tmp 119) (.seq (.region [⟨some 120, .loadN 2 (.tmp 6), none⟩, ⟨none, .store 2 (.tmp 4) (.tmp 120), none⟩, ⟨some 5, .move (.const (.bool false)), none⟩]) (.ret)) (.skip))))))) (.region [⟨some 121, .bin .add (.tmp 100) (.const (.int .i64 1)), none⟩, ⟨some 100, .move (.tmp 121), none⟩]))))))) (.seq (.region [⟨some 122, .loadN 2 (.tmp 11), none⟩, ⟨some 123, .buildSlice 65 2 [(.int .i64 0), (.slice none 0 0)] 1 [(0, 2, (.tmp 122))], none⟩, ⟨some 124, .addr 1 (.tmp 6), none⟩, ⟨none, .store 1 (.tmp 124) (.tmp 123), none⟩]) (.seq (.region [⟨some 125, .loadN 2 (.tmp 6), none⟩, ⟨none, .store 2 (.tmp 4) (.tmp 125), none⟩, ⟨some 5, .move (.const (.bool true)), none⟩]) (.ret))))) (.skip)))))))))) (.seq (.region [⟨some 126, .loadN 2 (.tmp 6), none⟩, ⟨none, .store 2 (.tmp 4) (.tmp 126), none⟩, ⟨some 5, .move (.const (.bool false)), none⟩]) (.ret))))⟩
def x151 : XFun := ⟨29, [.cellN 2 2], .seq (.region [⟨some 1, .box 65 (.tmp 0), none⟩, ⟨some 2, .alloc 65 [(.int .i64 0), (.slice none 0 0)], none⟩]) (.seq (.seq (.region [⟨some 6, .addr 0 (.tmp 1), none⟩, ⟨some 7, .load1 (.tmp 6), none⟩, ⟨some 8, .bin .eql (.tmp 7) (.const (.int .i64 0)), none⟩]) (.cond (.tmp 8) (.seq (.region [⟨some 9, .build [(.int .i64 0), (.slice none 0 0)] [(0, 1, (.const (.int .i64 1)))], none⟩, ⟨none, .store 2 (.tmp 2) (.tmp 9), none⟩]) (.ret)) (.skip))) (.seq (.region [⟨some 10, .addr 0 (.tmp 1), none⟩, ⟨some 11, .load1 (.tmp 10), none⟩, ⟨some 12, .build [(.int .i64 0), (.slice none 0 0)] [(0, 1, (.tmp 11))], none⟩, ⟨some 3, .alloc 65 [(.int .i64 0), (.slice none 0 0)], none⟩, ⟨none, .store 2 (.tmp 3) (.tmp 12), none⟩]) (.seq (.seq (.region [⟨some 13, .addr 1 (.tmp 1), none⟩, ⟨some 14, .load1 (.tmp 13), none⟩, ⟨some 15, .lenSlice (.tmp 14), none⟩, ⟨some 16, .move (.const (.int .i64 0)), none⟩]) (.block 0 (.loop (.seq (.region [⟨some 17, .bin .lss (.tmp 16) (.tmp 15), none⟩]) (.seq (.cond (.tmp 17) (.skip) (.exit 0)) (.seq (.block 1 (.seq (.region [⟨some 18, .indexAddr 2 (.tmp 14) (.tmp 16), none⟩, ⟨some 19, .loadN 2 (.tmp 18), none⟩, ⟨some 5, .alloc 65 [(.int .i64 0), (.slice none 0 0)], none⟩, ⟨none, .store 2 (.tmp 5) (.tmp 19), none⟩]) (.regionD [⟨some 20, .addr 1 (.tmp 3), none⟩, ⟨some 21, .load1 (.tmp 20), none⟩, ⟨some 22, .loadN 2 (.tmp 5), none⟩, ⟨some 23, .call 151 [(.tmp 22)], none⟩, ⟨some 24, .buildSlice 65 2 [(.int .i64 0), (.slice none 0 0)] 1 [(0, 2, (.tmp 23))], none⟩, ⟨some 25, .append 65 2 32 (.tmp 21) (.tmp 24), none⟩, ⟨some 26, .addr 1 (.tmp 3), none⟩, ⟨none, .store 1 (.tmp 26) (.tmp 25), none⟩] [(1, 3), (1, 4)]))) (.region [⟨some 27, .bin .add (.tmp 16) (.const (.int .i64 1)), none⟩, ⟨some 16, .move (.tmp 27), none⟩]))))))) (.seq (.region [⟨some 28, .loadN 2 (.tmp 3), none⟩, ⟨none, .store 2 (.tmp 2) (.tmp 28), none⟩]) (.ret)))))⟩
def x152 : XFun := ⟨19, [.tmp 4], .seq (.region [⟨some 4, .move (.const (.int .i64 0)), none⟩]) (.seq (.seq (.region [⟨some 6, .move (.tmp 0), none⟩, ⟨some 7, .lenSlice (.tmp 6), none⟩, ⟨some 8, .move (.const (.int .i64 0)), none⟩]) (.block 0 (.loop (.seq (.region [⟨some 9, .bin .lss (.tmp 8) (.tmp 7), none⟩]) (.seq (.cond (.tmp 9) (.skip) (.exit 0)) (.seq (.block 1 (.seq (.region [⟨some 10, .move (.tmp 8), none⟩, ⟨some 5, .move (.tmp 10), none⟩]) (.seq (.region [⟨some 11, .move (.tmp 1), none⟩, ⟨some 12, .move (.tmp 0), none⟩, ⟨some 13, .move (.tmp 5), none⟩, ⟨some 14, .indexAddr 1 (.tmp 12) (.tmp 13), none⟩, ⟨some 15, .load1 (.tmp 14), none⟩, ⟨some 16, .callV (.tmp 11) [(.tmp 15)], none⟩]) (.cond (.tmp 16) (.seq (.region [⟨some 17, .move (.tmp 5), none⟩, ⟨some 4, .move (.tmp 17), none⟩]) (.ret)) (.skip))))) (.region [⟨some 18, .bin .add (.tmp 8) (.const (.int .i64 1)), none⟩, ⟨some 8, .move (.tmp 18), none⟩]))))))) (.seq (.region [⟨some 4, .move (.const (.int .i64 (-1))), none⟩]) (.ret)))⟩
def x153 : XFun := ⟨14, [.tmp 2], .seq (.region [⟨some 1, .box 26 (.tmp 0), none⟩, ⟨some 2, .move (.const (.bool false)), none⟩]) (.seq (.seq (.region [⟨some 5, .loadN 3 (.tmp 1), none⟩, ⟨some 6, .call 63 [(.tmp 5)], none⟩, ⟨some 7, .bin .gtr (.tmp 6) (.const (.int .i64 1000)), none⟩]) (.cond (.tmp 7) (.seq (.region [⟨some 2, .move (.const (.bool false)), none⟩]) (.ret)) (.skip))) (.seq (.region [⟨some 9, .loadN 3 (.tmp 1), none⟩, ⟨some 10, .call 179 [(.tmp 9), (.const (.int .i64 1))], none⟩, ⟨some 8, .move (.tmp 10), none⟩, ⟨some 11, .extract (.tmp 8) 0, none⟩, ⟨some 12, .extract (.tmp 8) 1, none⟩, ⟨some 3, .alloc 65 [(.int .i64 0), (.slice none 0 0)], none⟩, ⟨none, .store 2 (.tmp 3) (.tmp 11), none⟩, ⟨some 4, .move (.tmp 12), none⟩]) (.seq (.region [⟨some 13, .move (.tmp 4), none⟩, ⟨some 2, .move (.tmp 13), none⟩]) (.ret))))⟩
def x154 : XFun := ⟨35, [.tmp 6], .seq (.region [⟨some 6, .move (.const (.bool false)), none⟩]) (.seq (.seq (.region [⟨some 8, .move (.tmp 1), none⟩, ⟨some 9, .bin .lss (.tmp 8) (.const (.int .i64 0)), none⟩, ⟨some 10, .move (.tmp 9), none⟩, ⟨some 11, .move (.tmp 1), (some (10, false))⟩, ⟨some 12, .move (.tmp 0), (some (10, false))⟩, ⟨some 13, .nilCheck (.tmp 12), (some (10, false))⟩, ⟨some 14, .addr 13 (.tmp 13), (some (10, false))⟩, ⟨some 15, .load1 (.tmp 14), (some (10, false))⟩, ⟨some 16, .move (.tmp 2), (some (10, false))⟩, ⟨some 17, .bin .sub (.tmp 15) (.tmp 16), (some (10, false))⟩, ⟨some 18, .bin .gtr (.tmp 11) (.tmp 17), (some (10, false))⟩, ⟨some 19, .pick (.tmp 10) (.const (.bool true)) (.tmp 18), none⟩]) (.cond (.tmp 19) (.seq (.region [⟨some 6, .move (.const (.bool false)), none⟩]) (.ret)) (.skip))) (.seq (.seq (.region [⟨some 20, .move (.tmp 1), none⟩, ⟨some 7, .move (.tmp 20), none⟩]) (.block 0 (.loop (.seq (.seq (.region [⟨some 21, .move (.tmp 7), none⟩, ⟨some 22, .move (.tmp 1), none⟩, ⟨some 23, .move (.tmp 2), none⟩, ⟨some 24, .bin .add (.tmp 22) (.tmp 23), none⟩, ⟨some 25, .bin .lss (.tmp 21) (.tmp 24), none⟩]) (.cond (.tmp 25) (.skip) (.exit 0))) (.seq (.block 1 (.seq (.region [⟨some 28, .move (.tmp 0), none⟩, ⟨some 29, .nilCheck (.tmp 28), none⟩, ⟨some 30, .addr 14 (.tmp 29), none⟩, ⟨some 31, .load1 (.tmp 30), none⟩, ⟨some 32, .move (.tmp 7), none⟩, ⟨some 33, .indexAddr 1 (.tmp 31) (.tmp 32), none⟩, ⟨some 34, .load1 (.tmp 33), none⟩]) (.cond (.tmp 34) (.seq (.region [⟨some 6, .move (.const (.bool false)), none⟩]) (.ret)) (.skip)))) (.region [⟨some 26, .move (.tmp 7), none⟩, ⟨some 27, .bin .add (.tmp 26) (.const (.int .i64 1)), none⟩, ⟨some 7, .move (.tmp 27), none⟩])))))) (.seq (.region [⟨some 6, .move (.const (.bool true)), none⟩]) (.ret))))⟩
def x155 : XFun := ⟨33, [.tmp 2], .seq (.region [⟨some 2, .move (.const (.bool false)), none⟩]) (.seq (.regionD [⟨some 3, .move (.tmp 0), none⟩, ⟨some 4, .lenSlice (.tmp 3), none⟩, ⟨some 5, .bin .eql (.tmp 4) (.const (.int .i64 2)), none⟩, ⟨some 6, .move (.tmp 5), none⟩, ⟨some 7, .move (.tmp 0), (some (6, true))⟩, ⟨some 8, .indexAddr 1 (.tmp 7) (.const (.int .i64 0)), (some (6, true))⟩, ⟨some 9, .load1 (.tmp 8), (some (6, true))⟩, ⟨some 10, .bin .geq (.tmp 9) (.const (.int .i64 0)), (some (6, true))⟩, ⟨some 11, .pick (.tmp 6) (.tmp 10) (.const (.bool false)), none⟩, ⟨some 12, .move (.tmp 11), none⟩, ⟨some 13, .move (.tmp 0), (some (12, true))⟩, ⟨some 14, .indexAddr 1 (.tmp 13) (.const (.int .i64 0)), (some (12, true))⟩, ⟨some 15, .load1 (.tmp 14), (some (12, true))⟩, ⟨some 16, .move (.tmp 0), (some (12, true))⟩, ⟨some 17, .indexAddr 1 (.tmp 16) (.const (.int .i64 1)), (some (12, true))⟩, ⟨some 18, .load1 (.tmp 17), (some (12, true))⟩, ⟨some 19, .bin .leq (.tmp 15) (.tmp 18), (some (12, true))⟩, ⟨some 20, .pick (.tmp 12) (.tmp 19) (.const (.bool false)), none⟩, ⟨some 21, .move (.tmp 20), none⟩, ⟨some 22, .move (.tmp 0), (some (21, true))⟩, ⟨some 23, .indexAddr 1 (.tmp 22) (.const (.int .i64 1)), (some (21, true))⟩, ⟨some 24, .load1 (.tmp 23), (some (21, true))⟩, ⟨some 25, .bin .geq (.tmp 24) (.const (.int .i64 1)), (some (21, true))⟩, ⟨some 26, .pick (.tmp 21) (.tmp 25) (.const (.bool false)), none⟩, ⟨some 27, .move (.tmp 26), none⟩, ⟨some 28, .move (.tmp 0), (some (27, true))⟩, ⟨some 29, .indexAddr 1 (.tmp 28) (.const (.int .i64 1)), (some (27, true))⟩, ⟨some 30, .load1 (.tmp 29), (some (27, true))⟩, ⟨some 31, .bin .leq (.tmp 30) (.const (.int .i64 1000)), (some (27, true))⟩, ⟨some 32, .pick (.tmp 27) (.tmp 31) (.const (.bool false)), none⟩, ⟨some 2, .move (.tmp 32), none⟩] []) (.ret))⟩
def x156 : XFun := ⟨30, [.tmp 2], .seq (.region [⟨some 2, .move (.const (.bool false)), none⟩]) (.seq (.seq (.region [⟨some 3, .move (.const (.int .i64 0)), none⟩]) (.block 0 (.loop (.seq (.seq (.region [⟨some 4, .move (.tmp 3), none⟩, ⟨some 5, .move (.tmp 0), none⟩, ⟨some 6, .lenSlice (.tmp 5), none⟩, ⟨some 7, .bin .lss (.tmp 4) (.tmp 6), none⟩]) (.cond (.tmp 7) (.skip) (.exit 0))) (.seq (.block 1 (.seq (.region [⟨some 10, .move (.tmp 0), none⟩, ⟨some 11, .move (.tmp 3), none⟩, ⟨some 12, .indexAddr 1 (.tmp 10) (.tmp 11), none⟩, ⟨some 13, .load1 (.tmp 12), none⟩, ⟨some 14, .bin .lss (.tmp 13) (.const (.int .i64 1)), none⟩, ⟨some 15, .move (.tmp 14), none⟩, ⟨some 16, .move (.tmp 0), (some (15, false))⟩, ⟨some 17, .move (.tmp 3), (some (15, false))⟩, ⟨some 18, .indexAddr 1 (.tmp 16) (.tmp 17), (some (15, false))⟩, ⟨some 19, .load1 (.tmp 18), (some (15, false))⟩, ⟨some 20, .bin .gtr (.tmp 19) (.const (.int .i64 1000)), (some (15, false))⟩, ⟨some 21, .pick (.tmp 15) (.const (.bool true)) (.tmp 20), none⟩]) (.cond (.tmp 21) (.seq (.region [⟨some 2, .move (.const (.bool false)), none⟩]) (.ret)) (.skip)))) (.region [⟨some 8, .move (.tmp 3), none⟩, ⟨some 9, .bin .add (.tmp 8) (.const (.int .i64 1)), none⟩, ⟨some 3, .move (.tmp 9), none⟩])))))) (.seq (.region [⟨some 22, .move (.tmp 0), none⟩, ⟨some 23, .lenSlice (.tmp 22), none⟩, ⟨some 24, .bin .geq (.tmp 23) (.const (.int .i64 1)), none⟩, ⟨some 25, .move (.tmp 24), none⟩, ⟨some 26, .move (.tmp 0), (some (25, true))⟩, ⟨some 27, .lenSlice (.tmp 26), (some (25, true))⟩, ⟨some 28, .bin .leq (.tmp 27) (.const (.int .i64 64)), (some (25, true))⟩, ⟨some 29, .pick (.tmp 25) (.tmp 28) (.const (.bool false)), none⟩, ⟨some 2, .move (.tmp 29), none⟩]) (.ret)))⟩
def x157 : XFun := ⟨19, [.tmp 4], .seq (.region [⟨some 4, .move (.const (.int .i64 0)), none⟩]) (.seq (.seq (.region [⟨some 6, .move (.tmp 0), none⟩, ⟨some 7, .lenSlice (.tmp 6), none⟩, ⟨some 8, .move (.const (.int .i64 0)), none⟩]) (.block 0 (.loop (.seq (.region [⟨some 9, .bin .lss (.tmp 8) (.tmp 7), none⟩]) (.seq (.cond (.tmp 9) (.skip) (.exit 0)) (.seq (.block 1 (.seq (.region [⟨some 10, .move (.tmp 8), none⟩, ⟨some 5, .move (.tmp 10), none⟩]) (.seq (.region [⟨some 11, .move (.tmp 1), none⟩, ⟨some 12, .move (.tmp 0), none⟩, ⟨some 13, .move (.tmp 5), none⟩, ⟨some 14, .indexAddr 3 (.tmp 12) (.tmp 13), none⟩, ⟨some 15, .loadN 3 (.tmp 14), none⟩, ⟨some 16, .callV (.tmp 11) [(.tmp 15)], none⟩]) (.cond (.tmp 16) (.seq (.region [⟨some 17, .move (.tmp 5), none⟩, ⟨some 4, .move (.tmp 17), none⟩]) (.ret)) (.skip))))) (.region [⟨some 18, .bin .add (.tmp 8) (.const (.int .i64 1)), none⟩, ⟨some 8, .move (.tmp 18), none⟩]))))))) (.seq (.region [⟨some 4, .move (.const (.int .i64 (-1))), none⟩]) (.ret)))⟩
def x178 : XFun := ⟨70, [.cellN 4 2, .tmp 5], .seq (.region [⟨some 2, .box 65 (.tmp 0), none⟩, ⟨some 3, .box 65 (.tmp 1), none⟩, ⟨some 4, .alloc 65 [(.int .i64 0), (.slice none 0 0)], none⟩, ⟨some 5, .move (.const (.bool false)), none⟩]) (.seq (.block 0 (.seq (.region [⟨some 11, .addr 0 (.tmp 2), none⟩, ⟨some 12, .load1 (.tmp 11), none⟩, ⟨some 13, .bin .eql (.tmp 12) (.const (.int .i64 0)), none⟩, ⟨some 10, .move (.tmp 13), none⟩]) (.cond (.tmp 10) (.seq (.region [⟨some 14, .loadN 2 (.tmp 3), none⟩, ⟨none, .store 2 (.tmp 4) (.tmp 14), none⟩, ⟨some 5, .move (.const (.bool true)), none⟩]) (.ret)) (.seq (.region [⟨some 16, .addr 0 (.tmp 3), none⟩, ⟨some 17, .load1 (.tmp 16), none⟩, ⟨some 18, .bin .eql (.tmp 17) (.const (.int .i64 0)), none⟩, ⟨some 15, .move (.tmp 18), none⟩]) (.cond (.tmp 15) (.seq (.region [⟨some 19, .loadN 2 (.tmp 2), none⟩, ⟨none, .store 2 (.tmp 4) (.tmp 19), none⟩, ⟨some 5, .move (.const (.bool true)), none⟩]) (.ret)) (.seq (.region [⟨some 21, .addr 0 (.tmp 2), none⟩, ⟨some 22, .load1 (.tmp 21), none⟩, ⟨some 23, .addr 0 (.tmp 3), none⟩, ⟨some 24, .load1 (.tmp 23), none⟩, ⟨some 25, .bin .neq (.tmp 22) (.tmp 24), none⟩, ⟨some 26, .move (.tmp 25), none⟩, ⟨some 27, .addr 1 (.tmp 2), (some (26, false))⟩, ⟨some 28, .load1 (.tmp 27), (some (26, false))⟩, ⟨some 29, .lenSlice (.tmp 28), (some (26, false))⟩, ⟨some 30, .addr 1 (.tmp 3), (some (26, false))⟩, ⟨some 31, .load1 (.tmp 30), (some (26, false))⟩, ⟨some 32, .lenSlice (.tmp 31), (some (26, false))⟩, ⟨some 33, .bin .neq (.tmp 29) (.tmp 32), (some (26, false))⟩, ⟨some 34, .pick (.tmp 26) (.const (.bool true)) (.tmp 33), none⟩, ⟨some 20, .move (.tmp 34), none⟩]) (.cond (.tmp 20) (.seq (.region [⟨some 35, .loadN 2 (.tmp 2), none⟩, ⟨none, .store 2 (.tmp 4) (.tmp 35), none⟩, ⟨some 5, .move (.const (.bool false)), none⟩]) (.ret)) (.skip)))))))) (.seq (.region [⟨some 36, .addr 0 (.tmp 2), none⟩, ⟨some 37, .load1 (.tmp 36), none⟩, ⟨some 38, .build [(.int .i64 0), (.slice none 0 0)] [(0, 1, (.tmp 37))], none⟩, ⟨some 6, .alloc 65 [(.int .i64 0), (.slice none 0 0)], none⟩, ⟨none, .store 2 (.tmp 6) (.tmp 38), none⟩]) (.seq (.seq (.region [⟨some 39, .addr 1 (.tmp 2), none⟩, ⟨some 40, .load1 (.tmp 39), none⟩, ⟨some 41, .lenSlice (.tmp 40), none⟩, ⟨some 42, .move (.const (.int .i64 0)), none⟩]) (.block 1 (.loop (.seq (.region [⟨some 43, .bin .lss (.tmp 42) (.tmp 41), none⟩]) (.seq (.cond (.tmp 43) (.skip) (.exit 1)) (.seq (.block 2 (.seq (.region [⟨some 44, .move (.tmp 42), none⟩, ⟨some 7, .move (.tmp 44), none⟩]) (.seq (.regionD [⟨some 46, .addr 1 (.tmp 2), none⟩, ⟨some 47, .load1 (.tmp 46), none⟩, ⟨some 48, .move (.tmp 7), none⟩, ⟨some 49, .indexAddr 2 (.tmp 47) (.tmp 48), none⟩, ⟨some 50, .loadN 2 (.tmp 49), none⟩, ⟨some 51, .addr 1 (.tmp 3), none⟩, ⟨some 52, .load1 (.tmp 51), none⟩, ⟨some 53, .move (.tmp 7), none⟩, ⟨some 54, .indexAddr 2 (.tmp 52) (.tmp 53), none⟩, ⟨some 55, .loadN 2 (.tmp 54), none⟩, ⟨some 56, .call 178 [(.tmp 50), (.tmp 55)], none⟩, ⟨some 45, .move (.tmp 56), none⟩, ⟨some 57, .extract (.tmp 45) 0, none⟩, ⟨some 58, .extract (.tmp 45) 1, none⟩, ⟨some 8, .alloc 65 [(.int .i64 0), (.slice none 0 0)], none⟩, ⟨none, .store 2 (.tmp 8) (.tmp 57), none⟩, ⟨some 9, .move (.tmp 58), none⟩] [(1, 14), (4, 14), (6, 14), (9, 14)]) (.seq (.seq (.region [⟨some 59, .move (.tmp 9), none⟩, ⟨some 60, .un .not (.tmp 59), none⟩]) (.cond (.tmp 60) (.seq (.region [⟨some 61, .loadN 2 (.tmp 2), none⟩, ⟨none, .store 2 (.tmp 4) (.tmp 61), none⟩, ⟨some 5, .move (.const (.bool false)), none⟩]) (.ret)) (.skip))) (.region [⟨some 62, .addr 1 (.tmp 6), none⟩, ⟨some 63, .load1 (.tmp 62), none⟩, ⟨some 64, .loadN 2 (.tmp 8), none⟩, ⟨some 65, .buildSlice 65 2 [(.int .i64 0), (.slice none 0 0)] 1 [(0, 2, (.tmp 64))], none⟩, ⟨some 66, .append 65 2 32 (.tmp 63) (.tmp 65), none⟩, ⟨some 67, .addr 1 (.tmp 6), none⟩, ⟨none, .store 1 (.tmp 67) (.tmp 66), none⟩]))))) (.region [⟨some 68, .bin .add (.tmp 42) (.const (.int .i64 1)), none⟩, ⟨some 42, .move (.tmp 68), none⟩]))))))) (.seq (.region [⟨some 69, .loadN 2 (.tmp 6), none⟩, ⟨none, .store 2 (.tmp 4) (.tmp 69), none⟩, ⟨some 5, .move (.const (.bool true)), none⟩]) (.ret)))))⟩
end Go.Xe.YtalckpkiplhbcaaGreatDoor
end
section
namespace Go.Xe.YtalckpkiplhbcaaGreatDoor
open Go Go.Xe
def x179 : XFun := ⟨129, [.cellN 4 2, .tmp 5], .seq (.region [⟨some 2, .box 26 (.tmp 0), none⟩, ⟨some 4, .alloc 65 [(.int .i64 0), (.slice none 0 0)], none⟩, ⟨some 5, .move (.const (.bool false)), none⟩]) (.seq (.seq (.region [⟨some 15, .move (.tmp 1), none⟩, ⟨some 16, .bin .gtr (.tmp 15) (.const (.int .i64 40)), none⟩]) (.cond (.tmp 16) (.seq (.region [⟨some 17, .build [(.int .i64 0), (.slice none 0 0)] [], none⟩, ⟨none, .store 2 (.tmp 4) (.tmp 17), none⟩, ⟨some 5, .move (.const (.bool false)), none⟩]) (.ret)) (.skip))) (.seq (.seq (.region [⟨some 18, .addr 0 (.tmp 2), none⟩, ⟨some 19, .load1 (.tmp 18), none⟩]) (.block 0 (.seq (.seq (.region [⟨some 21, .bin .eql (.tmp 19) (.const (.int .i64 1)), none⟩, ⟨some 20, .move (.tmp 21), none⟩]) (.cond (.tmp 20) (.skip) (.region [⟨some 22, .bin .eql (.tmp 19) (.const (.int .i64 2)), none⟩, ⟨some 20, .move (.tmp 22), none⟩]))) (.cond (.tmp 20) (.seq (.region [⟨some 23, .addr 0 (.tmp 2), none⟩, ⟨some 24, .load1 (.tmp 23), none⟩, ⟨some 25, .build [(.int .i64 0), (.slice none 0 0)] [(0, 1, (.tmp 24))], none⟩, ⟨some 6, .alloc 65 [(.int .i64 0), (.slice none 0 0)], none⟩, ⟨none, .store 2 (.tmp 6) (.tmp 25), none⟩]) (.seq (.regionD [⟨some 26, .loadN 2 (.tmp 6), none⟩, ⟨some 27, .loadN 2 (.tmp 6), none⟩, ⟨some 28, .loadN 3 (.tmp 2), none⟩, ⟨some 29, .call 62 [(.tmp 27), (.tmp 28)], none⟩, ⟨none, .store 2 (.tmp 4) (.tmp 26), none⟩, ⟨some 5, .move (.tmp 29), none⟩] [(0, 3)]) (.ret))) (.seq (.region [⟨some 31, .bin .eql (.tmp 19) (.const (.int .i64 3)), none⟩, ⟨some 30, .move (.tmp 31), none⟩]) (.cond (.tmp 30) (.seq (.region [⟨some 32, .addr 0 (.tmp 2), none⟩, ⟨some 33, .load1 (.tmp 32), none⟩, ⟨some 34, .build [(.int .i64 0), (.slice none 0 0)] [(0, 1, (.tmp 33))], none⟩, ⟨some 7, .alloc 65 [(.int .i64 0), (.slice none 0 0)], none⟩, ⟨none, .store 2 (.tmp 7) (.tmp 34), none⟩]) (.seq (.seq (.region [⟨some 8, .move (.const (.int .i64 0)), none⟩]) (.block 1 (.loop (.seq (.seq (.region [⟨some 35, .move (.tmp 8), none⟩, ⟨some 36, .addr 2 (.tmp 2), none⟩, ⟨some 37, .load1 (.tmp 36), none⟩, ⟨some 38, .lenSlice (.tmp 37), none⟩, ⟨some 39, .bin .lss (.tmp 35) (.tmp 38), none⟩]) (.cond (.tmp 39) (.skip) (.exit 1))) (.seq (.block 2 (.seq (.region [⟨some 43, .addr 2 (.tmp 2), none⟩, ⟨some 44, .load1 (.tmp 43), none⟩, ⟨some 45, .move (.tmp 8), none⟩, ⟨some 46, .indexAddr 3 (.tmp 44) (.tmp 45), none⟩, ⟨some 47, .loadN 3 (.tmp 46), none⟩, ⟨some 48, .move (.tmp 1), none⟩, ⟨some 49, .bin .add (.tmp 48) (.const (.int .i64 1)), none⟩, ⟨some 50, .call 179 [(.tmp 47), (.tmp 49)], none⟩, ⟨some 42, .move (.tmp 50), none⟩, ⟨some 51, .extract (.tmp 42) 0, none⟩, ⟨some 52, .extract (.tmp 42) 1, none⟩, ⟨some 9, .alloc 65 [(.int .i64 0), (.slice none 0 0)], none⟩, ⟨none, .store 2 (.tmp 9) (.tmp 51), none⟩, ⟨some 10, .move (.tmp 52), none⟩]) (.seq (.seq (.region [⟨some 53, .move (.tmp 10), none⟩, ⟨some 54, .un .not (.tmp 53), none⟩]) (.cond (.tmp 54) (.seq (.region [⟨some 55, .build [(.int .i64 0), (.slice none 0 0)] [], none⟩, ⟨none, .store 2 (.tmp 4) (.tmp 55), none⟩, ⟨some 5, .move (.const (.bool false)), none⟩]) (.ret)) (.skip))) (.region [⟨some 56, .addr 1 (.tmp 7), none⟩, ⟨some 57, .load1 (.tmp 56), none⟩, ⟨some 58, .loadN 2 (.tmp 9), none⟩, ⟨some 59, .buildSlice 65 2 [(.int .i64 0), (.slice none 0 0)] 1 [(0, 2, (.tmp 58))], none⟩, ⟨some 60, .append 65 2 32 (.tmp 57) (.tmp 59), none⟩, ⟨some 61, .addr 1 (.tmp 7), none⟩, ⟨none, .store 1 (.tmp 61) (.tmp 60), none⟩])))) (.region [⟨some 40, .move (.tmp 8), none⟩, ⟨some 41, .bin .add (.tmp 40) (.const (.int .i64 1)), none⟩, ⟨some 8, .move (.tmp 41), none⟩])))))) (.seq (.regionD [⟨some 62, .loadN 2 (.tmp 7), none⟩, ⟨some 63, .addr 1 (.tmp 2), none⟩, ⟨some 64, .load1 (.tmp 63), none⟩, ⟨some 65, .bin .eql (.tmp 64) (.const (.int .i64 0)), none⟩, ⟨some 66, .move (.tmp 65), none⟩, ⟨some 67, .addr 2 (.tmp 2), (some (66, true))⟩, ⟨some 68, .load1 (.tmp 67), (some (66, true))⟩, ⟨some 69, .lenSlice (.tmp 68), (some (66, true))⟩, ⟨some 70, .bin .geq (.tmp 69) (.const (.int .i64 2)), (some (66, true))⟩, ⟨some 71, .pick (.tmp 66) (.tmp 70) (.const (.bool false)), none⟩, ⟨some 72, .move (.tmp 71), none⟩, ⟨some 73, .addr 2 (.tmp 2), (some (72, true))⟩, ⟨some 74, .load1 (.tmp 73), (some (72, true))⟩, ⟨some 75, .lenSlice (.tmp 74), (some (72, true))⟩, ⟨some 76, .bin .leq (.tmp 75) (.const (.int .i64 4)), (some (72, true))⟩, ⟨some 77, .pick (.tmp 72) (.tmp 76) (.const (.bool false)), none⟩, ⟨none, .store 2 (.tmp 4) (.tmp 62), none⟩, ⟨some 5, .move (.tmp 77), none⟩] [(12, 16)]) (.ret)))) (.seq (.region [⟨some 79, .bin .eql (.tmp 19) (.const (.int .i64 4)), none⟩, ⟨some 78, .move (.tmp 79), none⟩]) (.cond (.tmp 78) (.seq (.seq (.region [⟨some 80, .addr 1 (.tmp 2), none⟩, ⟨some 81, .load1 (.tmp 80), none⟩, ⟨some 82, .bin .neq (.tmp 81) (.const (.int .i64 0)), none⟩, ⟨some 83, .move (.tmp 82), none⟩, ⟨some 84, .addr 2 (.tmp 2), (some (83, false))⟩, ⟨some 85, .load1 (.tmp 84), (some (83, false))⟩, ⟨some 86, .lenSlice (.tmp 85), (some (83, false))⟩, ⟨some 87, .bin .gtr (.tmp 86) (.const (.int .i64 32)), (some (83, false))⟩, ⟨some 88, .pick (.tmp 83) (.const (.bool true)) (.tmp 87), none⟩, ⟨some 89, .move (.tmp 88), none⟩, ⟨some 90, .move (.tmp 1), (some (89, false))⟩, ⟨some 91, .bin .eql (.tmp 90) (.const (.int .i64 40)), (some (89, false))⟩, ⟨some 92, .pick (.tmp 89) (.const (.bool true)) (.tmp 91), none⟩]) (.cond (.tmp 92) (.seq (.region [⟨some 93, .build [(.int .i64 0), (.slice none 0 0)] [], none⟩, ⟨none, .store 2 (.tmp 4) (.tmp 93), none⟩, ⟨some 5, .move (.const (.bool false)), none⟩]) (.ret)) (.skip))) (.seq (.region [⟨some 94, .build [(.int .i64 0), (.slice none 0 0)] [], none⟩, ⟨some 11, .alloc 65 [(.int .i64 0), (.slice none 0 0)], none⟩, ⟨none, .store 2 (.tmp 11) (.tmp 94), none⟩]) (.seq (.seq (.region [⟨some 12, .move (.const (.int .i64 0)), none⟩]) (.block 3 (.loop (.seq (.seq (.region [⟨some 95, .move (.tmp 12), none⟩, ⟨some 96, .addr 2 (.tmp 2), none⟩, ⟨some 97, .load1 (.tmp 96), none⟩, ⟨some 98, .lenSlice (.tmp 97), none⟩, ⟨some 99, .bin .lss (.tmp 95) (.tmp 98), none⟩]) (.cond (.tmp 99) (.skip) (.exit 3))) (.seq (.block 4 (.seq (.region [⟨some 103, .addr 2 (.tmp 2), none⟩, ⟨some 104, .load1 (.tmp 103), none⟩, ⟨some 105, .move (.tmp 12), none⟩, ⟨some 106, .indexAddr 3 (.tmp 104) (.tmp 105), none⟩, ⟨some 107, .loadN 3 (.tmp 106), none⟩, ⟨some 108, .move (.tmp 1), none⟩, ⟨some 109, .bin .add (.tmp 108) (.const (.int .i64 1)), none⟩, ⟨some 110, .call 179 [(.tmp 107), (.tmp 109)], none⟩, ⟨some 102, .move (.tmp 110), none⟩, ⟨some 111, .extract (.tmp 102) 0, none⟩, ⟨some 112, .extract (.tmp 102) 1, none⟩, ⟨some 13, .alloc 65 [(.int .i64 0), (.slice none 0 0)], none⟩, ⟨none, .store 2 (.tmp 13) (.tmp 111), none⟩, ⟨some 14, .move (.tmp 112), none⟩]) (.seq (.seq (.region [⟨some 113, .move (.tmp 14), none⟩]) (.cond (.tmp 113) (.region [⟨some 115, .loadN 2 (.tmp 11), none⟩, ⟨some 116, .loadN 2 (.tmp 13), none⟩, ⟨some 117, .call 190 [(.tmp 115), (.tmp 116)], none⟩, ⟨some 114, .move (.tmp 117), none⟩, ⟨some 118, .extract (.tmp 114) 0, none⟩, ⟨some 119, .extract (.tmp 114) 1, none⟩, ⟨none, .store 2 (.tmp 11) (.tmp 118), none⟩, ⟨some 14, .move (.tmp 119), none⟩]) (.skip))) (.seq (.region [⟨some 120, .move (.tmp 14), none⟩, ⟨some 121, .un .not (.tmp 120), none⟩]) (.cond (.tmp 121) (.seq (.region [⟨some 122, .build [(.int .i64 0), (.slice none 0 0)] [], none⟩, ⟨none, .store 2 (.tmp 4) (.tmp 122), none⟩, ⟨some 5, .move (.const (.bool false)), none⟩]) (.ret)) (.skip)))))) (.region [⟨some 100, .move (.tmp 12), none⟩, ⟨some 101, .bin .add (.tmp 100) (.const (.int .i64 1)), none⟩, ⟨some 12, .move (.tmp 101), none⟩])))))) (.seq (.region [⟨some 123, .addr 0 (.tmp 2), none⟩, ⟨some 124, .load1 (.tmp 123), none⟩, ⟨some 125, .loadN 2 (.tmp 11), none⟩, ⟨some 126, .buildSlice 65 2 [(.int .i64 0), (.slice none 0 0)] 1 [(0, 2, (.tmp 125))], none⟩, ⟨some 127, .build [(.int .i64 0), (.slice none 0 0)] [(0, 1, (.tmp 124)), (1, 1, (.tmp 126))], none⟩, ⟨none, .store 2 (.tmp 4) (.tmp 127), none⟩, ⟨some 5, .move (.const (.bool true)), none⟩]) (.ret))))) (.skip))))))))) (.seq (.region [⟨some 128, .build [(.int .i64 0), (.slice none 0 0)] [], none⟩, ⟨none, .store 2 (.tmp 4) (.tmp 128), none⟩, ⟨some 5, .move (.const (.bool false)), none⟩]) (.ret))))⟩
def x190 : XFun := ⟨67, [.cellN 4 2, .tmp 5], .seq (.region [⟨some 2, .box 65 (.tmp 0), none⟩, ⟨some 3, .box 65 (.tmp 1), none⟩, ⟨some 4, .alloc 65 [(.int .i64 0), (.slice none 0 0)], none⟩, ⟨some 5, .move (.const (.bool false)), none⟩]) (.seq (.seq (.region [⟨some 10, .addr 0 (.tmp 2), none⟩, ⟨some 11, .load1 (.tmp 10), none⟩, ⟨some 12, .bin .eql (.tmp 11) (.const (.int .i64 0)), none⟩]) (.cond (.tmp 12) (.seq (.region [⟨some 13, .loadN 2 (.tmp 3), none⟩, ⟨none, .store 2 (.tmp 4) (.tmp 13), none⟩, ⟨some 5, .move (.const (.bool true)), none⟩]) (.ret)) (.skip))) (.seq (.seq (.region [⟨some 14, .addr 0 (.tmp 3), none⟩, ⟨some 15, .load1 (.tmp 14), none⟩, ⟨some 16, .bin .eql (.tmp 15) (.const (.int .i64 0)), none⟩]) (.cond (.tmp 16) (.seq (.region [⟨some 17, .loadN 2 (.tmp 2), none⟩, ⟨none, .store 2 (.tmp 4) (.tmp 17), none⟩, ⟨some 5, .move (.const (.bool true)), none⟩]) (.ret)) (.skip))) (.seq (.seq (.region [⟨some 18, .addr 0 (.tmp 2), none⟩, ⟨some 19, .load1 (.tmp 18), none⟩, ⟨some 20, .addr 0 (.tmp 3), none⟩, ⟨some 21, .load1 (.tmp 20), none⟩, ⟨some 22, .bin .neq (.tmp 19) (.tmp 21), none⟩, ⟨some 23, .move (.tmp 22), none⟩, ⟨some 24, .addr 1 (.tmp 2), (some (23, false))⟩, ⟨some 25, .load1 (.tmp 24), (some (23, false))⟩, ⟨some 26, .lenSlice (.tmp 25), (some (23, false))⟩, ⟨some 27, .addr 1 (.tmp 3), (some (23, false))⟩, ⟨some 28, .load1 (.tmp 27), (some (23, false))⟩, ⟨some 29, .lenSlice (.tmp 28), (some (23, false))⟩, ⟨some 30, .bin .neq (.tmp 26) (.tmp 29), (some (23, false))⟩, ⟨some 31, .pick (.tmp 23) (.const (.bool true)) (.tmp 30), none⟩]) (.cond (.tmp 31) (.seq (.region [⟨some 32, .build [(.int .i64 0), (.slice none 0 0)] [], none⟩, ⟨none, .store 2 (.tmp 4) (.tmp 32), none⟩, ⟨some 5, .move (.const (.bool false)), none⟩]) (.ret)) (.skip))) (.seq (.region [⟨some 33, .addr 0 (.tmp 2), none⟩, ⟨some 34, .load1 (.tmp 33), none⟩, ⟨some 35, .build [(.int .i64 0), (.slice none 0 0)] [(0, 1, (.tmp 34))], none⟩, ⟨some 6, .alloc 65 [(.int .i64 0), (.slice none 0 0)], none⟩, ⟨none, .store 2 (.tmp 6) (.tmp 35), none⟩]) (.seq (.seq (.region [⟨some 7, .move (.const (.int .i64 0)), none⟩]) (.block 0 (.loop (.seq (.seq (.region [⟨some 36, .move (.tmp 7), none⟩, ⟨some 37, .addr 1 (.tmp 2), none⟩, ⟨some 38, .load1 (.tmp 37), none⟩, ⟨some 39, .lenSlice (.tmp 38), none⟩, ⟨some 40, .bin .lss (.tmp 36) (.tmp 39), none⟩]) (.cond (.tmp 40) (.skip) (.exit 0))) (.seq (.block 1 (.seq (.regionD [⟨some 44, .addr 1 (.tmp 2), none⟩, ⟨some 45, .load1 (.tmp 44), none⟩, ⟨some 46, .move (.tmp 7), none⟩, ⟨some 47, .indexAddr 2 (.tmp 45) (.tmp 46), none⟩, ⟨some 48, .loadN 2 (.tmp 47), none⟩, ⟨some 49, .addr 1 (.tmp 3), none⟩, ⟨some 50, .load1 (.tmp 49), none⟩, ⟨some 51, .move (.tmp 7), none⟩, ⟨some 52, .indexAddr 2 (.tmp 50) (.tmp 51), none⟩, ⟨some 53, .loadN 2 (.tmp 52), none⟩, ⟨some 54, .call 190 [(.tmp 48), (.tmp 53)], none⟩, ⟨some 43, .move (.tmp 54), none⟩, ⟨some 55, .extract (.tmp 43) 0, none⟩, ⟨some 56, .extract (.tmp 43) 1, none⟩, ⟨some 8, .alloc 65 [(.int .i64 0), (.slice none 0 0)], none⟩, ⟨none, .store 2 (.tmp 8) (.tmp 55), none⟩, ⟨some 9, .move (.tmp 56), none⟩] [(1, 14), (4, 14), (6, 14), (9, 14)]) (.seq (.seq (.region [⟨some 57, .move (.tmp 9), none⟩, ⟨some 58, .un .not (.tmp 57), none⟩]) (.cond (.tmp 58) (.seq (.region [⟨some 59, .build [(.int .i64 0), (.slice none 0 0)] [], none⟩, ⟨none, .store 2 (.tmp 4) (.tmp 59), none⟩, ⟨some 5, .move (.const (.bool false)), none⟩]) (.ret)) (.skip))) (.region [⟨some 60, .addr 1 (.tmp 6), none⟩, ⟨some 61, .load1 (.tmp 60), none⟩, ⟨some 62, .loadN 2 (.tmp 8), none⟩, ⟨some 63, .buildSlice 65 2 [(.int .i64 0), (.slice none 0 0)] 1 [(0, 2, (.tmp 62))], none⟩, ⟨some 64, .append 65 2 32 (.tmp 61) (.tmp 63), none⟩, ⟨some 65, .addr 1 (.tmp 6), none⟩, ⟨none, .store 1 (.tmp 65) (.tmp 64), none⟩])))) (.region [⟨some 41, .move (.tmp 7), none⟩, ⟨some 42, .bin .add (.tmp 41) (.const (.int .i64 1)), none⟩, ⟨some 7, .move (.tmp 42), none⟩])))))) (.seq (.region [⟨some 66, .loadN 2 (.tmp 6), none⟩, ⟨none, .store 2 (.tmp 4) (.tmp 66), none⟩, ⟨some 5, .move (.const (.bool true)), none⟩]) (.ret)))))))⟩
end Go.Xe.YtalckpkiplhbcaaGreatDoor
end
section
namespace Go.Xe.YtalckpkiplhbcaaGreatDoor
open Go Go.Xe Go.Proofs
def glb : Glb := ⟨fun i => Nat.beq i 0, goodW Tryz.prog⟩
def glo : Glb := ⟨fun _ => false, goodW Tryz.prog⟩
theorem d3 : compFun Tryz.prog glo Tryz.f3 = some x3 := by kernel_rfl
theorem d6 : compFun Tryz.prog glo Tryz.f6 = some x6 := by kernel_rfl
theorem d7 : compFun Tryz.prog glo Tryz.f7 = some x7 := by kernel_rfl
theorem d9 : compFun Tryz.prog glo Tryz.f9 = some x9 := by kernel_rfl
theorem d10 : compFun Tryz.prog glo Tryz.f10 = some x10 := by kernel_rfl
theorem d11 : compFun Tryz.prog glo Tryz.f11 = some x11 := by kernel_rfl
theorem d12 : compFun Tryz.prog glo Tryz.f12 = some x12 := by kernel_rfl
theorem d23 : compFun Tryz.prog glo Tryz.f23 = some x23 := by kernel_rfl
theorem d24 : compFun Tryz.prog glo Tryz.f24 = some x24 := by kernel_rfl
theorem d25 : compFun Tryz.prog glo Tryz.f25 = some x25 := by kernel_rfl
theorem d28 : compFun Tryz.prog glo Tryz.f28 = some x28 := by kernel_rfl
theorem d29 : compFun Tryz.prog glo Tryz.f29 = some x29 := by kernel_rfl
theorem d30 : compFun Tryz.prog glo Tryz.f30 = some x30 := by kernel_rfl
theorem d31 : compFun Tryz.prog glo Tryz.f31 = some x31 := by kernel_rfl
theorem d32 : compFun Tryz.prog glo Tryz.f32 = some x32 := by kernel_rfl
theorem d33 : compFun Tryz.prog glo Tryz.f33 = some x33 := by kernel_rfl
theorem d34 : compFun Tryz.prog glo Tryz.f34 = some x34 := by kernel_rfl
theorem d45 : compFun Tryz.prog glo Tryz.f45 = some x45 := by kernel_rfl
theorem d47 : compFun Tryz.prog glo Tryz.f47 = some x47 := by kernel_rfl
theorem d56 : compFun Tryz.prog glo Tryz.f56 = some x56 := by kernel_rfl
theorem d57 : compFun Tryz.prog glo Tryz.f57 = some x57 := by kernel_rfl
theorem d58 : compFun Tryz.prog glo Tryz.f58 = some x58 := by kernel_rfl
theorem d59 : compFun Tryz.prog glo Tryz.f59 = some x59 := by kernel_rfl
theorem d60 : compFun Tryz.prog glo Tryz.f60 = some x60 := by kernel_rfl
theorem d61 : compFun Tryz.prog glo Tryz.f61 = some x61 := by kernel_rfl
theorem d62 : compFun Tryz.prog glo Tryz.f62 = some x62 := by kernel_rfl
theorem d63 : compFun Tryz.prog glo Tryz.f63 = some x63 := by kernel_rfl
theorem d95 : compFun Tryz.prog glo Tryz.f95 = some x95 := by kernel_rfl
theorem d96 : compFun Tryz.prog glo Tryz.f96 = some x96 := by kernel_rfl
theorem d97 : compFun Tryz.prog glo Tryz.f97 = some x97 := by kernel_rfl
theorem d98 : compFun Tryz.prog glo Tryz.f98 = some x98 := by kernel_rfl
theorem d99 : compFun Tryz.prog glo Tryz.f99 = some x99 := by kernel_rfl
theorem d100 : compFun Tryz.prog glo Tryz.f100 = some x100 := by kernel_rfl
theorem d101 : compFun Tryz.prog glo Tryz.f101 = some x101 := by kernel_rfl
theorem d102 : compFun Tryz.prog glo Tryz.f102 = some x102 := by kernel_rfl
theorem d103 : compFun Tryz.prog glo Tryz.f103 = some x103 := by kernel_rfl
theorem d104 : compFun Tryz.prog glo Tryz.f104 = some x104 := by kernel_rfl
theorem d105 : compFun Tryz.prog glo Tryz.f105 = some x105 := by kernel_rfl
theorem d149 : compFun Tryz.prog glo Tryz.f149 = some x149 := by kernel_rfl
theorem d150 : compFun Tryz.prog glo Tryz.f150 = some x150 := by kernel_rfl
theorem d151 : compFun Tryz.prog glo Tryz.f151 = some x151 := by kernel_rfl
theorem d152 : compFun Tryz.prog glo Tryz.f152 = some x152 := by kernel_rfl
theorem d153 : compFun Tryz.prog glo Tryz.f153 = some x153 := by kernel_rfl
theorem d154 : compFun Tryz.prog glo Tryz.f154 = some x154 := by kernel_rfl
theorem d155 : compFun Tryz.prog glo Tryz.f155 = some x155 := by kernel_rfl
theorem d156 : compFun Tryz.prog glo Tryz.f156 = some x156 := by kernel_rfl
theorem d157 : compFun Tryz.prog glo Tryz.f157 = some x157 := by kernel_rfl
theorem d178 : compFun Tryz.prog glo Tryz.f178 = some x178 := by kernel_rfl
theorem d179 : compFun Tryz.prog glo Tryz.f179 = some x179 := by kernel_rfl
theorem d190 : compFun Tryz.prog glo Tryz.f190 = some x190 := by kernel_rfl
end Go.Xe.YtalckpkiplhbcaaGreatDoor
end
section
namespace Go.Xe
open Go
set_option linter.unusedVariables false
set_option linter.unusedSimpArgs false
inductive Rdx (P : Program) (g : Hp) {H : Type} : TypeId → List Value → DataW H → Prop
  | bool {t : TypeId} (b : Bool) : P.underlying t = some .bool → Rdx P g t [.bool b] (.lit (.bool b))
  | int {t : TypeId} {k : IntKind} (n : Int) : P.underlying t = some (.int k) → (Lit.int k n).wf = true → Rdx P g t [.int k n] (.lit (.int k n))
  | str {t : TypeId} (s : ByteArray) : P.underlying t = some .string → s.size ≤ maxLen → Rdx P g t [.string s] (.lit (.string s.data.toList))
  | nil {t e : TypeId} : P.underlying t = some (.slice e) → Rdx P g t [.slice none 0 0] .nil
  | slice {t e : TypeId} (id len cap : Nat) (ds sp : List (DataW H)) (C : Nat → List Value) : P.underlying t = some (.slice e) → ds.length = len → len ≤ cap → cap ≤ maxLen →
    (∀ (i : Nat) (d : DataW H), ds[i]? = some d → loadList g ⟨id, i * P.cellsOf e, none⟩ (P.cellsOf e) = some (C i)) → (∀ (i : Nat) (d : DataW H), ds[i]? = some d → Rdx P g e (C i) d) → Rdx P g t [.slice (some ⟨id, 0, none⟩) len cap] (.slice ds sp)
  | struct {t : TypeId} {fs : Array Field} (cs : List Value) (ds : List (DataW H)) : P.underlying t = some (.struct fs) → cs.length = P.cellsOf t → ds.length = fs.size →
    (∀ (i : Nat) (f : Field) (d : DataW H), fs[i]? = some f → ds[i]? = some d → Rdx P g f.type ((cs.drop f.offset).take (P.cellsOf f.type)) d) → Rdx P g t cs (.agg ds)
theorem loadList_mono {g g' : Hp} (h : ∀ k o, g k = some o → g' k = some o) {a : Addr} {n : Nat} {l : List Value} (hl : loadList g a n = some l) : loadList g' a n = some l := by
  obtain ⟨i, o, ver, vs, e, ro, rfl, hg, hle, rfl⟩ := loadList_some hl
  simp only [loadList, h _ _ hg]
  have : Nat.ble (o + n) vs.length = true := Nat.ble_eq_true_of_le hle
  rw [this]
theorem Rdx.mono {P : Program} {g g' : Hp} {H : Type} (h : ∀ k o, g k = some o → g' k = some o) {t : TypeId} {cs : List Value} {d : DataW H} (r : Rdx P g t cs d) : Rdx P g' t cs d := by
  induction r with
  | bool b ht => exact .bool b ht
  | int n ht hw => exact .int n ht hw
  | str s ht hs => exact .str s ht hs
  | nil ht => exact .nil ht
  | slice id len cap ds sp C ht hl hc hm h1 h2 ih => exact .slice id len cap ds sp C ht hl hc hm (fun i d hd => loadList_mono h (h1 i d hd)) ih
  | struct cs ds ht hl hn h2 ih => exact .struct cs ds ht hl hn ih
abbrev Lst := List (AObj × (Nat × Nat × Nat))
def gL (L : Lst) : Hp := fun k => (L[k]?).map (·.1)
def φL (L : Lst) : Loc := fun k => (L[k]?).map (·.2)
def ExtL (L L' : Lst) : Prop := ∃ M, L' = L ++ M
theorem ExtL.refl (L : Lst) : ExtL L L := ⟨[], by simp⟩
theorem ExtL.trans {L L' L'' : Lst} (a : ExtL L L') (b : ExtL L' L'') : ExtL L L'' := by
  obtain ⟨M, rfl⟩ := a; obtain ⟨N, rfl⟩ := b; exact ⟨M ++ N, by simp⟩
theorem ExtL.get {L L' : Lst} (h : ExtL L L') {k : Nat} {x : AObj × (Nat × Nat × Nat)} (hk : L[k]? = some x) : L'[k]? = some x := by
  obtain ⟨M, rfl⟩ := h
  rw [List.getElem?_append_left (List.getElem?_eq_some_iff.1 hk).1]; exact hk
theorem ExtL.g {L L' : Lst} (h : ExtL L L') : ∀ k o, gL L k = some o → gL L' k = some o := fun k o e => by
  unfold gL at e ⊢
  cases hk : L[k]? with
  | none => rw [hk] at e; cases e
  | some x => rw [hk] at e; rw [h.get hk]; exact e
theorem ExtL.φ {L L' : Lst} (h : ExtL L L') : (φL L).le (φL L') := fun k o e => by
  unfold φL at e ⊢
  cases hk : L[k]? with
  | none => rw [hk] at e; cases e
  | some x => rw [hk] at e; rw [h.get hk]; exact e
def LOk (w : World) (L : Lst) : Prop := ∀ (k : Nat) (o : AObj) (b d t : Nat), L[k]? = some (o, (b, d, t)) → o.body.isRo = true ∧ ∃ ob, w.heap[b]? = some ob ∧ ORel (φL L) d t o.body ob
theorem LOk.nil (w : World) : LOk w [] := fun k o b d t h => by simp at h
section
variable {H : Type} {enc : TypeId × Value → H} {P : Program} {w : World}
def Lay (P : Program) (w : World) (t : TypeId) (cs : List Value) (d : DataW H) : Prop :=
  ∀ L, LOk w L → ∃ L' : Lst, ∃ cs' : List Value, ExtL L L' ∧ LOk w L' ∧ VRels (φL L') cs' cs ∧ ones cs' = true ∧ Rdx P (gL L') t cs' d
theorem lay_many (t : TypeId) {n : Nat} {cs : Nat → List Value} {D : Nat → DataW H} (h : ∀ i, i < n → Lay P w t (cs i) (D i)) : ∀ L, LOk w L →
    ∃ L' : Lst, ∃ C : Nat → List Value, ExtL L L' ∧ LOk w L' ∧ ∀ i, i < n → VRels (φL L') (C i) (cs i) ∧ ones (C i) = true ∧ Rdx P (gL L') t (C i) (D i) := by
  induction n with
  | zero => intro L hL; exact ⟨L, fun _ => [], ExtL.refl L, hL, fun i hi => by omega⟩
  | succ n ih =>
    intro L hL
    obtain ⟨L1, C, h1, h2, h3⟩ := ih (fun i hi => h i (by omega)) L hL
    obtain ⟨L2, c, k1, k2, k3, k4, k5⟩ := h n (by omega) L1 h2
    refine ⟨L2, fun i => if i = n then c else C i, h1.trans k1, k2, fun i hi => ?_⟩
    by_cases e : i = n
    · subst e; simp only [if_true]; exact ⟨k3, k4, k5⟩
    · simp only [if_neg e]
      obtain ⟨q1, q2, q3⟩ := h3 i (by omega)
      exact ⟨q1.mono k1.φ, q2, q3.mono k1.g⟩
def rowOfCells (C : Nat → List Value) : Nat → List Value
  | 0 => []
  | n + 1 => rowOfCells C n ++ C n
theorem rowOfCells_len {C : Nat → List Value} {c : Nat} : ∀ n, (∀ i, i < n → (C i).length = c) → (rowOfCells C n).length = n * c
  | 0, _ => by simp [rowOfCells]
  | n + 1, h => by rw [rowOfCells, List.length_append, rowOfCells_len n (fun i hi => h i (by omega)), h n (by omega), Nat.succ_mul]
theorem rowOfCells_chunk {C : Nat → List Value} {c : Nat} : ∀ n, (∀ i, i < n → (C i).length = c) → ∀ i, i < n → ((rowOfCells C n).drop (i * c)).take c = C i
  | 0, _, i, h => by omega
  | n + 1, hl, i, hi => by
    have hn := rowOfCells_len n (fun i hi => hl i (by omega))
    rw [rowOfCells]
    by_cases e : i = n
    · subst e
      rw [List.drop_append_of_le_length (by omega), List.drop_of_length_le (by omega), List.nil_append, List.take_of_length_le (by rw [hl i (by omega)]; exact Nat.le_refl _)]
    · have hle : i * c + c ≤ n * c := by have := Nat.mul_le_mul_right c (show i + 1 ≤ n by omega); rw [Nat.succ_mul] at this; exact this
      rw [List.drop_append_of_le_length (by omega), List.take_append_of_le_length (by simp; omega)]
      exact rowOfCells_chunk n (fun i hi => hl i (by omega)) i (by omega)
theorem rowOfCells_rel {φ : Loc} {C D : Nat → List Value} : ∀ n, (∀ i, i < n → VRels φ (C i) (D i)) → VRels φ (rowOfCells C n) (rowOfCells D n)
  | 0, _ => .nil
  | n + 1, h => (rowOfCells_rel n (fun i hi => h i (by omega))).append (h n (by omega))
theorem rowOfCells_ones {C : Nat → List Value} : ∀ n, (∀ i, i < n → ones (C i) = true) → ones (rowOfCells C n) = true
  | 0, _ => rfl
  | n + 1, h => ones_append (rowOfCells_ones n (fun i hi => h i (by omega))) (h n (by omega))
def tiles (P : Program) : Nat → List Field → Option Nat
  | o, [] => some o
  | o, f :: r => match Nat.beq f.offset o with
    | true => tiles P (o + P.cellsOf f.type) r
    | false => none
def plainT (P : Program) (T : List TypeId) (t : TypeId) : Bool :=
  match P.underlying t with
  | some .bool | some (.int _) | some .string => true
  | some (.slice e) => T.contains e && Nat.blt 0 (P.cellsOf e)
  | some (.struct fs) => (fs.toList.all fun f => T.contains f.type) && (match tiles P 0 fs.toList with | some n => Nat.beq n (P.cellsOf t) | none => false)
  | _ => false
theorem lay_one {t : TypeId} {v : Value} {d : DataW H} (hv : ∀ φ, VRel φ v v) (ho : ones [v] = true) (hr : ∀ g, Rdx P g t [v] d) : Lay P w t [v] d :=
  fun L hL => ⟨L, [v], ExtL.refl L, hL, .cons (hv _) .nil, ho, hr _⟩
theorem LOk.push {L : Lst} (hL : LOk w L) {o : AObj} {b d t : Nat} (hro : o.body.isRo = true) {ob : Obj} (hb : w.heap[b]? = some ob) (h : ORel (φL (L ++ [(o, (b, d, t))])) d t o.body ob) : LOk w (L ++ [(o, (b, d, t))]) := by
  intro k o' b' d' t' hk
  by_cases hlt : k < L.length
  · rw [List.getElem?_append_left hlt] at hk
    obtain ⟨h1, ob', h2, h3⟩ := hL k o' b' d' t' hk
    exact ⟨h1, ob', h2, h3.mono (ExtL.φ ⟨[_], rfl⟩)⟩
  · have hke : k = L.length := by
      have := (List.getElem?_eq_some_iff.1 hk).1
      simp at this; omega
    subst hke
    simp at hk
    obtain ⟨rfl, rfl, rfl, rfl⟩ := hk
    exact ⟨hro, ob, hb, h⟩
theorem addr_add_spot {a : Addr} {v : Value} {n : Nat} (h : w.cell? (a.add n) = some v) (hn : n = 0) : a.spot = none := by
  subst hn
  have : a.add 0 = a := by unfold Addr.add; simp
  rw [this] at h
  exact World.cell?_spot h
theorem lay_slice {t e : TypeId} (ht : P.underlying t = some (.slice e)) (hc : 0 < P.cellsOf e) {a : Addr} {len cap : Nat} (hlc : len ≤ cap) (hcm : cap ≤ maxLen) {cs : Nat → List Value} {D : Nat → DataW H} {sp : List (DataW H)}
    (hcells : ∀ i, i < cap → w.cells? 0 (a.add (i * P.cellsOf e)) (P.cellsOf e) = some (cs i)) (hlay : ∀ i, i < cap → Lay P w e (cs i) (D i)) :
    Lay P w t [.slice (some a) len cap] (.slice ((List.range len).map D) sp) := by
  intro L hL
  by_cases h0 : cap = 0
  · obtain rfl : cap = 0 := h0
    obtain rfl : len = 0 := by omega
    refine ⟨L, [.slice (some ⟨0, 0, none⟩) 0 0], ExtL.refl L, hL, .cons (.slice0 _ _ _) .nil, rfl, ?_⟩
    exact .slice 0 0 0 [] sp (fun _ => []) ht rfl (Nat.le_refl _) (Nat.zero_le _) (fun i d h => by simp at h) (fun i d h => by simp at h)
  · obtain ⟨L1, C, h1, h2, h3⟩ := lay_many e (n := cap) hlay L hL
    obtain ⟨c, hcdef⟩ : ∃ c, c = P.cellsOf e := ⟨_, rfl⟩
    rw [← hcdef] at hcells hc
    have hcell := fun i hi => World.cells?_some (hcells i hi)
    have hlenC : ∀ i, i < cap → (C i).length = c := fun i hi => by rw [← (h3 i hi).1.length]; exact (hcell i hi).2.1
    have hlenD : ∀ i, i < cap → (cs i).length = c := fun i hi => (hcell i hi).2.1
    have hfirst : ∃ v, w.cell? (a.add 0) = some v := by
      have := (hcell 0 (by omega)).2.2 0 hc
      rw [Nat.zero_mul, Deep.add_add, List.getElem?_eq_getElem (by rw [hlenD 0 (by omega)]; exact hc)] at this
      exact ⟨_, this⟩
    obtain ⟨v0, hv0⟩ := hfirst
    have hspot := addr_add_spot hv0 rfl
    obtain ⟨b, off, spot⟩ := a
    simp only at hspot
    subst hspot
    have hblk : ∃ cc e' fr, w.heap[b]? = some (.cells cc e' fr) := by
      rw [add_none] at hv0
      unfold World.cell? at hv0
      simp only at hv0
      split at hv0
      · rename_i hb; exact ⟨_, _, _, hb⟩
      · cases hv0
    obtain ⟨cc, e', fr, hb⟩ := hblk
    have hrow : ∀ i, i < cap → ∀ j, j < c → cc[off + (i * c + j)]? = (cs i)[j]? := fun i hi j hj => by
      have := (hcell i hi).2.2 j hj
      rw [Deep.add_add, add_none, cell_of_blk hb] at this
      exact this
    have hpiece : ∀ m, m ≤ cap → (cc.toList.drop off).take (m * c) = rowOfCells cs m := by
      intro m
      induction m with
      | zero => intro _; simp [rowOfCells]
      | succ m ih =>
        intro hm
        rw [rowOfCells, ← ih (by omega), Nat.succ_mul, List.take_add]
        congr 1
        apply List.ext_getElem?
        intro j
        by_cases hj : j < c
        · rw [List.getElem?_take, if_pos hj, List.getElem?_drop, List.getElem?_drop, Array.getElem?_toList, ← hrow m (by omega) j hj]
        · rw [List.getElem?_take, if_neg hj, List.getElem?_eq_none (by rw [hlenD m (by omega)]; omega)]
    have hrl := rowOfCells_len (C := C) cap hlenC
    let ob : AObj := ⟨0, .cells (rowOfCells C cap) e' true⟩
    have hext : ExtL L1 (L1 ++ [(ob, (b, off, cc.size))]) := ⟨_, rfl⟩
    have hφ : φL (L1 ++ [(ob, (b, off, cc.size))]) L1.length = some (b, off, cc.size) := by simp [φL]
    have hg : gL (L1 ++ [(ob, (b, off, cc.size))]) L1.length = some ob := by simp [gL]
    refine ⟨L1 ++ [(ob, (b, off, cc.size))], [.slice (some ⟨L1.length, 0, none⟩) len cap], h1.trans hext, ?_, ?_, rfl, ?_⟩
    · refine h2.push rfl hb ⟨rfl, rfl, (fun h => by cases h), rowOfCells_ones cap (fun i hi => (h3 i hi).2.1), ?_⟩
      rw [hrl, hpiece cap (Nat.le_refl _)]
      exact (rowOfCells_rel cap fun i hi => (h3 i hi).1).mono hext.φ
    · refine .cons ?_ .nil
      have := VRel.slice (o := 0) len cap hφ hlc (by unfold capU; unfold maxLen at hcm; omega)
      exact this
    · refine .slice L1.length len cap _ sp C ht (by simp) hlc hcm (fun i d hd => ?_) (fun i d hd => ?_)
      · have hi : i < len := by
          have := (List.getElem?_eq_some_iff.1 hd).1; simpa using this
        rw [← hcdef]
        simp only [loadList, hg, ob]
        have hle : i * c + c ≤ (rowOfCells C cap).length := by
          rw [hrl]
          have := Nat.mul_le_mul_right c (show i + 1 ≤ cap by omega); rw [Nat.succ_mul] at this; exact this
        have hbl : Nat.ble (i * c + c) (rowOfCells C cap).length = true := Nat.ble_eq_true_of_le hle
        rw [hbl]
        simp only
        rw [rowOfCells_chunk cap hlenC i (by omega)]
      · have hi : i < len := by
          have := (List.getElem?_eq_some_iff.1 hd).1; simpa using this
        have hdi : d = D i := by
          rw [List.getElem?_map, List.getElem?_range hi] at hd
          simpa using hd.symm
        rw [hdi]
        exact (h3 i (by omega)).2.2.mono hext.g
end
end Go.Xe
end
section
namespace Go.Xe
open Go
set_option linter.unusedVariables false
set_option linter.unusedSimpArgs false
section
variable {H : Type} {enc : TypeId × Value → H} {P : Program} {w : World}
theorem lay_fields (cs : List Value) : ∀ (fs : List Field) (o e : Nat) (ds : List (DataW H)), tiles P o fs = some e → e ≤ cs.length → ds.length = fs.length →
    (∀ (i : Nat) (f : Field) (d : DataW H), fs[i]? = some f → ds[i]? = some d → Lay P w f.type ((cs.drop f.offset).take (P.cellsOf f.type)) d) →
    ∀ L, LOk w L → ∃ L' : Lst, ∃ C : List Value, ExtL L L' ∧ LOk w L' ∧ VRels (φL L') C ((cs.drop o).take (e - o)) ∧ o ≤ e ∧ ones C = true ∧ C.length = e - o ∧
      ∀ (i : Nat) (f : Field) (d : DataW H), fs[i]? = some f → ds[i]? = some d → o ≤ f.offset ∧ Rdx P (gL L') f.type ((C.drop (f.offset - o)).take (P.cellsOf f.type)) d
  | [], o, e, ds, ht, he, hl, h, L, hL => by
    simp only [tiles] at ht; cases ht
    refine ⟨L, [], ExtL.refl L, hL, by simp; exact .nil, Nat.le_refl _, rfl, by simp, fun i f d hf => by simp at hf⟩
  | f :: fs, o, e, ds, ht, he, hl, h, L, hL => by
    cases ds with
    | nil => simp at hl
    | cons d ds =>
      simp only [tiles] at ht
      split at ht
      · rename_i hb
        rw [beqNat] at hb
        have ho := of_decide_eq_true hb
        obtain ⟨L1, c, k1, k2, k3, k4, k5⟩ := h 0 f d rfl rfl L hL
        obtain ⟨L2, C, q1, q2, q3, q4, q5, q6, q7⟩ := lay_fields cs fs (o + P.cellsOf f.type) e ds ht he (by simpa using hl) (fun i f' d' hf hd => h (i + 1) f' d' (by simpa using hf) (by simpa using hd)) L1 k2
        have hclen : c.length = P.cellsOf f.type := by
          rw [← k3.length, List.length_take, List.length_drop]; omega
        have hsplit : (cs.drop o).take (e - o) = (cs.drop f.offset).take (P.cellsOf f.type) ++ (cs.drop (o + P.cellsOf f.type)).take (e - (o + P.cellsOf f.type)) := by
          rw [ho, show e - o = P.cellsOf f.type + (e - (o + P.cellsOf f.type)) by omega, List.take_add, List.drop_drop]
        refine ⟨L2, c ++ C, k1.trans q1, q2, ?_, by omega, ones_append k4 q5, by rw [List.length_append, hclen, q6]; omega, fun i f' d' hf hd => ?_⟩
        · rw [hsplit]; exact (k3.mono q1.φ).append q3
        · cases i with
          | zero =>
            simp at hf hd; subst hf; subst hd
            refine ⟨by omega, ?_⟩
            rw [ho, Nat.sub_self, List.drop_zero, List.take_append_of_le_length (by omega), List.take_of_length_le (by omega)]
            exact k5.mono q1.g
          | succ i =>
            obtain ⟨p1, p2⟩ := q7 i f' d' (by simpa using hf) (by simpa using hd)
            refine ⟨by omega, ?_⟩
            have : f'.offset - o = P.cellsOf f.type + (f'.offset - (o + P.cellsOf f.type)) := by omega
            rw [this, ← hclen, List.drop_append]
            rw [show c.length + (f'.offset - (o + c.length)) - c.length = f'.offset - (o + c.length) by omega]
            have hd0 : c.drop (c.length + (f'.offset - (o + c.length))) = [] := List.drop_of_length_le (by omega)
            rw [hd0, List.nil_append, hclen]
            exact p2
      · cases ht
theorem lay_struct {t : TypeId} {fs : Array Field} (ht : P.underlying t = some (.struct fs)) (htl : tiles P 0 fs.toList = some (P.cellsOf t)) {cs : List Value} (hl : cs.length = P.cellsOf t) {ds : List (DataW H)} (hn : ds.length = fs.size)
    (h : ∀ (i : Nat) (f : Field) (d : DataW H), fs[i]? = some f → ds[i]? = some d → Lay P w f.type ((cs.drop f.offset).take (P.cellsOf f.type)) d) : Lay P w t cs (.agg ds) := by
  intro L hL
  obtain ⟨L', C, h1, h2, h3, _, h4, h5, h6⟩ := lay_fields (P := P) (w := w) cs fs.toList 0 (P.cellsOf t) ds htl (by omega) (by simpa using hn) (fun i f d hf hd => h i f d (by simpa using hf) hd) L hL
  rw [List.drop_zero, Nat.sub_zero, List.take_of_length_le (by omega)] at h3
  refine ⟨L', C, h1, h2, h3, h4, .struct C ds ht (by omega) hn fun i f d hf hd => ?_⟩
  have := (h6 i f d (by simpa using hf) hd).2
  rwa [Nat.sub_zero] at this
theorem lay_all (T : List TypeId) (hT : T.all (plainT P T) = true) : ∀ (fuel : Nat) (t : TypeId), T.contains t = true → ∀ (cs : List Value) (x : DataW H × List MemPlace), DataW.trod enc P w 0 (fun _ => true) true fuel t cs = some x → Lay P w t cs x.1 := by
  intro fuel
  induction fuel using Nat.strongRecOn with
  | _ fuel ih =>
    intro t htT cs x h
    have hp := List.all_eq_true.1 hT t (by simpa using htT)
    unfold plainT at hp
    split at hp
    · rename_i hu
      obtain ⟨b, rfl, rfl⟩ := DataW.trod_bool hu h
      exact lay_one (fun φ => .bool b) rfl (fun g => .bool b hu)
    · rename_i k hu
      obtain ⟨n, rfl, rfl, hw⟩ := DataW.trod_int hu h
      exact lay_one (fun φ => .int k n) rfl (fun g => .int n hu hw)
    · rename_i hu
      obtain ⟨s, rfl, rfl, hs⟩ := DataW.trod_string hu h
      exact lay_one (fun φ => .string s) rfl (fun g => .str s hu hs)
    · rename_i e hu
      simp only [Bool.and_eq_true, bltNat, decide_eq_true_eq] at hp
      rcases DataW.trod_slice hu h with ⟨rfl, rfl⟩ | ⟨a, len, cap, elems, rest, n, hfu, rfl, rfl, hb, hlc, hm, hlen, hel, hsp, hns⟩
      · exact fun L hL => ⟨L, [.slice none 0 0], ExtL.refl L, hL, .cons .sliceN .nil, rfl, .nil hu⟩
      · obtain ⟨hrl, hrest⟩ := hsp rfl
        have key : ∀ i, i < cap → (w.cells? 0 (a.add (i * P.cellsOf e)) (P.cellsOf e)).bind (DataW.trod enc P w 0 (fun _ => true) true n e) = (elems ++ rest)[i]? := by
          intro i hi
          by_cases hil : i < len
          · rw [hel i hil, List.getElem?_append_left (by omega)]
          · have := hrest (i - len) (by omega)
            rw [show len + (i - len) = i by omega] at this
            rw [this, List.getElem?_append_right (by omega), hlen]
        have hall : (elems ++ rest).length = cap := by rw [List.length_append, hlen, hrl]; omega
        have hD : ∀ i, i < cap → ∃ cs', w.cells? 0 (a.add (i * P.cellsOf e)) (P.cellsOf e) = some cs' ∧ DataW.trod enc P w 0 (fun _ => true) true n e cs' = some ((elems ++ rest).getD i (.nil, [])) := fun i hi => by
          have := key i hi
          rw [List.getElem?_eq_getElem (by omega)] at this
          obtain ⟨cs', h1, h2⟩ := Option.bind_eq_some_iff.1 this
          refine ⟨cs', h1, ?_⟩
          rw [h2]
          simp [List.getD, List.getElem?_eq_getElem (show i < (elems ++ rest).length by omega)]
        obtain ⟨cs, hcs⟩ := Deep.choose_lt (α := List Value) hD
        have hl2 := lay_slice (P := P) (w := w) hu hp.2 (a := a) (len := len) (cap := cap) hlc hm (cs := cs) (D := fun i => ((elems ++ rest).getD i (.nil, [])).1) (sp := rest.map (·.1)) (fun i hi => (hcs i hi).1)
          (fun i hi => ih n (by omega) e hp.1 _ _ (hcs i hi).2)
        have he : elems.map (·.1) = (List.range len).map fun i => ((elems ++ rest).getD i (.nil, [])).1 := by
          apply List.ext_getElem?
          intro i
          by_cases hi : i < len
          · rw [List.getElem?_map, List.getElem?_map, List.getElem?_range hi, List.getElem?_eq_getElem (by omega)]
            simp [List.getD, List.getElem?_append_left (show i < elems.length by omega), List.getElem?_eq_getElem (show i < elems.length by omega)]
          · rw [List.getElem?_eq_none (by simp; omega), List.getElem?_eq_none (by simp; omega)]
        rw [he]
        exact hl2
    · rename_i fs hu
      simp only [Bool.and_eq_true, List.all_eq_true] at hp
      obtain ⟨xs, n, rfl, rfl, hl, hn, hf⟩ := DataW.trod_struct hu h
      have htl : tiles P 0 fs.toList = some (P.cellsOf t) := by
        have h2 := hp.2
        split at h2
        · rename_i m hm; rw [beqNat] at h2; rw [hm, of_decide_eq_true h2]
        · cases h2
      refine lay_struct hu htl hl (by simpa using hn) fun i f d hfi hd => ?_
      have hx := hf i f hfi
      rw [List.getElem?_map] at hd
      cases hxi : xs[i]? with
      | none => rw [hxi] at hd; cases hd
      | some y =>
        rw [hxi] at hd hx
        cases hd
        have hmem : f ∈ fs.toList := by rw [← Array.getElem?_toList] at hfi; exact List.mem_of_getElem? hfi
        exact ih n (Nat.lt_succ_self n) f.type (hp.1 f hmem) _ _ hx
    · cases hp
end
end Go.Xe
end
section
namespace Go.Xe
open Go Go.RowKit
set_option linter.unusedVariables false
set_option linter.unusedSimpArgs false
theorem laid_inv {gl : Glb} (hgl : ∀ i, gl.is i = false) {w : World} (hg : gl.good w w.heap.size) {L : Lst} (hL : LOk w L) : Inv gl w w.heap.size (φL L) ⟨gL L, .nil, L.length⟩ w := by
  have hget : (AS.mk (gL L) .nil L.length).get = gL L := by
    funext k
    simp only [AS.get, Tri.get_nil]
  refine ⟨⟨Nat.le_refl _, fun _ _ => rfl, rfl, rfl, rfl, fun i o h => ?_, fun i j b d d' t t' hi hj hib hjb => ?_⟩, fun i hi => ?_, fun i h => ?_, hg⟩
  · rw [hget] at h
    unfold gL at h
    cases hk : L[i]? with
    | none => rw [hk] at h; cases h
    | some x =>
      rw [hk] at h; cases h
      obtain ⟨o, b, d, t⟩ := x
      obtain ⟨h1, ob, h2, h3⟩ := hL i o b d t hk
      exact ⟨b, d, t, ob, by simp [φL, hk], h2, h3, fun _ => h1⟩
  · left
    rw [hget] at hi
    unfold gL at hi
    cases hk : L[i]? with
    | none => rw [hk] at hi; exact absurd rfl hi
    | some x =>
      obtain ⟨o, b', d2, t2⟩ := x
      obtain ⟨h1, ob, h2, h3⟩ := hL i o b' d2 t2 hk
      simp [φL, hk] at hib
      obtain ⟨rfl, _, _⟩ := hib
      exact (Array.getElem?_eq_some_iff.1 h2).1
  · rw [hget]
    unfold gL
    rw [List.getElem?_eq_none (by exact hi)]
    rfl
  · rw [hgl] at h; cases h
theorem laid_true {P : Program} {gl : Glb} {F : FuncId → Option XFun} {O : FuncId → List Value → Option Value} (hE : Env P gl F O) (hgl : ∀ i, gl.is i = false) {n : Nat} {f : FuncId} {args args' : List Value} {L : Lst} {w : World} (hg : gl.good w w.heap.size)
    (hL : LOk w L) (ha : VRels (φL L) args args') {s' : AS} (h : xcall F O n f args ⟨gL L, .nil, L.length⟩ = some (.ret (.bool true), s')) : Calls P f args'.toArray w fun E w' => E = .returned (.bool true) ∧ Below w.heap.size w w' := by
  obtain ⟨_, hc⟩ := xcall_sound hE n f args _ _ _ h
  refine Calls.mono (hc w w.heap.size (φL L) w args' (laid_inv hgl hg hL) (fun i h1 h2 => ?_) ha) ?_
  · unfold φL
    rw [List.getElem?_eq_none (by exact h1)]
    rfl
  · rintro E w' ⟨ψ, hE', hi, hs⟩
    obtain ⟨v', rfl, hv⟩ := hE'
    cases hv
    exact ⟨rfl, hi.rel.below rfl⟩
structure Ex1 (s s' : AS) : Prop where
  next : s.next ≤ s'.next
  same : ∀ k, k < s.next → s'.get k = s.get k
  dm : Dm s'
theorem Ex1.refl {s : AS} (h : Dm s) : Ex1 s s := ⟨Nat.le_refl _, fun _ _ => rfl, h⟩
theorem Ex1.trans {a b c : AS} (h : Ex1 a b) (k : Ex1 b c) : Ex1 a c := ⟨Nat.le_trans h.next k.next, fun i hi => by rw [k.same i (Nat.lt_of_lt_of_le hi h.next), h.same i hi], k.dm⟩
theorem Ex1.load {a b : AS} (h : Ex1 a b) (hd : Dm a) {ad : Addr} {n : Nat} {l : List Value} (hl : loadList a.get ad n = some l) : loadList b.get ad n = some l := by
  refine loadList_mono (fun k o hk => ?_) hl
  rw [h.same k ?_]
  · exact hk
  · by_cases hlt : k < a.next
    · exact hlt
    · rw [hd k (by omega)] at hk; cases hk
end Go.Xe
end
section
namespace Go.Xe
open Go
set_option linter.unusedVariables false
set_option linter.unusedSimpArgs false
theorem wrap_small (n : Int) (h0 : -9223372036854775808 ≤ n) (h1 : n ≤ 9223372036854775807) : IntKind.i64.wrap n = n := by
  rw [IntKind.wrap_i64]; omega
theorem load_one {g : Hp} {b o : Nat} {ver : Nat} {vs : List Value} {e : TypeId} {ro : Bool} (hg : g b = some ⟨ver, .cells vs e ro⟩) {v : Value} (h : vs[o]? = some v) : loadList g ⟨b, o, none⟩ 1 = some [v] := by
  have hlt := (List.getElem?_eq_some_iff.1 h).1
  simp only [loadList, hg]
  have : Nat.ble (o + 1) vs.length = true := Nat.ble_eq_true_of_le hlt
  rw [this]
  simp only [Option.some.injEq]
  apply List.ext_getElem?
  intro j
  cases j with
  | zero => rw [List.getElem?_take, if_pos (by omega), List.getElem?_drop, Nat.add_zero, h]; rfl
  | succ j => rw [List.getElem?_take, if_neg (by omega)]; rfl
theorem add_lit (b o n : Nat) : (⟨b, o, none⟩ : Addr).add n = ⟨b, o + n, none⟩ := add_none b o n
end Go.Xe
end
section
namespace Go.Xt
open Go Go.Xe
set_option linter.unusedVariables false
inductive Md where
  | fz
  | own (e s : Nat)
  | nl
inductive Pl where
  | tmp (t : Nat)
  | tcell (t o ser : Nat)
  | cell (k o : Nat)
inductive TV where
  | int (k : IntKind) (n : Int)
  | bool (b : Bool)
  | str (s : ByteArray)
  | nilp
  | ptr (k o : Nat)
  | elt (ch : List TV) (o : Nat)
  | via (p : Pl) (c : Nat)
  | vel (p : Pl) (c j o : Nat)
  | bx (ser : Nat) (cells : List TV) (e : TypeId)
  | vpt (t o ser : Nat)
  | sl (m : Md) (chs : List (List TV))
  | ref (k o size n c : Nat)
  | nilm
  | map (k : Nat)
  | nilf
  | func (f : FuncId) (first cap : List TV)
  | nili
  | iface (t : TypeId) (v : TV)
  | agg (l : List TV)
  | tuple (l : List TV)
  | dead
inductive TBody where
  | cells (vs : List TV) (e : TypeId)
  | map (es : List (TV × TV × Nat)) (clock : Nat)
  | iter (s : ByteArray) (pos : Nat)
structure TObj where
  ver : Nat
  body : TBody
abbrev Sto := List (Option TObj)
def Sto.at (σ : Sto) (k : Nat) : Option TObj :=
  match σ[k]? with
  | some (some o) => some o
  | _ => none
def ofV : Value → TV
  | .int k n => .int k n
  | .bool b => .bool b
  | .string s => .str s
  | .pointer none => .nilp
  | .slice none 0 0 => .sl .nl []
  | .map none => .nilm
  | .nilFunc => .nilf
  | .nilIface => .nili
  | .agg ⟨l⟩ => .agg (ofVs l)
  | .tuple ⟨l⟩ => .tuple (ofVs l)
  | _ => .dead
where
  ofVs : List Value → List TV
    | [] => []
    | v :: l => ofV v :: ofVs l
def give : TV → Option TV
  | .sl (.own _ _) c => some (.sl .fz c)
  | .via _ _ => none
  | .vel _ _ _ _ => none
  | .bx _ _ _ => none
  | .vpt _ _ _ => none
  | .dead => none
  | v => some v
def gives : List TV → Option (List TV)
  | [] => some []
  | v :: l => match give v, gives l with
    | some v, some l => some (v :: l)
    | _, _ => none
def isOwn : TV → Bool
  | .sl (.own _ _) _ => true
  | _ => false
def frz : TV → TV
  | .sl (.own _ _) c => .sl .fz c
  | v => v
def below (b : Nat) : TV → Bool
  | .ptr k _ => Nat.blt k b
  | .ref k _ _ _ _ => Nat.blt k b
  | .map k => Nat.blt k b
  | .elt ch _ => belows ch
  | .sl _ chs => belowss chs
  | .func _ x y => belows x && belows y
  | .iface _ v => below b v
  | .agg l => belows l
  | .tuple l => belows l
  | _ => true
where
  belows : List TV → Bool
    | [] => true
    | v :: l => below b v && belows l
  belowss : List (List TV) → Bool
    | [] => true
    | v :: l => belows v && belowss l
def canon : TV → TV
  | .sl (.own _ _) c => .sl .fz c
  | .sl .nl c => .sl .fz c
  | .agg l => .agg (canons l)
  | .tuple l => .tuple (canons l)
  | v => v
where
  canons : List TV → List TV
    | [] => []
    | v :: l => canon v :: canons l
def TV.cells : TV → List TV
  | .agg l => l
  | v => [v]
def onesT : List TV → Bool
  | [] => true
  | .agg _ :: _ => false
  | .tuple _ :: _ => false
  | .dead :: _ => false
  | .bx _ _ _ :: _ => false
  | .vpt _ _ _ :: _ => false
  | _ :: r => onesT r
def tint (op : BinOp) (k : IntKind) (a b : Int) : Option TV :=
  match op with
  | .add => some (.int k (k.wrap (a + b)))
  | .sub => some (.int k (k.wrap (a - b)))
  | .mul => some (.int k (k.wrap (a * b)))
  | .quo => if beqInt b 0 then none else some (.int k (k.wrap (a.tdiv b)))
  | .rem => if beqInt b 0 then none else some (.int k (a.tmod b))
  | .and => some (.int k (k.wrap (BitVec.ofInt k.bits a &&& BitVec.ofInt k.bits b).toNat))
  | .or => some (.int k (k.wrap (BitVec.ofInt k.bits a ||| BitVec.ofInt k.bits b).toNat))
  | .xor => some (.int k (k.wrap (BitVec.ofInt k.bits a ^^^ BitVec.ofInt k.bits b).toNat))
  | .andNot => some (.int k (k.wrap (BitVec.ofInt k.bits a &&& ~~~(BitVec.ofInt k.bits b)).toNat))
  | .eql => some (.bool (beqInt a b))
  | .neq => some (.bool (!(beqInt a b)))
  | .lss => some (.bool (ltInt a b))
  | .leq => some (.bool (leInt a b))
  | .gtr => some (.bool (ltInt b a))
  | .geq => some (.bool (leInt b a))
  | _ => none
def tstr (op : BinOp) (x y : ByteArray) : Option TV :=
  match op with
  | .add => if Nat.ble (x.data.toList.length + y.data.toList.length) 9223372036854775807 then some (.str ⟨(x.data.toList ++ y.data.toList).toArray⟩) else none
  | .eql => some (.bool (beqBytes x.data.toList y.data.toList))
  | .neq => some (.bool (!(beqBytes x.data.toList y.data.toList)))
  | .lss => some (.bool (ltBytes x.data.toList y.data.toList))
  | .leq => some (.bool (ltBytes x.data.toList y.data.toList || beqBytes x.data.toList y.data.toList))
  | .gtr => some (.bool (!(ltBytes x.data.toList y.data.toList || beqBytes x.data.toList y.data.toList)))
  | .geq => some (.bool (!(ltBytes x.data.toList y.data.toList)))
  | _ => none
def tbin (op : BinOp) (x y : TV) : Option TV :=
  match op, x, y with
  | .shl, .int k a, .int _ b => match ltInt b 0 with
    | true => none
    | false => some (.int k (k.wrap (a * 2 ^ (min b.toNat k.bits))))
  | .shr, .int k a, .int _ b => match ltInt b 0 with
    | true => none
    | false => some (.int k (a.fdiv (2 ^ (min b.toNat k.bits))))
  | op, .int k a, .int k' b => match beqKind k k' with
    | true => tint op k a b
    | false => none
  | op, .str a, .str b => tstr op a b
  | _, _, _ => none
def tun (op : UnOp) (x : TV) : Option TV :=
  match op, x with
  | .neg, .int k n => some (.int k (k.wrap (0 - n)))
  | .xor, .int k n => tint .xor k (if k.signed then -1 else k.max) n
  | .not, .bool b => some (.bool !b)
  | _, _ => none
def plainT (σ : Sto) (k o : Nat) : Bool :=
  match σ.at k with
  | some ⟨_, .cells vs _⟩ => Nat.blt o vs.length
  | _ => false
mutual
def teq (σ : Sto) : EqK → TV → TV → Option Bool
  | .int, .int k a, .int k' b => match beqKind k k' with
    | true => some (beqInt a b)
    | false => none
  | .bool, .bool a, .bool b => some (a == b)
  | .str, .str a, .str b => some (beqBytes a.data.toList b.data.toList)
  | .ptr, .nilp, .nilp => some true
  | .ptr, .nilp, .ptr _ _ => some false
  | .ptr, .ptr _ _, .nilp => some false
  | .ptr, .ptr b o, .ptr b' o' =>
    match plainT σ b o && plainT σ b' o' with
    | true => some (Nat.beq b b' && Nat.beq o o')
    | false => none
  | .ifaceNil, .nili, .nili => some true
  | .ifaceNil, .nili, .iface _ _ => some false
  | .ifaceNil, .iface _ _, .nili => some false
  | .sliceNil, .sl .nl _, .sl .nl _ => some true
  | .sliceNil, .sl .fz (_ :: _), .sl .nl _ => some false
  | .sliceNil, .sl .nl _, .sl .fz (_ :: _) => some false
  | .sliceNil, .ref _ _ _ _ _, .sl .nl _ => some false
  | .mapNil, .nilm, .nilm => some true
  | .mapNil, .nilm, .map _ => some false
  | .mapNil, .map _, .nilm => some false
  | .funcNil, .nilf, .nilf => some true
  | .funcNil, .nilf, .func _ _ _ => some false
  | .funcNil, .func _ _ _, .nilf => some false
  | .agg ps, .agg xs, .agg ys => teqs σ ps xs ys
  | _, _, _ => none
def teqs (σ : Sto) : List (Nat × EqK) → List TV → List TV → Option Bool
  | [], _, _ => some true
  | (i, k) :: r, xs, ys =>
    match xs[i]?, ys[i]? with
    | some x, some y => match teq σ k x y with
      | some true => teqs σ r xs ys
      | some false => some false
      | none => none
    | _, _ => none
end
def findT (σ : Sto) (k : EqK) (x : TV) : List (TV × TV × Nat) → Nat → Option (Option (Nat × TV))
  | [], _ => some none
  | e :: es, i => match teq σ k x e.1 with
    | some true => some (some (i, e.2.1))
    | some false => findT σ k x es (i + 1)
    | none => none
def putAt (vs : List TV) (o : Nat) (l : List TV) : List TV := vs.take o ++ l ++ vs.drop (o + l.length)
def fillT (cells : List TV) : List (Nat × Nat × TV) → Option (List TV)
  | [] => some cells
  | (off, size, v) :: r =>
    match give v with
    | some v => match Nat.beq v.cells.length size && Nat.ble (off + size) cells.length with
      | true => fillT (putAt cells off v.cells) r
      | false => none
    | none => none
def chop (s : Nat) : Nat → List TV → List (List TV)
  | 0, _ => []
  | n + 1, l => l.take s :: chop s n (l.drop s)
def repT (z : List TV) : Nat → List TV
  | 0 => []
  | n + 1 => z ++ repT z n
def boundT (x : TV) (y : Nat) : Option Nat :=
  match x with
  | .int _ (.ofNat i) => match Nat.ble i y with
    | true => some i
    | false => none
  | _ => none
def optB (x : Option TV) (y d : Nat) : Option Nat :=
  match x with
  | some v => boundT v y
  | none => some d
def hiB (hi mx : Option TV) (m len : Nat) : Option Nat :=
  match hi with
  | some v => boundT v m
  | none => match mx with
    | none => some len
    | some _ => none
def boundsT (len cap : Nat) (lo hi mx : Option TV) : Option (Nat × Nat × Nat) :=
  match optB mx cap cap with
  | none => none
  | some m => match hiB hi mx m len with
    | none => none
    | some h => match optB lo h 0 with
      | none => none
      | some l => some (l, h, m)
def okSz (s : Nat) (chs : List (List TV)) : Bool := chs.all fun c => Nat.beq c.length s
def intsT : List TV → Option (List (IntKind × Int))
  | [] => some []
  | .int k n :: r => match intsT r with
    | some l => some ((k, n) :: l)
    | none => none
  | _ => none
def bytesT : List (List TV) → Option (List UInt8)
  | [] => some []
  | [.int .u8 (.ofNat n)] :: r => match bytesT r with
    | some l => some (UInt8.ofNat n :: l)
    | none => none
  | _ => none
def Md.app (e s : Nat) : Md → Bool
  | .own e' s' => Nat.beq e' e && Nat.beq s' s
  | .nl => true
  | .fz => false
end Go.Xt
end
section
namespace Go.Xt
open Go Go.Xe
set_option linter.unusedVariables false
structure TDfr where
  f : FuncId
  args : List TV
structure TAct where
  tm : Tri TV
  df : List TDfr
  clk : Nat
def undT : TV := .tuple []
def TAct.ev (a : TAct) : Operand → TV
  | .tmp t => match a.tm.get t with
    | some v => v
    | none => undT
  | .const v => ofV v
  | .global _ => .dead
  | .func f => .func f [] []
def TAct.put (a : TAct) (d : Option Nat) (v : TV) : TAct :=
  match d with
  | some t => ⟨a.tm.set t v, a.df, a.clk⟩
  | none => a
def TAct.tick (a : TAct) : TAct := ⟨a.tm, a.df, a.clk + 1⟩
def frz1 (a : TAct) : Operand → TAct
  | .tmp t => match isOwn (a.ev (.tmp t)) with
    | true => ⟨a.tm.set t (frz (a.ev (.tmp t))), a.df, a.clk + 1⟩
    | false => a
  | _ => a
def frzs (a : TAct) : List Operand → TAct
  | [] => a
  | x :: l => frzs (frz1 a x) l
def taken (a : TAct) : Operand → TAct
  | .tmp t => match isOwn (a.ev (.tmp t)) with
    | true => ⟨a.tm.set t .dead, a.df, a.clk + 1⟩
    | false => a
  | _ => a
def ownChs : TV → Option (List (List TV))
  | .sl (.own _ _) c => some c
  | _ => none
def reSl (chs : List (List TV)) : TV → TV
  | .sl m _ => .sl m chs
  | v => v
def boxAt (a : TAct) (t ser : Nat) : Option (List TV × TypeId) :=
  match a.ev (.tmp t) with
  | .bx s cs e => match Nat.beq s ser with
    | true => some (cs, e)
    | false => none
  | _ => none
def boxPut (a : TAct) (t ser : Nat) (cs : List TV) (e : TypeId) : TAct := ⟨a.tm.set t (.bx ser cs e), a.df, a.clk + 1⟩
def TAct.at (a : TAct) (x : Operand) : TV :=
  match a.ev x with
  | .bx s cs e => match x with
    | .tmp t => .vpt t 0 s
    | _ => .bx s cs e
  | v => v
def plGet (a : TAct) (σ : Sto) : Pl → Option (List (List TV))
  | .tmp t => ownChs (a.ev (.tmp t))
  | .tcell t o s => match boxAt a t s with
    | some (cs, _) => match cs[o]? with
      | some v => ownChs v
      | none => none
    | none => none
  | .cell k o => match σ.at k with
    | some ⟨_, .cells vs _⟩ => match vs[o]? with
      | some v => ownChs v
      | none => none
    | _ => none
def velAt (a : TAct) (σ : Sto) (p : Pl) (c j : Nat) : Option (List TV) :=
  match Nat.beq c a.clk with
  | true => match plGet a σ p with
    | some chs => chs[j]?
    | none => none
  | false => none
def plSet (a : TAct) (σ : Sto) (f : TV → TV) : Pl → TAct × Sto
  | .tmp t => (⟨a.tm.set t (f (a.ev (.tmp t))), a.df, a.clk + 1⟩, σ)
  | .tcell t o s => match boxAt a t s with
    | some (cs, e) => match cs[o]? with
      | some v => (boxPut a t s (cs.set o (f v)) e, σ)
      | none => (a.tick, σ)
    | none => (a.tick, σ)
  | .cell k o => match σ.at k with
    | some ⟨ver, .cells vs e⟩ => match vs[o]? with
      | some v => (a.tick, σ.set k (some ⟨ver, .cells (vs.set o (f v)) e⟩))
      | none => (a.tick, σ)
    | _ => (a.tick, σ)
def stok : TV → Bool
  | .via _ _ => false
  | .vel _ _ _ _ => false
  | .bx _ _ _ => false
  | .vpt _ _ _ => false
  | .dead => false
  | _ => true
def srcT (a : TAct) (σ : Sto) (size : Nat) : TV → Option (List (List TV))
  | .sl _ c => some c
  | .via p ck => match Nat.beq ck a.clk with
    | true => plGet a σ p
    | false => none
  | .ref k o s n _ => match σ.at k with
    | some ⟨_, .cells vs _⟩ => match Nat.beq s size && Nat.ble (o + n * s) vs.length && !((vs.drop o).take (n * s)).any isOwn with
      | true => some (chop s n (vs.drop o))
      | false => none
    | _ => none
  | .str s => match size with
    | 1 => some (s.data.toList.map fun b => [.int .u8 b.toNat])
    | _ => none
  | _ => none
def bytesSrc (a : TAct) (σ : Sto) : TV → Option (List (List TV))
  | .sl .fz [] => none
  | .sl m c => some c
  | .via p ck => match Nat.beq ck a.clk with
    | true => plGet a σ p
    | false => none
  | _ => none
def isStr : TV → Bool
  | .str _ => true
  | _ => false
def slOk (size : Nat) : Md → List (List TV) → Bool
  | .own _ s, _ => Nat.beq s size
  | .nl, _ => true
  | .fz, [] => false
  | .fz, _ :: _ => true
def apm (e s : Nat) (m : Md) : List (List TV) → Md
  | [] => m
  | _ :: _ => .own e s
def baseOk (b k : Nat) (l : List TV) : Bool := Nat.ble b k || below.belows 0 l
abbrev Tri3 := Option (TV × TAct × Sto)
def Pl.offX : Pl → Operand → Bool
  | .tmp t, .tmp t' => !(Nat.beq t t')
  | _, _ => true
def Pl.old (b : Nat) (l : List TV) : Pl → Bool
  | .cell k _ => baseOk b k l
  | _ => true
section
variable (md b : Nat) (a : TAct) (σ : Sto)
def tMove (x : Operand) : Tri3 :=
  match isOwn (a.ev x) with
  | false => some (a.at x, a, σ)
  | true => match x with
    | .tmp t => match md with
      | 1 => some (a.ev x, taken a x, σ)
      | 2 => some (frz (a.ev x), frz1 a x, σ)
      | _ => some (.via (.tmp t) a.clk, a, σ)
    | _ => none
def tLoad1 : TV → Tri3
  | .ptr k o => match σ.at k with
    | some ⟨ver, .cells vs e⟩ => match vs[o]? with
      | some v => match isOwn v with
        | false => some (v, a, σ)
        | true => match md with
          | 1 => some (v, a.tick, σ.set k (some ⟨ver, .cells (vs.set o .dead) e⟩))
          | 2 => some (frz v, a.tick, σ.set k (some ⟨ver, .cells (vs.set o (frz v)) e⟩))
          | _ => some (.via (.cell k o) a.clk, a, σ)
      | none => none
    | _ => none
  | .vpt t o s => match boxAt a t s with
    | some (cs, e) => match cs[o]? with
      | some v => match isOwn v with
        | false => some (v, a, σ)
        | true => match md with
          | 1 => some (v, boxPut a t s (cs.set o .dead) e, σ)
          | 2 => some (frz v, boxPut a t s (cs.set o (frz v)) e, σ)
          | _ => some (.via (.tcell t o s) a.clk, a, σ)
      | none => none
    | none => none
  | .elt ch o => match ch[o]? with
    | some v => some (v, a, σ)
    | none => none
  | .vel p c j o => match velAt a σ p c j with
    | some ch => match ch[o]? with
      | some v => some (v, a, σ)
      | none => none
    | none => none
  | _ => none
def tLoadN (n : Nat) : TV → Tri3
  | .ptr k o => match σ.at k with
    | some ⟨ver, .cells vs e⟩ => match Nat.ble (o + n) vs.length with
      | true => match ((vs.drop o).take n).any isOwn with
        | false => some (.agg ((vs.drop o).take n), a, σ)
        | true => some (.agg (((vs.drop o).take n).map frz), a.tick, σ.set k (some ⟨ver, .cells (putAt vs o (((vs.drop o).take n).map frz)) e⟩))
      | false => none
    | _ => none
  | .vpt t o s => match boxAt a t s with
    | some (cs, e) => match Nat.ble (o + n) cs.length with
      | true => match ((cs.drop o).take n).any isOwn with
        | false => some (.agg ((cs.drop o).take n), a, σ)
        | true => some (.agg (((cs.drop o).take n).map frz), boxPut a t s (putAt cs o (((cs.drop o).take n).map frz)) e, σ)
      | false => none
    | none => none
  | .elt ch o => match Nat.ble (o + n) ch.length with
    | true => some (.agg ((ch.drop o).take n), a, σ)
    | false => none
  | .vel p c j o => match velAt a σ p c j with
    | some ch => match Nat.ble (o + n) ch.length with
      | true => some (.agg ((ch.drop o).take n), a, σ)
      | false => none
    | none => none
  | _ => none
def tStore (n : Nat) (x : Operand) : TV → Tri3
  | .ptr k o => match σ.at k with
    | some ⟨ver, .cells vs e⟩ => match Nat.beq (a.ev x).cells.length n && onesT (a.ev x).cells && Nat.ble (o + n) vs.length && stok (a.ev x) && baseOk b k (a.ev x).cells with
      | true => some (undT, (taken a x).tick.tick, σ.set k (some ⟨ver + 1, .cells (putAt vs o (a.ev x).cells) e⟩))
      | false => none
    | _ => none
  | .vpt t o s => match boxAt a t s with
    | some (cs, e) => match Nat.beq (a.ev x).cells.length n && onesT (a.ev x).cells && Nat.ble (o + n) cs.length && stok (a.ev x) with
      | true => some (undT, (boxPut (taken a x) t s (putAt cs o (a.ev x).cells) e).tick, σ)
      | false => none
    | none => none
  | .vel p c j o => match Nat.beq c a.clk && p.offX x with
    | true => match plGet a σ p, give (a.ev x) with
      | some chs, some v => match chs[j]? with
        | some ch => match Nat.beq v.cells.length n && onesT v.cells && Nat.ble (o + n) ch.length && p.old b v.cells with
          | true => some (undT, (plSet (frz1 a x) σ (reSl (chs.set j (putAt ch o v.cells))) p).1, (plSet (frz1 a x) σ (reSl (chs.set j (putAt ch o v.cells))) p).2)
          | false => none
        | none => none
      | _, _ => none
    | false => none
  | _ => none
def tAppend (e size bytes : Nat) (x : Operand) (new : List (List TV)) : Tri3 :=
  match a.ev x with
  | .sl m c => match m.app e size && okSz size c && okSz size new && Nat.ble (c.length + new.length) small && Nat.ble bytes 65536 with
    | true => some (.sl (apm e size m new) (c ++ new), (taken a x).tick, σ)
    | false => none
  | .ref k o s n c => match new.isEmpty, σ.at k with
    | true, _ => some (.ref k o s n c, a, σ)
    | false, some ⟨_, .cells vs e'⟩ => match Nat.beq s size && Nat.beq e' e && okSz size new && Nat.blt 0 new.length && Nat.ble (o + n * s) vs.length && !((vs.drop o).take (n * s)).any isOwn && Nat.ble (n + new.length) small && Nat.ble bytes 65536 with
      | true => match Nat.beq c (capU + s) with
        | true => some (.ref σ.length 0 s (n + new.length) (capU + s), a.tick.tick, (σ.set k none) ++ [some ⟨0, .cells ((vs.drop o).take (n * s) ++ new.flatten) e⟩])
        | false => match Nat.blt c (n + new.length) with
          | true => some (.ref σ.length 0 s (n + new.length) (capU + s), a.tick.tick, σ ++ [some ⟨0, .cells ((vs.drop o).take (n * s) ++ new.flatten) e⟩])
          | false => none
      | false => none
    | _, _ => none
  | _ => none
def tIndex (size : Nat) (x : Operand) (j : Nat) : TV → Tri3
  | .sl (.own _ _) c => match x, c[j]? with
    | .tmp t, some ch => match Nat.beq ch.length size with
      | true => some (.vel (.tmp t) a.clk j 0, a, σ)
      | false => none
    | _, _ => none
  | .sl _ c => match c[j]? with
    | some ch => match Nat.beq ch.length size with
      | true => some (.elt ch 0, a, σ)
      | false => none
    | none => none
  | .via p ck => match Nat.beq ck a.clk with
    | true => match plGet a σ p with
      | some chs => match chs[j]? with
        | some ch => match Nat.beq ch.length size with
          | true => some (.vel p ck j 0, a, σ)
          | false => none
        | none => none
      | none => none
    | false => none
  | .ref k o s n c => match Nat.beq s size && Nat.blt j n with
    | true => some (.ptr k (o + j * size), a, σ)
    | false => none
  | _ => none
def tLen : TV → Option Nat
  | .sl _ c => some c.length
  | .via p ck => match Nat.beq ck a.clk with
    | true => match plGet a σ p with
      | some chs => some chs.length
      | none => none
    | false => none
  | .ref _ _ _ n _ => some n
  | _ => none
def tSlice (size : Nat) (x : Operand) (lo hi mx : Option TV) : TV → Tri3
  | .sl m c => match mx with
    | none => match boundsT c.length c.length lo hi none with
      | some (l, h, _) => match okSz size c && slOk size m c with
        | true => some (.sl m ((c.drop l).take (h - l)), taken a x, σ)
        | false => none
      | none => none
    | some _ => none
  | .via p ck => match mx, Nat.beq ck a.clk with
    | none, true => match plGet a σ p with
      | some c => match boundsT c.length c.length lo hi none with
        | some (l, h, _) => match okSz size c && slOk size .fz c with
          | true => some (.sl .fz ((c.drop l).take (h - l)), (plSet a σ frz p).1, (plSet a σ frz p).2)
          | false => none
        | none => none
      | none => none
    | _, _ => none
  | .ref k o s n c => match Nat.ble capU c with
    | true => none
    | false => match boundsT n c lo hi mx with
      | some (l, h, m) => match Nat.beq s size with
        | true => some (.ref k (match Nat.beq m l with | true => o | false => o + l * size) s (h - l) (m - l), a, σ)
        | false => none
      | none => none
  | _ => none
def tCopy (size : Nat) (x : TV) (src : List (List TV)) : Tri3 :=
  match x with
  | .ref k o s n c => match σ.at k with
    | some ⟨ver, .cells vs e⟩ =>
      match Nat.beq s size && Nat.ble (o + n * s) vs.length && okSz size src && baseOk b k (src.take (Nat.min src.length n)).flatten with
      | true => match Nat.min src.length n with
        | 0 => some (.int .i64 0, a, σ)
        | m + 1 => some (.int .i64 (.ofNat (m + 1)), a.tick, σ.set k (some ⟨ver + 1, .cells (putAt vs o (src.take (m + 1)).flatten) e⟩))
      | false => none
    | _ => none
  | _ => none
def tNew (o : TObj) (v : TV) : Tri3 := some (v, a.tick, σ ++ [some o])
def tVal : Option TV → Tri3
  | some v => some (v, a, σ)
  | none => none
def tLookup (k : EqK) (z : TV) (m x : TV) (ok : Bool) : Option TV :=
  match (match m with
    | .nilm => some (some none)
    | .map r => match σ.at r with
      | some ⟨_, .map es _⟩ => some (findT σ k x es 0)
      | _ => none
    | _ => none) with
  | some (some (some (_, v))) => some (match ok with | true => .tuple [v, .bool true] | false => v)
  | some (some none) => some (match ok with | true => .tuple [z, .bool false] | false => z)
  | _ => none
def tMapUpdate (k : EqK) (m x v : TV) : Tri3 :=
  match m, give x, give v with
  | .map r, some x, some v => match σ.at r with
    | some ⟨ver, .map es clock⟩ => match baseOk b r [x, v] with
      | true => match findT σ k x es 0 with
        | some (some (i, _)) => some (undT, a.tick, σ.set r (some ⟨ver + 1, .map (es.modify i fun e => (x, v, e.2.2)) clock⟩))
        | some none => some (undT, a.tick, σ.set r (some ⟨ver + 1, .map (es ++ [(x, v, clock)]) (clock + 1)⟩))
        | none => none
      | false => none
    | _ => none
  | _, _, _ => none
def tdo : XOp → Tri3
  | .move x => tMove md a σ x
  | .keep x => match a.ev x with
    | .str s => some (.str s, a, σ)
    | _ => none
  | .pick c x y => match a.ev c with
    | .bool true => match isOwn (a.ev x) with | false => some (a.at x, a, σ) | true => none
    | .bool false => match isOwn (a.ev y) with | false => some (a.at y, a, σ) | true => none
    | _ => none
  | .alloc e z => match ones z with
    | false => none
    | true => match md with
      | 3 => tNew a σ ⟨0, .cells (ofV.ofVs z) e⟩ (.ptr σ.length 0)
      | _ => some (.bx a.clk (ofV.ofVs z) e, a.tick, σ)
  | .box e x => match onesT (a.ev x).cells && stok (a.ev x) with
    | false => none
    | true => match md with
      | 3 => tNew (taken a x).tick σ ⟨0, .cells (a.ev x).cells e⟩ (.ptr σ.length 0)
      | _ => some (.bx (taken a x).clk (a.ev x).cells e, (taken a x).tick.tick, σ)
  | .build z ps => match fillT (ofV.ofVs z) (ps.map fun (o, n, x) => (o, n, a.ev x)) with
    | some cs => some (.agg cs, frzs a (ps.map fun p => p.2.2), σ)
    | none => none
  | .buildSlice e size z len ps => match Nat.beq z.length size && Nat.ble len small, fillT (repT (ofV.ofVs z) len) (ps.map fun (o, n, x) => (o, n, a.ev x)) with
    | true, some cs => match onesT cs with
      | false => none
      | true => match md with
        | 3 => tNew (frzs a (ps.map fun p => p.2.2)) σ ⟨0, .cells cs e⟩ (.ref σ.length 0 size len len)
        | _ => some (.sl (.own e size) (chop size len cs), (frzs a (ps.map fun p => p.2.2)).tick, σ)
    | _, _ => none
  | .load1 p => tLoad1 md a σ (a.at p)
  | .loadN n p => tLoadN a σ n (a.at p)
  | .store n p x => tStore b a σ n x (a.at p)
  | .nilCheck x => match a.at x with
    | .vpt t o s => match boxAt a t s with
      | some _ => some (.vpt t o s, a, σ)
      | none => none
    | .ptr k o => some (.ptr k o, a, σ)
    | .elt ch o => some (.elt ch o, a, σ)
    | .func f x y => some (.func f x y, a, σ)
    | _ => none
  | .bin op x y => tVal a σ (tbin op (a.ev x) (a.ev y))
  | .eq k neg x y => match teq σ k (a.ev x) (a.ev y) with
    | some r => some (.bool (xor r neg), a, σ)
    | none => none
  | .un op x => tVal a σ (tun op (a.ev x))
  | .toInt k x => match a.ev x with
    | .int _ n => some (.int k (k.wrap n), a, σ)
    | _ => none
  | .bytesToStr x => match bytesSrc a σ (a.ev x) with
    | some chs => match bytesT chs with
      | some bs => some (.str ⟨bs.toArray⟩, a, σ)
      | none => none
    | none => none
  | .strToBytes e x => match a.ev x with
    | .str s => match Nat.ble s.data.toList.length small with
      | true => some (.sl .fz (s.data.toList.map fun b => [.int .u8 b.toNat]), a, σ)
      | false => none
    | _ => none
  | .mkIface t x => match give (a.ev x) with
    | some v => some (.iface t v, frz1 a x, σ)
    | none => none
  | .mkFunc fn first cap => match fn, gives (first.map a.ev), gives (cap.map a.ev) with
    | .func f, some x, some y => some (.func f x y, frzs (frzs a first) cap, σ)
    | _, _, _ => none
  | .mkMap => tNew a σ ⟨0, .map [] 0⟩ (.map σ.length)
  | .mkSlice e z bytes l c => match a.ev l, a.ev c with
    | .int .i64 (.ofNat l), .int .i64 (.ofNat c) => match Nat.ble l c && Nat.ble (bytes * c) 281474976710656 && Nat.ble c 9223372036854775807 && ones z with
      | true => match md with
        | 3 => tNew a σ ⟨0, .cells (repT (ofV.ofVs z) c) e⟩ (.ref σ.length 0 z.length l c)
        | _ => some (.sl (.own e z.length) (List.replicate l (ofV.ofVs z)), a.tick, σ)
      | false => none
    | _, _ => none
  | .sliceStr x lo hi => match a.ev x with
    | .str s => match boundsT s.data.toList.length s.data.toList.length (lo.map a.ev) (hi.map a.ev) none with
      | some (l, h, _) => some (.str ⟨((s.data.toList.drop l).take (h - l)).toArray⟩, a, σ)
      | none => none
    | _ => none
  | .slice size x lo hi mx => tSlice a σ size x (lo.map a.ev) (hi.map a.ev) (mx.map a.ev) (a.ev x)
  | .sliceArr n size x lo hi mx => match a.ev x with
    | .ptr k o => match boundsT n n (lo.map a.ev) (hi.map a.ev) (mx.map a.ev) with
      | some (l, h, m) => some (.ref k (match Nat.beq m l with | true => o | false => o + l * size) size (h - l) (m - l), a, σ)
      | none => none
    | _ => none
  | .addr off x => match a.at x with
    | .ptr k o => some (.ptr k (o + off), a, σ)
    | .vpt t o s => match boxAt a t s with
      | some _ => some (.vpt t (o + off) s, a, σ)
      | none => none
    | .elt ch o => some (.elt ch (o + off), a, σ)
    | .vel p c j o => match velAt a σ p c j with
      | some _ => some (.vel p c j (o + off), a, σ)
      | none => none
    | _ => none
  | .field1 off x => match a.ev x with
    | .agg cs => tVal a σ cs[off]?
    | _ => none
  | .fieldN off n x => match a.ev x with
    | .agg cs => some (.agg ((cs.drop off).take n), a, σ)
    | _ => none
  | .indexAddr size x i => match a.ev i with
    | .int _ (.ofNat j) => tIndex a σ size x j (a.ev x)
    | _ => none
  | .indexArrAddr len size x i => match a.at x, a.ev i with
    | .ptr k o, .int _ (.ofNat j) => match Nat.blt j len with
      | true => some (.ptr k (o + j * size), a, σ)
      | false => none
    | .vpt t o s, .int _ (.ofNat j) => match Nat.blt j len, boxAt a t s with
      | true, some _ => some (.vpt t (o + j * size) s, a, σ)
      | _, _ => none
    | .elt ch o, .int _ (.ofNat j) => match Nat.blt j len with
      | true => some (.elt ch (o + j * size), a, σ)
      | false => none
    | _, _ => none
  | .indexStr x i => match a.ev x, a.ev i with
    | .str s, .int _ (.ofNat j) => match s.data.toList[j]? with
      | some b => some (.int .u8 b.toNat, a, σ)
      | none => none
    | _, _ => none
  | .index1 len x i => match a.ev x, a.ev i with
    | .agg cs, .int _ (.ofNat j) => match Nat.blt j len with
      | true => tVal a σ cs[j]?
      | false => none
    | _, _ => none
  | .indexN len size x i => match a.ev x, a.ev i with
    | .agg cs, .int _ (.ofNat j) => match Nat.blt j len with
      | true => some (.agg ((cs.drop (j * size)).take size), a, σ)
      | false => none
    | _, _ => none
  | .lookup k z m x ok => tVal a σ (tLookup σ k (ofV z) (a.ev m) (a.ev x) ok)
  | .mapUpdate k m x v => match tMapUpdate b (frzs a [x, v]) σ k (a.ev m) (a.ev x) (a.ev v) with
    | some r => some r
    | none => none
  | .assertT t z x ok => match a.ev x with
    | .iface u v => match Nat.beq u t with
      | true => some (match ok with | true => .tuple [v, .bool true] | false => v, a, σ)
      | false => match ok with
        | true => some (.tuple [ofV z, .bool false], a, σ)
        | false => none
    | .nili => match ok with
      | true => some (.tuple [ofV z, .bool false], a, σ)
      | false => none
    | _ => none
  | .extract x i => match a.ev x with
    | .tuple vs => tVal a σ vs[i]?
    | _ => none
  | .lenStr x => match a.ev x with
    | .str s => some (.int .i64 (.ofNat s.data.toList.length), a, σ)
    | _ => none
  | .lenSlice x => match tLen a σ (a.ev x) with
    | some n => some (.int .i64 (.ofNat n), a, σ)
    | none => none
  | .lenArr n => some (.int .i64 (.ofNat n), a, σ)
  | .lenMap x => match a.ev x with
    | .nilm => some (.int .i64 0, a, σ)
    | .map r => match σ.at r with
      | some ⟨_, .map es _⟩ => some (.int .i64 (.ofNat es.length), a, σ)
      | _ => none
    | _ => none
  | .capSlice x => match a.ev x with
    | .ref _ _ _ _ c => match Nat.ble capU c with
      | true => none
      | false => some (.int .i64 (.ofNat c), a, σ)
    | _ => none
  | .append e size bytes x y => match srcT a σ size (a.ev y) with
    | some new => tAppend a σ e size bytes x new
    | none => none
  | .appendZ e z bytes x n => match a.ev n with
    | .int .i64 (.ofNat n) => match Nat.ble n small && Nat.ble bytes 65536 && ones z with
      | true => tAppend a σ e z.length bytes x (List.replicate n (ofV.ofVs z))
      | false => none
    | _ => none
  | .copy size x y => match isStr (a.ev y), srcT a σ size (a.ev y) with
    | false, some src => tCopy b a σ size (a.ev x) src
    | _, _ => none
  | .maxI xs => match intsT (xs.map a.ev) with
    | some ((k, n) :: r) => some (.int k (r.foldl (fun a b => match ltInt a b.2 with | true => b.2 | false => a) n), a, σ)
    | _ => none
  | .minI xs => match intsT (xs.map a.ev) with
    | some ((k, n) :: r) => some (.int k (r.foldl (fun a b => match ltInt b.2 a with | true => b.2 | false => a) n), a, σ)
    | _ => none
  | _ => none
end
inductive TEx where
  | normal
  | exit (id : Nat)
  | ret
  | panic (v : TV)
inductive TEnd where
  | ret (v : TV)
  | panic (v : TV)
abbrev TCallee := Nat → FuncId → List TV → Sto → Option (TEnd × Sto)
abbrev Ann := Nat → Nat
def Ann.md (an : Ann) : Option Nat → Nat
  | some d => an d
  | none => 0
def wantedT (a : TAct) : Option (Nat × Bool) → Option Bool
  | none => some true
  | some (t, b) => match a.tm.get t with
    | some (.bool c) => some (c == b)
    | some (.tuple []) => some false
    | none => some false
    | _ => none
def targetT (v : TV) (args : List TV) : Option (FuncId × List TV) :=
  match v with
  | .func f first cap => some (f, first ++ args ++ cap)
  | _ => none
def tops (an : Ann) (b : Nat) (C : TCallee) : List XOper → TAct → Sto → Option (TEx × TAct × Sto)
  | [], a, σ => some (.normal, a, σ)
  | o :: r, a, σ =>
    match wantedT a o.guard with
    | none => none
    | some false => tops an b C r (a.put o.dst undT) σ
    | some true => match o.op with
      | .call f args => match gives (args.map a.ev) with
        | some vs => match C b f vs σ with
          | some (.ret v, σ') => tops an b C r ((frzs a args).tick.put o.dst v) σ'
          | some (.panic v, σ') => some (.panic v, (frzs a args).tick, σ')
          | none => none
        | none => none
      | .callV x args => match gives (args.map a.ev) with
        | some vs => match targetT (a.ev x) vs with
          | some (f, l) => match C b f l σ with
            | some (.ret v, σ') => tops an b C r ((frzs a args).tick.put o.dst v) σ'
            | some (.panic v, σ') => some (.panic v, (frzs a args).tick, σ')
            | none => none
          | none => none
        | none => none
      | .panic x => match a.ev x with
        | .iface t v => some (.panic (.iface t v), a, σ)
        | _ => none
      | .defer x args => match gives (args.map a.ev) with
        | some vs => match targetT (a.ev x) vs with
          | some (f, l) => tops an b C r (TAct.put ⟨(frzs a args).tm, ⟨f, l⟩ :: a.df, (frzs a args).clk⟩ o.dst undT) σ
          | none => none
        | none => none
      | op => match tdo (an.md o.dst) b a σ op with
        | some (v, a', σ') => tops an b C r (a'.put o.dst v) σ'
        | none => none
inductive TK where
  | bad
  | no
  | rd (q : Operand)
  | wr (q : Operand)
  | new
  | call
structure TRec where
  kind : TK
  dst : Option Nat
  pre : TAct
  s0 : Sto
  s1 : Sto
def kindOf : XOp → TK
  | .load1 p => .rd p
  | .loadN _ p => .rd p
  | .store _ p _ => .wr p
  | .alloc _ _ => .new
  | .box _ _ => .new
  | .buildSlice _ _ _ _ _ => .new
  | .mkSlice _ _ _ _ _ => .new
  | .strToBytes _ _ => .new
  | .mkMap => .new
  | _ => .bad
def topsD (an : Ann) (b : Nat) (C : TCallee) : List XOper → TAct → Sto → List TRec → Option (TAct × Sto × List TRec)
  | [], a, σ, l => some (a, σ, l.reverse)
  | o :: r, a, σ, l =>
    match wantedT a o.guard with
    | none => none
    | some false => topsD an b C r (a.put o.dst undT) σ (⟨.no, o.dst, a, σ, σ⟩ :: l)
    | some true => match o.op with
      | .call f args => match gives (args.map a.ev) with
        | some vs => match C b f vs σ with
          | some (.ret v, σ') => topsD an b C r ((frzs a args).tick.put o.dst v) σ' (⟨.call, o.dst, frzs a args, σ, σ'⟩ :: l)
          | _ => none
        | none => none
      | .callV x args => match gives (args.map a.ev) with
        | some vs => match targetT (a.ev x) vs with
          | some (f, l') => match C b f l' σ with
            | some (.ret v, σ') => topsD an b C r ((frzs a args).tick.put o.dst v) σ' (⟨.call, o.dst, frzs a args, σ, σ'⟩ :: l)
            | _ => none
          | none => none
        | none => none
      | op => match tdo (an.md o.dst) b a σ op with
        | some (v, a', σ') => topsD an b C r (a'.put o.dst v) σ' (⟨kindOf op, o.dst, a, σ, σ'⟩ :: l)
        | none => none
def freeT (l : List TRec) (i j : Nat) : Operand → Bool
  | .tmp t => ((l.drop i).take (j - i)).all fun r => match r.dst with
    | some d => !(Nat.beq d t)
    | none => true
  | _ => false
def stays (a : TAct) (σ σ' : Sto) (q : Operand) : Bool :=
  match a.at q with
  | .vpt t _ s => (boxAt a t s).isSome
  | .elt _ _ => true
  | .ptr k _ => match σ.at k, σ'.at k with
    | some o, some o' => Nat.beq o.ver o'.ver
    | _, _ => false
  | _ => false
def sepT (a : TAct) (q q' : Operand) : Bool :=
  match a.at q, a.at q' with
  | .vpt t _ s, .vpt t' _ s' => !(Nat.beq t t') && (boxAt a t s).isSome && (boxAt a t' s').isSome
  | .ptr k _, .ptr k' _ => !(Nat.beq k k')
  | .vpt t _ s, .ptr _ _ => (boxAt a t s).isSome
  | .ptr _ _, .vpt t' _ s' => (boxAt a t' s').isSome
  | .elt _ _, .vpt t' _ s' => (boxAt a t' s').isSome
  | .elt _ _, .ptr _ _ => true
  | _, _ => false
def stayB (l : List TRec) (i j : Nat) (x y : TRec) (q : Operand) : Bool :=
  match y.pre.at q with
  | .vpt t _ s => freeT l i j (.tmp t) && (boxAt x.pre t s).isSome && (boxAt y.pre t s).isSome
  | _ => false
def pairOkT (l : List TRec) (i j : Nat) (x y : TRec) : Bool :=
  match x.kind, y.kind with
  | .no, _ => true
  | _, .no => true
  | .rd q, .call => freeT l i j q && stays y.pre y.s0 y.s1 q
  | .call, .rd q => (freeT l i j q && stays x.pre x.s0 x.s1 q) || stayB l i j x y q
  | .rd _, .new => true
  | .rd q, .wr q' => freeT l i j q && sepT y.pre q q'
  | _, _ => false
def pairsOkT (l : List TRec) : List (Nat × Nat) → Bool
  | [] => true
  | (i, j) :: r => match l[i]?, l[j]? with
    | some x, some y => match Nat.blt i j && pairOkT l i j x y with
      | true => pairsOkT l r
      | false => false
    | _, _ => false
def tloop (body : TAct → Sto → Option (TEx × TAct × Sto)) : Nat → TAct → Sto → Option (TEx × TAct × Sto)
  | 0, _, _ => none
  | n + 1, a, σ => match body a σ with
    | some (.normal, a, σ) => tloop body n a σ
    | r => r
def tcode (an : Ann) (b : Nat) (C : TCallee) (n : Nat) : XCode → TAct → Sto → Option (TEx × TAct × Sto)
  | .skip, a, σ => some (.normal, a, σ)
  | .region ops, a, σ => tops an b C ops a σ
  | .regionD ops ps, a, σ => match topsD an b C ops a σ [] with
    | some (a, σ, l) => match pairsOkT l ps with
      | true => some (.normal, a, σ)
      | false => none
    | none => none
  | .seq x y, a, σ => match tcode an b C n x a σ with
    | some (.normal, a, σ) => tcode an b C n y a σ
    | r => r
  | .cond c x y, a, σ => match a.ev c with
    | .bool true => tcode an b C n x a σ
    | .bool false => tcode an b C n y a σ
    | _ => none
  | .block id c, a, σ => match tcode an b C n c a σ with
    | some (.exit k, a, σ) => match Nat.beq k id with
      | true => some (.normal, a, σ)
      | false => some (.exit k, a, σ)
    | r => r
  | .loop c, a, σ => tloop (tcode an b C n c) n a σ
  | .exit id, a, σ => some (.exit id, a, σ)
  | .ret, a, σ => some (.ret, a, σ)
def tres (a : TAct) (σ : Sto) : XRes → Option TV
  | .tmp t => some (a.ev (.tmp t))
  | .cell1 t => match a.ev (.tmp t) with
    | .bx _ cs _ => cs[0]?
    | .ptr k o => match σ.at k with
      | some ⟨_, .cells vs _⟩ => match vs[o]? with
        | some v => match isOwn v with
          | true => none
          | false => some v
        | none => none
      | _ => none
    | _ => none
  | .cellN t n => match a.ev (.tmp t) with
    | .bx _ cs _ => match Nat.ble n cs.length with
      | true => some (.agg ((cs.take n).map frz))
      | false => none
    | .ptr k o => match σ.at k with
      | some ⟨_, .cells vs _⟩ => match Nat.ble (o + n) vs.length && !((vs.drop o).take n).any isOwn with
        | true => some (.agg ((vs.drop o).take n))
        | false => none
      | _ => none
    | _ => none
def tresults (a : TAct) (σ : Sto) : List XRes → Option (List TV)
  | [] => some []
  | r :: l => match tres a σ r, tresults a σ l with
    | some v, some vs => some (v :: vs)
    | _, _ => none
def packedT : List TV → TV
  | [v] => v
  | l => .tuple l
inductive TMode where
  | ret
  | panicking (v : TV)
  | recovered
def topsR (an : Ann) (b : Nat) (C : TCallee) : List XOper → TAct → Sto → TMode → Option (TEx × TAct × Sto × TMode)
  | [], a, σ, m => some (.normal, a, σ, m)
  | o :: r, a, σ, m =>
    match wantedT a o.guard with
    | none => none
    | some false => topsR an b C r (a.put o.dst undT) σ m
    | some true => match o.op with
      | .recover => match m with
        | .panicking v => topsR an b C r (a.put o.dst v) σ .recovered
        | m => topsR an b C r (a.put o.dst .nili) σ m
      | _ => match tops an b C [o] a σ with
        | some (.normal, a, σ) => topsR an b C r a σ m
        | some (e, a, σ) => some (e, a, σ, m)
        | none => none
def tcodeR (an : Ann) (b : Nat) (C : TCallee) (n : Nat) : XCode → TAct → Sto → TMode → Option (TEx × TAct × Sto × TMode)
  | .region ops, a, σ, m => topsR an b C ops a σ m
  | .seq x y, a, σ, m => match tcodeR an b C n x a σ m with
    | some (.normal, a, σ, m) => tcodeR an b C n y a σ m
    | r => r
  | .cond c x y, a, σ, m => match a.ev c with
    | .bool true => tcodeR an b C n x a σ m
    | .bool false => tcodeR an b C n y a σ m
    | _ => none
  | .block id c, a, σ, m => match tcodeR an b C n c a σ m with
    | some (.exit k, a, σ, m) => match Nat.beq k id with
      | true => some (.normal, a, σ, m)
      | false => some (.exit k, a, σ, m)
    | r => r
  | c, a, σ, m => match tcode an b C n c a σ with
    | some (e, a, σ) => some (e, a, σ, m)
    | none => none
def enterT (args : List TV) : TAct := ⟨Tri.ofList args 0 .nil, [], 0⟩
def TMode.settle : TMode → TMode
  | .recovered => .ret
  | m => m
structure TFun where
  fn : XFun
  an : Ann
  keep : Bool
def tdefers (C : TCallee) (F : FuncId → Option TFun) (b n : Nat) : List TDfr → Sto → TMode → Option (Sto × TMode)
  | [], σ, m => some (σ, m)
  | d :: r, σ, m => match F d.f with
    | some fn => match tcodeR fn.an b C n fn.fn.body (enterT d.args) σ m with
      | some (e, a, σ, m) => match a.df, e, tresults a σ fn.fn.results with
        | [], .normal, some _ => tdefers C F b n r σ m.settle
        | [], .ret, some _ => tdefers C F b n r σ m.settle
        | _, _, _ => none
      | none => none
    | none => none
def tleave (keep : Bool) (k : Nat) (σ : Sto) (v : TV) : Option (TV × Sto) :=
  match keep with
  | true => some (v, σ)
  | false => match below k (canon v) with
    | true => some (canon v, σ.take k)
    | false => none
def tfinish (a : TAct) (fn : TFun) (k : Nat) (σ : Sto) : TMode → Option (TEnd × Sto)
  | .panicking v => match tleave fn.keep k σ v with
    | some (v, σ) => some (.panic v, σ)
    | none => none
  | _ => match tresults a σ fn.fn.results with
    | some l => match gives l with
      | some l => match tleave fn.keep k σ (packedT l) with
        | some (v, σ) => some (.ret v, σ)
        | none => none
      | none => none
    | none => none
def baseOf (keep : Bool) (b k : Nat) : Nat :=
  match keep with
  | true => b
  | false => k
def tcall (F : FuncId → Option TFun) (O : FuncId → List TV → Option TV) : Nat → TCallee
  | 0, _, _, _, _ => none
  | n + 1, b, f, args, σ => match F f with
    | some fn => match tcode fn.an (baseOf fn.keep b σ.length) (tcall F O n) n fn.fn.body (enterT args) σ with
      | some (.normal, a, σ1) => match tdefers (tcall F O n) F (baseOf fn.keep b σ.length) n a.df σ1 .ret with
        | some (σ2, m) => tfinish a fn σ.length σ2 m
        | none => none
      | some (.ret, a, σ1) => match tdefers (tcall F O n) F (baseOf fn.keep b σ.length) n a.df σ1 .ret with
        | some (σ2, m) => tfinish a fn σ.length σ2 m
        | none => none
      | some (.panic v, a, σ1) => match tdefers (tcall F O n) F (baseOf fn.keep b σ.length) n a.df σ1 (.panicking v) with
        | some (σ2, m) => tfinish a fn σ.length σ2 m
        | none => none
      | _ => none
    | none => match O f args with
      | some v => some (.ret v, σ)
      | none => none
end Go.Xt
end
section
namespace Go.Xt
open Go Go.Xe
set_option linter.unusedVariables false
abbrev Str := ByteArray
inductive PTyp where
  | mk (kind : Int) (list : List PTyp)
inductive PExpr where
  | mk (kind n : Int) (name : Str) (names : List Str) (odds : List Int) (kids : List PExpr) (line col : Int)
namespace PTyp
def kind : PTyp → Int | .mk k _ => k
def list : PTyp → List PTyp | .mk _ l => l
end PTyp
namespace PExpr
def kind : PExpr → Int | .mk k _ _ _ _ _ _ _ => k
def n : PExpr → Int | .mk _ n _ _ _ _ _ _ => n
def name : PExpr → Str | .mk _ _ s _ _ _ _ _ => s
def names : PExpr → List Str | .mk _ _ _ l _ _ _ _ => l
def odds : PExpr → List Int | .mk _ _ _ _ l _ _ _ => l
def kids : PExpr → List PExpr | .mk _ _ _ _ _ l _ _ => l
def line : PExpr → Int | .mk _ _ _ _ _ _ l _ => l
def col : PExpr → Int | .mk _ _ _ _ _ _ _ c => c
end PExpr
def i64 (n : Int) : TV := .int .i64 n
def encI (n : Int) : List TV := [.int .i64 n]
def encB (s : Bool) : List TV := [.bool s]
mutual
def encT : PTyp → List TV
  | .mk k l => [.int .i64 k, .sl .fz (encTs l)]
def encTs : List PTyp → List (List TV)
  | [] => []
  | t :: l => encT t :: encTs l
end
theorem encTs_eq : ∀ l, encTs l = l.map encT
  | [] => rfl
  | t :: l => by simp only [encTs, List.map_cons, encTs_eq l]
theorem encT_def (t : PTyp) : encT t = [.int .i64 t.kind, .sl .fz (t.list.map encT)] := by cases t; simp only [encT, encTs_eq, PTyp.kind, PTyp.list]
mutual
def szT : PTyp → Nat
  | .mk _ l => szTs l + 4
def szTs : List PTyp → Nat
  | [] => 0
  | t :: l => szT t + 1 + szTs l
end
theorem szTs_len : ∀ l, l.length ≤ szTs l
  | [] => Nat.le_refl _
  | t :: l => by simp only [szTs, List.length_cons]; have := szTs_len l; omega
theorem szTs_mem : ∀ (l : List PTyp) (t : PTyp), t ∈ l → szT t + 1 ≤ szTs l
  | [], t, h => by cases h
  | x :: l, t, h => by
    simp only [szTs]
    rcases List.mem_cons.1 h with rfl | h
    · omega
    · have := szTs_mem l t h; omega
theorem szT_def (t : PTyp) : szT t = szTs t.list + 4 := by cases t; simp only [szT, PTyp.list]
end Go.Xt
end
section
namespace Go.Xt
open Go Go.Xe
set_option linter.unusedVariables false
set_option linter.unusedSimpArgs false
inductive Pc where
  | tmp (t : Nat)
  | tcell (t o : Nat)
  | obj (k : Nat)
  | cell (k o : Nat)
  | hand (h : Nat)
deriving DecidableEq
abbrev Own := Pc → Option Nat
def Zo (w : Own) (Pr : Nat → Prop) (i : Nat) : Prop := (∀ p, w p ≠ some i) ∧ ¬ Pr i
mutual
inductive RV (g : Hp) (μ : List Nat) (Z : Nat → Prop) : TV → Value → Prop
  | int (k : IntKind) (n : Int) : RV g μ Z (.int k n) (.int k n)
  | bool (b : Bool) : RV g μ Z (.bool b) (.bool b)
  | str (s : ByteArray) : RV g μ Z (.str s) (.string s)
  | nilp : RV g μ Z .nilp (.pointer none)
  | ptr {k o i : Nat} : μ[k]? = some i → RV g μ Z (.ptr k o) (.pointer (some ⟨i, o, none⟩))
  | elt {ch : List TV} {o i d ver : Nat} {vs : List Value} {e : TypeId} {ro : Bool} : Z i → g i = some ⟨ver, .cells vs e ro⟩ → d + ch.length ≤ vs.length → RVs g μ Z ch ((vs.drop d).take ch.length) →
      RV g μ Z (.elt ch o) (.pointer (some ⟨i, d + o, none⟩))
  | fz {chs : List (List TV)} {n i o c s ver : Nat} {vs : List Value} {e : TypeId} {ro : Bool} : Z i → g i = some ⟨ver, .cells vs e ro⟩ → okSz s chs = true → chs.length = n → (c < capU → n ≤ c) → (capU ≤ c → c = capU + s) → o + n * s ≤ vs.length →
      RVs g μ Z chs.flatten ((vs.drop o).take (n * s)) → RV g μ Z (.sl .fz chs) (.slice (some ⟨i, o, none⟩) n c)
  | fz0 (b : Option Addr) (c : Nat) : RV g μ Z (.sl .fz []) (.slice b 0 c)
  | nl : RV g μ Z (.sl .nl []) (.slice none 0 0)
  | ref {k o s n c i : Nat} : μ[k]? = some i → n ≤ c → RV g μ Z (.ref k o s n c) (.slice (some ⟨i, o, none⟩) n c)
  | nilm : RV g μ Z .nilm (.map none)
  | map {k i : Nat} : μ[k]? = some i → RV g μ Z (.map k) (.map (some i))
  | nilf : RV g μ Z .nilf .nilFunc
  | func (f : FuncId) {x y : List TV} {x' y' : Array Value} : RVs g μ Z x x'.toList → RVs g μ Z y y'.toList → RV g μ Z (.func f x y) (.func (.func f) x' y')
  | nili : RV g μ Z .nili .nilIface
  | iface (t : TypeId) {v : TV} {v' : Value} : RV g μ Z v v' → RV g μ Z (.iface t v) (.iface t v')
  | agg {l : List TV} {l' : Array Value} : RVs g μ Z l l'.toList → RV g μ Z (.agg l) (.agg l')
  | tuple {l : List TV} {l' : Array Value} : RVs g μ Z l l'.toList → RV g μ Z (.tuple l) (.tuple l')
  | dead (v : Value) : RV g μ Z .dead v
inductive RVs (g : Hp) (μ : List Nat) (Z : Nat → Prop) : List TV → List Value → Prop
  | nil : RVs g μ Z [] []
  | cons {v : TV} {v' : Value} {l : List TV} {l' : List Value} : RV g μ Z v v' → RVs g μ Z l l' → RVs g μ Z (v :: l) (v' :: l')
end
structure Mo (g : Hp) (μ : List Nat) (Z : Nat → Prop) (g' : Hp) (μ' : List Nat) (Z' : Nat → Prop) : Prop where
  mu : ∀ (k i : Nat), μ[k]? = some i → μ'[k]? = some i
  z : ∀ (i ver : Nat) (vs : List Value) (e : TypeId) (ro : Bool), Z i → g i = some ⟨ver, .cells vs e ro⟩ → Z' i ∧ g' i = some ⟨ver, .cells vs e ro⟩
mutual
theorem RV.mono {g g' : Hp} {μ μ' : List Nat} {Z Z' : Nat → Prop} (h : Mo g μ Z g' μ' Z') : ∀ {v : TV} {v' : Value}, RV g μ Z v v' → RV g' μ' Z' v v'
  | _, _, .int k n => .int k n
  | _, _, .bool b => .bool b
  | _, _, .str s => .str s
  | _, _, .nilp => .nilp
  | _, _, .ptr e => .ptr (h.mu _ _ e)
  | _, _, .elt a b c d => .elt (h.z _ _ _ _ _ a b).1 (h.z _ _ _ _ _ a b).2 c (d.mono h)
  | _, _, .fz a b c d e f m k => .fz (h.z _ _ _ _ _ a b).1 (h.z _ _ _ _ _ a b).2 c d e f m (k.mono h)
  | _, _, .fz0 b c => .fz0 b c
  | _, _, .nl => .nl
  | _, _, .ref e n => .ref (h.mu _ _ e) n
  | _, _, .nilm => .nilm
  | _, _, .map e => .map (h.mu _ _ e)
  | _, _, .nilf => .nilf
  | _, _, .func f a b => .func f (a.mono h) (b.mono h)
  | _, _, .nili => .nili
  | _, _, .iface t a => .iface t (a.mono h)
  | _, _, .agg a => .agg (a.mono h)
  | _, _, .tuple a => .tuple (a.mono h)
  | _, _, .dead v => .dead v
theorem RVs.mono {g g' : Hp} {μ μ' : List Nat} {Z Z' : Nat → Prop} (h : Mo g μ Z g' μ' Z') : ∀ {l : List TV} {l' : List Value}, RVs g μ Z l l' → RVs g' μ' Z' l l'
  | _, _, .nil => .nil
  | _, _, .cons a b => .cons (a.mono h) (b.mono h)
end
namespace RVs
variable {g : Hp} {μ : List Nat} {Z : Nat → Prop}
theorem length {l : List TV} {l' : List Value} (h : RVs g μ Z l l') : l'.length = l.length := by
  induction l generalizing l' with
  | nil => cases h; rfl
  | cons v l ih => cases h with | cons _ h => simp [ih h]
theorem get {l : List TV} {l' : List Value} (h : RVs g μ Z l l') : ∀ {i : Nat} {v : TV}, l[i]? = some v → ∃ v', l'[i]? = some v' ∧ RV g μ Z v v' := by
  induction l generalizing l' with
  | nil => intro i v e; simp at e
  | cons x l ih =>
    intro i v e
    cases h with
    | cons hx h =>
      cases i with
      | zero => simp at e; subst e; exact ⟨_, rfl, hx⟩
      | succ i => simp at e; obtain ⟨v', e', r⟩ := ih h e; exact ⟨v', by simpa using e', r⟩
theorem append {l m : List TV} {l' m' : List Value} (h : RVs g μ Z l l') (k : RVs g μ Z m m') : RVs g μ Z (l ++ m) (l' ++ m') := by
  induction l generalizing l' with
  | nil => cases h; exact k
  | cons x l ih => cases h with | cons hx h => exact .cons hx (ih h)
theorem drop {l : List TV} {l' : List Value} (h : RVs g μ Z l l') : ∀ n, RVs g μ Z (l.drop n) (l'.drop n) := by
  induction l generalizing l' with
  | nil => cases h; intro n; simp; exact .nil
  | cons x l ih =>
    intro n
    cases h with
    | cons hx h =>
      cases n with
      | zero => exact .cons hx h
      | succ n => exact ih h n
theorem take {l : List TV} {l' : List Value} (h : RVs g μ Z l l') : ∀ n, RVs g μ Z (l.take n) (l'.take n) := by
  induction l generalizing l' with
  | nil => cases h; intro n; simp; exact .nil
  | cons x l ih =>
    intro n
    cases h with
    | cons hx h =>
      cases n with
      | zero => exact .nil
      | succ n => exact .cons hx (ih h n)
theorem of_get {l : List TV} {l' : List Value} (hl : l'.length = l.length) (h : ∀ (i : Nat) (v : TV) (v' : Value), l[i]? = some v → l'[i]? = some v' → RV g μ Z v v') : RVs g μ Z l l' := by
  induction l generalizing l' with
  | nil => cases l' with | nil => exact .nil | cons => simp at hl
  | cons x l ih =>
    cases l' with
    | nil => simp at hl
    | cons x' l' => exact .cons (h 0 x x' rfl rfl) (ih (by simpa using hl) fun i v v' e e' => h (i + 1) v v' (by simpa using e) (by simpa using e'))
theorem map {α : Type} {f : α → TV} {f' : α → Value} (h : ∀ a, RV g μ Z (f a) (f' a)) : ∀ l : List α, RVs g μ Z (l.map f) (l.map f')
  | [] => .nil
  | a :: l => .cons (h a) (map h l)
theorem set {l : List TV} {l' : List Value} (h : RVs g μ Z l l') {v : TV} {v' : Value} (hv : RV g μ Z v v') : ∀ i, RVs g μ Z (l.set i v) (l'.set i v') := by
  induction l generalizing l' with
  | nil => cases h; intro n; exact .nil
  | cons x l ih =>
    intro n
    cases h with
    | cons hx h =>
      cases n with
      | zero => exact .cons hv h
      | succ n => exact .cons hx (ih h n)
theorem setList : ∀ {xs : List TV} {xs' : List Value}, RVs g μ Z xs xs' → ∀ {vs : List TV} {vs' : List Value} (i : Nat), RVs g μ Z vs vs' → i + xs.length ≤ vs.length → RVs g μ Z (putAt vs i xs) (Xe.setList vs' i xs')
  | _, _, .nil, vs, vs', i, h, _ => by simpa [putAt, Xe.setList] using h
  | x :: xs, x' :: xs', .cons hx hxs, vs, vs', i, h, hl => by
    simp only [List.length_cons] at hl
    have ih := setList hxs (i + 1) (h.set hx i) (by simp; omega)
    rw [Xe.setList]
    have : putAt (vs.set i x) (i + 1) xs = putAt vs i (x :: xs) := by
      unfold putAt
      have h1 : (vs.set i x).take (i + 1) = vs.take i ++ [x] := by
        rw [List.take_add_one]
        simp [List.take_set, List.getElem?_set, show i < vs.length by omega]
        rw [List.set_eq_of_length_le (by simp; omega)]
      have h2 : (vs.set i x).drop (i + 1 + xs.length) = vs.drop (i + (x :: xs).length) := by
        rw [List.drop_set, if_pos (by omega), List.length_cons]; congr 1; omega
      rw [h1, h2]; simp
    rw [this] at ih
    exact ih
end RVs
inductive RO (g : Hp) (μ : List Nat) (Z : Nat → Prop) (i : Nat) : TV → Value → Prop
  | mk {chs : List (List TV)} {n o c s ver : Nat} {vs : List Value} {e : TypeId} : g i = some ⟨ver, .cells vs e false⟩ → okSz s chs = true → chs.length = n → (c < capU → n ≤ c ∧ o + c * s ≤ vs.length) → (capU ≤ c → c = capU + s) → o + n * s ≤ vs.length →
      RVs g μ Z chs.flatten ((vs.drop o).take (n * s)) → RO g μ Z i (.sl (.own e s) chs) (.slice (some ⟨i, o, none⟩) n c)
theorem RO.mono {g g' : Hp} {μ μ' : List Nat} {Z Z' : Nat → Prop} (h : Mo g μ Z g' μ' Z') {i : Nat} (hi : g' i = g i) {v : TV} {v' : Value} (r : RO g μ Z i v v') : RO g' μ' Z' i v v' := by
  cases r with
  | mk a b c d e f k => exact .mk (hi ▸ a) b c d e f (k.mono h)
theorem RO.frz {g : Hp} {μ : List Nat} {Z : Nat → Prop} {i : Nat} {v : TV} {v' : Value} (r : RO g μ Z i v v') (hz : Z i) : RV g μ Z (frz v) v' := by
  cases r with
  | mk a b c d e f k => exact .fz hz a b c (fun h => (d h).1) e f k
end Go.Xt
end
section
namespace Go.Xt
open Go Go.Xe
set_option linter.unusedVariables false
set_option linter.unusedSimpArgs false
def isAl : TV → Bool
  | .via _ _ => true
  | .vel _ _ _ _ => true
  | .vpt _ _ _ => true
  | _ => false
def RC (g : Hp) (μ : List Nat) (Z : Nat → Prop) : Option Nat → TV → Value → Prop
  | none, tv, v => RV g μ Z tv v
  | some i, tv, v => RO g μ Z i tv v
structure RCs (g : Hp) (μ : List Nat) (Z : Nat → Prop) (ow : Nat → Option Nat) (cs : List TV) (vs : List Value) : Prop where
  len : vs.length = cs.length
  get : ∀ (o : Nat) (tv : TV) (v : Value), cs[o]? = some tv → vs[o]? = some v → RC g μ Z (ow o) tv v
  out : ∀ o, cs.length ≤ o → ow o = none
inductive RT (g : Hp) (μ : List Nat) (Z : Nat → Prop) (w : Own) (clk t : Nat) : TV → Value → Prop
  | plain {tv : TV} {v : Value} : RV g μ Z tv v → w (.tmp t) = none → (∀ o, w (.tcell t o) = none) → RT g μ Z w clk t tv v
  | own {i : Nat} {tv : TV} {v : Value} : w (.tmp t) = some i → (∀ o, w (.tcell t o) = none) → RO g μ Z i tv v → RT g μ Z w clk t tv v
  | bx {i ser : Nat} {cs : List TV} {e : TypeId} {ver : Nat} {vs : List Value} : w (.tmp t) = some i → g i = some ⟨ver, .cells vs e false⟩ → RCs g μ Z (fun o => w (.tcell t o)) cs vs → ser < clk →
      RT g μ Z w clk t (.bx ser cs e) (.pointer (some ⟨i, 0, none⟩))
  | al {tv : TV} {v : Value} : isAl tv = true → w (.tmp t) = none → (∀ o, w (.tcell t o) = none) → RT g μ Z w clk t tv v
def HVal (μ : List Nat) (w : Own) (ax : Xe.Act) (g : Hp) : Pl → Value → Prop
  | .tmp t, v => v = ax.ev (.tmp t)
  | .tcell t o _, v => ∃ i ver vs e, w (.tmp t) = some i ∧ g i = some ⟨ver, .cells vs e false⟩ ∧ vs[o]? = some v
  | .cell k o, v => ∃ i ver vs e, μ[k]? = some i ∧ g i = some ⟨ver, .cells vs e false⟩ ∧ vs[o]? = some v
def AL (μ : List Nat) (w : Own) (a : TAct) (σ : Sto) (ax : Xe.Act) (g : Hp) : TV → Value → Prop
  | .via p c, v => c ≤ a.clk ∧ (c = a.clk → ∀ chs, plGet a σ p = some chs → HVal μ w ax g p v)
  | .vel p c j o, v => c ≤ a.clk ∧ (c = a.clk → ∀ chs ch, plGet a σ p = some chs → chs[j]? = some ch → ∃ i b n cc, HVal μ w ax g p (.slice (some ⟨i, b, none⟩) n cc) ∧ v = .pointer (some ⟨i, b + j * ch.length + o, none⟩))
  | .vpt t o ser, v => ser < a.clk ∧ ∀ cs e, a.ev (.tmp t) = .bx ser cs e → ∃ i, w (.tmp t) = some i ∧ v = .pointer (some ⟨i, o, none⟩)
  | _, _ => True
def RB (g : Hp) (μ : List Nat) (Z : Nat → Prop) (w : Own) (k : Nat) : TBody → ABody → Prop
  | .cells cs e, .cells vs e' ro => e' = e ∧ ro = false ∧ RCs g μ Z (fun o => w (.cell k o)) cs vs
  | .map es ck, .map es' ck' => ck' = ck ∧ es'.length = es.length ∧ (∀ (j : Nat) (x : TV × TV × Nat) (y : MapEntry), es[j]? = some x → es'[j]? = some y → RV g μ Z x.1 y.key ∧ RV g μ Z x.2.1 y.val ∧ y.born = x.2.2) ∧ ∀ o, w (.cell k o) = none
  | .iter s p, .iter s' p' => s' = s ∧ p' = p ∧ ∀ o, w (.cell k o) = none
  | _, _ => False
def RObj (g : Hp) (μ : List Nat) (Z : Nat → Prop) (w : Own) (k : Nat) (o : TObj) : Prop :=
  ∃ i b, μ[k]? = some i ∧ g i = some ⟨o.ver, b⟩ ∧ RB g μ Z w k o.body b
def RDf (g : Hp) (μ : List Nat) (Z : Nat → Prop) : List TDfr → List Dfr → Prop
  | [], [] => True
  | d :: l, d' :: l' => d'.f = d.f ∧ RVs g μ Z d.args d'.args ∧ RDf g μ Z l l'
  | _, _ => False
structure Rs (Pr : Nat → Prop) (μ : List Nat) (w : Own) (σ : Sto) (s : AS) : Prop where
  dm : Dm s
  len : μ.length = σ.length
  inj : ∀ p q i, w p = some i → w q = some i → p = q
  pr : ∀ p i, w p = some i → ¬ Pr i
  live : ∀ p i, w p = some i → i < s.next
  wobj : ∀ k, w (.obj k) = μ[k]?
  out : ∀ k c, σ.length ≤ k → w (.cell k c) = none
  obj : ∀ k o, σ.at k = some o → RObj s.get μ (Zo w Pr) w k o
  full : True
structure Rl (Pr : Nat → Prop) (μ : List Nat) (w : Own) (a : TAct) (σ : Sto) (ax : Xe.Act) (s : AS) : Prop extends Rs Pr μ w σ s where
  tm : ∀ t, RT s.get μ (Zo w Pr) w a.clk t (a.ev (.tmp t)) (ax.ev (.tmp t))
  al : ∀ t, AL μ w a σ ax s.get (a.ev (.tmp t)) (ax.ev (.tmp t))
  df : RDf s.get μ (Zo w Pr) a.df ax.df
theorem RC.mono {g g' : Hp} {μ μ' : List Nat} {Z Z' : Nat → Prop} (h : Mo g μ Z g' μ' Z') : ∀ {ow : Option Nat}, (∀ i, ow = some i → g' i = g i) → ∀ {tv : TV} {v : Value}, RC g μ Z ow tv v → RC g' μ' Z' ow tv v
  | none, _, _, _, r => RV.mono h r
  | some i, hi, _, _, r => RO.mono h (hi i rfl) r
theorem RCs.mono {g g' : Hp} {μ μ' : List Nat} {Z Z' : Nat → Prop} (h : Mo g μ Z g' μ' Z') {ow : Nat → Option Nat} (hi : ∀ o i, ow o = some i → g' i = g i) {cs : List TV} {vs : List Value} (r : RCs g μ Z ow cs vs) : RCs g' μ' Z' ow cs vs :=
  ⟨r.len, fun o tv v h1 h2 => (r.get o tv v h1 h2).mono h (hi o), r.out⟩
theorem RT.mono {g g' : Hp} {μ μ' : List Nat} {Z Z' : Nat → Prop} {w w' : Own} {clk clk' t : Nat} (h : Mo g μ Z g' μ' Z') (h1 : w' (.tmp t) = w (.tmp t)) (h2 : ∀ o, w' (.tcell t o) = w (.tcell t o)) (h3 : ∀ i, w (.tmp t) = some i → g' i = g i)
    (h4 : ∀ o i, w (.tcell t o) = some i → g' i = g i) (hc : clk ≤ clk') {tv : TV} {v : Value} (r : RT g μ Z w clk t tv v) : RT g' μ' Z' w' clk' t tv v := by
  cases r with
  | plain a b c => exact .plain (a.mono h) (h1.trans b) fun o => (h2 o).trans (c o)
  | own a b c => exact .own (h1.trans a) (fun o => (h2 o).trans (b o)) (c.mono h (h3 _ a))
  | bx a b c d =>
    refine .bx (h1.trans a) ((h3 _ a).trans b) ?_ (by omega)
    have : (fun o => w' (.tcell t o)) = fun o => w (.tcell t o) := funext h2
    rw [this]
    exact c.mono h h4
  | al a b c => exact .al a (h1.trans b) fun o => (h2 o).trans (c o)
theorem RB.mono {g g' : Hp} {μ μ' : List Nat} {Z Z' : Nat → Prop} {w w' : Own} {k : Nat} (h : Mo g μ Z g' μ' Z') (h2 : ∀ o, w' (.cell k o) = w (.cell k o)) (h4 : ∀ o i, w (.cell k o) = some i → g' i = g i) {b : TBody} {b' : ABody} (r : RB g μ Z w k b b') : RB g' μ' Z' w' k b b' := by
  cases b <;> cases b' <;> simp only [RB] at r ⊢
  · refine ⟨r.1, r.2.1, ?_⟩
    have : (fun o => w' (.cell k o)) = fun o => w (.cell k o) := funext h2
    rw [this]
    exact r.2.2.mono h h4
  · exact ⟨r.1, r.2.1, fun j x y hx hy => ⟨(r.2.2.1 j x y hx hy).1.mono h, (r.2.2.1 j x y hx hy).2.1.mono h, (r.2.2.1 j x y hx hy).2.2⟩, fun o => (h2 o).trans (r.2.2.2 o)⟩
  · exact ⟨r.1, r.2.1, fun o => (h2 o).trans (r.2.2 o)⟩
theorem RObj.mono {g g' : Hp} {μ μ' : List Nat} {Z Z' : Nat → Prop} {w w' : Own} {k : Nat} (h : Mo g μ Z g' μ' Z') (h2 : ∀ o, w' (.cell k o) = w (.cell k o)) (h3 : ∀ i, μ[k]? = some i → g' i = g i) (h4 : ∀ o i, w (.cell k o) = some i → g' i = g i) {o : TObj} (r : RObj g μ Z w k o) : RObj g' μ' Z' w' k o := by
  obtain ⟨i, b, a1, a2, a3⟩ := r
  exact ⟨i, b, h.mu _ _ a1, (h3 _ a1).trans a2, a3.mono h h2 h4⟩
theorem RDf.mono {g g' : Hp} {μ μ' : List Nat} {Z Z' : Nat → Prop} (h : Mo g μ Z g' μ' Z') : ∀ {l : List TDfr} {l' : List Dfr}, RDf g μ Z l l' → RDf g' μ' Z' l l'
  | [], [], _ => trivial
  | _ :: _, _ :: _, ⟨a, b, c⟩ => ⟨a, b.mono h, c.mono h⟩
  | [], _ :: _, h => h.elim
  | _ :: _, [], h => h.elim
theorem RV.notown {g : Hp} {μ : List Nat} {Z : Nat → Prop} {tv : TV} {v : Value} (r : RV g μ Z tv v) : ownChs tv = none ∧ isOwn tv = false ∧ isAl tv = false ∧ ∀ s cs e, tv ≠ .bx s cs e := by
  cases r <;> exact ⟨rfl, rfl, rfl, fun _ _ _ h => by cases h⟩
section
variable {Pr : Nat → Prop} {μ μ' : List Nat} {w w' : Own} {a a' : TAct} {σ σ' : Sto} {ax ax' : Xe.Act} {s s' : AS}
theorem Rl.step (r : Rl Pr μ w a σ ax s) (mo : Mo s.get μ (Zo w Pr) s'.get μ' (Zo w' Pr)) (rs : Rs Pr μ' w' σ' s') (hclk : a.clk < a'.clk)
    (tm : ∀ t, (a'.ev (.tmp t) = a.ev (.tmp t) ∧ ax'.ev (.tmp t) = ax.ev (.tmp t) ∧ w' (.tmp t) = w (.tmp t) ∧ (∀ o, w' (.tcell t o) = w (.tcell t o)) ∧ (∀ i, w (.tmp t) = some i → s'.get i = s.get i) ∧ (∀ o i, w (.tcell t o) = some i → s'.get i = s.get i)) ∨
      (RT s'.get μ' (Zo w' Pr) w' a'.clk t (a'.ev (.tmp t)) (ax'.ev (.tmp t)) ∧ isAl (a'.ev (.tmp t)) = false ∧ ∀ ser cs e, a'.ev (.tmp t) = .bx ser cs e → a.clk ≤ ser ∨ ((∃ cs' e', a.ev (.tmp t) = .bx ser cs' e') ∧ w' (.tmp t) = w (.tmp t))))
    (df : a'.df = a.df ∧ ax'.df = ax.df) : Rl Pr μ' w' a' σ' ax' s' := by
  refine ⟨rs, fun t => ?_, fun t => ?_, ?_⟩
  · rcases tm t with ⟨h1, h2, h3, h4, h5, h6⟩ | ⟨h, _⟩
    · rw [h1, h2]; exact (r.tm t).mono mo h3 h4 h5 h6 (Nat.le_of_lt hclk)
    · exact h
  · rcases tm t with ⟨h1, h2, h3, h4, h5, h6⟩ | ⟨h, hal, _⟩
    · rw [h1, h2]
      have ha := r.al t
      revert ha
      generalize a.ev (.tmp t) = x
      generalize ax.ev (.tmp t) = y
      intro ha
      cases x <;> first | trivial | skip
      · simp only [AL] at ha ⊢
        exact ⟨by omega, fun h => by omega⟩
      · simp only [AL] at ha ⊢
        exact ⟨by omega, fun h => by omega⟩
      · rename_i t' o ser
        simp only [AL] at ha ⊢
        refine ⟨by omega, fun cs e hb => ?_⟩
        rcases tm t' with ⟨k1, k2, k3, k4, k5, k6⟩ | ⟨_, _, k⟩
        · rw [k1] at hb; rw [k3]; exact ha.2 cs e hb
        · rcases k ser cs e hb with k | ⟨⟨cs', e', k⟩, k'⟩
          · omega
          · rw [k']; exact ha.2 cs' e' k
    · revert hal
      generalize a'.ev (.tmp t) = x
      intro hal
      cases x <;> first | trivial | (cases hal)
  · rw [df.1, df.2]; exact r.df.mono mo
def rel (w : Own) (d : Option Nat) : Own
  | .tmp t => match d with
    | some d => if d = t then none else w (.tmp t)
    | none => w (.tmp t)
  | .tcell t o => match d with
    | some d => if d = t then none else w (.tcell t o)
    | none => w (.tcell t o)
  | p => w p
theorem rel_le (w : Own) (d : Option Nat) (p : Pc) (i : Nat) (h : rel w d p = some i) : w p = some i := by
  cases p <;> simp only [rel] at h <;> try exact h
  all_goals (cases d <;> simp only at h <;> first | exact h | (split at h <;> first | cases h | exact h))
theorem Zo.sub {w w' : Own} (h : ∀ p i, w' p = some i → w p = some i) {i : Nat} (z : Zo w Pr i) : Zo w' Pr i := ⟨fun p e => z.1 p (h p i e), z.2⟩
theorem Mo.sub {g : Hp} {w w' : Own} (h : ∀ p i, w' p = some i → w p = some i) : Mo g μ (Zo w Pr) g μ (Zo w' Pr) := ⟨fun _ _ e => e, fun i _ _ _ _ z hg => ⟨z.sub h, hg⟩⟩
theorem Mo.refl (g : Hp) (μ : List Nat) (Z : Nat → Prop) : Mo g μ Z g μ Z := ⟨fun _ _ e => e, fun i _ _ _ _ z hg => ⟨z, hg⟩⟩
theorem Mo.trans {g g1 g2 : Hp} {μ μ1 μ2 : List Nat} {Z Z1 Z2 : Nat → Prop} (a : Mo g μ Z g1 μ1 Z1) (b : Mo g1 μ1 Z1 g2 μ2 Z2) : Mo g μ Z g2 μ2 Z2 :=
  ⟨fun k i e => b.mu k i (a.mu k i e), fun i ver vs e ro z hg => have h := a.z i ver vs e ro z hg; b.z i ver vs e ro h.1 h.2⟩
theorem Rs.sub (r : Rs Pr μ w σ s) (h : ∀ p i, w' p = some i → w p = some i) (ho : ∀ k, w' (.obj k) = w (.obj k)) (hc : ∀ k c, w' (.cell k c) = w (.cell k c)) : Rs Pr μ w' σ s :=
  ⟨r.dm, r.len, fun p q i e f => r.inj p q i (h p i e) (h q i f), fun p i e => r.pr p i (h p i e), fun p i e => r.live p i (h p i e), fun k => (ho k).trans (r.wobj k), fun k c hk => (hc k c).trans (r.out k c hk),
    fun k o e => (r.obj k o e).mono (Mo.sub h) (hc k) (fun _ _ => rfl) (fun _ _ _ => rfl), r.full⟩
theorem TAct.ev_put_same (a : TAct) (d : Nat) (v : TV) : (a.put (some d) v).ev (.tmp d) = v := by
  simp only [TAct.put, TAct.ev, Tri.get_set_same]
theorem TAct.ev_put_ne (a : TAct) {d t : Nat} (v : TV) (h : d ≠ t) : (a.put (some d) v).ev (.tmp t) = a.ev (.tmp t) := by
  simp only [TAct.put, TAct.ev, Tri.get_set_ne _ _ h]
def Pl.offT (d : Nat) : Pl → Bool
  | .tmp t => !(Nat.beq d t)
  | .tcell t _ _ => !(Nat.beq d t)
  | .cell _ _ => true
theorem beq_false {a b : Nat} : (!(Nat.beq a b)) = true ↔ a ≠ b := by
  rw [beqNat]; simp
theorem plGet_put {d : Nat} {tv : TV} {p : Pl} (h : ownChs tv = none) (hb : ∀ s cs e, tv ≠ .bx s cs e) {chs : List (List TV)} (hp : plGet (a.put (some d) tv) σ p = some chs) : p.offT d = true ∧ plGet a σ p = some chs := by
  cases p with
  | tmp t =>
    by_cases e : d = t
    · subst e; simp only [plGet, TAct.ev_put_same, h] at hp; cases hp
    · simp only [plGet, TAct.ev_put_ne a tv e] at hp ⊢; exact ⟨beq_false.2 e, hp⟩
  | tcell t o ser =>
    by_cases e : d = t
    · subst e
      simp only [plGet, boxAt, TAct.ev_put_same] at hp
      revert hp hb
      cases tv <;> intro hb hp <;> first | exact absurd rfl (hb _ _ _) | cases hp
    · simp only [plGet, boxAt, TAct.ev_put_ne a tv e] at hp ⊢; exact ⟨beq_false.2 e, hp⟩
  | cell k o => exact ⟨rfl, hp⟩
theorem hval_put {g : Hp} {d : Nat} {p : Pl} {x v : Value} (h : p.offT d = true) (hv : HVal μ w ax g p v) : HVal μ (rel w (some d)) (ax.put (some d) x) g p v := by
  cases p with
  | tmp t =>
    have e := beq_false.1 h
    simp only [HVal] at hv ⊢
    rw [Act.ev_put_ne _ _ e]; exact hv
  | tcell t o ser =>
    have e := beq_false.1 h
    obtain ⟨i, ver, vs, e', h1, h2, h3⟩ := hv
    exact ⟨i, ver, vs, e', by simp only [rel, if_neg e]; exact h1, h2, h3⟩
  | cell k o => exact hv
theorem rel_tmp_same (w : Own) (d : Nat) : rel w (some d) (.tmp d) = none := by simp [rel]
theorem rel_tcell_same (w : Own) (d o : Nat) : rel w (some d) (.tcell d o) = none := by simp [rel]
theorem rel_tmp_ne (w : Own) {d t : Nat} (h : d ≠ t) : rel w (some d) (.tmp t) = w (.tmp t) := by simp [rel, h]
theorem rel_tcell_ne (w : Own) {d t : Nat} (o : Nat) (h : d ≠ t) : rel w (some d) (.tcell t o) = w (.tcell t o) := by simp [rel, h]
theorem rel_none (w : Own) : rel w none = w := by funext p; cases p <;> rfl
theorem Rl.put (r : Rl Pr μ w a σ ax s) (d : Option Nat) {tv : TV} {v : Value} (h : RV s.get μ (Zo w Pr) tv v ∨ (isAl tv = true ∧ AL μ w a σ ax s.get tv v)) : Rl Pr μ (rel w d) (a.put d tv) σ (ax.put d v) s := by
  have hsub := rel_le w d
  cases d with
  | none => rw [rel_none]; exact r
  | some d =>
    have hno : ownChs tv = none ∧ ∀ s cs e, tv ≠ .bx s cs e := by
      rcases h with h | ⟨h, _⟩
      · exact ⟨h.notown.1, h.notown.2.2.2⟩
      · cases tv <;> simp [isAl] at h <;> exact ⟨rfl, fun _ _ _ h => by cases h⟩
    have hal : ∀ x y, AL μ w a σ ax s.get x y → AL μ (rel w (some d)) (a.put (some d) tv) σ (ax.put (some d) v) s.get x y := by
      intro x y hx
      cases x <;> first | trivial | skip
      · exact ⟨hx.1, fun hc chs hp => hval_put (plGet_put hno.1 hno.2 hp).1 (hx.2 hc chs (plGet_put hno.1 hno.2 hp).2)⟩
      · refine ⟨hx.1, fun hc chs ch hp hj => ?_⟩
        obtain ⟨i, b, n, cc, h1, h2⟩ := hx.2 hc chs ch (plGet_put hno.1 hno.2 hp).2 hj
        exact ⟨i, b, n, cc, hval_put (plGet_put hno.1 hno.2 hp).1 h1, h2⟩
      · rename_i t o ser
        refine ⟨hx.1, fun cs e hb => ?_⟩
        by_cases e2 : d = t
        · subst e2; rw [TAct.ev_put_same] at hb; exact absurd hb (hno.2 _ _ _)
        · rw [TAct.ev_put_ne a tv e2] at hb
          rw [rel_tmp_ne w e2]
          exact hx.2 cs e hb
    refine ⟨r.toRs.sub hsub (fun _ => rfl) (fun _ _ => rfl), fun t => ?_, fun t => ?_, ?_⟩
    · by_cases e : d = t
      · subst e
        rw [TAct.ev_put_same, Act.ev_put_same]
        rcases h with h | ⟨h, _⟩
        · exact .plain (h.mono (Mo.sub hsub)) (rel_tmp_same w d) (rel_tcell_same w d)
        · exact .al h (rel_tmp_same w d) (rel_tcell_same w d)
      · rw [TAct.ev_put_ne a tv e, Act.ev_put_ne ax v e]
        exact (r.tm t).mono (Mo.sub hsub) (rel_tmp_ne w e) (fun o => rel_tcell_ne w o e) (fun _ _ => rfl) (fun _ _ _ => rfl) (Nat.le_refl _)
    · by_cases e : d = t
      · subst e
        rw [TAct.ev_put_same, Act.ev_put_same]
        rcases h with h | ⟨h, h'⟩
        · have := h.notown.2.2.1
          revert this
          generalize tv = x
          intro this
          cases x <;> first | trivial | cases this
        · exact hal _ _ h'
      · rw [TAct.ev_put_ne a tv e, Act.ev_put_ne ax v e]
        exact hal _ _ (r.al t)
    · exact r.df.mono (Mo.sub hsub)
end
end Go.Xt
end
section
namespace Go.Xt
open Go Go.Xe
set_option linter.unusedVariables false
set_option linter.unusedSimpArgs false
section
variable {Pr : Nat → Prop} {μ μ' : List Nat} {w w' : Own} {a a' : TAct} {σ σ' : Sto} {ax ax' : Xe.Act} {s s' : AS}
theorem Rl.env (r : Rl Pr μ w a σ ax s) (mo : Mo s.get μ (Zo w Pr) s'.get μ (Zo w' Pr)) (rs : Rs Pr μ w' σ s') (h1 : ∀ t, w' (.tmp t) = w (.tmp t)) (h2 : ∀ t o, w' (.tcell t o) = w (.tcell t o))
    (hg : ∀ p i, w p = some i → (∀ h, p ≠ .hand h) → s'.get i = s.get i) : Rl Pr μ w' a σ ax s' := by
  refine ⟨rs, fun t => (r.tm t).mono mo (h1 t) (h2 t) (fun i e => hg _ i e (fun h => by simp)) (fun o i e => hg _ i e (fun h => by simp)) (Nat.le_refl _), fun t => ?_, r.df.mono mo⟩
  have hv : ∀ p v, HVal μ w ax s.get p v → HVal μ w' ax s'.get p v := by
    intro p v h
    cases p with
    | tmp t => exact h
    | tcell t o ser =>
      obtain ⟨i, ver, vs, e, k1, k2, k3⟩ := h
      exact ⟨i, ver, vs, e, (h1 t).trans k1, (hg _ i k1 (fun h => by simp)).trans k2, k3⟩
    | cell k o =>
      obtain ⟨i, ver, vs, e, k1, k2, k3⟩ := h
      exact ⟨i, ver, vs, e, k1, (hg (.obj k) i ((r.wobj k).trans k1) (fun h => by simp)).trans k2, k3⟩
  have ha := r.al t
  revert ha
  generalize a.ev (.tmp t) = x
  generalize ax.ev (.tmp t) = y
  intro ha
  cases x <;> first | trivial | skip
  · exact ⟨ha.1, fun hc chs hp => hv _ _ (ha.2 hc chs hp)⟩
  · refine ⟨ha.1, fun hc chs ch hp hj => ?_⟩
    obtain ⟨i, b, n, cc, k1, k2⟩ := ha.2 hc chs ch hp hj
    exact ⟨i, b, n, cc, hv _ _ k1, k2⟩
  · refine ⟨ha.1, fun cs e hb => ?_⟩
    obtain ⟨i, k1, k2⟩ := ha.2 cs e hb
    exact ⟨i, (h1 _).trans k1, k2⟩
theorem Rl.sub (r : Rl Pr μ w a σ ax s) (h : ∀ p i, w' p = some i → w p = some i) (h1 : ∀ p, (∀ k, p ≠ .hand k) → w' p = w p) : Rl Pr μ w' a σ ax s :=
  r.env (Mo.sub h) (r.toRs.sub h (fun k => h1 _ (by simp)) (fun k c => h1 _ (by simp))) (fun t => h1 _ (by simp)) (fun t o => h1 _ (by simp)) (fun _ _ _ _ => rfl)
def Fresh (a : TAct) : Prop := ∀ t, match a.ev (.tmp t) with
  | .via _ c => c < a.clk
  | .vel _ c _ _ => c < a.clk
  | _ => True
theorem Rl.tick (r : Rl Pr μ w a σ ax s) : Rl Pr μ w a.tick σ ax s :=
  r.step (Mo.refl _ _ _) r.toRs (Nat.lt_succ_self _) (fun t => .inl ⟨rfl, rfl, rfl, fun _ => rfl, fun _ _ => rfl, fun _ _ _ => rfl⟩) ⟨rfl, rfl⟩
theorem Rl.fresh (r : Rl Pr μ w a σ ax s) {clk : Nat} (hc : a.clk < clk) (h : ∀ t, isAl (a'.ev (.tmp t)) = true → a'.ev (.tmp t) = a.ev (.tmp t)) (h2 : a'.clk = clk) : Fresh a' := by
  intro t
  have h1 := h t
  have ha := r.al t
  revert h1
  generalize a'.ev (.tmp t) = x
  intro h1
  cases x <;> first | trivial | skip
  · rw [← h1 rfl] at ha
    have := ha.1
    show _ < a'.clk
    omega
  · rw [← h1 rfl] at ha
    have := ha.1
    show _ < a'.clk
    omega
theorem ev_set_same (a : TAct) (t : Nat) (v : TV) (d : List TDfr) (c : Nat) : (TAct.mk (a.tm.set t v) d c).ev (.tmp t) = v := by simp only [TAct.ev, Tri.get_set_same]
theorem ev_set_ne (a : TAct) {t t' : Nat} (v : TV) (d : List TDfr) (c : Nat) (h : t ≠ t') : (TAct.mk (a.tm.set t v) d c).ev (.tmp t') = a.ev (.tmp t') := by simp only [TAct.ev, Tri.get_set_ne _ _ h]
theorem Rl.reTmp (r : Rl Pr μ w a σ ax s) (t : Nat) {tv : TV} (h : RV s.get μ (Zo (rel w (some t)) Pr) tv (ax.ev (.tmp t))) : Rl Pr μ (rel w (some t)) ⟨a.tm.set t tv, a.df, a.clk + 1⟩ σ ax s := by
  have hsub := rel_le w (some t)
  refine r.step (Mo.sub hsub) (r.toRs.sub hsub (fun _ => rfl) (fun _ _ => rfl)) (Nat.lt_succ_self _) (fun t' => ?_) ⟨rfl, rfl⟩
  by_cases e : t = t'
  · subst e
    rw [ev_set_same]
    exact .inr ⟨.plain h (rel_tmp_same w t) (rel_tcell_same w t), h.notown.2.2.1, fun ser cs e hb => absurd hb (h.notown.2.2.2 _ _ _)⟩
  · rw [ev_set_ne a tv _ _ e]
    exact .inl ⟨rfl, rfl, rel_tmp_ne w e, fun o => rel_tcell_ne w o e, fun _ _ => rfl, fun _ _ _ => rfl⟩
def mv (w : Own) (p q : Pc) : Own := fun x => if x = p then none else if x = q then w p else w x
theorem mv_from (w : Own) (p q : Pc) : mv w p q p = none := by simp [mv]
theorem mv_to (w : Own) {p q : Pc} (h : q ≠ p) : mv w p q q = w p := by simp [mv, h]
theorem mv_other (w : Own) {p q x : Pc} (h1 : x ≠ p) (h2 : x ≠ q) : mv w p q x = w x := by simp [mv, h1, h2]
theorem mv_some {w : Own} {p q x : Pc} {i : Nat} (h : mv w p q x = some i) : (x = q ∧ x ≠ p ∧ w p = some i) ∨ (x ≠ p ∧ x ≠ q ∧ w x = some i) := by
  unfold mv at h
  split at h
  · cases h
  · split at h
    · exact .inl ⟨by assumption, by assumption, h⟩
    · exact .inr ⟨by assumption, by assumption, h⟩
theorem mv_owned {w : Own} {p q x : Pc} {i : Nat} (h : mv w p q x = some i) : ∃ y, w y = some i := by
  rcases mv_some h with ⟨_, _, h⟩ | ⟨_, _, h⟩
  · exact ⟨_, h⟩
  · exact ⟨_, h⟩
theorem Zo.mv {w : Own} {p q : Pc} {i : Nat} (z : Zo w Pr i) : Zo (mv w p q) Pr i := ⟨fun x e => by obtain ⟨y, h⟩ := mv_owned e; exact z.1 y h, z.2⟩
theorem Mo.mv {g : Hp} {w : Own} (p q : Pc) : Mo g μ (Zo w Pr) g μ (Zo (mv w p q) Pr) := ⟨fun _ _ e => e, fun i _ _ _ _ z hg => ⟨z.mv, hg⟩⟩
theorem Rs.mv (r : Rs Pr μ w σ s) (p q : Pc) (ho : ∀ k, Xt.mv w p q (.obj k) = w (.obj k)) (hc : ∀ k c, Xt.mv w p q (.cell k c) = w (.cell k c)) : Rs Pr μ (Xt.mv w p q) σ s := by
  refine ⟨r.dm, r.len, fun x y i e f => ?_, fun x i e => ?_, fun x i e => ?_, fun k => (ho k).trans (r.wobj k), fun k c hk => (hc k c).trans (r.out k c hk), fun k o e => (r.obj k o e).mono (Mo.mv p q) (hc k) (fun _ _ => rfl) (fun _ _ _ => rfl), r.full⟩
  · rcases mv_some e with ⟨h1, h2, h3⟩ | ⟨h1, h2, h3⟩ <;> rcases mv_some f with ⟨k1, k2, k3⟩ | ⟨k1, k2, k3⟩
    · rw [h1, k1]
    · exact absurd (r.inj _ _ _ h3 k3).symm k1
    · exact absurd (r.inj _ _ _ h3 k3) h1
    · exact r.inj _ _ _ h3 k3
  · obtain ⟨y, h⟩ := mv_owned e; exact r.pr y i h
  · obtain ⟨y, h⟩ := mv_owned e; exact r.live y i h
theorem Rl.takeTmp (r : Rl Pr μ w a σ ax s) {t : Nat} (ht : isOwn (a.ev (.tmp t)) = true) : ∃ i, w (.tmp t) = some i ∧ RO s.get μ (Zo (mv w (.tmp t) (.hand 0)) Pr) i (a.ev (.tmp t)) (ax.ev (.tmp t)) ∧
    Rl Pr μ (mv w (.tmp t) (.hand 0)) ⟨a.tm.set t .dead, a.df, a.clk + 1⟩ σ ax s ∧ Fresh ⟨a.tm.set t .dead, a.df, a.clk + 1⟩ := by
  have h := r.tm t
  have key : ∃ i, w (.tmp t) = some i ∧ (∀ o, w (.tcell t o) = none) ∧ RO s.get μ (Zo w Pr) i (a.ev (.tmp t)) (ax.ev (.tmp t)) := by
    revert ht h
    generalize a.ev (.tmp t) = x
    generalize ax.ev (.tmp t) = y
    intro ht h
    cases h with
    | plain h _ _ => rw [h.notown.2.1] at ht; cases ht
    | own h1 h2 h3 => exact ⟨_, h1, h2, h3⟩
    | bx => cases ht
    | al h _ _ => cases x <;> first | cases ht | cases h
  obtain ⟨i, h1, h2, h3⟩ := key
  refine ⟨i, h1, h3.mono (Mo.mv _ _) rfl, ?_, ?_⟩
  · refine r.step (Mo.mv _ _) (r.toRs.mv _ _ (fun k => mv_other w (by simp) (by simp)) (fun k c => mv_other w (by simp) (by simp))) (Nat.lt_succ_self _) (fun t' => ?_) ⟨rfl, rfl⟩
    by_cases e : t = t'
    · subst e
      rw [ev_set_same]
      exact .inr ⟨.plain (.dead _) (mv_from w _ _) (fun o => (mv_other w (by simp) (by simp)).trans (h2 o)), rfl, fun ser cs e hb => by cases hb⟩
    · rw [ev_set_ne a .dead _ _ e]
      exact .inl ⟨rfl, rfl, mv_other w (by simp; omega) (by simp), fun o => mv_other w (by simp) (by simp), fun _ _ => rfl, fun _ _ _ => rfl⟩
  · refine r.fresh (Nat.lt_succ_self _) (fun t' ht' => ?_) rfl
    by_cases e : t = t'
    · subst e; rw [ev_set_same] at ht'; cases ht'
    · rw [ev_set_ne a .dead _ _ e]
theorem Rl.putOwn (r : Rl Pr μ w a σ ax s) (hf : Fresh a) (d : Nat) {i : Nat} (hi : w (.hand 0) = some i) {tv : TV} {v : Value} (h : RO s.get μ (Zo w Pr) i tv v) :
    Rl Pr μ (mv (rel w (some d)) (.hand 0) (.tmp d)) (a.put (some d) tv) σ (ax.put (some d) v) s := by
  have hsub := rel_le w (some d)
  have mo : Mo s.get μ (Zo w Pr) s.get μ (Zo (mv (rel w (some d)) (.hand 0) (.tmp d)) Pr) := (Mo.sub hsub).trans (Mo.mv _ _)
  have hni : isAl tv = false ∧ ∀ s cs e, tv ≠ .bx s cs e := by cases h; exact ⟨rfl, fun _ _ _ h => by cases h⟩
  refine ⟨(r.toRs.sub hsub (fun _ => rfl) (fun _ _ => rfl)).mv _ _ (fun k => mv_other _ (by simp) (by simp)) (fun k c => mv_other _ (by simp) (by simp)), fun t => ?_, fun t => ?_, r.df.mono mo⟩
  · by_cases e : d = t
    · subst e
      rw [TAct.ev_put_same, Act.ev_put_same]
      exact .own (i := i) ((mv_to _ (by simp)).trans hi) (fun o => (mv_other _ (by simp) (by simp)).trans (rel_tcell_same w d o)) (h.mono mo rfl)
    · rw [TAct.ev_put_ne a tv e, Act.ev_put_ne ax v e]
      exact (r.tm t).mono mo ((mv_other _ (by simp) (by simp; omega)).trans (rel_tmp_ne w e)) (fun o => (mv_other _ (by simp) (by simp)).trans (rel_tcell_ne w o e)) (fun _ _ => rfl) (fun _ _ _ => rfl) (Nat.le_refl _)
  · by_cases e : d = t
    · subst e
      rw [TAct.ev_put_same]
      have := hni.1
      revert this
      generalize tv = x
      intro this
      cases x <;> first | trivial | cases this
    · rw [TAct.ev_put_ne a tv e, Act.ev_put_ne ax v e]
      have ha := r.al t
      have hft := hf t
      revert ha hft
      generalize a.ev (.tmp t) = x
      intro ha hft
      cases x <;> first | trivial | skip
      · exact ⟨ha.1, fun hc => by have : _ < a.clk := hft; have hc : _ = a.clk := hc; omega⟩
      · exact ⟨ha.1, fun hc => by have : _ < a.clk := hft; have hc : _ = a.clk := hc; omega⟩
      · rename_i t' o ser
        refine ⟨ha.1, fun cs e2 hb => ?_⟩
        by_cases e3 : d = t'
        · subst e3; rw [TAct.ev_put_same] at hb; exact absurd hb (hni.2 _ _ _)
        · rw [TAct.ev_put_ne a tv e3] at hb
          obtain ⟨i2, k1, k2⟩ := ha.2 cs e2 hb
          exact ⟨i2, (mv_other _ (by simp) (by simp; omega)).trans ((rel_tmp_ne w e3).trans k1), k2⟩
theorem Rl.putBx (r : Rl Pr μ w a σ ax s) (hf : Fresh a) (d : Nat) {i : Nat} (hi : w (.hand 0) = some i) {ser ver : Nat} {cs : List TV} {vs : List Value} {e : TypeId} (hg : s.get i = some ⟨ver, .cells vs e false⟩) (hv : RVs s.get μ (Zo w Pr) cs vs) (hser : ser + 1 = a.clk)
    (hold : ∀ t o, a.ev (.tmp t) ≠ .vpt d o ser) :
    Rl Pr μ (mv (rel w (some d)) (.hand 0) (.tmp d)) (a.put (some d) (.bx ser cs e)) σ (ax.put (some d) (.pointer (some ⟨i, 0, none⟩))) s := by
  have hsub := rel_le w (some d)
  have mo : Mo s.get μ (Zo w Pr) s.get μ (Zo (mv (rel w (some d)) (.hand 0) (.tmp d)) Pr) := (Mo.sub hsub).trans (Mo.mv _ _)
  refine ⟨(r.toRs.sub hsub (fun _ => rfl) (fun _ _ => rfl)).mv _ _ (fun k => mv_other _ (by simp) (by simp)) (fun k c => mv_other _ (by simp) (by simp)), fun t => ?_, fun t => ?_, r.df.mono mo⟩
  · by_cases e : d = t
    · subst e
      rw [TAct.ev_put_same, Act.ev_put_same]
      have hn : ∀ o, mv (rel w (some d)) (.hand 0) (.tmp d) (.tcell d o) = none := fun o => (mv_other _ (by simp) (by simp)).trans (rel_tcell_same w d o)
      refine .bx (i := i) ((mv_to _ (by simp)).trans hi) hg ⟨hv.length, fun o tv v h1 h2 => ?_, fun o _ => hn o⟩ (by show ser < a.clk; omega)
      obtain ⟨v', h3, h4⟩ := hv.get h1
      rw [h2] at h3; cases h3
      simp only [hn o]
      exact h4.mono mo
    · rw [TAct.ev_put_ne a _ e, Act.ev_put_ne ax _ e]
      exact (r.tm t).mono mo ((mv_other _ (by simp) (by simp; omega)).trans (rel_tmp_ne w e)) (fun o => (mv_other _ (by simp) (by simp)).trans (rel_tcell_ne w o e)) (fun _ _ => rfl) (fun _ _ _ => rfl) (Nat.le_refl _)
  · by_cases e : d = t
    · subst e; rw [TAct.ev_put_same]; trivial
    · rw [TAct.ev_put_ne a _ e, Act.ev_put_ne ax _ e]
      have ha := r.al t
      have hft := hf t
      have hold' := hold t
      revert ha hft hold'
      generalize a.ev (.tmp t) = x
      intro ha hft hold'
      cases x <;> first | trivial | skip
      · exact ⟨ha.1, fun hc => by have : _ < a.clk := hft; have hc : _ = a.clk := hc; omega⟩
      · exact ⟨ha.1, fun hc => by have : _ < a.clk := hft; have hc : _ = a.clk := hc; omega⟩
      · rename_i t' o ser'
        refine ⟨ha.1, fun cs e2 hb => ?_⟩
        by_cases e3 : d = t'
        · subst e3
          rw [TAct.ev_put_same] at hb
          cases hb
          exact absurd rfl (hold' o)
        · rw [TAct.ev_put_ne a _ e3] at hb
          obtain ⟨i2, k1, k2⟩ := ha.2 cs e2 hb
          exact ⟨i2, (mv_other _ (by simp) (by simp; omega)).trans ((rel_tmp_ne w e3).trans k1), k2⟩
def holds (w : Own) (i : Nat) : Own := fun p => if p = .hand 0 then some i else w p
theorem holds_hand (w : Own) (i : Nat) : holds w i (.hand 0) = some i := by simp [holds]
theorem holds_other (w : Own) (i : Nat) {p : Pc} (h : ∀ k, p ≠ .hand k) : holds w i p = w p := by simp [holds, h 0]
theorem Rl.alloc (r : Rl Pr μ w a σ ax s) (o : AObj) (hp : ¬ Pr s.next) : Rl Pr μ (holds w s.next) a σ ax (s.upd [(s.next, some o)] (s.next + 1)) := by
  have hget : ∀ i, i < s.next → (s.upd [(s.next, some o)] (s.next + 1)).get i = s.get i := fun i hi => by
    rw [AS.upd_get]; simp only [Hp.upd]; exact Hp.set1_ne _ _ (by omega)
  have hsome : ∀ i x, s.get i = some x → i < s.next := fun i x e => by
    by_cases h : i < s.next
    · exact h
    · rw [r.dm i (by omega)] at e; cases e
  have mo : Mo s.get μ (Zo w Pr) (s.upd [(s.next, some o)] (s.next + 1)).get μ (Zo (holds w s.next) Pr) := by
    refine ⟨fun _ _ e => e, fun i ver vs e ro z hg => ?_⟩
    have hi := hsome i _ hg
    refine ⟨⟨fun p e => ?_, z.2⟩, (hget i hi).trans hg⟩
    unfold holds at e
    split at e
    · cases e; omega
    · exact z.1 p e
  have hold : ∀ p i, holds w s.next p = some i → (p = .hand 0 ∧ i = s.next) ∨ (p ≠ .hand 0 ∧ w p = some i) := fun p i e => by
    unfold holds at e
    split at e
    · cases e; exact .inl ⟨by assumption, rfl⟩
    · exact .inr ⟨by assumption, e⟩
  have hdm : Dm (s.upd [(s.next, some o)] (s.next + 1)) := fun i hi => by
    have hi : s.next + 1 ≤ i := hi
    rw [AS.upd_get]; simp only [Hp.upd]; rw [Hp.set1_ne _ _ (by omega)]; exact r.dm i (by omega)
  refine r.env mo ⟨hdm, r.len, fun p q i e f => ?_, fun p i e => ?_, fun p i e => ?_, fun k => (holds_other w _ (by simp)).trans (r.wobj k), fun k c hk => (holds_other w _ (by simp)).trans (r.out k c hk), fun k o' e => ?_, r.full⟩ (fun t => holds_other w _ (by simp)) (fun t o => holds_other w _ (by simp)) (fun p i e _ => hget i (r.live p i e))
  · rcases hold p i e with ⟨h1, h2⟩ | ⟨h1, h2⟩ <;> rcases hold q i f with ⟨k1, k2⟩ | ⟨k1, k2⟩
    · rw [h1, k1]
    · have := r.live _ _ k2; omega
    · have := r.live _ _ h2; omega
    · exact r.inj _ _ _ h2 k2
  · rcases hold p i e with ⟨_, rfl⟩ | ⟨_, h⟩
    · exact hp
    · exact r.pr p i h
  · rcases hold p i e with ⟨_, rfl⟩ | ⟨_, h⟩
    · exact Nat.lt_succ_self _
    · exact Nat.lt_succ_of_lt (r.live p i h)
  · exact (r.obj k o' e).mono mo (fun c => holds_other w _ (by simp)) (fun i e => hget i (r.live (.obj k) i ((r.wobj k).trans e))) (fun c i e => hget i (r.live _ i e))
theorem Rl.handSet (r : Rl Pr μ w a σ ax s) {i : Nat} (hi : w (.hand 0) = some i) (o : Option AObj) : Rl Pr μ w a σ ax (s.upd [(i, o)] s.next) := by
  have hget : ∀ j, j ≠ i → (s.upd [(i, o)] s.next).get j = s.get j := fun j hj => by
    rw [AS.upd_get]; simp only [Hp.upd]; exact Hp.set1_ne _ _ (fun h => hj h.symm)
  have hne : ∀ p j, w p = some j → p ≠ .hand 0 → j ≠ i := fun p j e h h2 => by subst h2; exact h (r.inj _ _ _ e hi)
  have mo : Mo s.get μ (Zo w Pr) (s.upd [(i, o)] s.next).get μ (Zo w Pr) := by
    refine ⟨fun _ _ e => e, fun j ver vs e ro z hg => ⟨z, (hget j ?_).trans hg⟩⟩
    rintro rfl; exact z.1 _ hi
  have hdm : Dm (s.upd [(i, o)] s.next) := fun j hj => by
    have hj : s.next ≤ j := hj
    have := r.live _ _ hi
    rw [hget j (by omega)]; exact r.dm j hj
  refine r.env mo ⟨hdm, r.len, r.inj, r.pr, r.live, r.wobj, r.out, fun k o' e => ?_, r.full⟩ (fun _ => rfl) (fun _ _ => rfl) (fun p j e h => hget j (hne p j e (h 0)))
  exact (r.obj k o' e).mono mo (fun _ => rfl) (fun j e => hget j (hne (.obj k) j ((r.wobj k).trans e) (by simp))) (fun c j e => hget j (hne _ j e (by simp)))
theorem Rl.putObj (r : Rl Pr μ w a σ ax s) {i : Nat} (hi : w (.hand 0) = some i) {o : TObj} {b : ABody} (hg : s.get i = some ⟨o.ver, b⟩) (hb : (∀ c, mv w (.hand 0) (.obj σ.length) (.cell σ.length c) = none) → Mo s.get μ (Zo w Pr) s.get (μ ++ [i]) (Zo (mv w (.hand 0) (.obj σ.length)) Pr) → RB s.get (μ ++ [i]) (Zo (mv w (.hand 0) (.obj σ.length)) Pr) (mv w (.hand 0) (.obj σ.length)) σ.length o.body b) :
    Rl Pr (μ ++ [i]) (mv w (.hand 0) (.obj σ.length)) a.tick (σ ++ [some o]) ax s := by
  have mo : Mo s.get μ (Zo w Pr) s.get (μ ++ [i]) (Zo (mv w (.hand 0) (.obj σ.length)) Pr) := ⟨fun k j e => by rw [List.getElem?_append_left (List.getElem?_eq_some_iff.1 e).1]; exact e, fun j _ _ _ _ z hg => ⟨z.mv, hg⟩⟩
  have hcell : ∀ k c, mv w (.hand 0) (.obj σ.length) (.cell k c) = w (.cell k c) := fun k c => mv_other w (by simp) (by simp)
  have hat : ∀ k, k < σ.length → (σ ++ [some o] : Sto).at k = σ.at k := fun k hk => by simp only [Sto.at, List.getElem?_append_left hk]
  have hat2 : (σ ++ [some o] : Sto).at σ.length = some o := by simp [Sto.at]
  have hlt : ∀ k x, (σ ++ [some o] : Sto).at k = some x → k < σ.length ∨ k = σ.length := fun k x e => by
    unfold Sto.at at e
    split at e
    · rename_i h; have := (List.getElem?_eq_some_iff.1 h).1; simp at this; omega
    · cases e
  refine r.step mo ⟨r.dm, by simp [r.len], fun x y j e f => ?_, fun x j e => ?_, fun x j e => ?_, fun k => ?_, fun k c hk => ?_, fun k x e => ?_, trivial⟩ (Nat.lt_succ_self _) (fun t => .inl ⟨rfl, rfl, mv_other w (by simp) (by simp), fun o => mv_other w (by simp) (by simp), fun _ _ => rfl, fun _ _ _ => rfl⟩) ⟨rfl, rfl⟩
  · rcases mv_some e with ⟨h1, h2, h3⟩ | ⟨h1, h2, h3⟩ <;> rcases mv_some f with ⟨k1, k2, k3⟩ | ⟨k1, k2, k3⟩
    · rw [h1, k1]
    · exact absurd (r.inj _ _ _ h3 k3).symm k1
    · exact absurd (r.inj _ _ _ h3 k3) h1
    · exact r.inj _ _ _ h3 k3
  · obtain ⟨y, h⟩ := mv_owned e; exact r.pr y j h
  · obtain ⟨y, h⟩ := mv_owned e; exact r.live y j h
  · by_cases e : k = σ.length
    · subst e
      rw [mv_to w (by simp), hi, ← r.len]; simp
    · rw [mv_other w (by simp) (by simpa using e), r.wobj k]
      by_cases h : k < μ.length
      · rw [List.getElem?_append_left h]
      · have := r.len
        rw [List.getElem?_eq_none (by omega), List.getElem?_eq_none (by simp; omega)]
  · rw [hcell]; exact r.out k c (by simp at hk; omega)
  · rcases hlt k x e with h | rfl
    · rw [hat k h] at e
      exact (r.obj k x e).mono mo (hcell k) (fun _ _ => rfl) (fun _ _ _ => rfl)
    · rw [hat2] at e; cases e
      exact ⟨i, b, by rw [← r.len]; simp, hg, hb (fun c => (hcell _ c).trans (r.out _ c (Nat.le_refl _))) mo⟩
end
end Go.Xt
end
section
namespace Go.Xt
open Go Go.Xe
set_option linter.unusedVariables false
set_option linter.unusedSimpArgs false
theorem putAt_get {vs l : List TV} {o : Nat} (h : o + l.length ≤ vs.length) (j : Nat) : (putAt vs o l)[j]? = if j < o then vs[j]? else if j < o + l.length then l[j - o]? else vs[j]? := by
  unfold putAt
  by_cases h1 : j < o
  · rw [if_pos h1, List.append_assoc, List.getElem?_append_left (by simp; omega), List.getElem?_take, if_pos h1]
  · rw [if_neg h1]
    by_cases h2 : j < o + l.length
    · rw [if_pos h2, List.getElem?_append_left (by simp; omega), List.getElem?_append_right (by simp; omega)]
      congr 1; simp; omega
    · rw [if_neg h2, List.getElem?_append_right (by simp; omega), List.getElem?_drop]
      congr 1; simp; omega
theorem putAt_len {vs l : List TV} {o : Nat} (h : o + l.length ≤ vs.length) : (putAt vs o l).length = vs.length := by
  unfold putAt; simp; omega
theorem setList_get : ∀ (l vs : List Value) (o : Nat), o + l.length ≤ vs.length → ∀ j, (setList vs o l)[j]? = if j < o then vs[j]? else if j < o + l.length then l[j - o]? else vs[j]?
  | [], vs, o, h, j => by
    simp only [setList, List.length_nil, Nat.add_zero]
    by_cases h1 : j < o <;> simp [h1]
  | x :: l, vs, o, h, j => by
    simp only [List.length_cons] at h
    rw [setList, setList_get l (vs.set o x) (o + 1) (by simp; omega) j]
    by_cases h1 : j < o
    · rw [if_pos h1, if_pos (by omega), List.getElem?_set_ne (by omega)]
    · rw [if_neg h1]
      by_cases h2 : j = o
      · subst h2
        rw [if_pos (by omega), if_pos (by simp), List.getElem?_set_self (by omega)]; simp
      · rw [if_neg (by omega)]
        by_cases h3 : j < o + 1 + l.length
        · rw [if_pos h3, if_pos (by simp; omega), show j - o = (j - (o + 1)) + 1 by omega]; simp
        · rw [if_neg h3, if_neg (by simp; omega), List.getElem?_set_ne (by omega)]
def clr (ow : Nat → Option Nat) (o n : Nat) (x : Option Nat) : Nat → Option Nat := fun j => if j < o then ow j else if j < o + n then x else ow j
section
variable {g : Hp} {μ : List Nat} {Z : Nat → Prop}
theorem RCs.put {ow : Nat → Option Nat} {cs : List TV} {vs : List Value} (r : RCs g μ Z ow cs vs) {l : List TV} {l' : List Value} (hl : RVs g μ Z l l') {o : Nat} (h : o + l.length ≤ cs.length) : RCs g μ Z (clr ow o l.length none) (putAt cs o l) (setList vs o l') := by
  have hlen := hl.length
  refine ⟨by rw [setList_length, putAt_len h, r.len], fun j tv v h1 h2 => ?_, fun j hj => ?_⟩
  · rw [putAt_get h] at h1
    rw [setList_get _ _ _ (by rw [hlen, r.len]; exact h), hlen] at h2
    unfold clr
    by_cases h3 : j < o
    · rw [if_pos h3] at h1 h2 ⊢; exact r.get j tv v h1 h2
    · rw [if_neg h3] at h1 h2 ⊢
      by_cases h4 : j < o + l.length
      · rw [if_pos h4] at h1 h2 ⊢
        obtain ⟨v', h5, h6⟩ := hl.get h1
        rw [h2] at h5; cases h5; exact h6
      · rw [if_neg h4] at h1 h2 ⊢; exact r.get j tv v h1 h2
  · rw [putAt_len h] at hj
    unfold clr
    rw [if_neg (by omega), if_neg (by omega)]; exact r.out j hj
theorem RCs.plain {ow : Nat → Option Nat} {cs : List TV} {vs : List Value} (r : RCs g μ Z ow cs vs) {o n : Nat} (h : o + n ≤ cs.length) (hn : ((cs.drop o).take n).any isOwn = false) : RVs g μ Z ((cs.drop o).take n) ((vs.drop o).take n) := by
  refine RVs.of_get (by simp [r.len]) fun j tv v h1 h2 => ?_
  have hno : isOwn tv = false := by
    have := List.any_eq_false.1 hn tv (List.mem_of_getElem? h1)
    simpa using this
  simp only [List.getElem?_take, List.getElem?_drop] at h1 h2
  split at h1
  · rename_i hj
    rw [if_pos hj] at h2
    have := r.get _ _ _ h1 h2
    revert this
    cases ow (o + j) with
    | none => exact id
    | some i => intro h; cases h; cases hno
  · cases h1
theorem RCs.at {ow : Nat → Option Nat} {cs : List TV} {vs : List Value} (r : RCs g μ Z ow cs vs) {o : Nat} {tv : TV} (h : cs[o]? = some tv) : ∃ v, vs[o]? = some v ∧ RC g μ Z (ow o) tv v := by
  have hlt := (List.getElem?_eq_some_iff.1 h).1
  have : o < vs.length := by rw [r.len]; exact hlt
  exact ⟨vs[o], by simp [this], r.get o tv _ h (by simp [this])⟩
theorem RC.plainOf {ow : Option Nat} {tv : TV} {v : Value} (r : RC g μ Z ow tv v) (h : isOwn tv = false) : ow = none ∧ RV g μ Z tv v := by
  cases ow with
  | none => exact ⟨rfl, r⟩
  | some i => cases r; cases h
theorem RC.ownOf {ow : Option Nat} {tv : TV} {v : Value} (r : RC g μ Z ow tv v) (h : isOwn tv = true) : ∃ i, ow = some i ∧ RO g μ Z i tv v := by
  cases ow with
  | none => rw [(RV.notown r).2.1] at h; cases h
  | some i => exact ⟨i, rfl, r⟩
end
section
variable {Pr : Nat → Prop} {μ μ' : List Nat} {w w' : Own} {a a' : TAct} {σ σ' : Sto} {ax ax' : Xe.Act} {s s' : AS}
theorem Rl.boxStep (r : Rl Pr μ w a σ ax s) {t ser : Nat} {cs cs' : List TV} {e : TypeId} (hb : a.ev (.tmp t) = .bx ser cs e) (mo : Mo s.get μ (Zo w Pr) s'.get μ (Zo w' Pr)) (rs : Rs Pr μ w' σ s')
    (h1 : ∀ t', w' (.tmp t') = w (.tmp t')) (h2 : ∀ t' o, t' ≠ t → w' (.tcell t' o) = w (.tcell t' o)) (hg : ∀ p i, w p = some i → (∀ h, p ≠ .hand h) → p ≠ .tmp t → (∀ o, p ≠ .tcell t o) → s'.get i = s.get i)
    (hi : ∀ i, w (.tmp t) = some i → ∃ ver vs, s'.get i = some ⟨ver, .cells vs e false⟩ ∧ RCs s'.get μ (Zo w' Pr) (fun o => w' (.tcell t o)) cs' vs) : Rl Pr μ w' (boxPut a t ser cs' e) σ ax s' := by
  refine r.step mo rs (Nat.lt_succ_self _) (fun t' => ?_) ⟨rfl, rfl⟩
  by_cases ht : t = t'
  · subst ht
    refine .inr ?_
    have hev : (boxPut a t ser cs' e).ev (.tmp t) = .bx ser cs' e := ev_set_same _ _ _ _ _
    rw [hev]
    have h := r.tm t
    rw [hb] at h
    revert h
    generalize ax.ev (.tmp t) = y
    intro h
    cases h with
    | plain h _ _ => exact absurd rfl (h.notown.2.2.2 _ _ _)
    | own _ _ h => cases h
    | al h _ _ => cases h
    | bx k1 k2 k3 k4 =>
      obtain ⟨ver, vs, q1, q2⟩ := hi _ k1
      exact ⟨.bx ((h1 t).trans k1) q1 q2 (by show ser < a.clk + 1; omega), rfl, fun ser' cs2 e2 hq => by cases hq; exact .inr ⟨⟨_, _, hb⟩, h1 t⟩⟩
  · have hev : (boxPut a t ser cs' e).ev (.tmp t') = a.ev (.tmp t') := ev_set_ne a _ _ _ ht
    exact .inl ⟨hev, rfl, h1 t', fun o => h2 t' o (fun h => ht h.symm), fun i hi => hg _ i hi (by simp) (by simp; omega) (by simp), fun o i hi => hg _ i hi (by simp) (by simp) (by simp; omega)⟩
theorem Rl.boxOf (r : Rl Pr μ w a σ ax s) {t ser : Nat} {cs : List TV} {e : TypeId} (hb : boxAt a t ser = some (cs, e)) : a.ev (.tmp t) = .bx ser cs e ∧ ∃ i ver vs, w (.tmp t) = some i ∧ ax.ev (.tmp t) = .pointer (some ⟨i, 0, none⟩) ∧ s.get i = some ⟨ver, .cells vs e false⟩ ∧ RCs s.get μ (Zo w Pr) (fun o => w (.tcell t o)) cs vs := by
  have hbx : a.ev (.tmp t) = .bx ser cs e := by
    unfold boxAt at hb
    split at hb
    · rename_i s' cs' e' hq
      split at hb
      · rename_i hs
        rw [beqNat] at hs
        have := of_decide_eq_true hs
        cases hb; rw [hq, this]
      · cases hb
    · cases hb
  refine ⟨hbx, ?_⟩
  have h := r.tm t
  rw [hbx] at h
  revert h
  generalize ax.ev (.tmp t) = y
  intro h
  cases h with
  | plain h _ _ => exact absurd rfl (h.notown.2.2.2 _ _ _)
  | own _ _ h => cases h
  | al h _ _ => cases h
  | bx k1 k2 k3 k4 => exact ⟨_, _, _, k1, rfl, k2, k3⟩
theorem Rl.vptOf (r : Rl Pr μ w a σ ax s) {t ser o : Nat} {cs : List TV} {e : TypeId} {v : Value} (hv : AL μ w a σ ax s.get (.vpt t o ser) v) (hb : boxAt a t ser = some (cs, e)) : ∃ i ver vs, v = .pointer (some ⟨i, o, none⟩) ∧ w (.tmp t) = some i ∧ s.get i = some ⟨ver, .cells vs e false⟩ ∧ RCs s.get μ (Zo w Pr) (fun o => w (.tcell t o)) cs vs := by
  obtain ⟨hbx, i, ver, vs, h1, h2, h3, h4⟩ := r.boxOf hb
  obtain ⟨i', k1, k2⟩ := hv.2 _ _ hbx
  rw [h1] at k1; cases k1
  exact ⟨i, ver, vs, k2, h1, h3, h4⟩
def relC (w : Own) (t o n : Nat) (x : Option Nat) : Own := fun p => match p with
  | .tcell t' j => if t' = t then clr (fun j => w (.tcell t j)) o n x j else w p
  | p => w p
theorem relC_tcell (w : Own) (t o n : Nat) (x : Option Nat) : (fun j => relC w t o n x (.tcell t j)) = clr (fun j => w (.tcell t j)) o n x := by
  funext j; simp [relC]
theorem relC_le (w : Own) (t o n : Nat) (p : Pc) (i : Nat) (h : relC w t o n none p = some i) : w p = some i := by
  cases p <;> simp only [relC] at h <;> try exact h
  rename_i t' j
  by_cases ht : t' = t
  · subst ht
    simp only [if_true] at h
    unfold clr at h
    split at h
    · exact h
    · split at h
      · cases h
      · exact h
  · rwa [if_neg ht] at h
def relO (w : Own) (k o n : Nat) (x : Option Nat) : Own := fun p => match p with
  | .cell k' j => if k' = k then clr (fun j => w (.cell k j)) o n x j else w p
  | p => w p
theorem relO_cell (w : Own) (k o n : Nat) (x : Option Nat) : (fun j => relO w k o n x (.cell k j)) = clr (fun j => w (.cell k j)) o n x := by
  funext j; simp [relO]
theorem relO_le (w : Own) (k o n : Nat) (p : Pc) (i : Nat) (h : relO w k o n none p = some i) : w p = some i := by
  cases p <;> simp only [relO] at h <;> try exact h
  rename_i k' j
  by_cases ht : k' = k
  · subst ht
    simp only [if_true] at h
    unfold clr at h
    split at h
    · exact h
    · split at h
      · cases h
      · exact h
  · rwa [if_neg ht] at h
theorem heapSet (s : AS) (i : Nat) (o : Option AObj) (j : Nat) : (s.upd [(i, o)] s.next).get j = if i = j then o else s.get j := by
  rw [AS.upd_get]; rfl
theorem Rl.moSet (r : Rl Pr μ w a σ ax s) {p : Pc} {i : Nat} (hi : w p = some i) (o : Option AObj) {w' : Own} (hw : ∀ p i, w' p = some i → ∃ q, w q = some i) : Mo s.get μ (Zo w Pr) (s.upd [(i, o)] s.next).get μ (Zo w' Pr) := by
  refine ⟨fun _ _ e => e, fun j ver vs e ro z hg => ⟨⟨fun q e => ?_, z.2⟩, ?_⟩⟩
  · obtain ⟨q', h⟩ := hw q j e; exact z.1 q' h
  · rw [heapSet, if_neg]; exact hg
    rintro rfl; exact z.1 _ hi
theorem Rl.dmSet (r : Rl Pr μ w a σ ax s) {p : Pc} {i : Nat} (hi : w p = some i) (o : Option AObj) : Dm (s.upd [(i, o)] s.next) := fun j hj => by
  have hj : s.next ≤ j := hj
  have := r.live _ _ hi
  rw [heapSet, if_neg (by omega)]; exact r.dm j hj
theorem Rs.setT (r : Rs Pr μ w σ s) {s' : AS} (mo : Mo s.get μ (Zo w Pr) s'.get μ (Zo w' Pr)) (hdm : Dm s') (hle : s.next ≤ s'.next) (inj : ∀ p q i, w' p = some i → w' q = some i → p = q) (own : ∀ p i, w' p = some i → ∃ q, w q = some i)
    (ho : ∀ k, w' (.obj k) = w (.obj k)) (hc : ∀ k c, w' (.cell k c) = w (.cell k c)) (hg : ∀ k i, (w (.obj k) = some i ∨ ∃ c, w (.cell k c) = some i) → s'.get i = s.get i) : Rs Pr μ w' σ s' :=
  ⟨hdm, r.len, inj, fun p i e => by obtain ⟨q, h⟩ := own p i e; exact r.pr q i h, fun p i e => by obtain ⟨q, h⟩ := own p i e; exact Nat.lt_of_lt_of_le (r.live q i h) hle, fun k => (ho k).trans (r.wobj k), fun k c hk => (hc k c).trans (r.out k c hk),
    fun k o e => (r.obj k o e).mono mo (hc k) (fun i e => hg k i (.inl ((r.wobj k).trans e))) (fun c i e => hg k i (.inr ⟨c, e⟩)), r.full⟩
theorem Rs.setO (r : Rs Pr μ w σ s) {s' : AS} {k : Nat} {o : TObj} (hk : k < σ.length) (mo : Mo s.get μ (Zo w Pr) s'.get μ (Zo w' Pr)) (hdm : Dm s') (hle : s.next ≤ s'.next) (inj : ∀ p q i, w' p = some i → w' q = some i → p = q) (own : ∀ p i, w' p = some i → ∃ q, w q = some i)
    (ho : ∀ k, w' (.obj k) = w (.obj k)) (hc : ∀ k' c, k' ≠ k → w' (.cell k' c) = w (.cell k' c)) (hg : ∀ k' i, k' ≠ k → (w (.obj k') = some i ∨ ∃ c, w (.cell k' c) = some i) → s'.get i = s.get i)
    (new : RObj s'.get μ (Zo w' Pr) w' k o) : Rs Pr μ w' (σ.set k (some o)) s' := by
  have hat : ∀ k', k' ≠ k → Sto.at (σ.set k (some o)) k' = σ.at k' := fun k' h => by simp only [Sto.at]; rw [List.getElem?_set_ne (fun e => h e.symm)]
  have hat2 : Sto.at (σ.set k (some o)) k = some o := by simp [Sto.at, hk]
  refine ⟨hdm, by simp [r.len], inj, fun p i e => by obtain ⟨q, h⟩ := own p i e; exact r.pr q i h, fun p i e => by obtain ⟨q, h⟩ := own p i e; exact Nat.lt_of_lt_of_le (r.live q i h) hle, fun k => (ho k).trans (r.wobj k), fun k' c hk' => ?_, fun k' o' e => ?_, trivial⟩
  · simp at hk'; rw [hc k' c (by omega)]; exact r.out k' c hk'
  · by_cases h : k' = k
    · subst h; rw [hat2] at e; cases e; exact new
    · rw [hat k' h] at e
      exact (r.obj k' o' e).mono mo (fun c => hc k' c h) (fun i e => hg k' i h (.inl ((r.wobj k').trans e))) (fun c i e => hg k' i h (.inr ⟨c, e⟩))
theorem Rs.setN (r : Rs Pr μ w σ s) {s' : AS} {k : Nat} (mo : Mo s.get μ (Zo w Pr) s'.get μ (Zo w Pr)) (hdm : Dm s') (hle : s.next ≤ s'.next) (hg : ∀ k' i, k' ≠ k → (w (.obj k') = some i ∨ ∃ c, w (.cell k' c) = some i) → s'.get i = s.get i) : Rs Pr μ w (σ.set k none) s' := by
  have hat : ∀ k' o, Sto.at (σ.set k none) k' = some o → k' ≠ k ∧ σ.at k' = some o := fun k' o h => by
    unfold Sto.at at h ⊢
    rw [List.getElem?_set] at h
    by_cases e : k = k'
    · rw [if_pos e] at h; split at h
      · rename_i y hy; split at hy <;> cases hy
      · cases h
    · rw [if_neg e] at h; exact ⟨fun h => e h.symm, h⟩
  refine ⟨hdm, by simp [r.len], r.inj, r.pr, fun p i e => Nat.lt_of_lt_of_le (r.live p i e) hle, r.wobj, fun k' c hk' => r.out k' c (by simpa using hk'), fun k' o' e => ?_, trivial⟩
  obtain ⟨h, e⟩ := hat k' o' e
  exact (r.obj k' o' e).mono mo (fun _ => rfl) (fun i e => hg k' i h (.inl ((r.wobj k').trans e))) (fun c i e => hg k' i h (.inr ⟨c, e⟩))
theorem Rl.objStep (r : Rl Pr μ w a σ ax s) (mo : Mo s.get μ (Zo w Pr) s'.get μ (Zo w' Pr)) (rs : Rs Pr μ w' σ' s') (h1 : ∀ t', w' (.tmp t') = w (.tmp t')) (h2 : ∀ t' o, w' (.tcell t' o) = w (.tcell t' o))
    (hg : ∀ t i, (w (.tmp t) = some i ∨ ∃ o, w (.tcell t o) = some i) → s'.get i = s.get i) : Rl Pr μ w' a.tick σ' ax s' :=
  r.step mo rs (Nat.lt_succ_self _) (fun t => .inl ⟨rfl, rfl, h1 t, h2 t, fun i e => hg t i (.inl e), fun o i e => hg t i (.inr ⟨o, e⟩)⟩) ⟨rfl, rfl⟩
end
end Go.Xt
end
section
namespace Go.Xt
open Go Go.Xe
set_option linter.unusedVariables false
set_option linter.unusedSimpArgs false
mutual
theorem RV.ofV (g : Hp) (μ : List Nat) (Z : Nat → Prop) : ∀ v : Value, RV g μ Z (Xt.ofV v) v
  | .int k n => .int k n
  | .bool b => .bool b
  | .string s => .str s
  | .pointer none => .nilp
  | .slice none 0 0 => .nl
  | .map none => .nilm
  | .nilFunc => .nilf
  | .nilIface => .nili
  | .agg ⟨l⟩ => .agg (RVs.ofVs g μ Z l)
  | .tuple ⟨l⟩ => .tuple (RVs.ofVs g μ Z l)
  | .float _ _ => .dead _
  | .complex _ _ _ => .dead _
  | .pointer (some _) => .dead _
  | .slice none 0 (_ + 1) => .dead _
  | .slice none (_ + 1) _ => .dead _
  | .slice (some _) _ _ => .dead _
  | .map (some _) => .dead _
  | .chan _ => .dead _
  | .func _ _ _ => .dead _
  | .iface _ _ => .dead _
theorem RVs.ofVs (g : Hp) (μ : List Nat) (Z : Nat → Prop) : ∀ l : List Value, RVs g μ Z (Xt.ofV.ofVs l) l
  | [] => .nil
  | v :: l => .cons (RV.ofV g μ Z v) (RVs.ofVs g μ Z l)
end
def pl : TV → Bool
  | .sl (.own _ _) _ => false
  | .via _ _ => false
  | .vel _ _ _ _ => false
  | .bx _ _ _ => false
  | .vpt _ _ _ => false
  | _ => true
theorem RV.pl {g : Hp} {μ : List Nat} {Z : Nat → Prop} {tv : TV} {v : Value} (h : RV g μ Z tv v) : Xt.pl tv = true := by cases h <;> rfl
section
variable {Pr : Nat → Prop} {μ μ' : List Nat} {w w' : Own} {a a' : TAct} {σ σ' : Sto} {ax ax' : Xe.Act} {s s' : AS}
theorem Rl.plain (r : Rl Pr μ w a σ ax s) {x : Operand} (h : pl (a.ev x) = true) : RV s.get μ (Zo w Pr) (a.ev x) (ax.ev x) := by
  cases x with
  | tmp t =>
    have ht := r.tm t
    revert h ht
    generalize a.ev (.tmp t) = tv
    generalize ax.ev (.tmp t) = v
    intro h ht
    cases ht with
    | plain k _ _ => exact k
    | own _ _ k => cases k; cases h
    | bx => cases h
    | al k _ _ => cases tv <;> first | (simp [Xt.pl] at h; done) | (simp [isAl] at k; done)
  | const v => exact RV.ofV _ _ _ v
  | global g => exact .dead _
  | func f => exact .func f .nil .nil
theorem Rl.plainOf (r : Rl Pr μ w a σ ax s) {x : Operand} {tv : TV} (h : a.ev x = tv) (hp : pl tv = true) : RV s.get μ (Zo w Pr) tv (ax.ev x) := by
  have := r.plain (x := x) (by rw [h]; exact hp)
  rwa [h] at this
theorem Rl.ownOf (r : Rl Pr μ w a σ ax s) {t : Nat} (h : isOwn (a.ev (.tmp t)) = true) : ∃ i, w (.tmp t) = some i ∧ RO s.get μ (Zo w Pr) i (a.ev (.tmp t)) (ax.ev (.tmp t)) := by
  have ht := r.tm t
  revert h ht
  generalize a.ev (.tmp t) = tv
  generalize ax.ev (.tmp t) = v
  intro h ht
  cases ht with
  | plain k _ _ => rw [k.notown.2.1] at h; cases h
  | own h1 _ k => exact ⟨_, h1, k⟩
  | bx => cases h
  | al k _ _ => cases tv <;> first | (simp [isOwn] at h; done) | (simp [isAl] at k; done)
theorem isOwn_const (v : Value) : isOwn (ofV v) = false := (RV.ofV (fun _ => none) [] (fun _ => True) v).notown.2.1
theorem isOwn_tmp {x : Operand} (h : isOwn (a.ev x) = true) : ∃ t, x = .tmp t := by
  cases x with
  | tmp t => exact ⟨t, rfl⟩
  | const v => rw [show a.ev (.const v) = ofV v from rfl, isOwn_const] at h; cases h
  | global g => cases h
  | func f => cases h
theorem frz_idem (v : TV) : frz (frz v) = frz v := by
  cases v <;> try rfl
  rename_i m c; cases m <;> rfl
theorem frz_same {v : TV} (h : isOwn v = false) : frz v = v := by
  cases v <;> try rfl
  rename_i m c; cases m <;> first | rfl | cases h
theorem frz_notown (v : TV) : isOwn (frz v) = false := by
  cases v <;> try rfl
  rename_i m c; cases m <;> rfl
theorem frz1_ev (a : TAct) (x y : Operand) : (frz1 a x).ev y = a.ev y ∨ (x = y ∧ (frz1 a x).ev y = frz (a.ev y)) := by
  cases x with
  | tmp t =>
    cases ho : isOwn (a.ev (.tmp t)) with
    | true =>
      simp only [frz1, ho]
      cases y with
      | tmp t' =>
        by_cases e : t = t'
        · subst e; exact .inr ⟨rfl, ev_set_same _ _ _ _ _⟩
        · exact .inl (ev_set_ne a _ _ _ e)
      | _ => exact .inl rfl
    | false => simp only [frz1, ho]; exact .inl trivial
  | _ => exact .inl rfl
theorem frz1_same (a : TAct) (x : Operand) : (frz1 a x).ev x = frz (a.ev x) := by
  cases x with
  | tmp t =>
    cases ho : isOwn (a.ev (.tmp t)) with
    | true => simp only [frz1, ho]; exact ev_set_same _ _ _ _ _
    | false => simp only [frz1, ho]; exact (frz_same ho).symm
  | const v => exact (frz_same (isOwn_const v)).symm
  | global g => rfl
  | func f => rfl
theorem frz1_frz (a : TAct) (x y : Operand) : frz ((frz1 a x).ev y) = frz (a.ev y) := by
  rcases frz1_ev a x y with h | ⟨_, h⟩
  · rw [h]
  · rw [h, frz_idem]
theorem frz1_keep {a : TAct} {x y : Operand} (h : isOwn (a.ev y) = false) : (frz1 a x).ev y = a.ev y := by
  rcases frz1_ev a x y with h1 | ⟨_, h1⟩
  · exact h1
  · rw [h1, frz_same h]
theorem frzs_keep : ∀ (l : List Operand) (a : TAct) (y : Operand), isOwn (a.ev y) = false → (frzs a l).ev y = a.ev y
  | [], a, y, _ => rfl
  | x :: l, a, y, h => by
    have h1 := frz1_keep (x := x) h
    simp only [frzs]; rw [frzs_keep l _ _ (by rw [h1]; exact h), h1]
theorem frzs_mem : ∀ (l : List Operand) (a : TAct) (y : Operand), y ∈ l → (frzs a l).ev y = frz (a.ev y)
  | [], a, y, h => by cases h
  | x :: l, a, y, h => by
    simp only [frzs]
    by_cases e : x = y
    · subst e
      rw [frzs_keep l _ _ (by rw [frz1_same]; exact frz_notown _), frz1_same]
    · rcases List.mem_cons.1 h with h | h
      · exact absurd h.symm e
      · rw [frzs_mem l _ y h, frz1_frz]
theorem Rl.frz1 (r : Rl Pr μ w a σ ax s) (x : Operand) : ∃ w1, Rl Pr μ w1 (Xt.frz1 a x) σ ax s ∧ ∀ p i, w1 p = some i → w p = some i := by
  cases x with
  | tmp t =>
    cases h : isOwn (a.ev (.tmp t)) with
    | true =>
      simp only [Xt.frz1, h]
      obtain ⟨i, h1, h2⟩ := r.ownOf h
      refine ⟨rel w (some t), r.reTmp t (RO.frz (h2.mono (Mo.sub (rel_le w _)) rfl) ⟨fun p e => ?_, r.pr _ i h1⟩), rel_le w _⟩
      have := r.inj _ _ _ (rel_le w _ p i e) h1
      subst this
      rw [rel_tmp_same] at e; cases e
    | false => simp only [Xt.frz1, h]; exact ⟨w, r, fun _ _ h => h⟩
  | const v => exact ⟨w, r, fun _ _ h => h⟩
  | global g => exact ⟨w, r, fun _ _ h => h⟩
  | func f => exact ⟨w, r, fun _ _ h => h⟩
theorem Rl.frzs : ∀ (l : List Operand) {w : Own} {a : TAct}, Rl Pr μ w a σ ax s → ∃ w1, Rl Pr μ w1 (Xt.frzs a l) σ ax s ∧ ∀ p i, w1 p = some i → w p = some i
  | [], w, a, r => ⟨w, r, fun _ _ h => h⟩
  | x :: l, w, a, r => by
    obtain ⟨w1, h1, h2⟩ := r.frz1 x
    obtain ⟨w2, h3, h4⟩ := Rl.frzs l h1
    exact ⟨w2, h3, fun p i e => h2 p i (h4 p i e)⟩
theorem give_frz {v v' : TV} (h : give v = some v') : v' = frz v ∧ pl v' = true := by
  cases v <;> simp only [give] at h <;> first | (cases h; exact ⟨rfl, rfl⟩) | (cases h; done) | skip
  rename_i m c
  cases m <;> simp only [give] at h <;> cases h <;> exact ⟨rfl, rfl⟩
theorem Rl.given (r : Rl Pr μ w a σ ax s) {l : List Operand} {a0 : TAct} (ha : a = Xt.frzs a0 l) {x : Operand} (hx : x ∈ l) {v : TV} (h : give (a0.ev x) = some v) : RV s.get μ (Zo w Pr) v (ax.ev x) := by
  obtain ⟨h1, h2⟩ := give_frz h
  subst ha
  have := frzs_mem l a0 x hx
  rw [← h1] at this
  exact r.plainOf this h2
theorem gives_rel (r : Rl Pr μ w a σ ax s) {L : List Operand} {a0 : TAct} (ha : a = Xt.frzs a0 L) : ∀ (l : List Operand), (∀ x ∈ l, x ∈ L) → ∀ {vs : List TV}, gives (l.map a0.ev) = some vs → RVs s.get μ (Zo w Pr) vs (l.map ax.ev)
  | [], _, vs, h => by simp only [List.map_nil, gives] at h; cases h; exact .nil
  | x :: l, hl, vs, h => by
    simp only [List.map_cons, gives] at h
    split at h
    · rename_i v vs' h1 h2
      cases h
      exact .cons (r.given ha (hl x (by simp)) h1) (gives_rel r ha l (fun y hy => hl y (by simp [hy])) h2)
    · cases h
structure After (w w' : Own) (μ μ' : List Nat) (s s' : AS) : Prop where
  le : s.next ≤ s'.next
  keep : ∀ i, i < s.next → (∀ p, w p ≠ some i) → s'.get i = s.get i
  own : ∀ p i, w' p = some i → i < s.next → ∃ q, w q = some i
  mu : ∃ ν, μ' = μ ++ ν
def Done (Pr : Nat → Prop) (μ : List Nat) (w : Own) (ax : Xe.Act) (s : AS) (d : Option Nat) (v : TV) (a' : TAct) (σ' : Sto) (p : PR) : Prop :=
  ∃ μ' w', Rl Pr μ' w' (a'.put d v) σ' (ax.put d p.v) (s.upd p.δ p.nx) ∧ After w w' μ μ' s (s.upd p.δ p.nx)
theorem done_pure {w1 : Own} (r : Rl Pr μ w1 a' σ' ax s) (hw : ∀ p i, w1 p = some i → ∃ q, w q = some i) (d : Option Nat) {tv : TV} {v : Value} (h : RV s.get μ (Zo w1 Pr) tv v ∨ (isAl tv = true ∧ AL μ w1 a' σ' ax s.get tv v)) :
    Done Pr μ w ax s d tv a' σ' ⟨v, [], s.next⟩ :=
  ⟨μ, rel w1 d, r.put d h, Nat.le_refl _, fun _ _ _ => rfl, fun p i e _ => hw p i (rel_le w1 d p i e), [], (List.append_nil μ).symm⟩
theorem done_val (r : Rl Pr μ w a σ ax s) (d : Option Nat) {tv : TV} {v : Value} (h : RV s.get μ (Zo w Pr) tv v) : Done Pr μ w ax s d tv a σ ⟨v, [], s.next⟩ :=
  done_pure r (fun p i e => ⟨p, e⟩) d (.inl h)
end
end Go.Xt
end
section
namespace Go.Xt
open Go Go.Xe
set_option linter.unusedVariables false
set_option linter.unusedSimpArgs false
theorem okSz_get {s : Nat} {chs : List (List TV)} (h : okSz s chs = true) {j : Nat} {ch : List TV} (e : chs[j]? = some ch) : ch.length = s := by
  have := List.all_eq_true.1 h ch (List.mem_of_getElem? e)
  rw [beqNat] at this
  exact of_decide_eq_true this
theorem flat_len {s : Nat} : ∀ {chs : List (List TV)}, okSz s chs = true → chs.flatten.length = chs.length * s
  | [], _ => by simp
  | c :: chs, h => by
    simp only [okSz, List.all_cons, Bool.and_eq_true] at h
    rw [beqNat] at h
    have h1 := of_decide_eq_true h.1
    rw [List.flatten_cons, List.length_append, flat_len h.2, h1, List.length_cons, Nat.succ_mul, Nat.add_comm]
theorem flat_chunk {s : Nat} : ∀ {chs : List (List TV)}, okSz s chs = true → ∀ {j : Nat} {ch : List TV}, chs[j]? = some ch → (chs.flatten.drop (j * s)).take s = ch
  | [], _, j, ch, e => by simp at e
  | c :: chs, h, j, ch, e => by
    simp only [okSz, List.all_cons, Bool.and_eq_true] at h
    rw [beqNat] at h
    have h1 := of_decide_eq_true h.1
    cases j with
    | zero =>
      simp at e; subst e
      rw [Nat.zero_mul, List.drop_zero, List.flatten_cons, ← h1, List.take_left]
    | succ j =>
      rw [List.flatten_cons, Nat.succ_mul, Nat.add_comm, ← h1, ← List.drop_drop, List.drop_left, h1]
      exact flat_chunk h.2 (by simpa using e)
def SimP (md b : Nat) (d : Option Nat) (op : XOp) : Prop :=
  ∀ {Pr : Nat → Prop} {μ : List Nat} {w : Own} {a : TAct} {σ : Sto} {ax : Xe.Act} {s : AS} {v : TV} {a' : TAct} {σ' : Sto}, tdo md b a σ op = some (v, a', σ') → Rl Pr μ w a σ ax s → (∀ i, Pr i → i < s.next) →
    ∃ p, xprim s.get s.next ax.ev op = some p ∧ Done Pr μ w ax s d v a' σ' p
section
variable {Pr : Nat → Prop} {μ μ' : List Nat} {w w' : Own} {a a' : TAct} {σ σ' : Sto} {ax ax' : Xe.Act} {s s' : AS}
theorem Rl.at (r : Rl Pr μ w a σ ax s) {x : Operand} (h : isOwn (a.ev x) = false) : RV s.get μ (Zo w Pr) (a.at x) (ax.ev x) ∨ (isAl (a.at x) = true ∧ AL μ w a σ ax s.get (a.at x) (ax.ev x)) := by
  by_cases hp : pl (a.ev x) = true
  · left
    have : a.at x = a.ev x := by
      unfold TAct.at
      revert hp
      generalize a.ev x = v
      intro hp
      cases v <;> first | rfl | (simp [pl] at hp)
    rw [this]; exact r.plain hp
  · have hx : ∃ t, x = .tmp t := by
      cases x with
      | tmp t => exact ⟨t, rfl⟩
      | const v => exact absurd (RV.ofV (fun _ => none) [] (fun _ => True) v).pl hp
      | global g => exact absurd rfl hp
      | func f => exact absurd rfl hp
    obtain ⟨t, rfl⟩ := hx
    have ha := r.al t
    have ht := r.tm t
    unfold TAct.at
    revert h hp ha ht
    generalize hv : a.ev (.tmp t) = v
    intro h hp ha ht
    cases v <;> first | (simp [pl] at hp; done) | skip
    · exact .inr ⟨rfl, ha⟩
    · exact .inr ⟨rfl, ha⟩
    · rename_i ser cs e
      right
      simp only
      revert ht
      generalize hy : ax.ev (.tmp t) = y
      intro ht
      cases ht with
      | plain k _ _ => exact absurd rfl (k.notown.2.2.2 _ _ _)
      | own _ _ k => cases k
      | al k _ _ => cases k
      | bx k1 k2 k3 k4 => exact ⟨rfl, k4, fun cs' e' hb => ⟨_, k1, rfl⟩⟩
    · exact .inr ⟨rfl, ha⟩
    · rename_i m c
      cases m <;> first | (simp [pl] at hp; done) | cases h
theorem done_al (r : Rl Pr μ w a σ ax s) (d : Option Nat) {tv : TV} {v : Value} (h : isAl tv = true) (h2 : AL μ w a σ ax s.get tv v) : Done Pr μ w ax s d tv a σ ⟨v, [], s.next⟩ :=
  done_pure r (fun p i e => ⟨p, e⟩) d (.inr ⟨h, h2⟩)
end
theorem s_keep (md b : Nat) (d : Option Nat) (x : Operand) : SimP md b d (.keep x) := by
  intro Pr μ w a σ ax s v a' σ' h r hP
  simp only [tdo] at h
  split at h
  · rename_i st hx
    cases h
    have := r.plainOf hx rfl
    revert this
    simp only [xprim]
    generalize ax.ev x = y
    intro h; cases h
    exact ⟨_, rfl, done_val r d (.str _)⟩
  · cases h
theorem s_pick (md b : Nat) (d : Option Nat) (c x y : Operand) : SimP md b d (.pick c x y) := by
  intro Pr μ w a σ ax s v a' σ' h r hP
  simp only [tdo] at h
  simp only [xprim]
  split at h
  · rename_i hc
    have hc' := r.plainOf hc rfl
    revert hc'
    generalize ax.ev c = z
    intro hc'; cases hc'
    split at h
    · rename_i ho; cases h
      exact ⟨_, rfl, done_pure r (fun p i e => ⟨p, e⟩) d (r.at ho)⟩
    · cases h
  · rename_i hc
    have hc' := r.plainOf hc rfl
    revert hc'
    generalize ax.ev c = z
    intro hc'; cases hc'
    split at h
    · rename_i ho; cases h
      exact ⟨_, rfl, done_pure r (fun p i e => ⟨p, e⟩) d (r.at ho)⟩
    · cases h
  · cases h
theorem tint_rel {g : Hp} {μ : List Nat} {Z : Nat → Prop} {op : BinOp} {k : IntKind} {x y : Int} {v : TV} (h : tint op k x y = some v) : ∃ v', xint op k x y = some v' ∧ RV g μ Z v v' := by
  cases op <;> simp only [tint] at h <;> simp only [xint] <;> first | (cases h; done) | (cases h; exact ⟨_, rfl, .int _ _⟩) | (cases h; exact ⟨_, rfl, .bool _⟩) | skip
  all_goals
    split at h
    · cases h
    · rename_i hb; cases h; rw [if_neg hb]; exact ⟨_, rfl, .int _ _⟩
theorem tstr_rel {g : Hp} {μ : List Nat} {Z : Nat → Prop} {op : BinOp} {x y : ByteArray} {v : TV} (h : tstr op x y = some v) : ∃ v', xstr op x y = some v' ∧ RV g μ Z v v' := by
  cases op <;> simp only [tstr] at h <;> simp only [xstr] <;> first | (cases h; done) | (cases h; exact ⟨_, rfl, .bool _⟩) | skip
  split at h
  · rename_i hb; cases h; rw [if_pos hb]; exact ⟨_, rfl, .str _⟩
  · cases h
theorem xbin_str (op : BinOp) (x y : ByteArray) : xbin op (.string x) (.string y) = xstr op x y := by cases op <;> rfl
theorem tbin_rel {g : Hp} {μ : List Nat} {Z : Nat → Prop} {op : BinOp} {x y v : TV} {x' y' : Value} (hx : pl x = true → RV g μ Z x x') (hy : pl y = true → RV g μ Z y y') (h : tbin op x y = some v) : ∃ v', xbin op x' y' = some v' ∧ RV g μ Z v v' := by
  unfold tbin at h
  split at h
  · have h1 := hx rfl; have h2 := hy rfl
    cases h1; cases h2
    split at h
    · cases h
    · rename_i hb; cases h
      exact ⟨_, by simp only [xbin, hb], .int _ _⟩
  · have h1 := hx rfl; have h2 := hy rfl
    cases h1; cases h2
    split at h
    · cases h
    · rename_i hb; cases h
      exact ⟨_, by simp only [xbin, hb], .int _ _⟩
  · rename_i op' k p k' q hn1 hn2
    have h1 := hx rfl; have h2 := hy rfl
    cases h1; cases h2
    split at h
    · rename_i hk
      obtain ⟨v', h3, h4⟩ := tint_rel (g := g) (μ := μ) (Z := Z) h
      refine ⟨v', ?_, h4⟩
      cases op <;> first | (simp only [xbin, hk]; exact h3) | exact absurd rfl (hn1 _ _ _ _ rfl rfl) | exact absurd rfl (hn2 _ _ _ _ rfl rfl) | (simp [tint] at h)
    · cases h
  · have h1 := hx rfl; have h2 := hy rfl
    cases h1; cases h2
    obtain ⟨v', h3, h4⟩ := tstr_rel (g := g) (μ := μ) (Z := Z) h
    exact ⟨v', by rw [xbin_str]; exact h3, h4⟩
  · cases h
theorem s_bin (md b : Nat) (d : Option Nat) (op : BinOp) (x y : Operand) : SimP md b d (.bin op x y) := by
  intro Pr μ w a σ ax s v a' σ' h r hP
  simp only [tdo, tVal] at h
  split at h
  · rename_i v0 hv
    cases h
    obtain ⟨v', h3, h4⟩ := tbin_rel (fun h => r.plain h) (fun h => r.plain h) hv
    exact ⟨⟨v', [], s.next⟩, by simp only [xprim, h3, pure1], done_val r d h4⟩
  · cases h
theorem s_un (md b : Nat) (d : Option Nat) (op : UnOp) (x : Operand) : SimP md b d (.un op x) := by
  intro Pr μ w a σ ax s v a' σ' h r hP
  simp only [tdo, tVal] at h
  split at h
  · rename_i v0 hv
    cases h
    unfold tun at hv
    split at hv
    · rename_i hx
      have h1 := r.plainOf hx rfl
      cases hv
      simp only [xprim]
      revert h1; generalize ax.ev x = y; intro h1; cases h1
      exact ⟨_, rfl, done_val r d (.int _ _)⟩
    · rename_i hx
      have h1 := r.plainOf hx rfl
      simp only [xprim]
      revert h1; generalize ax.ev x = y; intro h1; cases h1
      obtain ⟨v', h3, h4⟩ := tint_rel (g := s.get) (μ := μ) (Z := Zo w Pr) hv
      exact ⟨⟨v', [], s.next⟩, by simp only [xun, h3, pure1], done_val r d h4⟩
    · rename_i hx
      have h1 := r.plainOf hx rfl
      cases hv
      simp only [xprim]
      revert h1; generalize ax.ev x = y; intro h1; cases h1
      exact ⟨_, rfl, done_val r d (.bool _)⟩
    · cases hv
  · cases h
theorem s_toInt (md b : Nat) (d : Option Nat) (k : IntKind) (x : Operand) : SimP md b d (.toInt k x) := by
  intro Pr μ w a σ ax s v a' σ' h r hP
  simp only [tdo] at h
  split at h
  · rename_i hx
    have h1 := r.plainOf hx rfl
    cases h
    simp only [xprim]
    revert h1; generalize ax.ev x = y; intro h1; cases h1
    exact ⟨_, rfl, done_val r d (.int _ _)⟩
  · cases h
theorem s_indexStr (md b : Nat) (d : Option Nat) (x i : Operand) : SimP md b d (.indexStr x i) := by
  intro Pr μ w a σ ax s v a' σ' h r hP
  simp only [tdo] at h
  split at h
  · rename_i hx hi
    have h1 := r.plainOf hx rfl
    have h2 := r.plainOf hi rfl
    split at h
    · rename_i bb hb
      cases h
      simp only [xprim]
      revert h1 h2; generalize ax.ev x = y; generalize ax.ev i = z; intro h1 h2; cases h1; cases h2
      simp only [hb]
      exact ⟨_, rfl, done_val r d (.int _ _)⟩
    · cases h
  · cases h
theorem s_lenStr (md b : Nat) (d : Option Nat) (x : Operand) : SimP md b d (.lenStr x) := by
  intro Pr μ w a σ ax s v a' σ' h r hP
  simp only [tdo] at h
  split at h
  · rename_i hx
    have h1 := r.plainOf hx rfl
    cases h
    simp only [xprim]
    revert h1; generalize ax.ev x = y; intro h1; cases h1
    exact ⟨_, rfl, done_val r d (.int _ _)⟩
  · cases h
theorem s_lenArr (md b : Nat) (d : Option Nat) (n : Nat) : SimP md b d (.lenArr n) := by
  intro Pr μ w a σ ax s v a' σ' h r hP
  simp only [tdo] at h
  cases h
  exact ⟨_, rfl, done_val r d (.int _ _)⟩
theorem s_extract (md b : Nat) (d : Option Nat) (x : Operand) (i : Nat) : SimP md b d (.extract x i) := by
  intro Pr μ w a σ ax s v a' σ' h r hP
  simp only [tdo, tVal] at h
  split at h
  · rename_i vs hx
    have h1 := r.plainOf hx rfl
    split at h
    · rename_i v0 hv
      cases h
      simp only [xprim]
      revert h1; generalize ax.ev x = y; intro h1; cases h1
      rename_i h1
      obtain ⟨v', h3, h4⟩ := h1.get hv
      simp only [h3]
      exact ⟨_, rfl, done_val r d h4⟩
    · cases h
  · cases h
theorem s_field1 (md b : Nat) (d : Option Nat) (off : Nat) (x : Operand) : SimP md b d (.field1 off x) := by
  intro Pr μ w a σ ax s v a' σ' h r hP
  simp only [tdo, tVal] at h
  split at h
  · rename_i vs hx
    have h1 := r.plainOf hx rfl
    split at h
    · rename_i v0 hv
      cases h
      simp only [xprim]
      revert h1; generalize ax.ev x = y; intro h1; cases h1
      rename_i h1
      obtain ⟨v', h3, h4⟩ := h1.get hv
      simp only [h3]
      exact ⟨_, rfl, done_val r d h4⟩
    · cases h
  · cases h
theorem s_fieldN (md b : Nat) (d : Option Nat) (off n : Nat) (x : Operand) : SimP md b d (.fieldN off n x) := by
  intro Pr μ w a σ ax s v a' σ' h r hP
  simp only [tdo] at h
  split at h
  · rename_i vs hx
    have h1 := r.plainOf hx rfl
    cases h
    simp only [xprim]
    revert h1; generalize ax.ev x = y; intro h1; cases h1
    rename_i h1
    exact ⟨_, rfl, done_val r d (.agg ((h1.drop off).take n))⟩
  · cases h
theorem s_index1 (md b : Nat) (d : Option Nat) (len : Nat) (x i : Operand) : SimP md b d (.index1 len x i) := by
  intro Pr μ w a σ ax s v a' σ' h r hP
  simp only [tdo, tVal] at h
  split at h
  · rename_i vs j hx hi
    have h1 := r.plainOf hx rfl
    have h2 := r.plainOf hi rfl
    split at h
    · rename_i hj
      split at h
      · rename_i v0 hv
        cases h
        simp only [xprim]
        revert h1 h2; generalize ax.ev x = y; generalize ax.ev i = z; intro h1 h2; cases h1; cases h2
        rename_i h1
        obtain ⟨v', h3, h4⟩ := h1.get hv
        simp only [hj, h3]
        exact ⟨_, rfl, done_val r d h4⟩
      · cases h
    · cases h
  · cases h
theorem s_indexN (md b : Nat) (d : Option Nat) (len size : Nat) (x i : Operand) : SimP md b d (.indexN len size x i) := by
  intro Pr μ w a σ ax s v a' σ' h r hP
  simp only [tdo] at h
  split at h
  · rename_i vs j hx hi
    have h1 := r.plainOf hx rfl
    have h2 := r.plainOf hi rfl
    split at h
    · rename_i hj
      cases h
      simp only [xprim]
      revert h1 h2; generalize ax.ev x = y; generalize ax.ev i = z; intro h1 h2; cases h1; cases h2
      rename_i h1
      simp only [hj]
      exact ⟨_, rfl, done_val r d (.agg ((h1.drop _).take _))⟩
    · cases h
  · cases h
theorem s_assertT (md b : Nat) (d : Option Nat) (t : TypeId) (z : Value) (x : Operand) (ok : Bool) : SimP md b d (.assertT t z x ok) := by
  intro Pr μ w a σ ax s v a' σ' h r hP
  simp only [tdo] at h
  split at h
  · rename_i u v0 hx
    have h1 := r.plainOf hx rfl
    simp only [xprim]
    revert h1; generalize ax.ev x = y; intro h1; cases h1
    rename_i h1
    split at h
    · rename_i hb
      cases h
      simp only [hb]
      refine ⟨_, rfl, done_val r d ?_⟩
      cases ok
      · exact h1
      · exact .tuple (.cons h1 (.cons (.bool _) .nil))
    · rename_i hb
      simp only [hb]
      split at h
      · cases h; exact ⟨_, rfl, done_val r d (.tuple (.cons (RV.ofV _ _ _ _) (.cons (.bool _) .nil)))⟩
      · cases h
  · rename_i hx
    have h1 := r.plainOf hx rfl
    simp only [xprim]
    revert h1; generalize ax.ev x = y; intro h1; cases h1
    split at h
    · cases h; exact ⟨_, rfl, done_val r d (.tuple (.cons (RV.ofV _ _ _ _) (.cons (.bool _) .nil)))⟩
    · cases h
  · cases h
def ORV (g : Hp) (μ : List Nat) (Z : Nat → Prop) : Option TV → Option Value → Prop
  | none, none => True
  | some x, some y => pl x = true → RV g μ Z x y
  | _, _ => False
theorem boundT_rel {g : Hp} {μ : List Nat} {Z : Nat → Prop} {x : TV} {y : Value} (h : pl x = true → RV g μ Z x y) {n i : Nat} (e : boundT x n = some i) : bound y n = some i := by
  unfold boundT at e
  split at e
  · have h1 := h rfl
    cases h1
    split at e
    · rename_i hb; cases e; simp only [bound, hb]
    · cases e
  · cases e
def bnd1 (y : Option Value) (n dflt : Nat) : Option Nat :=
  match y with
  | some v => bound v n
  | none => some dflt
def bnd2 (hi mx : Option Value) (m len : Nat) : Option Nat :=
  match hi with
  | some v => bound v m
  | none => match mx with
    | none => some len
    | some _ => none
def bnd3 (len cap : Nat) (lo hi mx : Option Value) : Option (Nat × Nat × Nat) :=
  match bnd1 mx cap cap with
  | none => none
  | some m => match bnd2 hi mx m len with
    | none => none
    | some h => match bnd1 lo h 0 with
      | none => none
      | some l => some (l, h, m)
theorem bounds_eq (len cap : Nat) (lo hi mx : Option Value) : bounds len cap lo hi mx = bnd3 len cap lo hi mx := by
  cases mx <;> cases hi <;> cases lo <;> rfl
theorem optB_rel {g : Hp} {μ : List Nat} {Z : Nat → Prop} {x : Option TV} {y : Option Value} (h : ORV g μ Z x y) {n dflt i : Nat} (e : optB x n dflt = some i) : bnd1 y n dflt = some i := by
  cases x <;> cases y <;> simp only [ORV, optB] at h e
  · exact e
  · exact boundT_rel h e
theorem hiB_rel {g : Hp} {μ : List Nat} {Z : Nat → Prop} {x m : Option TV} {y m' : Option Value} (h : ORV g μ Z x y) (hm : ORV g μ Z m m') {n len i : Nat} (e : hiB x m n len = some i) : bnd2 y m' n len = some i := by
  cases x <;> cases y <;> simp only [ORV, hiB] at h e
  · cases m <;> cases m' <;> simp only [ORV] at hm e
    · exact e
    · cases e
  · exact boundT_rel h e
theorem bounds_rel {g : Hp} {μ : List Nat} {Z : Nat → Prop} {lo hi mx : Option TV} {lo' hi' mx' : Option Value} (h1 : ORV g μ Z lo lo') (h2 : ORV g μ Z hi hi') (h3 : ORV g μ Z mx mx') {len cap l h m : Nat} (e : boundsT len cap lo hi mx = some (l, h, m)) : bounds len cap lo' hi' mx' = some (l, h, m) := by
  unfold boundsT at e
  rw [bounds_eq]
  unfold bnd3
  cases e1 : optB mx cap cap with
  | none => rw [e1] at e; cases e
  | some m0 =>
    rw [e1] at e
    simp only at e
    cases e2 : hiB hi mx m0 len with
    | none => rw [e2] at e; cases e
    | some h0 =>
      rw [e2] at e
      simp only at e
      cases e3 : optB lo h0 0 with
      | none => rw [e3] at e; cases e
      | some l0 =>
        rw [e3] at e
        cases e
        rw [optB_rel h3 e1]
        simp only
        rw [hiB_rel h2 h3 e2]
        simp only
        rw [optB_rel h1 e3]
theorem ORV.map {Pr : Nat → Prop} {μ : List Nat} {w : Own} {a : TAct} {σ : Sto} {ax : Xe.Act} {s : AS} (r : Rl Pr μ w a σ ax s) : ∀ o : Option Operand, ORV s.get μ (Zo w Pr) (o.map a.ev) (o.map ax.ev)
  | none => trivial
  | some x => fun h => r.plain h
theorem s_sliceStr (md b : Nat) (d : Option Nat) (x : Operand) (lo hi : Option Operand) : SimP md b d (.sliceStr x lo hi) := by
  intro Pr μ w a σ ax s v a' σ' h r hP
  simp only [tdo] at h
  split at h
  · rename_i st hx
    have h1 := r.plainOf hx rfl
    split at h
    · rename_i l h' m hb
      cases h
      have hb' := bounds_rel (mx := none) (mx' := none) (ORV.map r lo) (ORV.map r hi) trivial hb
      simp only [xprim]
      revert h1; generalize ax.ev x = y; intro h1; cases h1
      simp only [hb']
      exact ⟨_, rfl, done_val r d (.str _)⟩
    · cases h
  · cases h
theorem ints_rel {g : Hp} {μ : List Nat} {Z : Nat → Prop} : ∀ {l : List TV} {l' : List Value}, l.length = l'.length → (∀ (i : Nat) (x : TV) (y : Value), l[i]? = some x → l'[i]? = some y → pl x = true → RV g μ Z x y) → ∀ {r : List (IntKind × Int)}, intsT l = some r → allInts l' = some r
  | [], [], _, _, r, e => by simp only [intsT] at e; cases e; rfl
  | x :: l, y :: l', hl, h, r, e => by
    unfold intsT at e
    split at e
    · rename_i heq; cases heq
    · rename_i k n rest heq
      cases heq
      split at e
      · rename_i rr he
        cases e
        have h1 := h 0 _ _ rfl rfl rfl
        cases h1
        simp only [allInts]
        rw [ints_rel (by simpa using hl) (fun i x y hx hy => h (i + 1) x y (by simpa using hx) (by simpa using hy)) he]
      · cases e
    · cases e
  | [], _ :: _, hl, _, _, _ => by simp at hl
  | _ :: _, [], hl, _, _, _ => by simp at hl
theorem ints_of {Pr : Nat → Prop} {μ : List Nat} {w : Own} {a : TAct} {σ : Sto} {ax : Xe.Act} {s : AS} (r : Rl Pr μ w a σ ax s) {xs : List Operand} {l : List (IntKind × Int)} (h : intsT (xs.map a.ev) = some l) : allInts (xs.map ax.ev) = some l := by
  refine ints_rel (g := s.get) (μ := μ) (Z := Zo w Pr) (by simp) (fun i x y hx hy hp => ?_) h
  rw [List.getElem?_map] at hx hy
  cases hq : xs[i]? with
  | none => rw [hq] at hx; cases hx
  | some o => rw [hq] at hx hy; cases hx; cases hy; exact r.plain hp
theorem s_maxI (md b : Nat) (d : Option Nat) (xs : List Operand) : SimP md b d (.maxI xs) := by
  intro Pr μ w a σ ax s v a' σ' h r hP
  simp only [tdo] at h
  split at h
  · rename_i k n l hx
    cases h
    refine ⟨_, by simp only [xprim, ints_of r hx]; rfl, done_val r d (.int _ _)⟩
  · cases h
theorem s_minI (md b : Nat) (d : Option Nat) (xs : List Operand) : SimP md b d (.minI xs) := by
  intro Pr μ w a σ ax s v a' σ' h r hP
  simp only [tdo] at h
  split at h
  · rename_i k n l hx
    cases h
    refine ⟨_, by simp only [xprim, ints_of r hx]; rfl, done_val r d (.int _ _)⟩
  · cases h
end Go.Xt
end
section
namespace Go.Xt
open Go Go.Xe
set_option linter.unusedVariables false
set_option linter.unusedSimpArgs false
theorem loadList_of {g : Hp} {i o n ver : Nat} {vs : List Value} {e : TypeId} {ro : Bool} (hg : g i = some ⟨ver, .cells vs e ro⟩) (h : o + n ≤ vs.length) : loadList g ⟨i, o, none⟩ n = some ((vs.drop o).take n) := by
  simp only [loadList, hg]
  rw [bleNat, decide_eq_true h]
theorem storeList_of {g : Hp} {i o ver : Nat} {vs xs : List Value} {e : TypeId} (hg : g i = some ⟨ver, .cells vs e false⟩) (h : o + xs.length ≤ vs.length) : storeList g ⟨i, o, none⟩ xs = some [(i, some ⟨ver + 1, .cells (setList vs o xs) e false⟩)] := by
  simp only [storeList, hg]
  rw [bleNat, decide_eq_true h]
section
variable {Pr : Nat → Prop} {μ μ' : List Nat} {w w' : Own} {a a' : TAct} {σ σ' : Sto} {ax ax' : Xe.Act} {s s' : AS}
theorem at_own (a : TAct) (x : Operand) : isOwn (a.ev x) = isOwn (a.at x) := by
  unfold TAct.at
  generalize a.ev x = v
  cases v <;> try rfl
  cases x <;> rfl
theorem Rl.atPlain (r : Rl Pr μ w a σ ax s) {x : Operand} {tv : TV} (h : a.at x = tv) (hp : pl tv = true) : RV s.get μ (Zo w Pr) tv (ax.ev x) := by
  have ho : isOwn (a.ev x) = false := by
    rw [at_own, h]
    cases tv <;> first | rfl | skip
    rename_i m c; cases m <;> first | rfl | (simp [pl] at hp)
  rcases r.at ho with k | ⟨k, _⟩
  · rwa [h] at k
  · rw [h] at k; cases tv <;> first | (simp [pl] at hp; done) | (simp [isAl] at k; done)
theorem Rl.atAl (r : Rl Pr μ w a σ ax s) {x : Operand} {tv : TV} (h : a.at x = tv) (ha : isAl tv = true) : AL μ w a σ ax s.get tv (ax.ev x) := by
  have ho : isOwn (a.ev x) = false := by
    rw [at_own, h]
    cases tv <;> first | rfl | (simp [isAl] at ha)
  rcases r.at ho with k | ⟨_, k⟩
  · have := k.notown.2.2.1; rw [h, ha] at this; cases this
  · rwa [h] at k
theorem Rl.objOf (r : Rl Pr μ w a σ ax s) {k ver : Nat} {cs : List TV} {e : TypeId} (h : σ.at k = some ⟨ver, .cells cs e⟩) : ∃ i vs, μ[k]? = some i ∧ s.get i = some ⟨ver, .cells vs e false⟩ ∧ RCs s.get μ (Zo w Pr) (fun o => w (.cell k o)) cs vs := by
  obtain ⟨i, b, h1, h2, h3⟩ := r.obj k _ h
  cases b <;> simp only [RB] at h3
  obtain ⟨rfl, rfl, h3⟩ := h3
  exact ⟨i, _, h1, h2, h3⟩
theorem Rl.mapOf (r : Rl Pr μ w a σ ax s) {k ver : Nat} {es : List (TV × TV × Nat)} {ck : Nat} (h : σ.at k = some ⟨ver, .map es ck⟩) : ∃ i es', μ[k]? = some i ∧ s.get i = some ⟨ver, .map es' ck⟩ ∧ es'.length = es.length ∧ (∀ (j : Nat) (x : TV × TV × Nat) (y : MapEntry), es[j]? = some x → es'[j]? = some y → RV s.get μ (Zo w Pr) x.1 y.key ∧ RV s.get μ (Zo w Pr) x.2.1 y.val ∧ y.born = x.2.2) ∧ ∀ o, w (.cell k o) = none := by
  obtain ⟨i, b, h1, h2, h3⟩ := r.obj k _ h
  cases b <;> simp only [RB] at h3
  obtain ⟨rfl, h3, h4, h5⟩ := h3
  exact ⟨i, _, h1, h2, h3, h4, h5⟩
def Pl.pc : Pl → Pc
  | .tmp t => .tmp t
  | .tcell t o _ => .tcell t o
  | .cell k o => .cell k o
theorem ownChs_some {v : TV} {chs : List (List TV)} (h : ownChs v = some chs) : isOwn v = true ∧ ∃ e s, v = .sl (.own e s) chs := by
  unfold ownChs at h
  split at h
  · cases h; exact ⟨rfl, _, _, rfl⟩
  · cases h
theorem Rl.place (r : Rl Pr μ w a σ ax s) {p : Pl} {chs : List (List TV)} (h : plGet a σ p = some chs) : ∃ i e sz v, w p.pc = some i ∧ RO s.get μ (Zo w Pr) i (.sl (.own e sz) chs) v ∧ HVal μ w ax s.get p v := by
  cases p with
  | tmp t =>
    obtain ⟨h1, e, sz, h2⟩ := ownChs_some h
    obtain ⟨i, h3, h4⟩ := r.ownOf h1
    rw [h2] at h4
    exact ⟨i, e, sz, _, h3, h4, rfl⟩
  | tcell t o ser =>
    simp only [plGet] at h
    split at h
    · rename_i cs e hb
      split at h
      · rename_i v hv
        obtain ⟨h1, e', sz, rfl⟩ := ownChs_some h
        obtain ⟨hbx, i, ver, vs, k1, k2, k3, k4⟩ := r.boxOf hb
        obtain ⟨v', q1, q2⟩ := k4.at hv
        obtain ⟨j, q3, q4⟩ := q2.ownOf rfl
        exact ⟨j, e', sz, v', q3, q4, i, ver, vs, e, k1, k3, q1⟩
      · cases h
    · cases h
  | cell k o =>
    simp only [plGet] at h
    split at h
    · rename_i ver cs e hb
      split at h
      · rename_i v hv
        obtain ⟨h1, e', sz, rfl⟩ := ownChs_some h
        obtain ⟨i, vs, k1, k2, k3⟩ := r.objOf hb
        obtain ⟨v', q1, q2⟩ := k3.at hv
        obtain ⟨j, q3, q4⟩ := q2.ownOf rfl
        exact ⟨j, e', sz, v', q3, q4, i, ver, vs, e, k1, k2, q1⟩
      · cases h
    · cases h
theorem hval_fun {g : Hp} {p : Pl} {v v' : Value} (h : HVal μ w ax g p v) (h' : HVal μ w ax g p v') : v = v' := by
  cases p with
  | tmp t => exact Eq.trans h (Eq.symm h')
  | tcell t o ser =>
    obtain ⟨i, ver, vs, e, k1, k2, k3⟩ := h
    obtain ⟨i', ver', vs', e', q1, q2, q3⟩ := h'
    rw [k1] at q1; cases q1
    rw [k2] at q2; cases q2
    rw [k3] at q3; cases q3; rfl
  | cell k o =>
    obtain ⟨i, ver, vs, e, k1, k2, k3⟩ := h
    obtain ⟨i', ver', vs', e', q1, q2, q3⟩ := h'
    rw [k1] at q1; cases q1
    rw [k2] at q2; cases q2
    rw [k3] at q3; cases q3; rfl
theorem Rl.viaOf (r : Rl Pr μ w a σ ax s) {p : Pl} {c : Nat} {v : Value} (ha : AL μ w a σ ax s.get (.via p c) v) (hc : Nat.beq c a.clk = true) {chs : List (List TV)} (h : plGet a σ p = some chs) : ∃ i e sz, w p.pc = some i ∧ RO s.get μ (Zo w Pr) i (.sl (.own e sz) chs) v := by
  rw [beqNat] at hc
  have hv := ha.2 (of_decide_eq_true hc) chs h
  obtain ⟨i, e, sz, v', h1, h2, h3⟩ := r.place h
  rw [hval_fun hv h3]
  exact ⟨i, e, sz, h1, h2⟩
theorem velAt_some {p : Pl} {c j : Nat} {ch : List TV} (h : velAt a σ p c j = some ch) : c = a.clk ∧ ∃ chs, plGet a σ p = some chs ∧ chs[j]? = some ch := by
  unfold velAt at h
  split at h
  · rename_i hc
    rw [beqNat] at hc
    split at h
    · rename_i chs hp; exact ⟨of_decide_eq_true hc, chs, hp, h⟩
    · cases h
  · cases h
theorem Rl.velOf (r : Rl Pr μ w a σ ax s) {p : Pl} {c j o : Nat} {v : Value} (ha : AL μ w a σ ax s.get (.vel p c j o) v) {ch : List TV} (h : velAt a σ p c j = some ch) :
    ∃ i ver vs e d, v = .pointer (some ⟨i, d + o, none⟩) ∧ w p.pc = some i ∧ s.get i = some ⟨ver, .cells vs e false⟩ ∧ d + ch.length ≤ vs.length ∧ RVs s.get μ (Zo w Pr) ch ((vs.drop d).take ch.length) := by
  obtain ⟨hc, chs, hp, hj⟩ := velAt_some h
  obtain ⟨i, b, n, cc, h1, h2⟩ := ha.2 hc chs ch hp hj
  obtain ⟨i', e, sz, v', k1, k2, k3⟩ := r.place hp
  rw [hval_fun k3 h1] at k2
  cases k2 with
  | mk q1 q2 q3 q4 q5 q6 q7 =>
    have hlen := okSz_get q2 hj
    have hjl := (List.getElem?_eq_some_iff.1 hj).1
    have hmul : j * sz + sz ≤ n * sz := by rw [← Nat.succ_mul]; exact Nat.mul_le_mul_right sz (by omega)
    refine ⟨_, _, _, _, b + j * sz, ?_, k1, q1, by omega, ?_⟩
    · rw [h2, hlen]
    · have hd := (q7.drop (j * sz)).take sz
      rw [flat_chunk q2 hj] at hd
      rw [List.drop_take, List.take_take, List.drop_drop, Nat.min_eq_left (by omega)] at hd
      rw [hlen]; exact hd
theorem s_addr (md b : Nat) (d : Option Nat) (off : Nat) (x : Operand) : SimP md b d (.addr off x) := by
  intro Pr μ w a σ ax s v a' σ' h r hP
  simp only [tdo] at h
  simp only [xprim]
  split at h
  · rename_i k o hx
    cases h
    have h1 := r.atPlain hx rfl
    revert h1; generalize ax.ev x = y; intro h1; cases h1
    rename_i hm
    exact ⟨_, rfl, done_val r d (by rw [add_none]; exact .ptr hm)⟩
  · rename_i t o ser hx
    split at h
    · rename_i bx hb
      cases h
      have h1 := r.atAl hx rfl
      obtain ⟨i, ver, vs, q1, q2, q3, q4⟩ := r.vptOf (e := bx.2) (cs := bx.1) h1 hb
      rw [q1]
      refine ⟨_, rfl, done_al r d rfl ⟨h1.1, fun cs e hbx => ⟨i, q2, by rw [add_none]⟩⟩⟩
    · cases h
  · rename_i ch o hx
    cases h
    have h1 := r.atPlain hx rfl
    revert h1; generalize ax.ev x = y; intro h1; cases h1
    rename_i k1 k2 k3 k4
    exact ⟨_, rfl, done_val r d (by rw [add_none, Nat.add_assoc]; exact .elt k1 k2 k3 k4)⟩
  · rename_i p c j o hx
    split at h
    · rename_i ch hch
      cases h
      have h1 := r.atAl hx rfl
      obtain ⟨hc, chs, hp, hj⟩ := velAt_some hch
      obtain ⟨i, bb, n, cc, q1, q2⟩ := h1.2 hc chs ch hp hj
      rw [q2]
      refine ⟨_, rfl, done_al r d rfl ⟨h1.1, fun _ chs' ch' hp' hj' => ?_⟩⟩
      rw [hp] at hp'; cases hp'
      rw [hj] at hj'; cases hj'
      exact ⟨i, bb, n, cc, q1, by rw [add_none, Nat.add_assoc]⟩
    · cases h
  · cases h
theorem s_indexArrAddr (md b : Nat) (d : Option Nat) (len size : Nat) (x i : Operand) : SimP md b d (.indexArrAddr len size x i) := by
  intro Pr μ w a σ ax s v a' σ' h r hP
  simp only [tdo] at h
  simp only [xprim]
  split at h
  · rename_i k o kk j hx hi
    have h2 := r.plainOf hi rfl
    revert h2; generalize ax.ev i = z; intro h2; cases h2
    split at h
    · rename_i hj
      cases h
      have h1 := r.atPlain hx rfl
      revert h1; generalize ax.ev x = y; intro h1; cases h1
      rename_i hm
      simp only [hj]
      exact ⟨_, rfl, done_val r d (by rw [add_none]; exact .ptr hm)⟩
    · cases h
  · rename_i t o ser kk j hx hi
    have h2 := r.plainOf hi rfl
    revert h2; generalize ax.ev i = z; intro h2; cases h2
    split at h
    · rename_i bx hj hb
      cases h
      have h1 := r.atAl hx rfl
      obtain ⟨i, ver, vs, q1, q2, q3, q4⟩ := r.vptOf (e := bx.2) (cs := bx.1) h1 hb
      rw [q1]
      simp only [hj]
      refine ⟨_, rfl, done_al r d rfl ⟨h1.1, fun cs e hbx => ⟨i, q2, by rw [add_none]⟩⟩⟩
    · cases h
  · rename_i ch o kk j hx hi
    have h2 := r.plainOf hi rfl
    revert h2; generalize ax.ev i = z; intro h2; cases h2
    split at h
    · rename_i hj
      cases h
      have h1 := r.atPlain hx rfl
      revert h1; generalize ax.ev x = y; intro h1; cases h1
      rename_i k1 k2 k3 k4
      simp only [hj]
      exact ⟨_, rfl, done_val r d (by rw [add_none, Nat.add_assoc]; exact .elt k1 k2 k3 k4)⟩
    · cases h
  · cases h
theorem s_nilCheck (md b : Nat) (d : Option Nat) (x : Operand) : SimP md b d (.nilCheck x) := by
  intro Pr μ w a σ ax s v a' σ' h r hP
  simp only [tdo] at h
  simp only [xprim]
  split at h
  · rename_i t o ser hx
    split at h
    · rename_i bx hb
      cases h
      have h1 := r.atAl hx rfl
      obtain ⟨i, ver, vs, q1, q2, q3, q4⟩ := r.vptOf (e := bx.2) (cs := bx.1) h1 hb
      have h1' := h1
      rw [q1] at h1' ⊢
      exact ⟨_, rfl, done_al r d rfl h1'⟩
    · cases h
  · rename_i k o hx
    cases h
    have h1 := r.atPlain hx rfl
    have h1' := h1
    revert h1 h1'; generalize ax.ev x = y; intro h1 h1'; cases h1
    exact ⟨_, rfl, done_val r d h1'⟩
  · rename_i ch o hx
    cases h
    have h1 := r.atPlain hx rfl
    have h1' := h1
    revert h1 h1'; generalize ax.ev x = y; intro h1 h1'; cases h1
    exact ⟨_, rfl, done_val r d h1'⟩
  · rename_i f p q hx
    cases h
    have h1 := r.atPlain hx rfl
    have h1' := h1
    revert h1 h1'; generalize ax.ev x = y; intro h1 h1'; cases h1
    exact ⟨_, rfl, done_val r d h1'⟩
  · cases h
theorem plainT_rel (r : Rl Pr μ w a σ ax s) {k o i : Nat} (hk : μ[k]? = some i) (h : plainT σ k o = true) : plainCells s.get i o = true := by
  unfold plainT at h
  split at h
  · rename_i ver vs e hb
    obtain ⟨i', vs', h1, h2, h3⟩ := r.objOf hb
    rw [hk] at h1; cases h1
    simp only [plainCells, h2]
    rw [h3.len]; exact h
  · cases h
theorem mu_inj (r : Rl Pr μ w a σ ax s) {k k' i : Nat} (h : μ[k]? = some i) (h' : μ[k']? = some i) : k = k' := by
  have := r.inj (.obj k) (.obj k') i ((r.wobj k).trans h) ((r.wobj k').trans h')
  cases this; rfl
mutual
theorem teq_rel (r : Rl Pr μ w a σ ax s) : ∀ (k : EqK) {x y : TV} {x' y' : Value} {b : Bool}, (pl x = true → RV s.get μ (Zo w Pr) x x') → (pl y = true → RV s.get μ (Zo w Pr) y y') → teq σ k x y = some b → xeq s.get k x' y' = some b
  | .int, x, y, x', y', b, hx, hy, h => by
    unfold teq at h
    split at h <;> first | (cases h; done) | skip
    all_goals first | contradiction | skip
    have h1 := hx rfl; have h2 := hy rfl
    cases h1; cases h2
    split at h
    · rename_i hk; cases h; simp only [xeq, hk]
    · cases h
  | .bool, x, y, x', y', b, hx, hy, h => by
    unfold teq at h
    split at h <;> first | (cases h; done) | skip
    all_goals first | contradiction | skip
    have h1 := hx rfl; have h2 := hy rfl
    cases h1; cases h2
    cases h; simp only [xeq]
  | .str, x, y, x', y', b, hx, hy, h => by
    unfold teq at h
    split at h <;> first | (cases h; done) | skip
    all_goals first | contradiction | skip
    have h1 := hx rfl; have h2 := hy rfl
    cases h1; cases h2
    cases h; simp only [xeq]
  | .ptr, x, y, x', y', b, hx, hy, h => by
    unfold teq at h
    split at h <;> first | (cases h; done) | skip
    all_goals first | contradiction | skip
    · have h1 := hx rfl; have h2 := hy rfl
      cases h1; cases h2
      cases h; simp only [xeq]; rfl
    · have h1 := hx rfl; have h2 := hy rfl
      cases h1; cases h2
      cases h; simp only [xeq]; rfl
    · have h1 := hx rfl; have h2 := hy rfl
      cases h1; cases h2
      cases h; simp only [xeq]
    · have h1 := hx rfl; have h2 := hy rfl
      cases h1; cases h2
      rename_i i hi i' hi'
      split at h
      · rename_i hp
        simp only [Bool.and_eq_true] at hp
        cases h
        simp only [xeq, plainT_rel r hi hp.1, plainT_rel r hi' hp.2, Bool.and_self]
        congr 2
        rw [beqNat, beqNat]
        congr 1
        apply propext
        constructor
        · rintro rfl; exact mu_inj r hi hi'
        · rintro rfl; rw [hi] at hi'; cases hi'; rfl
      · cases h
  | .ifaceNil, x, y, x', y', b, hx, hy, h => by
    unfold teq at h
    split at h <;> first | (cases h; done) | skip
    all_goals first | contradiction | skip
    all_goals
      have h1 := hx rfl; have h2 := hy rfl
      cases h1; cases h2
      cases h; simp only [xeq]
  | .sliceNil, x, y, x', y', b, hx, hy, h => by
    unfold teq at h
    split at h <;> first | (cases h; done) | skip
    all_goals first | contradiction | skip
    · have h1 := hx rfl; have h2 := hy rfl
      cases h1; cases h2
      cases h; simp only [xeq]; rfl
    · have h1 := hx rfl; have h2 := hy rfl
      cases h1; cases h2
      cases h; simp only [xeq]
    · have h1 := hx rfl; have h2 := hy rfl
      cases h1; cases h2
      cases h; simp only [xeq]; rfl
    · have h1 := hx rfl; have h2 := hy rfl
      cases h1; cases h2
      cases h; simp only [xeq]
  | .mapNil, x, y, x', y', b, hx, hy, h => by
    unfold teq at h
    split at h <;> first | (cases h; done) | skip
    all_goals first | contradiction | skip
    all_goals
      have h1 := hx rfl; have h2 := hy rfl
      cases h1; cases h2
      cases h; simp only [xeq]; try rfl
  | .funcNil, x, y, x', y', b, hx, hy, h => by
    unfold teq at h
    split at h <;> first | (cases h; done) | skip
    all_goals first | contradiction | skip
    all_goals
      have h1 := hx rfl; have h2 := hy rfl
      cases h1; cases h2
      cases h; simp only [xeq]
  | .agg ps, x, y, x', y', b, hx, hy, h => by
    unfold teq at h
    split at h <;> first | (cases h; done) | skip
    all_goals first | contradiction | skip
    rename_i ps' xs ys heq
    cases heq
    have h1 := hx rfl; have h2 := hy rfl
    cases h1 with
    | agg h1 =>
      cases h2 with
      | agg h2 =>
        simp only [xeq]
        exact teqs_rel r ps h1 h2 h
theorem teqs_rel (r : Rl Pr μ w a σ ax s) : ∀ (ps : List (Nat × EqK)) {xs ys : List TV} {xs' ys' : List Value} {b : Bool}, RVs s.get μ (Zo w Pr) xs xs' → RVs s.get μ (Zo w Pr) ys ys' → teqs σ ps xs ys = some b → xeqs s.get ps xs' ys' = some b
  | [], xs, ys, xs', ys', b, hx, hy, h => by simp only [teqs] at h; cases h; simp only [xeqs]
  | (i, k) :: ps, xs, ys, xs', ys', b, hx, hy, h => by
    simp only [teqs] at h
    split at h
    · rename_i x y e1 e2
      obtain ⟨x', q1, q2⟩ := hx.get e1
      obtain ⟨y', q3, q4⟩ := hy.get e2
      simp only [xeqs, q1, q3]
      split at h
      · rename_i ht
        rw [teq_rel r k (fun _ => q2) (fun _ => q4) ht]
        exact teqs_rel r ps hx hy h
      · rename_i ht
        cases h
        rw [teq_rel r k (fun _ => q2) (fun _ => q4) ht]
      · cases h
    · cases h
end
end
end Go.Xt
end
section
namespace Go.Xt
open Go Go.Xe
set_option linter.unusedVariables false
set_option linter.unusedSimpArgs false
section
variable {Pr : Nat → Prop} {μ μ' : List Nat} {w w' : Own} {a a' : TAct} {σ σ' : Sto} {ax ax' : Xe.Act} {s s' : AS}
theorem s_eq (md b : Nat) (d : Option Nat) (k : EqK) (neg : Bool) (x y : Operand) : SimP md b d (.eq k neg x y) := by
  intro Pr μ w a σ ax s v a' σ' h r hP
  simp only [tdo] at h
  split at h
  · rename_i q hq
    cases h
    have := teq_rel r k (fun h => r.plain h) (fun h => r.plain h) hq
    exact ⟨_, by simp only [xprim, this], done_val r d (.bool _)⟩
  · cases h
theorem Rl.putHand (r : Rl Pr μ w a σ ax s) (hf : Fresh a) {i : Nat} (hi : w (.hand 0) = some i) {tv : TV} {v : Value} (h : RO s.get μ (Zo w Pr) i tv v) (d : Option Nat) :
    ∃ w', Rl Pr μ w' (a.put d tv) σ (ax.put d v) s ∧ ∀ p j, w' p = some j → ∃ q, w q = some j := by
  cases d with
  | none => exact ⟨w, r, fun p j e => ⟨p, e⟩⟩
  | some d =>
    refine ⟨_, r.putOwn hf d hi h, fun p j e => ?_⟩
    obtain ⟨q, hq⟩ := mv_owned e
    exact ⟨q, rel_le _ _ _ _ hq⟩
theorem taken_own {t : Nat} (h : isOwn (a.ev (.tmp t)) = true) : taken a (.tmp t) = ⟨a.tm.set t .dead, a.df, a.clk + 1⟩ := by simp only [taken, h]
theorem s_move (md b : Nat) (d : Option Nat) (x : Operand) : SimP md b d (.move x) := by
  intro Pr μ w a σ ax s v a' σ' h r hP
  simp only [tdo, tMove] at h
  refine ⟨⟨ax.ev x, [], s.next⟩, rfl, ?_⟩
  cases ho : isOwn (a.ev x) with
  | false => rw [ho] at h; cases h; exact done_pure r (fun p i e => ⟨p, e⟩) d (r.at ho)
  | true =>
    rw [ho] at h
    simp only at h
    obtain ⟨t, rfl⟩ := isOwn_tmp ho
    simp only at h
    split at h
    · cases h
      rw [taken_own ho]
      obtain ⟨i, h1, h2, h3, h4⟩ := r.takeTmp ho
      obtain ⟨w', k1, k2⟩ := h3.putHand h4 ((mv_to w (by simp)).trans h1) h2 d
      exact ⟨μ, w', k1, Nat.le_refl _, fun _ _ _ => rfl, fun p i e _ => by obtain ⟨q, e⟩ := k2 p i e; exact mv_owned e, [], (List.append_nil μ).symm⟩
    · cases h
      obtain ⟨w1, h1, h2⟩ := r.frz1 (.tmp t)
      refine done_pure h1 (fun p i e => ⟨p, h2 p i e⟩) d (.inl ?_)
      have := h1.plain (x := .tmp t) (by
        rw [frz1_same]
        revert ho; generalize a.ev (.tmp t) = z; intro ho
        cases z <;> first | (simp [isOwn] at ho; done) | skip
        rename_i m c; cases m <;> first | rfl | (simp [isOwn] at ho))
      rwa [frz1_same] at this
    · cases h
      exact done_al r d rfl ⟨Nat.le_refl _, fun _ chs hp => rfl⟩
theorem RCs.re {g : Hp} {μ : List Nat} {Z Z' : Nat → Prop} {ow ow' : Nat → Option Nat} {cs : List TV} {vs : List Value} (r : RCs g μ Z ow cs vs) (mo : Mo g μ Z g μ Z') {o : Nat} {tv : TV} (ho : o < cs.length) (h1 : ∀ j, j ≠ o → ow' j = ow j) (h2 : ∀ v, vs[o]? = some v → RC g μ Z' (ow' o) tv v) : RCs g μ Z' ow' (cs.set o tv) vs := by
  refine ⟨by rw [List.length_set]; exact r.len, fun j x v e1 e2 => ?_, fun j hj => ?_⟩
  · by_cases h : j = o
    · subst h
      rw [List.getElem?_set_self ho] at e1; cases e1
      exact h2 v e2
    · rw [List.getElem?_set_ne (fun e => h e.symm)] at e1
      rw [h1 j h]
      exact (r.get j x v e1 e2).mono mo (fun _ _ => rfl)
  · rw [List.length_set] at hj
    rw [h1 j (by omega)]; exact r.out j hj
theorem Mo.owned {g : Hp} {w w' : Own} (h : ∀ p i, w' p = some i → ∃ q, w q = some i) : Mo g μ (Zo w Pr) g μ (Zo w' Pr) :=
  ⟨fun _ _ e => e, fun i _ _ _ _ z hg => ⟨⟨fun p e => by obtain ⟨q, k⟩ := h p i e; exact z.1 q k, z.2⟩, hg⟩⟩
theorem Rl.reCell (r : Rl Pr μ w a σ ax s) {k ver o : Nat} {cs : List TV} {e : TypeId} (h : σ.at k = some ⟨ver, .cells cs e⟩) (ho : o < cs.length) {w' : Own} {tv : TV} (own : ∀ p i, w' p = some i → ∃ q, w q = some i) (inj : ∀ p q i, w' p = some i → w' q = some i → p = q)
    (h1 : ∀ t, w' (.tmp t) = w (.tmp t)) (h2 : ∀ t o, w' (.tcell t o) = w (.tcell t o)) (h3 : ∀ k, w' (.obj k) = w (.obj k)) (hc : ∀ k' c, (k' ≠ k ∨ c ≠ o) → w' (.cell k' c) = w (.cell k' c))
    (new : ∀ i vs v, μ[k]? = some i → s.get i = some ⟨ver, .cells vs e false⟩ → vs[o]? = some v → RC s.get μ (Zo w' Pr) (w' (.cell k o)) tv v) : Rl Pr μ w' a.tick (σ.set k (some ⟨ver, .cells (cs.set o tv) e⟩)) ax s := by
  obtain ⟨i, vs, k1, k2, k3⟩ := r.objOf h
  have mo := Mo.owned (g := s.get) (μ := μ) (Pr := Pr) own
  have hk : k < σ.length := by rw [← r.len]; exact (List.getElem?_eq_some_iff.1 k1).1
  refine r.objStep mo (r.toRs.setO hk mo r.dm (Nat.le_refl _) inj own h3 (fun k' c hk' => hc k' c (.inl hk')) (fun _ _ _ _ => rfl) ?_) h1 h2 (fun _ _ _ => rfl)
  refine ⟨i, _, k1, k2, rfl, rfl, ?_⟩
  exact k3.re mo ho (fun j hj => hc k j (.inr hj)) (fun v hv => new i vs v k1 k2 hv)
theorem Rl.reBox (r : Rl Pr μ w a σ ax s) {t ser o : Nat} {cs : List TV} {e : TypeId} (h : boxAt a t ser = some (cs, e)) (ho : o < cs.length) {w' : Own} {tv : TV} (own : ∀ p i, w' p = some i → ∃ q, w q = some i) (inj : ∀ p q i, w' p = some i → w' q = some i → p = q)
    (h1 : ∀ t, w' (.tmp t) = w (.tmp t)) (h2 : ∀ k o, w' (.cell k o) = w (.cell k o)) (h3 : ∀ k, w' (.obj k) = w (.obj k)) (hc : ∀ t' c, (t' ≠ t ∨ c ≠ o) → w' (.tcell t' c) = w (.tcell t' c))
    (new : ∀ i ver vs v, w (.tmp t) = some i → s.get i = some ⟨ver, .cells vs e false⟩ → vs[o]? = some v → RC s.get μ (Zo w' Pr) (w' (.tcell t o)) tv v) : Rl Pr μ w' (boxPut a t ser (cs.set o tv) e) σ ax s := by
  obtain ⟨hbx, i, ver, vs, k1, k2, k3, k4⟩ := r.boxOf h
  have mo := Mo.owned (g := s.get) (μ := μ) (Pr := Pr) own
  refine r.boxStep hbx mo (r.toRs.setT mo r.dm (Nat.le_refl _) inj own h3 h2 (fun _ _ _ => rfl)) h1 (fun t' o' ht => hc t' o' (.inl ht)) (fun _ _ _ _ _ _ => rfl) (fun i' hi' => ?_)
  rw [k1] at hi'; cases hi'
  exact ⟨ver, vs, k3, k4.re mo ho (fun j hj => hc t j (.inr hj)) (fun v hv => new i ver vs v k1 k3 hv)⟩
theorem mv_inj {w : Own} (inj : ∀ p q i, w p = some i → w q = some i → p = q) (p q : Pc) : ∀ x y i, mv w p q x = some i → mv w p q y = some i → x = y := by
  intro x y i e f
  rcases mv_some e with ⟨h1, h2, h3⟩ | ⟨h1, h2, h3⟩ <;> rcases mv_some f with ⟨k1, k2, k3⟩ | ⟨k1, k2, k3⟩
  · rw [h1, k1]
  · exact absurd (inj _ _ _ h3 k3).symm k1
  · exact absurd (inj _ _ _ h3 k3) h1
  · exact inj _ _ _ h3 k3
theorem done_hand {w1 : Own} {tv : TV} {v : Value} {i : Nat} (r : Rl Pr μ w1 a' σ' ax s) (hf : Fresh a') (hi : w1 (.hand 0) = some i) (h : RO s.get μ (Zo w1 Pr) i tv v) (hw : ∀ p j, w1 p = some j → ∃ q, w q = some j) (d : Option Nat) : Done Pr μ w ax s d tv a' σ' ⟨v, [], s.next⟩ := by
  obtain ⟨w', k1, k2⟩ := r.putHand hf hi h d
  exact ⟨μ, w', k1, Nat.le_refl _, fun _ _ _ => rfl, fun p i e _ => by obtain ⟨q, e⟩ := k2 p i e; exact hw q i e, [], (List.append_nil μ).symm⟩
theorem fresh_tick (r : Rl Pr μ w a σ ax s) : Fresh a.tick := r.fresh (Nat.lt_succ_self _) (fun t _ => rfl) rfl
theorem fresh_box (r : Rl Pr μ w a σ ax s) (t ser : Nat) (cs : List TV) (e : TypeId) : Fresh (boxPut a t ser cs e) := by
  refine r.fresh (Nat.lt_succ_self _) (fun t' ht' => ?_) rfl
  by_cases h : t = t'
  · subst h; rw [show (boxPut a t ser cs e).ev (.tmp t) = .bx ser cs e from ev_set_same _ _ _ _ _] at ht'; cases ht'
  · exact ev_set_ne a _ _ _ h
theorem s_load1 (md b : Nat) (d : Option Nat) (x : Operand) : SimP md b d (.load1 x) := by
  intro Pr μ w a σ ax s v a' σ' h r hP
  simp only [tdo] at h
  simp only [xprim]
  cases hx : a.at x <;> rw [hx] at h <;> simp only [tLoad1] at h <;> first | (cases h; done) | skip
  case ptr k o =>
    have h1 := r.atPlain hx rfl
    revert h1; generalize ax.ev x = y; intro h1; cases h1
    rename_i i0 hm
    split at h
    · rename_i ver cs e hob
      obtain ⟨i, vs, k1, k2, k3⟩ := r.objOf hob
      rw [hm] at k1; cases k1
      split at h
      · rename_i tv htv
        obtain ⟨v', q1, q2⟩ := k3.at htv
        have hlo := load_one k2 q1
        have hlt := (List.getElem?_eq_some_iff.1 htv).1
        simp only [hlo]
        refine ⟨_, rfl, ?_⟩
        split at h
        · rename_i ho
          cases h
          exact done_val r d (q2.plainOf ho).2
        · rename_i ho
          obtain ⟨j, q3, q4⟩ := q2.ownOf ho
          split at h
          · cases h
            have := r.reCell (w' := mv w (.cell k o) (.hand 0)) (tv := .dead) hob hlt (fun p i e => mv_owned e) (mv_inj r.inj _ _) (fun t => mv_other w (by simp) (by simp)) (fun t o => mv_other w (by simp) (by simp)) (fun t => mv_other w (by simp) (by simp))
              (fun k' c hk => mv_other w (by simp; omega) (by simp)) (fun i vs v _ _ _ => by rw [mv_from]; exact .dead v)
            exact done_hand this (fresh_tick r) ((mv_to w (by simp)).trans q3) (q4.mono (Mo.mv _ _) rfl) (fun p j e => mv_owned e) d
          · cases h
            have hz : Zo (relO w k o 1 none) Pr j := ⟨fun p e => by
              have := r.inj _ _ _ (relO_le w k o 1 p j e) q3
              subst this
              simp [relO, clr] at e, r.pr _ _ q3⟩
            have hfz : RV s.get μ (Zo (relO w k o 1 none) Pr) (frz tv) v' := RO.frz (q4.mono (Mo.sub (relO_le w k o 1)) rfl) hz
            have := r.reCell (w' := relO w k o 1 none) (tv := frz tv) hob hlt (fun p i e => ⟨p, relO_le w k o 1 p i e⟩) (fun p q i e f => r.inj p q i (relO_le w k o 1 p i e) (relO_le w k o 1 q i f)) (fun _ => rfl) (fun _ _ => rfl) (fun _ => rfl)
              (fun k' c hk => by
                simp only [relO]
                split
                · rename_i h; subst h
                  have hc : c ≠ o := by rcases hk with h | h; · exact absurd rfl h
                                        · exact h
                  unfold clr; split
                  · rfl
                  · rw [if_neg (by omega)]
                · rfl) (fun i' vs' v2 e1 e2 e3 => by
                rw [hm] at e1; cases e1
                rw [k2] at e2; cases e2
                rw [q1] at e3; cases e3
                have : relO w k o 1 none (.cell k o) = none := by simp [relO, clr]
                rw [this]; exact hfz)
            exact done_pure this (fun p i e => ⟨p, relO_le w k o 1 p i e⟩) d (.inl hfz)
          · cases h
            exact done_al r d rfl ⟨Nat.le_refl _, fun _ chs hp => ⟨i0, ver, vs, e, hm, k2, q1⟩⟩
      · cases h
    · cases h
  case vpt t o ser =>
    have h1 := r.atAl hx rfl
    split at h
    · rename_i cs e hb
      obtain ⟨hbx, i, ver, vs, k1, k2, k3, k4⟩ := r.boxOf hb
      obtain ⟨i', k1', hy⟩ := h1.2 _ _ hbx
      rw [k1] at k1'; cases k1'
      rw [hy]
      split at h
      · rename_i tv htv
        obtain ⟨v', q1, q2⟩ := k4.at htv
        have hlo := load_one k3 q1
        have hlt := (List.getElem?_eq_some_iff.1 htv).1
        simp only [hlo]
        refine ⟨_, rfl, ?_⟩
        split at h
        · rename_i ho
          cases h
          exact done_val r d (q2.plainOf ho).2
        · rename_i ho
          obtain ⟨j, q3, q4⟩ := q2.ownOf ho
          split at h
          · cases h
            have := r.reBox (w' := mv w (.tcell t o) (.hand 0)) (tv := .dead) hb hlt (fun p i e => mv_owned e) (mv_inj r.inj _ _) (fun t => mv_other w (by simp) (by simp)) (fun t o => mv_other w (by simp) (by simp)) (fun t => mv_other w (by simp) (by simp))
              (fun k' c hk => mv_other w (by simp; omega) (by simp)) (fun i ver vs v _ _ _ => by rw [mv_from]; exact .dead v)
            exact done_hand this (fresh_box r _ _ _ _) ((mv_to w (by simp)).trans q3) (q4.mono (Mo.mv _ _) rfl) (fun p j e => mv_owned e) d
          · cases h
            have hz : Zo (relC w t o 1 none) Pr j := ⟨fun p e => by
              have := r.inj _ _ _ (relC_le w t o 1 p j e) q3
              subst this
              simp [relC, clr] at e, r.pr _ _ q3⟩
            have hfz : RV s.get μ (Zo (relC w t o 1 none) Pr) (frz tv) v' := RO.frz (q4.mono (Mo.sub (relC_le w t o 1)) rfl) hz
            have := r.reBox (w' := relC w t o 1 none) (tv := frz tv) hb hlt (fun p i e => ⟨p, relC_le w t o 1 p i e⟩) (fun p q i e f => r.inj p q i (relC_le w t o 1 p i e) (relC_le w t o 1 q i f)) (fun _ => rfl) (fun _ _ => rfl) (fun _ => rfl)
              (fun k' c hk => by
                simp only [relC]
                split
                · rename_i h; subst h
                  have hc : c ≠ o := by rcases hk with h | h; · exact absurd rfl h
                                        · exact h
                  unfold clr; split
                  · rfl
                  · rw [if_neg (by omega)]
                · rfl) (fun i' ver' vs' v2 e1 e2 e3 => by
                rw [k1] at e1; cases e1
                rw [k3] at e2; cases e2
                rw [q1] at e3; cases e3
                have : relC w t o 1 none (.tcell t o) = none := by simp [relC, clr]
                rw [this]; exact hfz)
            exact done_pure this (fun p i e => ⟨p, relC_le w t o 1 p i e⟩) d (.inl hfz)
          · cases h
            exact done_al r d rfl ⟨Nat.le_refl _, fun _ chs hp => ⟨i, ver, vs, e, k1, k3, q1⟩⟩
      · cases h
    · cases h
  case elt ch o =>
    have h1 := r.atPlain hx rfl
    revert h1; generalize ax.ev x = y; intro h1; cases h1
    rename_i k1 k2 k3 k4
    split at h
    · rename_i tv htv
      cases h
      obtain ⟨v', q1, q2⟩ := k4.get htv
      have hlt := (List.getElem?_eq_some_iff.1 htv).1
      rw [List.getElem?_take, if_pos hlt, List.getElem?_drop] at q1
      simp only [load_one k2 q1]
      exact ⟨_, rfl, done_val r d q2⟩
    · cases h
  case vel p c j o =>
    have h1 := r.atAl hx rfl
    split at h
    · rename_i ch hch
      obtain ⟨i, ver, vs, e, dd, q0, q1, q2, q3, q4⟩ := r.velOf h1 hch
      rw [q0]
      split at h
      · rename_i tv htv
        cases h
        obtain ⟨v', q5, q6⟩ := q4.get htv
        have hlt := (List.getElem?_eq_some_iff.1 htv).1
        rw [List.getElem?_take, if_pos hlt, List.getElem?_drop] at q5
        simp only [load_one q2 q5]
        exact ⟨_, rfl, done_val r d q6⟩
      · cases h
    · cases h
end
end Go.Xt
end
section
namespace Go.Xt
open Go Go.Xe
set_option linter.unusedVariables false
set_option linter.unusedSimpArgs false
theorem setList_self {vs : List Value} {o n : Nat} (h : o + n ≤ vs.length) : setList vs o ((vs.drop o).take n) = vs := by
  apply List.ext_getElem?
  intro j
  have hl : ((vs.drop o).take n).length = n := by simp; omega
  rw [setList_get _ _ _ (by rw [hl]; exact h), hl]
  by_cases h1 : j < o
  · rw [if_pos h1]
  · rw [if_neg h1]
    by_cases h2 : j < o + n
    · rw [if_pos h2, List.getElem?_take, if_pos (by omega), List.getElem?_drop]; congr 1; omega
    · rw [if_neg h2]
section
variable {Pr : Nat → Prop} {μ μ' : List Nat} {w w' : Own} {a a' : TAct} {σ σ' : Sto} {ax ax' : Xe.Act} {s s' : AS}
theorem frzRange {g : Hp} {w w' : Own} {P : Nat → Pc} {cs : List TV} {vs : List Value} (r : RCs g μ (Zo w Pr) (fun o => w (P o)) cs vs) (inj : ∀ p q i, w p = some i → w q = some i → p = q) (pr : ∀ p i, w p = some i → ¬ Pr i) {o n : Nat} (hn : o + n ≤ cs.length)
    (hsub : ∀ p i, w' p = some i → w p = some i) (hno : ∀ j, o ≤ j → j < o + n → w' (P j) = none) : RVs g μ (Zo w' Pr) (((cs.drop o).take n).map frz) ((vs.drop o).take n) := by
  refine RVs.of_get (by simp [r.len]) fun j tv v h1 h2 => ?_
  rw [List.getElem?_map] at h1
  simp only [List.getElem?_take, List.getElem?_drop] at h1 h2
  by_cases hj : j < n
  · rw [if_pos hj] at h1 h2
    cases hc : cs[o + j]? with
    | none => rw [hc] at h1; cases h1
    | some tv0 =>
      rw [hc] at h1
      cases h1
      have := r.get _ _ _ hc h2
      revert this
      cases hw : w (P (o + j)) with
      | none =>
        intro this
        have this : RV g μ (Zo w Pr) tv0 v := this
        rw [frz_same this.notown.2.1]; exact this.mono (Mo.sub hsub)
      | some i =>
        intro this
        have this : RO g μ (Zo w Pr) i tv0 v := this
        refine RO.frz (this.mono (Mo.sub hsub) rfl) ⟨fun p e => ?_, pr _ _ hw⟩
        have := inj _ _ _ (hsub p i e) hw
        subst this
        rw [hno _ (by omega) (by omega)] at e; cases e
  · rw [if_neg hj] at h1; cases h1
theorem s_loadN (md b : Nat) (d : Option Nat) (n : Nat) (x : Operand) : SimP md b d (.loadN n x) := by
  intro Pr μ w a σ ax s v a' σ' h r hP
  simp only [tdo] at h
  simp only [xprim]
  cases hx : a.at x <;> rw [hx] at h <;> simp only [tLoadN] at h <;> first | (cases h; done) | skip
  case ptr k o =>
    have h1 := r.atPlain hx rfl
    revert h1; generalize ax.ev x = y; intro h1; cases h1
    rename_i i0 hm
    split at h
    · rename_i ver cs e hob
      obtain ⟨i, vs, k1, k2, k3⟩ := r.objOf hob
      rw [hm] at k1; cases k1
      split at h
      · rename_i hle
        rw [bleNat] at hle
        have hle := of_decide_eq_true hle
        simp only [loadList_of k2 (by rw [k3.len]; exact hle)]
        refine ⟨_, rfl, ?_⟩
        split at h
        · rename_i ho
          cases h
          exact done_val r d (.agg (k3.plain hle ho))
        · cases h
          have hnone : ∀ j, o ≤ j → j < o + n → relO w k o n none (.cell k j) = none := fun j h1 h2 => by
            simp only [relO, if_true, clr]; rw [if_neg (by omega), if_pos h2]
          have hf := frzRange (w' := relO w k o n none) k3 r.inj r.pr hle (relO_le w k o n) hnone
          have mo := Mo.sub (g := s.get) (μ := μ) (Pr := Pr) (relO_le w k o n)
          have hk : k < σ.length := by rw [← r.len]; exact (List.getElem?_eq_some_iff.1 hm).1
          have hll : (((cs.drop o).take n).map frz).length = n := by simp; omega
          have hput := (k3.mono mo (fun _ _ _ => rfl)).put hf (by rw [hll]; exact hle)
          rw [setList_self (by rw [k3.len]; exact hle), hll, ← relO_cell] at hput
          have st := r.objStep (w' := relO w k o n none) mo (r.toRs.setO (o := ⟨ver, .cells (putAt cs o (((cs.drop o).take n).map frz)) e⟩) hk mo r.dm (Nat.le_refl _) (fun p q i e f => r.inj p q i (relO_le w k o n p i e) (relO_le w k o n q i f)) (fun p i e => ⟨p, relO_le w k o n p i e⟩) (fun _ => rfl)
            (fun k' c hk' => by simp only [relO, if_neg hk']) (fun _ _ _ _ => rfl) ⟨i0, _, hm, k2, rfl, rfl, hput⟩) (fun _ => rfl) (fun _ _ => rfl) (fun _ _ _ => rfl)
          exact done_pure st (fun p i e => ⟨p, relO_le w k o n p i e⟩) d (.inl (.agg hf))
      · cases h
    · cases h
  case vpt t o ser =>
    have h1 := r.atAl hx rfl
    split at h
    · rename_i cs e hb
      obtain ⟨hbx, i, ver, vs, k1, k2, k3, k4⟩ := r.boxOf hb
      obtain ⟨i', k1', hy⟩ := h1.2 _ _ hbx
      rw [k1] at k1'; cases k1'
      rw [hy]
      split at h
      · rename_i hle
        rw [bleNat] at hle
        have hle := of_decide_eq_true hle
        simp only [loadList_of k3 (by rw [k4.len]; exact hle)]
        refine ⟨_, rfl, ?_⟩
        split at h
        · rename_i ho
          cases h
          exact done_val r d (.agg (k4.plain hle ho))
        · cases h
          have hnone : ∀ j, o ≤ j → j < o + n → relC w t o n none (.tcell t j) = none := fun j h1 h2 => by
            simp only [relC, if_true, clr]; rw [if_neg (by omega), if_pos h2]
          have hf := frzRange (w' := relC w t o n none) k4 r.inj r.pr hle (relC_le w t o n) hnone
          have mo := Mo.sub (g := s.get) (μ := μ) (Pr := Pr) (relC_le w t o n)
          have hll : (((cs.drop o).take n).map frz).length = n := by simp; omega
          have hput := (k4.mono mo (fun _ _ _ => rfl)).put hf (by rw [hll]; exact hle)
          rw [setList_self (by rw [k4.len]; exact hle), hll, ← relC_tcell] at hput
          have st := r.boxStep (w' := relC w t o n none) hbx mo (r.toRs.setT mo r.dm (Nat.le_refl _) (fun p q i e f => r.inj p q i (relC_le w t o n p i e) (relC_le w t o n q i f)) (fun p i e => ⟨p, relC_le w t o n p i e⟩) (fun _ => rfl) (fun _ _ => rfl) (fun _ _ _ => rfl)) (fun _ => rfl)
            (fun t' c ht' => by simp only [relC, if_neg ht']) (fun _ _ _ _ _ _ => rfl) (fun i' hi' => by rw [k1] at hi'; cases hi'; exact ⟨ver, vs, k3, hput⟩)
          exact done_pure st (fun p i e => ⟨p, relC_le w t o n p i e⟩) d (.inl (.agg hf))
      · cases h
    · cases h
  case elt ch o =>
    have h1 := r.atPlain hx rfl
    revert h1; generalize ax.ev x = y; intro h1; cases h1
    rename_i i0 dd ver0 vs0 e0 ro0 k1 k2 k3 k4
    split at h
    · rename_i hle
      rw [bleNat] at hle
      have hle := of_decide_eq_true hle
      cases h
      simp only [loadList_of k2 (show dd + o + n ≤ vs0.length by omega)]
      refine ⟨_, rfl, done_val r d (.agg ?_)⟩
      have := (k4.drop o).take n
      rwa [List.drop_take, List.take_take, List.drop_drop, Nat.min_eq_left (by omega)] at this
    · cases h
  case vel p c j o =>
    have h1 := r.atAl hx rfl
    split at h
    · rename_i ch hch
      obtain ⟨i, ver, vs, e, dd, q0, q1, q2, q3, q4⟩ := r.velOf h1 hch
      rw [q0]
      split at h
      · rename_i hle
        rw [bleNat] at hle
        have hle := of_decide_eq_true hle
        cases h
        simp only [loadList_of q2 (show dd + o + n ≤ _ by omega)]
        refine ⟨_, rfl, done_val r d (.agg ?_)⟩
        have := (q4.drop o).take n
        rwa [List.drop_take, List.take_take, List.drop_drop, Nat.min_eq_left (by omega)] at this
      · cases h
    · cases h
theorem beq_of {a b : Nat} (h : Nat.beq a b = true) : a = b := by rw [beqNat] at h; exact of_decide_eq_true h
theorem RV.fzOf {g : Hp} {Z : Nat → Prop} {chs : List (List TV)} {v : Value} (h : RV g μ Z (.sl .fz chs) v) (hne : chs ≠ []) : ∃ i o n c s ver vs e ro, v = .slice (some ⟨i, o, none⟩) n c ∧ Z i ∧ g i = some ⟨ver, .cells vs e ro⟩ ∧ okSz s chs = true ∧ chs.length = n ∧ (c < capU → n ≤ c) ∧ (capU ≤ c → c = capU + s) ∧ o + n * s ≤ vs.length ∧
    RVs g μ Z chs.flatten ((vs.drop o).take (n * s)) := by
  cases h with
  | fz a b c d e f k m => exact ⟨_, _, _, _, _, _, _, _, _, rfl, a, b, c, d, e, f, k, m⟩
  | fz0 => exact absurd rfl hne
theorem RV.lenOf {g : Hp} {Z : Nat → Prop} {m : Md} {chs : List (List TV)} {v : Value} (h : RV g μ Z (.sl m chs) v) : ∃ bb c, v = .slice bb chs.length c := by
  cases h with
  | fz a b c d => exact ⟨_, _, by rw [d]⟩
  | fz0 b c => exact ⟨b, c, rfl⟩
  | nl => exact ⟨_, _, rfl⟩
theorem RO.lenOf {g : Hp} {Z : Nat → Prop} {i : Nat} {m : Md} {chs : List (List TV)} {v : Value} (h : RO g μ Z i (.sl m chs) v) : ∃ bb c, v = .slice bb chs.length c := by
  cases h with
  | mk a b c => exact ⟨_, _, by rw [c]⟩
theorem s_lenSlice (md b : Nat) (d : Option Nat) (x : Operand) : SimP md b d (.lenSlice x) := by
  intro Pr μ w a σ ax s v a' σ' h r hP
  simp only [tdo] at h
  simp only [xprim]
  split at h
  · rename_i n hn
    cases h
    have key : ∃ bb c, ax.ev x = .slice bb n c := by
      unfold tLen at hn
      split at hn
      · rename_i m c hx
        cases hn
        cases ho : isOwn (a.ev x) with
        | true =>
          obtain ⟨t, rfl⟩ := isOwn_tmp ho
          obtain ⟨i, h1, h2⟩ := r.ownOf ho
          rw [hx] at h2; exact h2.lenOf
        | false =>
          have := r.plainOf hx (by rw [hx] at ho; cases m <;> first | rfl | (simp [isOwn] at ho))
          exact this.lenOf
      · rename_i p ck hx
        split at hn
        · rename_i hc
          split at hn
          · rename_i chs hp
            cases hn
            have ha : a.at x = .via p ck := by unfold TAct.at; rw [hx]
            obtain ⟨i, e, sz, h1, h2⟩ := r.viaOf (r.atAl ha rfl) hc hp
            exact h2.lenOf
          · cases hn
        · cases hn
      · rename_i k o sz n' c hx
        cases hn
        have := r.plainOf hx rfl
        revert this; generalize ax.ev x = y; intro this; cases this
        exact ⟨_, _, rfl⟩
      · cases hn
    obtain ⟨bb, c, hv⟩ := key
    rw [hv]
    exact ⟨_, rfl, done_val r d (.int _ _)⟩
  · cases h
theorem s_capSlice (md b : Nat) (d : Option Nat) (x : Operand) : SimP md b d (.capSlice x) := by
  intro Pr μ w a σ ax s v a' σ' h r hP
  simp only [tdo] at h
  simp only [xprim]
  split at h
  · rename_i k o sz n c hx
    split at h
    · cases h
    · rename_i hc
      cases h
      have := r.plainOf hx rfl
      revert this; generalize ax.ev x = y; intro this; cases this
      simp only [hc]
      exact ⟨_, rfl, done_val r d (.int _ _)⟩
  · cases h
theorem s_indexAddr (md b : Nat) (d : Option Nat) (size : Nat) (x i : Operand) : SimP md b d (.indexAddr size x i) := by
  intro Pr μ w a σ ax s v a' σ' h r hP
  simp only [tdo] at h
  simp only [xprim]
  split at h
  · rename_i kk j hi
    have h2 := r.plainOf hi rfl
    revert h2; generalize ax.ev i = z; intro h2; cases h2
    cases hx : a.ev x <;> rw [hx] at h <;> simp only [tIndex] at h <;> first | (cases h; done) | skip
    case sl m chs =>
      cases m with
      | own e sz =>
        simp only [tIndex] at h
        have ho : isOwn (a.ev x) = true := by rw [hx]; rfl
        obtain ⟨t, rfl⟩ := isOwn_tmp ho
        obtain ⟨i, h1, h2⟩ := r.ownOf ho
        rw [hx] at h2
        split at h
        · rename_i t' ch heq hch
          cases heq
          split at h
          · rename_i hsz
            cases h
            have hy : ∃ oo n c, ax.ev (.tmp t) = .slice (some ⟨i, oo, none⟩) n c ∧ chs.length = n := by
              revert h2; generalize ax.ev (.tmp t) = y; intro h2
              cases h2 with
              | mk q1 q2 q3 => exact ⟨_, _, _, rfl, q3⟩
            obtain ⟨oo, n, c, hy, hn⟩ := hy
            have hlt : j < n := by rw [← hn]; exact (List.getElem?_eq_some_iff.1 hch).1
            rw [hy]
            simp only [bltNat, decide_eq_true hlt]
            refine ⟨_, rfl, done_al r d rfl ⟨Nat.le_refl _, fun _ chs' ch' hp' hj' => ?_⟩⟩
            have : plGet a σ (.tmp t) = some chs := by simp only [plGet, hx, ownChs]
            rw [this] at hp'; cases hp'
            rw [hch] at hj'; cases hj'
            refine ⟨i, oo, n, c, hy.symm, ?_⟩
            rw [add_none, beq_of hsz, Nat.add_zero]
          · cases h
        · cases h
      | fz =>
        simp only [tIndex] at h
        split at h
        · rename_i ch hch
          split at h
          · rename_i hsz
            cases h
            have h1 := r.plainOf hx rfl
            have hne : chs ≠ [] := by rintro rfl; simp at hch
            obtain ⟨i, oo, n, c, s', ver, vs, e, ro, hv, q1, q2, q3, q4, q5, q6, q7, q8⟩ := h1.fzOf hne
            rw [hv]
            have hlt : j < n := by rw [← q4]; exact (List.getElem?_eq_some_iff.1 hch).1
            have hs' := okSz_get q3 hch
            rw [beq_of hsz] at hs'
            subst hs'
            have hmul : j * size + size ≤ n * size := by rw [← Nat.succ_mul]; exact Nat.mul_le_mul_right size (by omega)
            simp only [bltNat, decide_eq_true hlt]
            refine ⟨_, rfl, done_val r d ?_⟩
            rw [add_none]
            have hd := (q8.drop (j * size)).take size
            rw [flat_chunk q3 hch, List.drop_take, List.take_take, List.drop_drop, Nat.min_eq_left (by omega)] at hd
            refine RV.elt (d := oo + j * size) (o := 0) q1 q2 (by rw [beq_of hsz]; omega) ?_
            rw [beq_of hsz]; exact hd
          · cases h
        · cases h
      | nl =>
        have h1 := r.plainOf hx rfl
        revert h1; generalize ax.ev x = y; intro h1; cases h1
        simp [tIndex] at h
    case via p ck =>
      have ha : a.at x = .via p ck := by unfold TAct.at; rw [hx]
      have hal := r.atAl ha rfl
      split at h
      · rename_i hc
        split at h
        · rename_i chs hp
          split at h
          · rename_i ch hch
            split at h
            · rename_i hsz
              cases h
              have hce := beq_of hc
              have hv := hal.2 hce chs hp
              obtain ⟨i, e, sz, h1, h2⟩ := r.viaOf hal hc hp
              revert hv h2
              generalize ax.ev x = y
              intro hv h2
              cases h2 with
              | mk q1 q2 q3 q4 q5 q6 q7 =>
                have hlt := (List.getElem?_eq_some_iff.1 hch).1
                rw [q3] at hlt
                simp only [bltNat, decide_eq_true hlt]
                refine ⟨_, rfl, done_al r d rfl ⟨Nat.le_of_eq hce, fun _ chs' ch' hp' hj' => ?_⟩⟩
                rw [hp] at hp'; cases hp'
                rw [hch] at hj'; cases hj'
                refine ⟨i, _, _, _, hv, ?_⟩
                rw [add_none, beq_of hsz, Nat.add_zero]
            · cases h
          · cases h
        · cases h
      · cases h
    case ref k o sz n c =>
      split at h
      · rename_i hb
        simp only [Bool.and_eq_true] at hb
        cases h
        have h1 := r.plainOf hx rfl
        revert h1; generalize ax.ev x = y; intro h1; cases h1
        rename_i hm hnc
        simp only [hb.2]
        exact ⟨_, rfl, done_val r d (by rw [add_none]; exact .ptr hm)⟩
      · cases h
  · cases h
end
end Go.Xt
end
section
namespace Go.Xt
open Go Go.Xe
set_option linter.unusedVariables false
set_option linter.unusedSimpArgs false
section
variable {Pr : Nat → Prop} {μ μ' : List Nat} {w w' : Own} {a a' : TAct} {σ σ' : Sto} {ax ax' : Xe.Act} {s s' : AS}
theorem plGet_ext (h : ∀ t, a'.ev (.tmp t) = a.ev (.tmp t)) (p : Pl) : plGet a' σ p = plGet a σ p := by
  cases p <;> simp only [plGet, boxAt, h]
theorem Rl.ext (r : Rl Pr μ w a σ ax s) (h : ∀ t, a'.ev (.tmp t) = a.ev (.tmp t)) (hd : a'.df = a.df) (hc : a'.clk = a.clk) : Rl Pr μ w a' σ ax s := by
  refine ⟨r.toRs, fun t => ?_, fun t => ?_, by rw [hd]; exact r.df⟩
  · rw [h, hc]; exact r.tm t
  · rw [h]
    have ha := r.al t
    revert ha
    generalize a.ev (.tmp t) = x
    generalize ax.ev (.tmp t) = y
    intro ha
    cases x <;> first | trivial | skip
    · simp only [AL, hc, plGet_ext h] at ha ⊢; exact ha
    · simp only [AL, hc, plGet_ext h] at ha ⊢; exact ha
    · simp only [AL, hc, h] at ha ⊢; exact ha
theorem heapNew (s : AS) (o : Option AObj) (j : Nat) : (s.upd [(s.next, o)] (s.next + 1)).get j = if s.next = j then o else s.get j := by
  rw [AS.upd_get]; rfl
theorem Rl.lt (r : Rl Pr μ w a σ ax s) {i : Nat} {x : AObj} (e : s.get i = some x) : i < s.next := by
  by_cases h : i < s.next
  · exact h
  · rw [r.dm i (by omega)] at e; cases e
theorem Rl.moNew (r : Rl Pr μ w a σ ax s) (o : Option AObj) : Mo s.get μ (Zo w Pr) (s.upd [(s.next, o)] (s.next + 1)).get μ (Zo (holds w s.next) Pr) := by
  refine ⟨fun _ _ e => e, fun i ver vs e ro z hg => ?_⟩
  have hi := r.lt hg
  refine ⟨⟨fun p e => ?_, z.2⟩, by rw [heapNew, if_neg (by omega)]; exact hg⟩
  unfold holds at e
  split at e
  · cases e; omega
  · exact z.1 p e
theorem holds_own {i : Nat} : ∀ p j, holds w i p = some j → j < i → ∃ q, w q = some j := fun p j e h => by
  unfold holds at e
  split at e
  · cases e; omega
  · exact ⟨p, e⟩
theorem after_new {w1 : Own} (o : Option AObj) (h : ∀ p i, w1 p = some i → i < s.next → ∃ q, w q = some i) (hm : ∃ ν, μ' = μ ++ ν) : After w w1 μ μ' s (s.upd [(s.next, o)] (s.next + 1)) :=
  ⟨Nat.le_succ _, fun i hi _ => by rw [heapNew, if_neg (by omega)], h, hm⟩
theorem mu_self : ∃ ν, μ = μ ++ ν := ⟨[], (List.append_nil μ).symm⟩
theorem Rl.hands (r : Rl Pr μ w a σ ax s) (h k : Nat) : Rl Pr μ (mv w (.hand h) (.hand k)) a σ ax s :=
  r.env (Mo.mv _ _) (r.toRs.mv _ _ (fun _ => mv_other w (by simp) (by simp)) (fun _ _ => mv_other w (by simp) (by simp))) (fun _ => mv_other w (by simp) (by simp)) (fun _ _ => mv_other w (by simp) (by simp)) (fun _ _ _ _ => rfl)
theorem putOwn_own (d : Nat) : ∀ p i, mv (rel w (some d)) (.hand 0) (.tmp d) p = some i → ∃ q, w q = some i := fun p i e => by
  obtain ⟨q, hq⟩ := mv_owned e; exact ⟨q, rel_le _ _ _ _ hq⟩
theorem Rl.newBox (r : Rl Pr μ w a σ ax s) (hP : ∀ i, Pr i → i < s.next) {cs : List TV} {vs : List Value} (hv : RVs s.get μ (Zo w Pr) cs vs) (e : TypeId) (d : Nat) :
    Rl Pr μ (mv (rel (holds w s.next) (some d)) (.hand 0) (.tmp d)) (a.tick.put (some d) (.bx a.clk cs e)) σ (ax.put (some d) (.pointer (some ⟨s.next, 0, none⟩))) (s.upd [(s.next, some ⟨0, .cells vs e false⟩)] (s.next + 1)) := by
  have hnp : ¬ Pr s.next := fun h => Nat.lt_irrefl _ (hP _ h)
  have r1 := r.alloc ⟨0, .cells vs e false⟩ hnp
  refine r1.tick.putBx (fresh_tick r1) d (holds_hand w _) (ver := 0) (vs := vs) (by rw [heapNew, if_pos rfl]) (hv.mono (r.moNew _)) rfl (fun t o h => ?_)
  have ha := r.al t
  rw [show a.tick.ev (.tmp t) = a.ev (.tmp t) from rfl] at h
  rw [h] at ha
  exact Nat.lt_irrefl _ ha.1
theorem done_box (r : Rl Pr μ w a σ ax s) (hP : ∀ i, Pr i → i < s.next) {cs : List TV} {vs : List Value} (hv : RVs s.get μ (Zo w Pr) cs vs) (e : TypeId) (d : Option Nat) :
    Done Pr μ w ax s d (.bx a.clk cs e) a.tick σ ⟨.pointer (some ⟨s.next, 0, none⟩), [(s.next, some ⟨0, .cells vs e false⟩)], s.next + 1⟩ := by
  have hnp : ¬ Pr s.next := fun h => Nat.lt_irrefl _ (hP _ h)
  cases d with
  | none => exact ⟨μ, holds w s.next, (r.alloc _ hnp).tick, after_new _ (holds_own (w := w)) mu_self⟩
  | some d =>
    refine ⟨μ, _, r.newBox hP hv e d, after_new _ (fun p i h hi => ?_) mu_self⟩
    obtain ⟨q, hq⟩ := putOwn_own d p i h
    exact holds_own q i hq hi
def newO (w : Own) (n k : Nat) : Own := mv (holds w n) (.hand 0) (.obj k)
theorem newO_own {n k : Nat} : ∀ p i, newO w n k p = some i → i < n → ∃ q, w q = some i := fun p i e hi => by
  obtain ⟨q, e⟩ := mv_owned e; exact holds_own q i e hi
theorem Rl.newObj (r : Rl Pr μ w a σ ax s) (hP : ∀ i, Pr i → i < s.next) {o : TObj} {b : ABody} (hb : ∀ (s' : AS), (∀ c, newO w s.next σ.length (.cell σ.length c) = none) → Mo s.get μ (Zo w Pr) s'.get (μ ++ [s.next]) (Zo (newO w s.next σ.length) Pr) → RB s'.get (μ ++ [s.next]) (Zo (newO w s.next σ.length) Pr) (newO w s.next σ.length) σ.length o.body b) :
    Rl Pr (μ ++ [s.next]) (newO w s.next σ.length) a.tick (σ ++ [some o]) ax (s.upd [(s.next, some ⟨o.ver, b⟩)] (s.next + 1)) := by
  have hnp : ¬ Pr s.next := fun h => Nat.lt_irrefl _ (hP _ h)
  have r1 := r.alloc ⟨o.ver, b⟩ hnp
  exact r1.putObj (holds_hand w _) (by rw [heapNew, if_pos rfl]) (fun hc mo => hb _ hc ((r.moNew _).trans mo))
theorem Rl.muNew (r : Rl Pr μ w a σ ax s) (n : Nat) : (μ ++ [n])[σ.length]? = some n := by rw [← r.len]; simp
theorem done_obj (r : Rl Pr μ w a σ ax s) (hP : ∀ i, Pr i → i < s.next) {o : TObj} {b : ABody} (hb : ∀ (s' : AS), (∀ c, newO w s.next σ.length (.cell σ.length c) = none) → Mo s.get μ (Zo w Pr) s'.get (μ ++ [s.next]) (Zo (newO w s.next σ.length) Pr) → RB s'.get (μ ++ [s.next]) (Zo (newO w s.next σ.length) Pr) (newO w s.next σ.length) σ.length o.body b)
    {tv : TV} {v : Value} (hv : ∀ g Z, RV g (μ ++ [s.next]) Z tv v) (d : Option Nat) : Done Pr μ w ax s d tv a.tick (σ ++ [some o]) ⟨v, [(s.next, some ⟨o.ver, b⟩)], s.next + 1⟩ := by
  have h := (r.newObj hP hb).put d (.inl (hv _ _))
  exact ⟨_, _, h, after_new _ (fun p i e hi => newO_own p i (rel_le _ _ _ _ e) hi) ⟨_, rfl⟩⟩
theorem rb_cells {cs : List TV} {vs : List Value} {e : TypeId} (hv : RVs s.get μ (Zo w Pr) cs vs) {n k : Nat} : ∀ (s' : AS), (∀ c, newO w n k (.cell k c) = none) → Mo s.get μ (Zo w Pr) s'.get (μ ++ [n]) (Zo (newO w n k) Pr) → RB s'.get (μ ++ [n]) (Zo (newO w n k) Pr) (newO w n k) k (.cells cs e) (.cells vs e false) := fun s' hc mo => by
  refine ⟨rfl, rfl, hv.length, fun o tv v h1 h2 => ?_, fun o _ => hc o⟩
  obtain ⟨v', h3, h4⟩ := hv.get h1
  rw [h2] at h3; cases h3
  simp only [hc o]
  exact h4.mono mo
end
theorem s_alloc (md b : Nat) (d : Option Nat) (e : TypeId) (z : List Value) : SimP md b d (.alloc e z) := by
  intro Pr μ w a σ ax s v a' σ' h r hP
  simp only [tdo] at h
  simp only [xprim]
  split at h
  · cases h
  · rename_i hz
    simp only [hz]
    refine ⟨_, rfl, ?_⟩
    split at h
    · simp only [tNew] at h
      cases h
      exact done_obj r hP (rb_cells (RVs.ofVs _ _ _ z)) (fun g Z => .ptr (r.muNew _)) d
    · cases h
      exact done_box r hP (RVs.ofVs _ _ _ z) e d
theorem s_mkMap (md b : Nat) (d : Option Nat) : SimP md b d .mkMap := by
  intro Pr μ w a σ ax s v a' σ' h r hP
  simp only [tdo, tNew] at h
  cases h
  simp only [xprim]
  refine ⟨_, rfl, done_obj (o := ⟨0, .map [] 0⟩) (b := .map [] 0) r hP (fun s' hc mo => ⟨rfl, rfl, fun j x y h1 h2 => by simp at h1, hc⟩) (fun g Z => .map (r.muNew _)) d⟩
section
variable {Pr : Nat → Prop} {μ μ' : List Nat} {w w' : Own} {a a' : TAct} {σ σ' : Sto} {ax ax' : Xe.Act} {s s' : AS}
theorem RV.cells {g : Hp} {Z : Nat → Prop} {tv : TV} {v : Value} (h : RV g μ Z tv v) (hd : tv ≠ .dead) : RVs g μ Z tv.cells v.cells.toList := by
  cases h <;> first | exact absurd rfl hd | assumption | skip
  case tuple => exact .cons (.tuple (by assumption)) .nil
  all_goals first
    | exact .cons (.int _ _) .nil
    | exact .cons (.bool _) .nil
    | exact .cons (.str _) .nil
    | exact .cons .nilp .nil
    | exact .cons (.ptr (by assumption)) .nil
    | exact .cons (.elt (by assumption) (by assumption) (by assumption) (by assumption)) .nil
    | exact .cons (.fz (by assumption) (by assumption) (by assumption) (by assumption) (by assumption) (by assumption) (by assumption) (by assumption)) .nil
    | exact .cons (.fz0 _ _) .nil
    | exact .cons .nl .nil
    | exact .cons (.ref (by assumption) (by assumption)) .nil
    | exact .cons .nilm .nil
    | exact .cons (.map (by assumption)) .nil
    | exact .cons .nilf .nil
    | exact .cons (.func _ (by assumption) (by assumption)) .nil
    | exact .cons .nili .nil
    | exact .cons (.iface _ (by assumption)) .nil
theorem RVs.ones {g : Hp} {Z : Nat → Prop} : ∀ {l : List TV} {l' : List Value}, RVs g μ Z l l' → onesT l = true → Xe.ones l' = true
  | _, _, .nil, _ => rfl
  | v :: l, _, .cons h t, k => by
    cases h <;> simp only [onesT] at k <;> first | (cases k; done) | (simp only [Xe.ones]; exact t.ones k)
theorem RO.one {g : Hp} {Z : Nat → Prop} {i : Nat} {tv : TV} {v : Value} (h : RO g μ Z i tv v) : tv.cells = [tv] ∧ v.cells.toList = [v] ∧ Xe.ones [v] = true := by
  cases h; exact ⟨rfl, rfl, rfl⟩
theorem stok_pl {v : TV} (h : stok v = true) (ho : isOwn v = false) : pl v = true ∧ v ≠ .dead := by
  cases v <;> first | (simp [stok] at h; done) | exact ⟨rfl, by simp⟩ | skip
  rename_i m c; cases m <;> first | exact ⟨rfl, by simp⟩ | (simp [isOwn] at ho)
end
end Go.Xt
end
