/-
  A part of the proof: it is imported by YtalckpkiplhbcaaGreatDoorTop. Nothing here is a claim of its own.
-/
import Derived.Test.YtalckpkiplhbcaaGreatDoorK3
import Derived.Test.YtalckpkiplhbcaaGreatDoorChecked
import Derived.KernelRfl
import Derived.Deep.Slices
import Derived.ChangeArms
import Derived.DataReads
section
namespace Go.Xe.YtalckpkiplhbcaaGreatDoor
open Go Go.Xe
def x90 : XFun := ⟨3, [.tmp 0], .seq (.region [⟨some 0, .move (.const (.pointer none)), none⟩]) (.seq (.region [⟨some 1, .build [(.int .i64 0), (.slice none 0 0), (.pointer none)] [], none⟩, ⟨some 2, .box 186 (T 1), none⟩, ⟨some 0, .move (T 2), none⟩]) (.ret))⟩
def x91 : XFun := ⟨41, [.tmp 4], .seq (.region [⟨some 4, .move (.const (.int .i64 0)), none⟩]) (.seq (.region [⟨some 10, .move (T 0), none⟩, ⟨some 11, .call 140 [(T 10)], none⟩, ⟨some 0, .move (T 11), none⟩]) (.seq (.seq (.region [⟨some 13, .move (T 1), none⟩, ⟨some 14, .move (T 0), none⟩, ⟨some 15, .lookup .ptr (.int .i64 0) (T 13) (T 14) true, none⟩, ⟨some 12, .move (T 15), none⟩, ⟨some 16, .extract (T 12) 0, none⟩, ⟨some 17, .extract (T 12) 1, none⟩, ⟨some 5, .move (T 16), none⟩, ⟨some 6, .move (T 17), none⟩]) (.seq (.region [⟨some 18, .move (T 6), none⟩]) (.cond (T 18) (.seq (.region [⟨some 19, .move (T 5), none⟩, ⟨some 4, .move (T 19), none⟩]) (.ret)) (.skip)))) (.seq (.region [⟨some 7, .move (.const (.int .i64 0)), none⟩]) (.seq (.seq (.region [⟨some 20, .move (T 0), none⟩, ⟨some 21, .nilCheck (T 20), none⟩, ⟨some 22, .addr 1 (T 21), none⟩, ⟨some 23, .load1 (T 22), none⟩, ⟨some 24, .lenSlice (T 23), none⟩, ⟨some 25, .move (.const (.int .i64 0)), none⟩]) (.block 0 (.loop (.seq (.region [⟨some 26, .bin .lss (T 25) (T 24), none⟩]) (.seq (.cond (T 26) (.skip) (.exit 0)) (.seq (.block 1 (.seq (.region [⟨some 27, .indexAddr 1 (T 23) (T 25), none⟩, ⟨some 28, .load1 (T 27), none⟩, ⟨some 9, .move (T 28), none⟩]) (.region [⟨some 29, .move (T 7), none⟩, ⟨some 30, .move (T 9), none⟩, ⟨some 31, .move (T 1), none⟩, ⟨some 32, .call 91 [(T 30), (T 31)], none⟩, ⟨some 33, .maxI [(T 29), (T 32)], none⟩, ⟨some 7, .move (T 33), none⟩]))) (.region [⟨some 34, .bin .add (T 25) (.const (.int .i64 1)), none⟩, ⟨some 25, .move (T 34), none⟩]))))))) (.seq (.region [⟨some 35, .move (T 1), none⟩, ⟨some 36, .move (T 0), none⟩, ⟨some 37, .move (T 7), none⟩, ⟨some 38, .bin .add (T 37) (.const (.int .i64 1)), none⟩, ⟨none, .mapUpdate .ptr (T 35) (T 36) (T 38), none⟩]) (.seq (.region [⟨some 39, .move (T 7), none⟩, ⟨some 40, .bin .add (T 39) (.const (.int .i64 1)), none⟩, ⟨some 4, .move (T 40), none⟩]) (.ret)))))))⟩
def x92 : XFun := ⟨40, [.tmp 4], .seq (.region [⟨some 4, .move (.const (.int .i64 0)), none⟩]) (.seq (.region [⟨some 10, .move (T 0), none⟩, ⟨some 11, .call 140 [(T 10)], none⟩, ⟨some 0, .move (T 11), none⟩]) (.seq (.seq (.region [⟨some 13, .move (T 1), none⟩, ⟨some 14, .move (T 0), none⟩, ⟨some 15, .lookup .ptr (.int .i64 0) (T 13) (T 14) true, none⟩, ⟨some 12, .move (T 15), none⟩, ⟨some 16, .extract (T 12) 0, none⟩, ⟨some 17, .extract (T 12) 1, none⟩, ⟨some 5, .move (T 16), none⟩, ⟨some 6, .move (T 17), none⟩]) (.seq (.region [⟨some 18, .move (T 6), none⟩]) (.cond (T 18) (.seq (.region [⟨some 19, .move (T 5), none⟩, ⟨some 4, .move (T 19), none⟩]) (.ret)) (.skip)))) (.seq (.region [⟨some 7, .move (.const (.int .i64 1)), none⟩]) (.seq (.seq (.region [⟨some 20, .move (T 0), none⟩, ⟨some 21, .nilCheck (T 20), none⟩, ⟨some 22, .addr 1 (T 21), none⟩, ⟨some 23, .load1 (T 22), none⟩, ⟨some 24, .lenSlice (T 23), none⟩, ⟨some 25, .move (.const (.int .i64 0)), none⟩]) (.block 0 (.loop (.seq (.region [⟨some 26, .bin .lss (T 25) (T 24), none⟩]) (.seq (.cond (T 26) (.skip) (.exit 0)) (.seq (.block 1 (.seq (.region [⟨some 27, .indexAddr 1 (T 23) (T 25), none⟩, ⟨some 28, .load1 (T 27), none⟩, ⟨some 9, .move (T 28), none⟩]) (.region [⟨some 29, .move (T 7), none⟩, ⟨some 30, .move (T 9), none⟩, ⟨some 31, .move (T 1), none⟩, ⟨some 32, .call 92 [(T 30), (T 31)], none⟩, ⟨some 33, .bin .add (T 29) (T 32), none⟩, ⟨some 34, .minI [(T 33), (.const (.int .i64 1001))], none⟩, ⟨some 7, .move (T 34), none⟩]))) (.region [⟨some 35, .bin .add (T 25) (.const (.int .i64 1)), none⟩, ⟨some 25, .move (T 35), none⟩]))))))) (.seq (.region [⟨some 36, .move (T 1), none⟩, ⟨some 37, .move (T 0), none⟩, ⟨some 38, .move (T 7), none⟩, ⟨none, .mapUpdate .ptr (T 36) (T 37) (T 38), none⟩]) (.seq (.region [⟨some 39, .move (T 7), none⟩, ⟨some 4, .move (T 39), none⟩]) (.ret)))))))⟩
def x93 : XFun := ⟨37, [.cellN 2 2], .seq (.region [⟨some 2, .alloc 65 [(.int .i64 0), (.slice none 0 0)], none⟩]) (.seq (.region [⟨some 6, .move (T 0), none⟩, ⟨some 7, .call 140 [(T 6)], none⟩, ⟨some 0, .move (T 7), none⟩]) (.seq (.seq (.region [⟨some 8, .move (T 0), none⟩, ⟨some 9, .nilCheck (T 8), none⟩, ⟨some 10, .addr 0 (T 9), none⟩, ⟨some 11, .load1 (T 10), none⟩, ⟨some 12, .bin .eql (T 11) (.const (.int .i64 0)), none⟩]) (.cond (T 12) (.seq (.region [⟨some 13, .build [(.int .i64 0), (.slice none 0 0)] [(0, 1, (.const (.int .i64 1)))], none⟩, ⟨none, .store 2 (T 2) (T 13), none⟩]) (.ret)) (.skip))) (.seq (.region [⟨some 14, .move (T 0), none⟩, ⟨some 15, .nilCheck (T 14), none⟩, ⟨some 16, .addr 0 (T 15), none⟩, ⟨some 17, .load1 (T 16), none⟩, ⟨some 18, .build [(.int .i64 0), (.slice none 0 0)] [(0, 1, (T 17))], none⟩, ⟨some 3, .alloc 65 [(.int .i64 0), (.slice none 0 0)], none⟩, ⟨none, .store 2 (T 3) (T 18), none⟩]) (.seq (.seq (.region [⟨some 19, .move (T 0), none⟩, ⟨some 20, .nilCheck (T 19), none⟩, ⟨some 21, .addr 1 (T 20), none⟩, ⟨some 22, .load1 (T 21), none⟩, ⟨some 23, .lenSlice (T 22), none⟩, ⟨some 24, .move (.const (.int .i64 0)), none⟩]) (.block 0 (.loop (.seq (.region [⟨some 25, .bin .lss (T 24) (T 23), none⟩]) (.seq (.cond (T 25) (.skip) (.exit 0)) (.seq (.block 1 (.seq (.region [⟨some 26, .indexAddr 1 (T 22) (T 24), none⟩, ⟨some 27, .load1 (T 26), none⟩, ⟨some 5, .move (T 27), none⟩]) (.regionD [⟨some 28, .addr 1 (T 3), none⟩, ⟨some 29, .load1 (T 28), none⟩, ⟨some 30, .move (T 5), none⟩, ⟨some 31, .call 93 [(T 30)], none⟩, ⟨some 32, .buildSlice 65 2 [(.int .i64 0), (.slice none 0 0)] 1 [(0, 2, (T 31))], none⟩, ⟨some 33, .append 65 2 32 (T 29) (T 32), none⟩, ⟨some 34, .addr 1 (T 3), none⟩, ⟨none, .store 1 (T 34) (T 33), none⟩] [(1, 3), (1, 4)]))) (.region [⟨some 35, .bin .add (T 24) (.const (.int .i64 1)), none⟩, ⟨some 24, .move (T 35), none⟩]))))))) (.seq (.region [⟨some 36, .loadN 2 (T 3), none⟩, ⟨none, .store 2 (T 2) (T 36), none⟩]) (.ret))))))⟩
def x94 : XFun := ⟨253, [.cellN 6 8], .seq (.region [⟨some 4, .box 54 (T 1), none⟩, ⟨some 6, .alloc 30 [(.int .i64 0), (.int .i64 0), (.int .i64 0), (.int .i64 0), (.int .i64 0), (.slice none 0 0), (.slice none 0 0), (.slice none 0 0)], none⟩]) (.seq (.region [⟨some 15, .move (T 0), none⟩, ⟨some 16, .move (T 0), none⟩, ⟨some 17, .nilCheck (T 16), none⟩, ⟨some 18, .addr 11 (T 17), none⟩, ⟨some 19, .load1 (T 18), none⟩, ⟨some 20, .move (T 2), none⟩, ⟨some 21, .lenSlice (T 20), none⟩, ⟨some 22, .maxI [(T 19), (T 21)], none⟩, ⟨some 23, .nilCheck (T 15), none⟩, ⟨some 24, .addr 11 (T 23), none⟩, ⟨none, .store 1 (T 24) (T 22), none⟩]) (.seq (.region [⟨some 7, .alloc 30 [(.int .i64 0), (.int .i64 0), (.int .i64 0), (.int .i64 0), (.int .i64 0), (.slice none 0 0), (.slice none 0 0), (.slice none 0 0)], none⟩]) (.seq (.seq (.region [⟨some 25, .addr 0 (T 4), none⟩, ⟨some 26, .load1 (T 25), none⟩]) (.block 0 (.seq (.region [⟨some 28, .bin .eql (T 26) (.const (.int .i64 1)), none⟩, ⟨some 27, .move (T 28), none⟩]) (.cond (T 27) (.seq (.region [⟨some 29, .addr 1 (T 4), none⟩, ⟨some 30, .load1 (T 29), none⟩, ⟨some 31, .call 142 [(T 30)], none⟩, ⟨some 32, .call 141 [(T 31)], none⟩, ⟨none, .store 8 (T 6) (T 32), none⟩]) (.ret)) (.seq (.region [⟨some 34, .bin .eql (T 26) (.const (.int .i64 2)), none⟩, ⟨some 33, .move (T 34), none⟩]) (.cond (T 33) (.seq (.region [⟨some 35, .addr 1 (T 4), none⟩, ⟨some 36, .load1 (T 35), none⟩, ⟨some 37, .call 143 [(T 36)], none⟩, ⟨some 38, .call 141 [(T 37)], none⟩, ⟨none, .store 8 (T 6) (T 38), none⟩]) (.ret)) (.seq (.region [⟨some 40, .bin .eql (T 26) (.const (.int .i64 3)), none⟩, ⟨some 39, .move (T 40), none⟩]) (.cond (T 39) (.seq (.region [⟨some 41, .build [(.int .i64 0), (.int .i64 0), (.int .i64 0), (.int .i64 0), (.int .i64 0), (.slice none 0 0), (.slice none 0 0), (.slice none 0 0)] [(0, 1, (.const (.int .i64 2)))], none⟩, ⟨none, .store 8 (T 7) (T 41), none⟩]) (.seq (.seq (.region [⟨some 42, .move (T 2), none⟩, ⟨some 43, .lenSlice (T 42), none⟩, ⟨some 44, .move (.const (.int .i64 0)), none⟩]) (.block 1 (.loop (.seq (.region [⟨some 45, .bin .lss (T 44) (T 43), none⟩]) (.seq (.cond (T 45) (.skip) (.exit 1)) (.seq (.block 2 (.seq (.region [⟨some 46, .move (T 44), none⟩, ⟨some 47, .indexAddr 1 (T 42) (T 44), none⟩, ⟨some 48, .load1 (T 47), none⟩, ⟨some 8, .move (T 46), none⟩, ⟨some 9, .move (T 48), none⟩]) (.seq (.region [⟨some 49, .move (T 9), none⟩, ⟨some 50, .addr 2 (T 4), none⟩, ⟨some 51, .load1 (T 50), none⟩, ⟨some 52, .bin .eql (T 49) (T 51), none⟩]) (.cond (T 52) (.region [⟨some 53, .move (T 8), none⟩, ⟨some 54, .addr 1 (T 7), none⟩, ⟨none, .store 1 (T 54) (T 53), none⟩]) (.skip))))) (.region [⟨some 55, .bin .add (T 44) (.const (.int .i64 1)), none⟩, ⟨some 44, .move (T 55), none⟩]))))))) (.seq (.region [⟨some 56, .loadN 8 (T 7), none⟩, ⟨none, .store 8 (T 6) (T 56), none⟩]) (.ret)))) (.seq (.region [⟨some 58, .bin .eql (T 26) (.const (.int .i64 4)), none⟩, ⟨some 57, .move (T 58), none⟩]) (.cond (T 57) (.region [⟨some 59, .move (T 0), none⟩, ⟨some 60, .nilCheck (T 59), none⟩, ⟨some 61, .addr 0 (T 60), none⟩, ⟨some 62, .addr 1 (T 61), none⟩, ⟨some 63, .load1 (T 62), none⟩, ⟨some 64, .mkFunc (.func 145) [] [(T 4)], none⟩, ⟨some 65, .call 144 [(T 63), (T 64)], none⟩, ⟨some 66, .build [(.int .i64 0), (.int .i64 0), (.int .i64 0), (.int .i64 0), (.int .i64 0), (.slice none 0 0), (.slice none 0 0), (.slice none 0 0)] [(0, 1, (.const (.int .i64 3))), (1, 1, (T 65))], none⟩, ⟨none, .store 8 (T 7) (T 66), none⟩]) (.seq (.region [⟨some 68, .bin .eql (T 26) (.const (.int .i64 5)), none⟩, ⟨some 67, .move (T 68), none⟩]) (.cond (T 67) (.region [⟨some 69, .build [(.int .i64 0), (.int .i64 0), (.int .i64 0), (.int .i64 0), (.int .i64 0), (.slice none 0 0), (.slice none 0 0), (.slice none 0 0)] [(0, 1, (.const (.int .i64 4)))], none⟩, ⟨none, .store 8 (T 7) (T 69), none⟩]) (.seq (.region [⟨some 71, .bin .eql (T 26) (.const (.int .i64 6)), none⟩, ⟨some 70, .move (T 71), none⟩]) (.cond (T 70) (.region [⟨some 72, .build [(.int .i64 0), (.int .i64 0), (.int .i64 0), (.int .i64 0), (.int .i64 0), (.slice none 0 0), (.slice none 0 0), (.slice none 0 0)] [(0, 1, (.const (.int .i64 5)))], none⟩, ⟨none, .store 8 (T 7) (T 72), none⟩]) (.seq (.region [⟨some 74, .bin .eql (T 26) (.const (.int .i64 7)), none⟩, ⟨some 73, .move (T 74), none⟩]) (.cond (T 73) (.regionD [⟨some 75, .sliceArr 14 1 (.global 0) none none none, none⟩, ⟨some 76, .addr 2 (T 4), none⟩, ⟨some 77, .load1 (T 76), none⟩, ⟨some 78, .call 146 [(T 75), (T 77)], none⟩, ⟨some 79, .build [(.int .i64 0), (.int .i64 0), (.int .i64 0), (.int .i64 0), (.int .i64 0), (.slice none 0 0), (.slice none 0 0), (.slice none 0 0)] [(0, 1, (.const (.int .i64 6))), (1, 1, (T 78))], none⟩, ⟨none, .store 8 (T 7) (T 79), none⟩] []) (.seq (.region [⟨some 81, .bin .eql (T 26) (.const (.int .i64 8)), none⟩, ⟨some 80, .move (T 81), none⟩]) (.cond (T 80) (.seq (.region [⟨some 82, .move (T 2), none⟩, ⟨some 83, .lenSlice (T 82), none⟩, ⟨some 84, .addr 3 (T 4), none⟩, ⟨some 85, .load1 (T 84), none⟩, ⟨some 86, .lenSlice (T 85), none⟩, ⟨some 87, .build [(.int .i64 0), (.int .i64 0), (.int .i64 0), (.int .i64 0), (.int .i64 0), (.slice none 0 0), (.slice none 0 0), (.slice none 0 0)] [(0, 1, (.const (.int .i64 7))), (1, 1, (T 83)), (2, 1, (T 86))], none⟩, ⟨none, .store 8 (T 7) (T 87), none⟩]) (.seq (.regionD [⟨some 88, .move (T 0), none⟩, ⟨some 89, .addr 5 (T 4), none⟩, ⟨some 90, .load1 (T 89), none⟩, ⟨some 91, .indexAddr 8 (T 90) (.const (.int .i64 0)), none⟩, ⟨some 92, .loadN 8 (T 91), none⟩, ⟨some 93, .move (T 2), none⟩, ⟨some 94, .call 94 [(T 88), (T 92), (T 93)], none⟩, ⟨some 95, .move (T 0), none⟩, ⟨some 96, .addr 5 (T 4), none⟩, ⟨some 97, .load1 (T 96), none⟩, ⟨some 98, .indexAddr 8 (T 97) (.const (.int .i64 1)), none⟩, ⟨some 99, .loadN 8 (T 98), none⟩, ⟨some 100, .move (T 2), none⟩, ⟨some 101, .addr 3 (T 4), none⟩, ⟨some 102, .load1 (T 101), none⟩, ⟨some 103, .buildSlice 51 1 [(.slice none 0 0)] 2 [(0, 1, (T 100)), (1, 1, (T 102))], none⟩, ⟨some 104, .call 147 [(T 103)], none⟩, ⟨some 105, .call 94 [(T 95), (T 99), (T 104)], none⟩, ⟨some 106, .buildSlice 30 8 [(.int .i64 0), (.int .i64 0), (.int .i64 0), (.int .i64 0), (.int .i64 0), (.slice none 0 0), (.slice none 0 0), (.slice none 0 0)] 2 [(0, 8, (T 94)), (8, 8, (T 105))], none⟩, ⟨some 107, .addr 7 (T 7), none⟩, ⟨none, .store 1 (T 107) (T 106), none⟩] [(6, 9), (6, 11), (6, 14), (2, 15), (4, 15), (9, 15), (11, 15), (9, 16), (11, 16)]) (.seq (.region [⟨some 108, .loadN 8 (T 7), none⟩, ⟨none, .store 8 (T 6) (T 108), none⟩]) (.ret)))) (.seq (.region [⟨some 110, .bin .eql (T 26) (.const (.int .i64 9)), none⟩, ⟨some 109, .move (T 110), none⟩]) (.cond (T 109) (.region [⟨some 111, .build [(.int .i64 0), (.int .i64 0), (.int .i64 0), (.int .i64 0), (.int .i64 0), (.slice none 0 0), (.slice none 0 0), (.slice none 0 0)] [(0, 1, (.const (.int .i64 8)))], none⟩, ⟨none, .store 8 (T 7) (T 111), none⟩]) (.seq (.region [⟨some 113, .bin .eql (T 26) (.const (.int .i64 10)), none⟩, ⟨some 112, .move (T 113), none⟩]) (.cond (T 112) (.seq (.region [⟨some 114, .move (T 2), none⟩, ⟨some 115, .lenSlice (T 114), none⟩, ⟨some 116, .build [(.int .i64 0), (.int .i64 0), (.int .i64 0), (.int .i64 0), (.int .i64 0), (.slice none 0 0), (.slice none 0 0), (.slice none 0 0)] [(0, 1, (.const (.int .i64 9))), (1, 1, (T 115))], none⟩, ⟨none, .store 8 (T 7) (T 116), none⟩]) (.seq (.regionD [⟨some 117, .move (T 0), none⟩, ⟨some 118, .addr 5 (T 4), none⟩, ⟨some 119, .load1 (T 118), none⟩, ⟨some 120, .indexAddr 8 (T 119) (.const (.int .i64 0)), none⟩, ⟨some 121, .loadN 8 (T 120), none⟩, ⟨some 122, .move (T 2), none⟩, ⟨some 123, .call 94 [(T 117), (T 121), (T 122)], none⟩, ⟨some 124, .move (T 0), none⟩, ⟨some 125, .addr 5 (T 4), none⟩, ⟨some 126, .load1 (T 125), none⟩, ⟨some 127, .indexAddr 8 (T 126) (.const (.int .i64 1)), none⟩, ⟨some 128, .loadN 8 (T 127), none⟩, ⟨some 129, .move (T 2), none⟩, ⟨some 130, .call 94 [(T 124), (T 128), (T 129)], none⟩, ⟨some 131, .move (T 0), none⟩, ⟨some 132, .addr 5 (T 4), none⟩, ⟨some 133, .load1 (T 132), none⟩, ⟨some 134, .indexAddr 8 (T 133) (.const (.int .i64 2)), none⟩, ⟨some 135, .loadN 8 (T 134), none⟩, ⟨some 136, .move (T 2), none⟩, ⟨some 137, .addr 3 (T 4), none⟩, ⟨some 138, .load1 (T 137), none⟩, ⟨some 139, .buildSlice 51 1 [(.slice none 0 0)] 2 [(0, 1, (T 136)), (1, 1, (T 138))], none⟩, ⟨some 140, .call 147 [(T 139)], none⟩, ⟨some 141, .call 94 [(T 131), (T 135), (T 140)], none⟩, ⟨some 142, .buildSlice 30 8 [(.int .i64 0), (.int .i64 0), (.int .i64 0), (.int .i64 0), (.int .i64 0), (.slice none 0 0), (.slice none 0 0), (.slice none 0 0)] 3 [(0, 8, (T 123)), (8, 8, (T 130)), (16, 8, (T 141))], none⟩, ⟨some 143, .addr 7 (T 7), none⟩, ⟨none, .store 1 (T 143) (T 142), none⟩] [(6, 9), (6, 11), (6, 16), (13, 16), (6, 18), (13, 18), (6, 21), (13, 21), (2, 22), (4, 22), (9, 22), (11, 22), (16, 22), (18, 22), (16, 23), (18, 23)]) (.seq (.region [⟨some 144, .loadN 8 (T 7), none⟩, ⟨none, .store 8 (T 6) (T 144), none⟩]) (.ret)))) (.seq (.region [⟨some 146, .bin .eql (T 26) (.const (.int .i64 11)), none⟩, ⟨some 145, .move (T 146), none⟩]) (.cond (T 145) (.region [⟨some 147, .build [(.int .i64 0), (.int .i64 0), (.int .i64 0), (.int .i64 0), (.int .i64 0), (.slice none 0 0), (.slice none 0 0), (.slice none 0 0)] [(0, 1, (.const (.int .i64 10)))], none⟩, ⟨none, .store 8 (T 7) (T 147), none⟩]) (.seq (.region [⟨some 149, .bin .eql (T 26) (.const (.int .i64 12)), none⟩, ⟨some 148, .move (T 149), none⟩]) (.cond (T 148) (.region [⟨some 150, .addr 4 (T 4), none⟩, ⟨some 151, .load1 (T 150), none⟩, ⟨some 152, .call 67 [(T 151)], none⟩, ⟨some 153, .build [(.int .i64 0), (.int .i64 0), (.int .i64 0), (.int .i64 0), (.int .i64 0), (.slice none 0 0), (.slice none 0 0), (.slice none 0 0)] [(0, 1, (.const (.int .i64 11))), (6, 1, (T 152))], none⟩, ⟨none, .store 8 (T 7) (T 153), none⟩]) (.seq (.region [⟨some 155, .bin .eql (T 26) (.const (.int .i64 13)), none⟩, ⟨some 154, .move (T 155), none⟩]) (.cond (T 154) (.seq (.region [⟨some 156, .move (T 0), none⟩, ⟨some 157, .call 148 [(T 156)], none⟩, ⟨none, .store 8 (T 7) (T 157), none⟩]) (.region [⟨some 158, .addr 4 (T 4), none⟩, ⟨some 159, .load1 (T 158), none⟩, ⟨some 160, .call 67 [(T 159)], none⟩, ⟨some 161, .addr 6 (T 7), none⟩, ⟨none, .store 1 (T 161) (T 160), none⟩])) (.seq (.region [⟨some 163, .bin .eql (T 26) (.const (.int .i64 14)), none⟩, ⟨some 162, .move (T 163), none⟩]) (.cond (T 162) (.seq (.region [⟨some 164, .move (T 0), none⟩, ⟨some 165, .call 148 [(T 164)], none⟩, ⟨none, .store 8 (T 7) (T 165), none⟩]) (.seq (.seq (.regionD [⟨some 166, .addr 4 (T 4), none⟩, ⟨some 167, .load1 (T 166), none⟩, ⟨some 168, .indexAddr 1 (T 167) (.const (.int .i64 0)), none⟩, ⟨some 169, .load1 (T 168), none⟩, ⟨some 170, .addr 4 (T 4), none⟩, ⟨some 171, .load1 (T 170), none⟩, ⟨some 172, .indexAddr 1 (T 171) (.const (.int .i64 1)), none⟩, ⟨some 173, .load1 (T 172), none⟩, ⟨some 174, .addr 4 (T 4), none⟩, ⟨some 175, .load1 (T 174), none⟩, ⟨some 176, .indexAddr 1 (T 175) (.const (.int .i64 0)), none⟩, ⟨some 177, .load1 (T 176), none⟩, ⟨some 178, .bin .sub (T 173) (T 177), none⟩, ⟨some 179, .buildSlice 3 1 [(.int .i64 0)] 2 [(0, 1, (T 169)), (1, 1, (T 178))], none⟩, ⟨some 180, .lenSlice (T 179), none⟩, ⟨some 181, .move (.const (.int .i64 0)), none⟩] []) (.block 3 (.loop (.seq (.region [⟨some 182, .bin .lss (T 181) (T 180), none⟩]) (.seq (.cond (T 182) (.skip) (.exit 3)) (.seq (.block 4 (.seq (.region [⟨some 183, .move (T 181), none⟩, ⟨some 184, .indexAddr 1 (T 179) (T 181), none⟩, ⟨some 185, .load1 (T 184), none⟩, ⟨some 10, .move (T 183), none⟩, ⟨some 11, .move (T 185), none⟩]) (.seq (.region [⟨some 186, .move (T 11), none⟩, ⟨some 187, .bin .gtr (T 186) (.const (.int .i64 0)), none⟩]) (.cond (T 187) (.regionD [⟨some 188, .addr 6 (T 7), none⟩, ⟨some 189, .load1 (T 188), none⟩, ⟨some 190, .move (T 11), none⟩, ⟨some 191, .buildSlice 3 1 [(.int .i64 0)] 1 [(0, 1, (T 190))], none⟩, ⟨some 192, .append 3 1 8 (T 189) (T 191), none⟩, ⟨some 193, .addr 7 (T 7), none⟩, ⟨some 194, .load1 (T 193), none⟩, ⟨some 195, .move (T 10), none⟩, ⟨some 196, .bin .sub (.const (.int .i64 1)) (T 195), none⟩, ⟨some 197, .call 143 [(T 196)], none⟩, ⟨some 198, .call 141 [(T 197)], none⟩, ⟨some 199, .buildSlice 30 8 [(.int .i64 0), (.int .i64 0), (.int .i64 0), (.int .i64 0), (.int .i64 0), (.slice none 0 0), (.slice none 0 0), (.slice none 0 0)] 1 [(0, 8, (T 198))], none⟩, ⟨some 200, .append 30 8 112 (T 194) (T 199), none⟩, ⟨some 201, .addr 6 (T 7), none⟩, ⟨none, .store 1 (T 201) (T 192), none⟩, ⟨some 202, .addr 7 (T 7), none⟩, ⟨none, .store 1 (T 202) (T 200), none⟩] [(1, 3), (3, 6), (4, 6), (6, 9), (6, 10), (6, 11)]) (.skip))))) (.region [⟨some 203, .bin .add (T 181) (.const (.int .i64 1)), none⟩, ⟨some 181, .move (T 203), none⟩]))))))) (.seq (.region [⟨some 204, .loadN 8 (T 7), none⟩, ⟨none, .store 8 (T 6) (T 204), none⟩]) (.ret)))) (.seq (.region [⟨some 206, .bin .eql (T 26) (.const (.int .i64 15)), none⟩, ⟨some 205, .move (T 206), none⟩]) (.cond (T 205) (.seq (.region [⟨some 207, .move (T 0), none⟩, ⟨some 208, .call 148 [(T 207)], none⟩, ⟨none, .store 8 (T 7) (T 208), none⟩]) (.seq (.seq (.region [⟨some 209, .addr 4 (T 4), none⟩, ⟨some 210, .load1 (T 209), none⟩, ⟨some 211, .indexAddr 1 (T 210) (.const (.int .i64 0)), none⟩, ⟨some 212, .load1 (T 211), none⟩, ⟨some 12, .move (T 212), none⟩]) (.block 5 (.loop (.seq (.seq (.region [⟨some 213, .move (T 12), none⟩, ⟨some 214, .addr 4 (T 4), none⟩, ⟨some 215, .load1 (T 214), none⟩, ⟨some 216, .indexAddr 1 (T 215) (.const (.int .i64 1)), none⟩, ⟨some 217, .load1 (T 216), none⟩, ⟨some 218, .bin .leq (T 213) (T 217), none⟩]) (.cond (T 218) (.skip) (.exit 5))) (.seq (.block 6 (.regionD [⟨some 221, .addr 6 (T 7), none⟩, ⟨some 222, .load1 (T 221), none⟩, ⟨some 223, .buildSlice 3 1 [(.int .i64 0)] 1 [(0, 1, (.const (.int .i64 1)))], none⟩, ⟨some 224, .append 3 1 8 (T 222) (T 223), none⟩, ⟨some 225, .addr 7 (T 7), none⟩, ⟨some 226, .load1 (T 225), none⟩, ⟨some 227, .move (T 12), none⟩, ⟨some 228, .call 142 [(T 227)], none⟩, ⟨some 229, .call 141 [(T 228)], none⟩, ⟨some 230, .buildSlice 30 8 [(.int .i64 0), (.int .i64 0), (.int .i64 0), (.int .i64 0), (.int .i64 0), (.slice none 0 0), (.slice none 0 0), (.slice none 0 0)] 1 [(0, 8, (T 229))], none⟩, ⟨some 231, .append 30 8 112 (T 226) (T 230), none⟩, ⟨some 232, .addr 6 (T 7), none⟩, ⟨none, .store 1 (T 232) (T 224), none⟩, ⟨some 233, .addr 7 (T 7), none⟩, ⟨none, .store 1 (T 233) (T 231), none⟩] [(1, 2), (2, 5), (3, 5), (5, 7), (5, 8), (5, 9)])) (.region [⟨some 219, .move (T 12), none⟩, ⟨some 220, .bin .add (T 219) (.const (.int .i64 1)), none⟩, ⟨some 12, .move (T 220), none⟩])))))) (.seq (.region [⟨some 234, .loadN 8 (T 7), none⟩, ⟨none, .store 8 (T 6) (T 234), none⟩]) (.ret)))) (.skip))))))))))))))))))))))))))))))))) (.seq (.seq (.region [⟨some 235, .addr 5 (T 4), none⟩, ⟨some 236, .load1 (T 235), none⟩, ⟨some 237, .lenSlice (T 236), none⟩, ⟨some 238, .move (.const (.int .i64 0)), none⟩]) (.block 7 (.loop (.seq (.region [⟨some 239, .bin .lss (T 238) (T 237), none⟩]) (.seq (.cond (T 239) (.skip) (.exit 7)) (.seq (.block 8 (.seq (.region [⟨some 240, .indexAddr 8 (T 236) (T 238), none⟩, ⟨some 241, .loadN 8 (T 240), none⟩, ⟨some 14, .alloc 54 [(.int .i64 0), (.int .i64 0), (.string { data := #[] }), (.slice none 0 0), (.slice none 0 0), (.slice none 0 0), (.int .i64 0), (.int .i64 0)], none⟩, ⟨none, .store 8 (T 14) (T 241), none⟩]) (.regionD [⟨some 242, .addr 7 (T 7), none⟩, ⟨some 243, .load1 (T 242), none⟩, ⟨some 244, .move (T 0), none⟩, ⟨some 245, .loadN 8 (T 14), none⟩, ⟨some 246, .move (T 2), none⟩, ⟨some 247, .call 94 [(T 244), (T 245), (T 246)], none⟩, ⟨some 248, .buildSlice 30 8 [(.int .i64 0), (.int .i64 0), (.int .i64 0), (.int .i64 0), (.int .i64 0), (.slice none 0 0), (.slice none 0 0), (.slice none 0 0)] 1 [(0, 8, (T 247))], none⟩, ⟨some 249, .append 30 8 112 (T 243) (T 248), none⟩, ⟨some 250, .addr 7 (T 7), none⟩, ⟨none, .store 1 (T 250) (T 249), none⟩] [(1, 5), (1, 6)]))) (.region [⟨some 251, .bin .add (T 238) (.const (.int .i64 1)), none⟩, ⟨some 238, .move (T 251), none⟩]))))))) (.seq (.region [⟨some 252, .loadN 8 (T 7), none⟩, ⟨none, .store 8 (T 6) (T 252), none⟩]) (.ret))))))⟩
def x97 : XFun := ⟨79, [.tmp 4], .seq (.region [⟨some 3, .box 30 (T 1), none⟩, ⟨some 4, .move (.const (.int .i64 0)), none⟩]) (.seq (.seq (.region [⟨some 5, .addr 0 (T 3), none⟩, ⟨some 6, .load1 (T 5), none⟩]) (.block 0 (.seq (.seq (.region [⟨some 8, .bin .eql (T 6) (.const (.int .i64 1)), none⟩, ⟨some 7, .move (T 8), none⟩]) (.cond (T 7) (.skip) (.region [⟨some 9, .bin .eql (T 6) (.const (.int .i64 2)), none⟩, ⟨some 7, .move (T 9), none⟩]))) (.cond (T 7) (.seq (.region [⟨some 4, .move (.const (.int .i64 0)), none⟩]) (.ret)) (.seq (.region [⟨some 11, .bin .eql (T 6) (.const (.int .i64 3)), none⟩, ⟨some 10, .move (T 11), none⟩]) (.cond (T 10) (.seq (.seq (.regionD [⟨some 12, .addr 1 (T 3), none⟩, ⟨some 13, .load1 (T 12), none⟩, ⟨some 14, .bin .lss (T 13) (.const (.int .i64 0)), none⟩, ⟨some 15, .move (T 14), none⟩, ⟨some 16, .addr 1 (T 3), (some (15, false))⟩, ⟨some 17, .load1 (T 16), (some (15, false))⟩, ⟨some 18, .move (T 0), (some (15, false))⟩, ⟨some 19, .nilCheck (T 18), (some (15, false))⟩, ⟨some 20, .addr 0 (T 19), (some (15, false))⟩, ⟨some 21, .addr 1 (T 20), (some (15, false))⟩, ⟨some 22, .load1 (T 21), (some (15, false))⟩, ⟨some 23, .lenSlice (T 22), (some (15, false))⟩, ⟨some 24, .bin .geq (T 17) (T 23), (some (15, false))⟩, ⟨some 25, .pick (T 15) (.const (.bool true)) (T 24), none⟩] []) (.cond (T 25) (.seq (.region [⟨some 4, .move (.const (.int .i64 (-2))), none⟩]) (.ret)) (.skip))) (.seq (.regionD [⟨some 26, .move (T 0), none⟩, ⟨some 27, .nilCheck (T 26), none⟩, ⟨some 28, .addr 0 (T 27), none⟩, ⟨some 29, .addr 1 (T 28), none⟩, ⟨some 30, .load1 (T 29), none⟩, ⟨some 31, .addr 1 (T 3), none⟩, ⟨some 32, .load1 (T 31), none⟩, ⟨some 33, .indexAddr 10 (T 30) (T 32), none⟩, ⟨some 34, .addr 0 (T 33), none⟩, ⟨some 35, .load1 (T 34), none⟩, ⟨some 4, .move (T 35), none⟩] []) (.ret))) (.seq (.region [⟨some 37, .bin .eql (T 6) (.const (.int .i64 4)), none⟩, ⟨some 36, .move (T 37), none⟩]) (.cond (T 36) (.seq (.region [⟨some 38, .addr 7 (T 3), none⟩, ⟨some 39, .load1 (T 38), none⟩, ⟨some 40, .lenSlice (T 39), none⟩, ⟨some 41, .maxI [(T 40), (.const (.int .i64 2))], none⟩, ⟨some 42, .minI [(T 41), (.const (.int .i64 4))], none⟩, ⟨some 4, .move (T 42), none⟩]) (.ret)) (.seq (.region [⟨some 44, .bin .eql (T 6) (.const (.int .i64 5)), none⟩, ⟨some 43, .move (T 44), none⟩]) (.cond (T 43) (.seq (.region [⟨some 45, .addr 7 (T 3), none⟩, ⟨some 46, .load1 (T 45), none⟩, ⟨some 47, .lenSlice (T 46), none⟩, ⟨some 48, .minI [(T 47), (.const (.int .i64 32))], none⟩, ⟨some 4, .move (T 48), none⟩]) (.ret)) (.seq (.region [⟨some 50, .bin .eql (T 6) (.const (.int .i64 6)), none⟩, ⟨some 49, .move (T 50), none⟩]) (.cond (T 49) (.seq (.block 1 (.seq (.region [⟨some 52, .addr 1 (T 3), none⟩, ⟨some 53, .load1 (T 52), none⟩, ⟨some 54, .bin .lss (T 53) (.const (.int .i64 1)), none⟩, ⟨some 55, .move (T 54), none⟩, ⟨some 56, .addr 1 (T 3), (some (55, false))⟩, ⟨some 57, .load1 (T 56), (some (55, false))⟩, ⟨some 58, .bin .gtr (T 57) (.const (.int .i64 13)), (some (55, false))⟩, ⟨some 59, .pick (T 55) (.const (.bool true)) (T 58), none⟩, ⟨some 51, .move (T 59), none⟩]) (.cond (T 51) (.seq (.region [⟨some 4, .move (.const (.int .i64 (-2))), none⟩]) (.ret)) (.seq (.region [⟨some 61, .addr 1 (T 3), none⟩, ⟨some 62, .load1 (T 61), none⟩, ⟨some 63, .bin .geq (T 62) (.const (.int .i64 12)), none⟩, ⟨some 60, .move (T 63), none⟩]) (.cond (T 60) (.seq (.region [⟨some 4, .move (.const (.int .i64 1)), none⟩]) (.ret)) (.skip)))))) (.seq (.region [⟨some 4, .move (.const (.int .i64 2)), none⟩]) (.ret))) (.seq (.seq (.region [⟨some 65, .bin .eql (T 6) (.const (.int .i64 7)), none⟩, ⟨some 64, .move (T 65), none⟩]) (.cond (T 64) (.skip) (.region [⟨some 66, .bin .eql (T 6) (.const (.int .i64 10)), none⟩, ⟨some 64, .move (T 66), none⟩]))) (.cond (T 64) (.seq (.region [⟨some 4, .move (.const (.int .i64 2)), none⟩]) (.ret)) (.seq (.seq (.region [⟨some 68, .bin .eql (T 6) (.const (.int .i64 8)), none⟩, ⟨some 67, .move (T 68), none⟩]) (.cond (T 67) (.skip) (.region [⟨some 69, .bin .eql (T 6) (.const (.int .i64 9)), none⟩, ⟨some 67, .move (T 69), none⟩]))) (.cond (T 67) (.seq (.region [⟨some 4, .move (.const (.int .i64 3)), none⟩]) (.ret)) (.seq (.region [⟨some 71, .bin .eql (T 6) (.const (.int .i64 11)), none⟩, ⟨some 70, .move (T 71), none⟩]) (.cond (T 70) (.seq (.region [⟨some 4, .move (.const (.int .i64 1)), none⟩]) (.ret)) (.seq (.region [⟨some 73, .bin .eql (T 6) (.const (.int .i64 12)), none⟩, ⟨some 72, .move (T 73), none⟩]) (.cond (T 72) (.seq (.region [⟨some 74, .addr 6 (T 3), none⟩, ⟨some 75, .load1 (T 74), none⟩, ⟨some 76, .lenSlice (T 75), none⟩, ⟨some 77, .maxI [(T 76), (.const (.int .i64 1))], none⟩, ⟨some 78, .minI [(T 77), (.const (.int .i64 64))], none⟩, ⟨some 4, .move (T 78), none⟩]) (.ret)) (.skip))))))))))))))))))))) (.seq (.region [⟨some 4, .move (.const (.int .i64 (-2))), none⟩]) (.ret)))⟩
def x98 : XFun := ⟨21, [.tmp 2], .seq (.region [⟨some 1, .box 26 (T 0), none⟩, ⟨some 2, .move (.const (.bool false)), none⟩]) (.seq (.region [⟨some 6, .loadN 3 (T 1), none⟩, ⟨some 7, .call 150 [(T 6), (.const (.int .i64 40))], none⟩, ⟨some 5, .move (T 7), none⟩, ⟨some 8, .extract (T 5) 0, none⟩, ⟨some 9, .extract (T 5) 1, none⟩, ⟨some 3, .alloc 65 [(.int .i64 0), (.slice none 0 0)], none⟩, ⟨none, .store 2 (T 3) (T 8), none⟩, ⟨some 4, .move (T 9), none⟩]) (.seq (.region [⟨some 10, .move (T 4), none⟩, ⟨some 11, .move (T 10), none⟩, ⟨some 12, .loadN 2 (T 3), (some (11, true))⟩, ⟨some 13, .call 151 [(T 12)], (some (11, true))⟩, ⟨some 14, .call 28 [(T 13)], (some (11, true))⟩, ⟨some 15, .pick (T 11) (T 14) (.const (.bool false)), none⟩, ⟨some 16, .move (T 15), none⟩, ⟨some 17, .loadN 3 (T 1), (some (16, true))⟩, ⟨some 18, .call 61 [(T 17)], (some (16, true))⟩, ⟨some 19, .bin .leq (T 18) (.const (.int .i64 1000)), (some (16, true))⟩, ⟨some 20, .pick (T 16) (T 19) (.const (.bool false)), none⟩, ⟨some 2, .move (T 20), none⟩]) (.ret)))⟩
def x99 : XFun := ⟨9, [.tmp 4], .seq (.region [⟨some 4, .move (.const (.bool false)), none⟩]) (.seq (.region [⟨some 5, .move (T 0), none⟩, ⟨some 6, .move (T 1), none⟩, ⟨some 7, .call 152 [(T 5), (T 6)], none⟩, ⟨some 8, .bin .geq (T 7) (.const (.int .i64 0)), none⟩, ⟨some 4, .move (T 8), none⟩]) (.ret))⟩
def x100 : XFun := ⟨9, [.tmp 2], .seq (.region [⟨some 2, .move (.const (.bool false)), none⟩]) (.seq (.region [⟨some 3, .move (T 0), none⟩, ⟨some 4, .bin .lss (T 3) (.const (.int .i64 1)), none⟩, ⟨some 5, .move (T 4), none⟩, ⟨some 6, .move (T 0), (some (5, false))⟩, ⟨some 7, .bin .gtr (T 6) (.const (.int .i64 1000)), (some (5, false))⟩, ⟨some 8, .pick (T 5) (.const (.bool true)) (T 7), none⟩, ⟨some 2, .move (T 8), none⟩]) (.ret))⟩
def x101 : XFun := ⟨8, [.tmp 2], .seq (.region [⟨some 2, .move (.const (.slice none 0 0)), none⟩]) (.seq (.seq (.region [⟨some 3, .move (T 0), none⟩, ⟨some 4, .eq .sliceNil false (T 3) (.const (.slice none 0 0)), none⟩]) (.cond (T 4) (.seq (.region [⟨some 2, .move (.const (.slice none 0 0)), none⟩]) (.ret)) (.skip))) (.seq (.region [⟨some 5, .buildSlice 4 1 [(.bool false)] 0 [], none⟩, ⟨some 6, .move (T 0), none⟩, ⟨some 7, .append 4 1 1 (T 5) (T 6), none⟩, ⟨some 2, .move (T 7), none⟩]) (.ret)))⟩
def x106 : XFun := ⟨9, [.tmp 4], .seq (.region [⟨some 2, .box 26 (.tmp 0), none⟩, ⟨some 3, .box 26 (.tmp 1), none⟩, ⟨some 4, .move (.const (.bool false)), none⟩]) (.seq (.region [⟨some 5, .loadN 3 (.tmp 2), none⟩, ⟨some 6, .loadN 3 (.tmp 3), none⟩, ⟨some 7, .call 158 [(.tmp 5), (.tmp 6)], none⟩, ⟨some 8, .bin .eql (.tmp 7) (.const (.int .i64 0)), none⟩, ⟨some 4, .move (.tmp 8), none⟩]) (.ret))⟩
def x107 : XFun := ⟨26, [.tmp 4], .seq (.region [⟨some 4, .move (.const (.bool false)), none⟩]) (.seq (.seq (.region [⟨some 6, .move (.tmp 0), none⟩, ⟨some 7, .lenSlice (.tmp 6), none⟩, ⟨some 8, .move (.tmp 1), none⟩, ⟨some 9, .lenSlice (.tmp 8), none⟩, ⟨some 10, .bin .neq (.tmp 7) (.tmp 9), none⟩]) (.cond (.tmp 10) (.seq (.region [⟨some 4, .move (.const (.bool false)), none⟩]) (.ret)) (.skip))) (.seq (.seq (.region [⟨some 11, .move (.tmp 0), none⟩, ⟨some 12, .lenSlice (.tmp 11), none⟩, ⟨some 13, .move (.const (.int .i64 0)), none⟩]) (.block 0 (.loop (.seq (.region [⟨some 14, .bin .lss (.tmp 13) (.tmp 12), none⟩]) (.seq (.cond (.tmp 14) (.skip) (.exit 0)) (.seq (.block 1 (.seq (.region [⟨some 15, .move (.tmp 13), none⟩, ⟨some 5, .move (.tmp 15), none⟩]) (.seq (.regionD [⟨some 16, .move (.tmp 0), none⟩, ⟨some 17, .move (.tmp 5), none⟩, ⟨some 18, .indexAddr 1 (.tmp 16) (.tmp 17), none⟩, ⟨some 19, .load1 (.tmp 18), none⟩, ⟨some 20, .move (.tmp 1), none⟩, ⟨some 21, .move (.tmp 5), none⟩, ⟨some 22, .indexAddr 1 (.tmp 20) (.tmp 21), none⟩, ⟨some 23, .load1 (.tmp 22), none⟩, ⟨some 24, .bin .neq (.tmp 19) (.tmp 23), none⟩] []) (.cond (.tmp 24) (.seq (.region [⟨some 4, .move (.const (.bool false)), none⟩]) (.ret)) (.skip))))) (.region [⟨some 25, .bin .add (.tmp 13) (.const (.int .i64 1)), none⟩, ⟨some 13, .move (.tmp 25), none⟩]))))))) (.seq (.region [⟨some 4, .move (.const (.bool true)), none⟩]) (.ret))))⟩
def x108 : XFun := ⟨32, [.tmp 6], .seq (.region [⟨some 6, .move (.const (.bool false)), none⟩]) (.seq (.seq (.region [⟨some 10, .move (.tmp 0), none⟩, ⟨some 11, .lenSlice (.tmp 10), none⟩, ⟨some 12, .move (.tmp 1), none⟩, ⟨some 13, .lenSlice (.tmp 12), none⟩, ⟨some 14, .bin .neq (.tmp 11) (.tmp 13), none⟩]) (.cond (.tmp 14) (.seq (.region [⟨some 6, .move (.const (.bool false)), none⟩]) (.ret)) (.skip))) (.seq (.seq (.region [⟨some 15, .move (.tmp 0), none⟩, ⟨some 16, .lenSlice (.tmp 15), none⟩, ⟨some 17, .move (.const (.int .i64 0)), none⟩]) (.block 0 (.loop (.seq (.region [⟨some 18, .bin .lss (.tmp 17) (.tmp 16), none⟩]) (.seq (.cond (.tmp 18) (.skip) (.exit 0)) (.seq (.block 1 (.seq (.region [⟨some 19, .move (.tmp 17), none⟩, ⟨some 20, .indexAddr 8 (.tmp 15) (.tmp 17), none⟩, ⟨some 21, .loadN 8 (.tmp 20), none⟩, ⟨some 8, .alloc 30 [(.int .i64 0), (.int .i64 0), (.int .i64 0), (.int .i64 0), (.int .i64 0), (.slice none 0 0), (.slice none 0 0), (.slice none 0 0)], none⟩, ⟨some 7, .move (.tmp 19), none⟩, ⟨none, .store 8 (.tmp 8) (.tmp 21), none⟩]) (.seq (.region [⟨some 22, .move (.tmp 1), none⟩, ⟨some 23, .move (.tmp 7), none⟩, ⟨some 24, .indexAddr 8 (.tmp 22) (.tmp 23), none⟩, ⟨some 25, .loadN 8 (.tmp 24), none⟩, ⟨some 9, .alloc 30 [(.int .i64 0), (.int .i64 0), (.int .i64 0), (.int .i64 0), (.int .i64 0), (.slice none 0 0), (.slice none 0 0), (.slice none 0 0)], none⟩, ⟨none, .store 8 (.tmp 9) (.tmp 25), none⟩]) (.seq (.region [⟨some 26, .move (.tmp 2), none⟩, ⟨some 27, .loadN 8 (.tmp 8), none⟩, ⟨some 28, .loadN 8 (.tmp 9), none⟩, ⟨some 29, .callV (.tmp 26) [(.tmp 27), (.tmp 28)], none⟩, ⟨some 30, .un .not (.tmp 29), none⟩]) (.cond (.tmp 30) (.seq (.region [⟨some 6, .move (.const (.bool false)), none⟩]) (.ret)) (.skip)))))) (.region [⟨some 31, .bin .add (.tmp 17) (.const (.int .i64 1)), none⟩, ⟨some 17, .move (.tmp 31), none⟩]))))))) (.seq (.region [⟨some 6, .move (.const (.bool true)), none⟩]) (.ret))))⟩
def x109 : XFun := ⟨9, [.tmp 4], .seq (.region [⟨some 2, .box 26 (.tmp 0), none⟩, ⟨some 3, .box 26 (.tmp 1), none⟩, ⟨some 4, .move (.const (.bool false)), none⟩]) (.seq (.region [⟨some 5, .loadN 3 (.tmp 2), none⟩, ⟨some 6, .loadN 3 (.tmp 3), none⟩, ⟨some 7, .call 159 [(.tmp 5), (.tmp 6)], none⟩, ⟨some 8, .bin .eql (.tmp 7) (.const (.int .i64 0)), none⟩, ⟨some 4, .move (.tmp 8), none⟩]) (.ret))⟩
def x110 : XFun := ⟨26, [.tmp 4], .seq (.region [⟨some 4, .move (.const (.bool false)), none⟩]) (.seq (.seq (.region [⟨some 6, .move (.tmp 0), none⟩, ⟨some 7, .lenSlice (.tmp 6), none⟩, ⟨some 8, .move (.tmp 1), none⟩, ⟨some 9, .lenSlice (.tmp 8), none⟩, ⟨some 10, .bin .neq (.tmp 7) (.tmp 9), none⟩]) (.cond (.tmp 10) (.seq (.region [⟨some 4, .move (.const (.bool false)), none⟩]) (.ret)) (.skip))) (.seq (.seq (.region [⟨some 5, .move (.const (.int .i64 0)), none⟩]) (.block 0 (.loop (.seq (.seq (.region [⟨some 11, .move (.tmp 5), none⟩, ⟨some 12, .move (.tmp 0), none⟩, ⟨some 13, .lenSlice (.tmp 12), none⟩, ⟨some 14, .bin .lss (.tmp 11) (.tmp 13), none⟩]) (.cond (.tmp 14) (.skip) (.exit 0))) (.seq (.block 1 (.seq (.regionD [⟨some 17, .move (.tmp 0), none⟩, ⟨some 18, .move (.tmp 5), none⟩, ⟨some 19, .indexAddr 1 (.tmp 17) (.tmp 18), none⟩, ⟨some 20, .load1 (.tmp 19), none⟩, ⟨some 21, .move (.tmp 1), none⟩, ⟨some 22, .move (.tmp 5), none⟩, ⟨some 23, .indexAddr 1 (.tmp 21) (.tmp 22), none⟩, ⟨some 24, .load1 (.tmp 23), none⟩, ⟨some 25, .bin .neq (.tmp 20) (.tmp 24), none⟩] []) (.cond (.tmp 25) (.seq (.region [⟨some 4, .move (.const (.bool false)), none⟩]) (.ret)) (.skip)))) (.region [⟨some 15, .move (.tmp 5), none⟩, ⟨some 16, .bin .add (.tmp 15) (.const (.int .i64 1)), none⟩, ⟨some 5, .move (.tmp 16), none⟩])))))) (.seq (.region [⟨some 4, .move (.const (.bool true)), none⟩]) (.ret))))⟩
def x111 : XFun := ⟨19, [.tmp 4], .seq (.region [⟨some 4, .move (.const (.int .i64 0)), none⟩]) (.seq (.seq (.region [⟨some 6, .move (T 0), none⟩, ⟨some 7, .lenSlice (T 6), none⟩, ⟨some 8, .move (.const (.int .i64 0)), none⟩]) (.block 0 (.loop (.seq (.region [⟨some 9, .bin .lss (T 8) (T 7), none⟩]) (.seq (.cond (T 9) (.skip) (.exit 0)) (.seq (.block 1 (.seq (.region [⟨some 10, .move (T 8), none⟩, ⟨some 5, .move (T 10), none⟩]) (.seq (.region [⟨some 11, .move (T 1), none⟩, ⟨some 12, .move (T 0), none⟩, ⟨some 13, .move (T 5), none⟩, ⟨some 14, .indexAddr 1 (T 12) (T 13), none⟩, ⟨some 15, .load1 (T 14), none⟩, ⟨some 16, .bin .eql (T 11) (T 15), none⟩]) (.cond (T 16) (.seq (.region [⟨some 17, .move (T 5), none⟩, ⟨some 4, .move (T 17), none⟩]) (.ret)) (.skip))))) (.region [⟨some 18, .bin .add (T 8) (.const (.int .i64 1)), none⟩, ⟨some 8, .move (T 18), none⟩]))))))) (.seq (.region [⟨some 4, .move (.const (.int .i64 (-1))), none⟩]) (.ret)))⟩
def x112 : XFun := ⟨49, [], .seq (.region [⟨some 8, .move (T 1), none⟩, ⟨some 9, .bin .add (T 8) (.const (.int .i64 1)), none⟩, ⟨some 6, .move (T 9), none⟩]) (.block 0 (.loop (.seq (.seq (.region [⟨some 10, .move (T 6), none⟩, ⟨some 11, .move (T 2), none⟩, ⟨some 12, .bin .lss (T 10) (T 11), none⟩]) (.cond (T 12) (.skip) (.exit 0))) (.seq (.block 1 (.seq (.region [⟨some 15, .move (T 6), none⟩, ⟨some 7, .move (T 15), none⟩]) (.block 2 (.loop (.seq (.seq (.regionD [⟨some 16, .move (T 7), none⟩, ⟨some 17, .move (T 1), none⟩, ⟨some 18, .bin .gtr (T 16) (T 17), none⟩, ⟨some 19, .move (T 18), none⟩, ⟨some 20, .move (T 0), (some (19, true))⟩, ⟨some 21, .move (T 7), (some (19, true))⟩, ⟨some 22, .indexAddr 1 (T 20) (T 21), (some (19, true))⟩, ⟨some 23, .load1 (T 22), (some (19, true))⟩, ⟨some 24, .move (T 0), (some (19, true))⟩, ⟨some 25, .move (T 7), (some (19, true))⟩, ⟨some 26, .bin .sub (T 25) (.const (.int .i64 1)), (some (19, true))⟩, ⟨some 27, .indexAddr 1 (T 24) (T 26), (some (19, true))⟩, ⟨some 28, .load1 (T 27), (some (19, true))⟩, ⟨some 29, .call 118 [(T 23), (T 28)], (some (19, true))⟩, ⟨some 30, .pick (T 19) (T 29) (.const (.bool false)), none⟩] []) (.cond (T 30) (.skip) (.exit 2))) (.seq (.block 3 (.regionD [⟨some 33, .move (T 0), none⟩, ⟨some 34, .move (T 7), none⟩, ⟨some 35, .move (T 0), none⟩, ⟨some 36, .move (T 7), none⟩, ⟨some 37, .bin .sub (T 36) (.const (.int .i64 1)), none⟩, ⟨some 38, .move (T 0), none⟩, ⟨some 39, .move (T 7), none⟩, ⟨some 40, .bin .sub (T 39) (.const (.int .i64 1)), none⟩, ⟨some 41, .indexAddr 1 (T 38) (T 40), none⟩, ⟨some 42, .load1 (T 41), none⟩, ⟨some 43, .move (T 0), none⟩, ⟨some 44, .move (T 7), none⟩, ⟨some 45, .indexAddr 1 (T 43) (T 44), none⟩, ⟨some 46, .load1 (T 45), none⟩, ⟨some 47, .indexAddr 1 (T 33) (T 34), none⟩, ⟨none, .store 1 (T 47) (T 42), none⟩, ⟨some 48, .indexAddr 1 (T 35) (T 37), none⟩, ⟨none, .store 1 (T 48) (T 46), none⟩] [])) (.region [⟨some 31, .move (T 7), none⟩, ⟨some 32, .bin .sub (T 31) (.const (.int .i64 1)), none⟩, ⟨some 7, .move (T 32), none⟩]))))))) (.region [⟨some 13, .move (T 6), none⟩, ⟨some 14, .bin .add (T 13) (.const (.int .i64 1)), none⟩, ⟨some 6, .move (T 14), none⟩])))))⟩
def x122 : XFun := ⟨25, [.tmp 2], .seq (.region [⟨some 2, .move (.const (.int .i64 0)), none⟩]) (.seq (.seq (.region [⟨some 3, .move (T 0), none⟩, ⟨some 4, .bin .geq (T 3) (.const (.int .u64 4294967296)), none⟩]) (.cond (T 4) (.seq (.region [⟨some 5, .move (T 0), none⟩, ⟨some 6, .bin .shr (T 5) (.const (.int .u64 32)), none⟩, ⟨some 0, .move (T 6), none⟩]) (.region [⟨some 2, .move (.const (.int .i64 32)), none⟩])) (.skip))) (.seq (.seq (.region [⟨some 7, .move (T 0), none⟩, ⟨some 8, .bin .geq (T 7) (.const (.int .u64 65536)), none⟩]) (.cond (T 8) (.seq (.region [⟨some 9, .move (T 0), none⟩, ⟨some 10, .bin .shr (T 9) (.const (.int .u64 16)), none⟩, ⟨some 0, .move (T 10), none⟩]) (.region [⟨some 11, .move (T 2), none⟩, ⟨some 12, .bin .add (T 11) (.const (.int .i64 16)), none⟩, ⟨some 2, .move (T 12), none⟩])) (.skip))) (.seq (.seq (.region [⟨some 13, .move (T 0), none⟩, ⟨some 14, .bin .geq (T 13) (.const (.int .u64 256)), none⟩]) (.cond (T 14) (.seq (.region [⟨some 15, .move (T 0), none⟩, ⟨some 16, .bin .shr (T 15) (.const (.int .u64 8)), none⟩, ⟨some 0, .move (T 16), none⟩]) (.region [⟨some 17, .move (T 2), none⟩, ⟨some 18, .bin .add (T 17) (.const (.int .i64 8)), none⟩, ⟨some 2, .move (T 18), none⟩])) (.skip))) (.seq (.region [⟨some 19, .move (T 2), none⟩, ⟨some 20, .move (T 0), none⟩, ⟨some 21, .toInt .u8 (T 20), none⟩, ⟨some 22, .indexStr (.const (.string { data := #[0, 1, 2, 2, 3, 3, 3, 3, 4, 4, 4, 4, 4, 4, 4, 4, 5, 5, 5, 5, 5, 5, 5, 5, 5, 5, 5, 5, 5, 5, 5, 5, 6, 6, 6, 6, 6, 6, 6, 6, 6, 6, 6, 6, 6, 6, 6, 6, 6, 6, 6, 6, 6, 6, 6, 6, 6, 6, 6, 6, 6, 6, 6, 6, 7, 7, 7, 7, 7, 7, 7, 7, 7, 7, 7, 7, 7, 7, 7, 7, 7, 7, 7, 7, 7, 7, 7, 7, 7, 7, 7, 7, 7, 7, 7, 7, 7, 7, 7, 7, 7, 7, 7, 7, 7, 7, 7, 7, 7, 7, 7, 7, 7, 7, 7, 7, 7, 7, 7, 7, 7, 7, 7, 7, 7, 7, 7, 7, 8, 8, 8, 8, 8, 8, 8, 8, 8, 8, 8, 8, 8, 8, 8, 8, 8, 8, 8, 8, 8, 8, 8, 8, 8, 8, 8, 8, 8, 8, 8, 8, 8, 8, 8, 8, 8, 8, 8, 8, 8, 8, 8, 8, 8, 8, 8, 8, 8, 8, 8, 8, 8, 8, 8, 8, 8, 8, 8, 8, 8, 8, 8, 8, 8, 8, 8, 8, 8, 8, 8, 8, 8, 8, 8, 8, 8, 8, 8, 8, 8, 8, 8, 8, 8, 8, 8, 8, 8, 8, 8, 8, 8, 8, 8, 8, 8, 8, 8, 8, 8, 8, 8, 8, 8, 8, 8, 8, 8, 8, 8, 8, 8, 8, 8, 8, 8, 8, 8, 8, 8, 8, 8, 8, 8, 8, 8, 8] })) (T 21), none⟩, ⟨some 23, .toInt .i64 (T 22), none⟩, ⟨some 24, .bin .add (T 19) (T 23), none⟩, ⟨some 2, .move (T 24), none⟩]) (.ret)))))⟩
def x123 : XFun := ⟨100, [.cellN 2 5, .tmp 3], .seq (.region [⟨some 2, .alloc 122 [(.int .i64 0), (.string { data := #[] }), (.int .i64 0), (.int .i64 0), (.int .i64 0)], none⟩, ⟨some 3, .move (.const (.int .i64 0)), none⟩]) (.seq (.region [⟨some 4, .move (.const (.int .i64 0)), none⟩]) (.seq (.block 0 (.seq (.region [⟨some 8, .move (T 0), none⟩, ⟨some 9, .indexStr (T 8) (.const (.int .i64 0)), none⟩, ⟨some 10, .call 166 [(T 9)], none⟩, ⟨some 7, .move (T 10), none⟩]) (.cond (T 7) (.seq (.block 1 (.loop (.seq (.seq (.region [⟨some 11, .move (T 4), none⟩, ⟨some 12, .move (T 0), none⟩, ⟨some 13, .lenStr (T 12), none⟩, ⟨some 14, .bin .lss (T 11) (T 13), none⟩, ⟨some 15, .move (T 14), none⟩, ⟨some 16, .move (T 0), (some (15, true))⟩, ⟨some 17, .move (T 4), (some (15, true))⟩, ⟨some 18, .indexStr (T 16) (T 17), (some (15, true))⟩, ⟨some 19, .call 166 [(T 18)], (some (15, true))⟩, ⟨some 20, .move (T 19), (some (15, true))⟩, ⟨some 21, .move (T 0), (some (20, false))⟩, ⟨some 22, .move (T 4), (some (20, false))⟩, ⟨some 23, .indexStr (T 21) (T 22), (some (20, false))⟩, ⟨some 24, .call 167 [(T 23)], (some (20, false))⟩, ⟨some 25, .pick (T 20) (.const (.bool true)) (T 24), (some (15, true))⟩, ⟨some 26, .move (T 25), (some (15, true))⟩, ⟨some 27, .move (T 0), (some (26, false))⟩, ⟨some 28, .move (T 4), (some (26, false))⟩, ⟨some 29, .indexStr (T 27) (T 28), (some (26, false))⟩, ⟨some 30, .bin .eql (T 29) (.const (.int .u8 95)), (some (26, false))⟩, ⟨some 31, .pick (T 26) (.const (.bool true)) (T 30), (some (15, true))⟩, ⟨some 32, .pick (T 15) (T 31) (.const (.bool false)), none⟩]) (.cond (T 32) (.skip) (.exit 1))) (.block 2 (.region [⟨some 33, .move (T 4), none⟩, ⟨some 34, .bin .add (T 33) (.const (.int .i64 1)), none⟩, ⟨some 4, .move (T 34), none⟩]))))) (.seq (.seq (.region [⟨some 35, .move (T 4), none⟩, ⟨some 36, .bin .gtr (T 35) (.const (.int .i64 24)), none⟩]) (.cond (T 36) (.seq (.region [⟨some 37, .move (T 0), none⟩, ⟨some 38, .move (T 4), none⟩, ⟨some 39, .sliceStr (T 37) none (some (T 38)), none⟩, ⟨some 40, .build [(.int .i64 0), (.string { data := #[] }), (.int .i64 0), (.int .i64 0), (.int .i64 0)] [(1, 1, (T 39))], none⟩, ⟨none, .store 5 (T 2) (T 40), none⟩, ⟨some 3, .move (.const (.int .i64 2)), none⟩]) (.ret)) (.skip))) (.seq (.seq (.region [⟨some 41, .move (T 0), none⟩, ⟨some 42, .move (T 4), none⟩, ⟨some 43, .sliceStr (T 41) none (some (T 42)), none⟩, ⟨some 44, .bin .add (.const (.string { data := #[32] })) (T 43), none⟩, ⟨some 45, .bin .add (T 44) (.const (.string { data := #[32] })), none⟩, ⟨some 46, .call 168 [(.const (.string { data := #[32, 97, 110, 100, 32, 98, 111, 111, 108, 32, 99, 97, 115, 101, 32, 101, 108, 115, 101, 32, 102, 97, 108, 115, 101, 32, 102, 108, 105, 112, 32, 102, 117, 110, 32, 105, 102, 32, 105, 110, 32, 105, 110, 112, 117, 116, 32, 105, 110, 116, 32, 108, 101, 116, 32, 110, 111, 116, 32, 111, 98, 115, 101, 114, 118, 101, 32, 111, 102, 32, 111, 114, 32, 112, 105, 99, 107, 32, 114, 97, 110, 103, 101, 32, 115, 99, 111, 114, 101, 32, 116, 104, 101, 110, 32, 116, 114, 117, 101, 32] })), (T 45)], none⟩]) (.cond (T 46) (.seq (.region [⟨some 47, .move (T 0), none⟩, ⟨some 48, .move (T 4), none⟩, ⟨some 49, .sliceStr (T 47) none (some (T 48)), none⟩, ⟨some 50, .build [(.int .i64 0), (.string { data := #[] }), (.int .i64 0), (.int .i64 0), (.int .i64 0)] [(0, 1, (.const (.int .i64 2))), (1, 1, (T 49))], none⟩, ⟨none, .store 5 (T 2) (T 50), none⟩, ⟨some 3, .move (.const (.int .i64 0)), none⟩]) (.ret)) (.skip))) (.seq (.region [⟨some 51, .move (T 0), none⟩, ⟨some 52, .move (T 4), none⟩, ⟨some 53, .sliceStr (T 51) none (some (T 52)), none⟩, ⟨some 54, .build [(.int .i64 0), (.string { data := #[] }), (.int .i64 0), (.int .i64 0), (.int .i64 0)] [(0, 1, (.const (.int .i64 1))), (1, 1, (T 53))], none⟩, ⟨none, .store 5 (T 2) (T 54), none⟩, ⟨some 3, .move (.const (.int .i64 0)), none⟩]) (.ret))))) (.seq (.region [⟨some 56, .move (T 0), none⟩, ⟨some 57, .indexStr (T 56) (.const (.int .i64 0)), none⟩, ⟨some 58, .call 167 [(T 57)], none⟩, ⟨some 55, .move (T 58), none⟩]) (.cond (T 55) (.seq (.region [⟨some 5, .move (.const (.int .i64 0)), none⟩]) (.seq (.block 3 (.loop (.seq (.seq (.region [⟨some 59, .move (T 4), none⟩, ⟨some 60, .move (T 0), none⟩, ⟨some 61, .lenStr (T 60), none⟩, ⟨some 62, .bin .lss (T 59) (T 61), none⟩, ⟨some 63, .move (T 62), none⟩, ⟨some 64, .move (T 0), (some (63, true))⟩, ⟨some 65, .move (T 4), (some (63, true))⟩, ⟨some 66, .indexStr (T 64) (T 65), (some (63, true))⟩, ⟨some 67, .call 167 [(T 66)], (some (63, true))⟩, ⟨some 68, .pick (T 63) (T 67) (.const (.bool false)), none⟩]) (.cond (T 68) (.skip) (.exit 3))) (.seq (.block 4 (.region [⟨some 71, .move (T 5), none⟩, ⟨some 72, .bin .mul (T 71) (.const (.int .i64 10)), none⟩, ⟨some 73, .move (T 0), none⟩, ⟨some 74, .move (T 4), none⟩, ⟨some 75, .indexStr (T 73) (T 74), none⟩, ⟨some 76, .bin .sub (T 75) (.const (.int .u8 48)), none⟩, ⟨some 77, .toInt .i64 (T 76), none⟩, ⟨some 78, .bin .add (T 72) (T 77), none⟩, ⟨some 79, .minI [(T 78), (.const (.int .i64 2147483648))], none⟩, ⟨some 5, .move (T 79), none⟩])) (.region [⟨some 69, .move (T 4), none⟩, ⟨some 70, .bin .add (T 69) (.const (.int .i64 1)), none⟩, ⟨some 4, .move (T 70), none⟩]))))) (.seq (.seq (.region [⟨some 80, .move (T 5), none⟩, ⟨some 81, .bin .gtr (T 80) (.const (.int .i64 2147483647)), none⟩]) (.cond (T 81) (.seq (.region [⟨some 82, .move (T 0), none⟩, ⟨some 83, .move (T 4), none⟩, ⟨some 84, .sliceStr (T 82) none (some (T 83)), none⟩, ⟨some 85, .build [(.int .i64 0), (.string { data := #[] }), (.int .i64 0), (.int .i64 0), (.int .i64 0)] [(1, 1, (T 84))], none⟩, ⟨none, .store 5 (T 2) (T 85), none⟩, ⟨some 3, .move (.const (.int .i64 2)), none⟩]) (.ret)) (.skip))) (.seq (.region [⟨some 86, .move (T 0), none⟩, ⟨some 87, .move (T 4), none⟩, ⟨some 88, .sliceStr (T 86) none (some (T 87)), none⟩, ⟨some 89, .move (T 5), none⟩, ⟨some 90, .build [(.int .i64 0), (.string { data := #[] }), (.int .i64 0), (.int .i64 0), (.int .i64 0)] [(0, 1, (.const (.int .i64 3))), (1, 1, (T 88)), (2, 1, (T 89))], none⟩, ⟨none, .store 5 (T 2) (T 90), none⟩, ⟨some 3, .move (.const (.int .i64 0)), none⟩]) (.ret))))) (.skip)))))) (.seq (.seq (.region [⟨some 91, .move (T 0), none⟩, ⟨some 92, .call 169 [(T 91)], none⟩, ⟨some 6, .move (T 92), none⟩]) (.seq (.region [⟨some 93, .move (T 6), none⟩, ⟨some 94, .bin .neq (T 93) (.const (.string { data := #[] })), none⟩]) (.cond (T 94) (.seq (.region [⟨some 95, .move (T 6), none⟩, ⟨some 96, .build [(.int .i64 0), (.string { data := #[] }), (.int .i64 0), (.int .i64 0), (.int .i64 0)] [(0, 1, (.const (.int .i64 4))), (1, 1, (T 95))], none⟩, ⟨none, .store 5 (T 2) (T 96), none⟩, ⟨some 3, .move (.const (.int .i64 0)), none⟩]) (.ret)) (.skip)))) (.seq (.region [⟨some 97, .move (T 0), none⟩, ⟨some 98, .sliceStr (T 97) none (some (.const (.int .i64 1))), none⟩, ⟨some 99, .build [(.int .i64 0), (.string { data := #[] }), (.int .i64 0), (.int .i64 0), (.int .i64 0)] [(1, 1, (T 98))], none⟩, ⟨none, .store 5 (T 2) (T 99), none⟩, ⟨some 3, .move (.const (.int .i64 10)), none⟩]) (.ret)))))⟩
def x124 : XFun := ⟨22, [.tmp 4], .seq (.region [⟨some 4, .move (.const (.bool false)), none⟩]) (.seq (.region [⟨some 6, .move (T 0), none⟩, ⟨some 7, .call 72 [(T 6)], none⟩, ⟨some 5, .alloc 122 [(.int .i64 0), (.string { data := #[] }), (.int .i64 0), (.int .i64 0), (.int .i64 0)], none⟩, ⟨none, .store 5 (T 5) (T 7), none⟩]) (.seq (.region [⟨some 8, .addr 0 (T 5), none⟩, ⟨some 9, .load1 (T 8), none⟩, ⟨some 10, .bin .eql (T 9) (.const (.int .i64 4)), none⟩, ⟨some 11, .move (T 10), none⟩, ⟨some 12, .addr 0 (T 5), (some (11, false))⟩, ⟨some 13, .load1 (T 12), (some (11, false))⟩, ⟨some 14, .bin .eql (T 13) (.const (.int .i64 2)), (some (11, false))⟩, ⟨some 15, .pick (T 11) (.const (.bool true)) (T 14), none⟩, ⟨some 16, .move (T 15), none⟩, ⟨some 17, .addr 1 (T 5), (some (16, true))⟩, ⟨some 18, .load1 (T 17), (some (16, true))⟩, ⟨some 19, .move (T 1), (some (16, true))⟩, ⟨some 20, .bin .eql (T 18) (T 19), (some (16, true))⟩, ⟨some 21, .pick (T 16) (T 20) (.const (.bool false)), none⟩, ⟨some 4, .move (T 21), none⟩]) (.ret)))⟩
def x125 : XFun := ⟨22, [.cellN 4 5], .seq (.region [⟨some 4, .alloc 122 [(.int .i64 0), (.string { data := #[] }), (.int .i64 0), (.int .i64 0), (.int .i64 0)], none⟩]) (.seq (.region [⟨some 6, .move (T 0), none⟩, ⟨some 7, .call 72 [(T 6)], none⟩, ⟨some 5, .alloc 122 [(.int .i64 0), (.string { data := #[] }), (.int .i64 0), (.int .i64 0), (.int .i64 0)], none⟩, ⟨none, .store 5 (T 5) (T 7), none⟩]) (.seq (.seq (.region [⟨some 8, .addr 0 (T 5), none⟩, ⟨some 9, .load1 (T 8), none⟩, ⟨some 10, .move (T 1), none⟩, ⟨some 11, .bin .neq (T 9) (T 10), none⟩]) (.cond (T 11) (.region [⟨some 12, .move (T 0), none⟩, ⟨some 13, .call 73 [(T 12)], none⟩]) (.skip))) (.seq (.region [⟨some 14, .move (T 0), none⟩, ⟨some 15, .nilCheck (T 14), none⟩, ⟨some 16, .addr 1 (T 15), none⟩, ⟨some 17, .load1 (T 16), none⟩, ⟨some 18, .bin .add (T 17) (.const (.int .i64 1)), none⟩, ⟨some 19, .nilCheck (T 14), none⟩, ⟨some 20, .addr 1 (T 19), none⟩, ⟨none, .store 1 (T 20) (T 18), none⟩]) (.seq (.region [⟨some 21, .loadN 5 (T 5), none⟩, ⟨none, .store 5 (T 4) (T 21), none⟩]) (.ret)))))⟩
def x127 : XFun := ⟨11, [.cellN 4 8], .seq (.region [⟨some 3, .box 122 (T 1), none⟩, ⟨some 4, .alloc 54 [(.int .i64 0), (.int .i64 0), (.string { data := #[] }), (.slice none 0 0), (.slice none 0 0), (.slice none 0 0), (.int .i64 0), (.int .i64 0)], none⟩]) (.seq (.region [⟨some 5, .move (T 0), none⟩, ⟨some 6, .addr 3 (T 3), none⟩, ⟨some 7, .load1 (T 6), none⟩, ⟨some 8, .addr 4 (T 3), none⟩, ⟨some 9, .load1 (T 8), none⟩, ⟨some 10, .build [(.int .i64 0), (.int .i64 0), (.string { data := #[] }), (.slice none 0 0), (.slice none 0 0), (.slice none 0 0), (.int .i64 0), (.int .i64 0)] [(0, 1, (T 5)), (6, 1, (T 7)), (7, 1, (T 9))], none⟩, ⟨none, .store 8 (T 4) (T 10), none⟩]) (.ret))⟩
def x128 : XFun := ⟨14, [.tmp 2], .seq (.region [⟨some 2, .move (.const (.slice none 0 0)), none⟩]) (.seq (.region [⟨some 4, .move (T 0), none⟩, ⟨some 5, .call 125 [(T 4), (.const (.int .i64 3))], none⟩, ⟨some 6, .field1 2 (T 5), none⟩, ⟨some 3, .move (T 6), none⟩]) (.seq (.region [⟨some 7, .move (T 0), none⟩, ⟨some 8, .call 76 [(T 7), (.const (.string { data := #[47] }))], none⟩]) (.seq (.region [⟨some 9, .move (T 3), none⟩, ⟨some 10, .move (T 0), none⟩, ⟨some 11, .call 125 [(T 10), (.const (.int .i64 3))], none⟩, ⟨some 12, .field1 2 (T 11), none⟩, ⟨some 13, .buildSlice 3 1 [(.int .i64 0)] 2 [(0, 1, (T 9)), (1, 1, (T 12))], none⟩, ⟨some 2, .move (T 13), none⟩]) (.ret))))⟩
def x129 : XFun := ⟨55, [.cellN 4 8], .seq (.region [⟨some 4, .alloc 54 [(.int .i64 0), (.int .i64 0), (.string { data := #[] }), (.slice none 0 0), (.slice none 0 0), (.slice none 0 0), (.int .i64 0), (.int .i64 0)], none⟩]) (.seq (.seq (.region [⟨some 10, .move (T 1), none⟩, ⟨some 11, .bin .eql (T 10) (.const (.int .i64 6)), none⟩]) (.cond (T 11) (.seq (.region [⟨some 12, .move (T 0), none⟩, ⟨some 13, .call 170 [(T 12)], none⟩, ⟨none, .store 8 (T 4) (T 13), none⟩]) (.ret)) (.skip))) (.seq (.region [⟨some 14, .move (T 0), none⟩, ⟨some 15, .move (T 1), none⟩, ⟨some 16, .bin .add (T 15) (.const (.int .i64 1)), none⟩, ⟨some 17, .call 129 [(T 14), (T 16)], none⟩, ⟨some 5, .alloc 54 [(.int .i64 0), (.int .i64 0), (.string { data := #[] }), (.slice none 0 0), (.slice none 0 0), (.slice none 0 0), (.int .i64 0), (.int .i64 0)], none⟩, ⟨none, .store 8 (T 5) (T 17), none⟩]) (.block 0 (.loop (.block 1 (.seq (.region [⟨some 18, .move (T 0), none⟩, ⟨some 19, .call 72 [(T 18)], none⟩, ⟨some 20, .move (T 0), none⟩, ⟨some 21, .move (T 1), none⟩, ⟨some 22, .call 171 [(T 20), (T 21)], none⟩, ⟨some 6, .alloc 122 [(.int .i64 0), (.string { data := #[] }), (.int .i64 0), (.int .i64 0), (.int .i64 0)], none⟩, ⟨none, .store 5 (T 6) (T 19), none⟩, ⟨some 7, .move (T 22), none⟩]) (.seq (.seq (.region [⟨some 23, .move (T 7), none⟩, ⟨some 24, .bin .eql (T 23) (.const (.string { data := #[] })), none⟩]) (.cond (T 24) (.seq (.region [⟨some 25, .loadN 8 (T 5), none⟩, ⟨none, .store 8 (T 4) (T 25), none⟩]) (.ret)) (.skip))) (.seq (.region [⟨some 26, .move (T 0), none⟩, ⟨some 27, .nilCheck (T 26), none⟩, ⟨some 28, .addr 1 (T 27), none⟩, ⟨some 29, .load1 (T 28), none⟩, ⟨some 30, .bin .add (T 29) (.const (.int .i64 1)), none⟩, ⟨some 31, .nilCheck (T 26), none⟩, ⟨some 32, .addr 1 (T 31), none⟩, ⟨none, .store 1 (T 32) (T 30), none⟩]) (.seq (.region [⟨some 33, .loadN 5 (T 6), none⟩, ⟨some 34, .call 127 [(.const (.int .i64 7)), (T 33)], none⟩, ⟨some 8, .alloc 54 [(.int .i64 0), (.int .i64 0), (.string { data := #[] }), (.slice none 0 0), (.slice none 0 0), (.slice none 0 0), (.int .i64 0), (.int .i64 0)], none⟩, ⟨none, .store 8 (T 8) (T 34), none⟩]) (.seq (.region [⟨some 35, .move (T 7), none⟩, ⟨some 36, .addr 2 (T 8), none⟩, ⟨none, .store 1 (T 36) (T 35), none⟩]) (.seq (.region [⟨some 37, .move (T 1), none⟩, ⟨some 38, .bin .add (T 37) (.const (.int .i64 1)), none⟩, ⟨some 9, .move (T 38), none⟩]) (.seq (.seq (.region [⟨some 39, .move (T 1), none⟩, ⟨some 40, .bin .eql (T 39) (.const (.int .i64 3)), none⟩]) (.cond (T 40) (.region [⟨some 9, .move (.const (.int .i64 3)), none⟩]) (.skip))) (.seq (.regionD [⟨some 41, .loadN 8 (T 5), none⟩, ⟨some 42, .move (T 0), none⟩, ⟨some 43, .move (T 9), none⟩, ⟨some 44, .call 129 [(T 42), (T 43)], none⟩, ⟨some 45, .buildSlice 54 8 [(.int .i64 0), (.int .i64 0), (.string { data := #[] }), (.slice none 0 0), (.slice none 0 0), (.slice none 0 0), (.int .i64 0), (.int .i64 0)] 2 [(0, 8, (T 41)), (8, 8, (T 44))], none⟩, ⟨some 46, .addr 5 (T 8), none⟩, ⟨none, .store 1 (T 46) (T 45), none⟩] [(0, 3)]) (.seq (.seq (.region [⟨some 47, .move (T 1), none⟩, ⟨some 48, .bin .eql (T 47) (.const (.int .i64 2)), none⟩, ⟨some 49, .move (T 48), none⟩, ⟨some 50, .move (T 1), (some (49, false))⟩, ⟨some 51, .bin .eql (T 50) (.const (.int .i64 3)), (some (49, false))⟩, ⟨some 52, .pick (T 49) (.const (.bool true)) (T 51), none⟩]) (.cond (T 52) (.seq (.region [⟨some 53, .loadN 8 (T 8), none⟩, ⟨none, .store 8 (T 4) (T 53), none⟩]) (.ret)) (.skip))) (.region [⟨some 54, .loadN 8 (T 8), none⟩, ⟨none, .store 8 (T 5) (T 54), none⟩])))))))))))))))⟩
def x130 : XFun := ⟨31, [.cellN 4 8, .tmp 5], .seq (.region [⟨some 2, .box 54 (T 0), none⟩, ⟨some 4, .alloc 54 [(.int .i64 0), (.int .i64 0), (.string { data := #[] }), (.slice none 0 0), (.slice none 0 0), (.slice none 0 0), (.int .i64 0), (.int .i64 0)], none⟩, ⟨some 5, .move (.const (.bool false)), none⟩]) (.seq (.seq (.region [⟨some 10, .move (T 1), none⟩, ⟨some 11, .bin .lss (T 10) (.const (.int .i64 1)), none⟩]) (.cond (T 11) (.seq (.region [⟨some 12, .loadN 8 (T 2), none⟩, ⟨none, .store 8 (T 4) (T 12), none⟩, ⟨some 5, .move (.const (.bool true)), none⟩]) (.ret)) (.skip))) (.seq (.seq (.region [⟨some 13, .addr 5 (T 2), none⟩, ⟨some 14, .load1 (T 13), none⟩, ⟨some 15, .lenSlice (T 14), none⟩, ⟨some 16, .move (.const (.int .i64 0)), none⟩]) (.block 0 (.loop (.seq (.region [⟨some 17, .bin .lss (T 16) (T 15), none⟩]) (.seq (.cond (T 17) (.skip) (.exit 0)) (.seq (.block 1 (.seq (.region [⟨some 18, .indexAddr 8 (T 14) (T 16), none⟩, ⟨some 19, .loadN 8 (T 18), none⟩, ⟨some 7, .alloc 54 [(.int .i64 0), (.int .i64 0), (.string { data := #[] }), (.slice none 0 0), (.slice none 0 0), (.slice none 0 0), (.int .i64 0), (.int .i64 0)], none⟩, ⟨none, .store 8 (T 7) (T 19), none⟩]) (.seq (.region [⟨some 21, .loadN 8 (T 7), none⟩, ⟨some 22, .move (T 1), none⟩, ⟨some 23, .bin .sub (T 22) (.const (.int .i64 1)), none⟩, ⟨some 24, .call 130 [(T 21), (T 23)], none⟩, ⟨some 20, .move (T 24), none⟩, ⟨some 25, .extract (T 20) 0, none⟩, ⟨some 26, .extract (T 20) 1, none⟩, ⟨some 8, .alloc 54 [(.int .i64 0), (.int .i64 0), (.string { data := #[] }), (.slice none 0 0), (.slice none 0 0), (.slice none 0 0), (.int .i64 0), (.int .i64 0)], none⟩, ⟨none, .store 8 (T 8) (T 25), none⟩, ⟨some 9, .move (T 26), none⟩]) (.seq (.region [⟨some 27, .move (T 9), none⟩]) (.cond (T 27) (.seq (.region [⟨some 28, .loadN 8 (T 8), none⟩, ⟨none, .store 8 (T 4) (T 28), none⟩, ⟨some 5, .move (.const (.bool true)), none⟩]) (.ret)) (.skip)))))) (.region [⟨some 29, .bin .add (T 16) (.const (.int .i64 1)), none⟩, ⟨some 16, .move (T 29), none⟩]))))))) (.seq (.region [⟨some 30, .build [(.int .i64 0), (.int .i64 0), (.string { data := #[] }), (.slice none 0 0), (.slice none 0 0), (.slice none 0 0), (.int .i64 0), (.int .i64 0)] [], none⟩, ⟨none, .store 8 (T 4) (T 30), none⟩, ⟨some 5, .move (.const (.bool false)), none⟩]) (.ret))))⟩
def x131 : XFun := ⟨19, [.tmp 4], .seq (.region [⟨some 4, .move (.const (.int .i64 0)), none⟩]) (.seq (.seq (.region [⟨some 6, .move (T 0), none⟩, ⟨some 7, .lenSlice (T 6), none⟩, ⟨some 8, .move (.const (.int .i64 0)), none⟩]) (.block 0 (.loop (.seq (.region [⟨some 9, .bin .lss (T 8) (T 7), none⟩]) (.seq (.cond (T 9) (.skip) (.exit 0)) (.seq (.block 1 (.seq (.region [⟨some 10, .move (T 8), none⟩, ⟨some 5, .move (T 10), none⟩]) (.seq (.region [⟨some 11, .move (T 1), none⟩, ⟨some 12, .move (T 0), none⟩, ⟨some 13, .move (T 5), none⟩, ⟨some 14, .indexAddr 8 (T 12) (T 13), none⟩, ⟨some 15, .loadN 8 (T 14), none⟩, ⟨some 16, .callV (T 11) [(T 15)], none⟩]) (.cond (T 16) (.seq (.region [⟨some 17, .move (T 5), none⟩, ⟨some 4, .move (T 17), none⟩]) (.ret)) (.skip))))) (.region [⟨some 18, .bin .add (T 8) (.const (.int .i64 1)), none⟩, ⟨some 8, .move (T 18), none⟩]))))))) (.seq (.region [⟨some 4, .move (.const (.int .i64 (-1))), none⟩]) (.ret)))⟩
def x132 : XFun := ⟨175, [.tmp 2], .seq (.region [⟨some 1, .box 54 (T 0), none⟩, ⟨some 2, .move (.const (.bool false)), none⟩]) (.seq (.region [⟨some 3, .move (.const (.int .i64 0)), none⟩, ⟨some 4, .move (.const (.int .i64 0)), none⟩, ⟨some 5, .move (.const (.int .i64 0)), none⟩]) (.seq (.region [⟨some 6, .move (.const (.bool false)), none⟩, ⟨some 7, .move (.const (.bool false)), none⟩]) (.seq (.seq (.region [⟨some 10, .addr 0 (T 1), none⟩, ⟨some 11, .load1 (T 10), none⟩]) (.block 0 (.seq (.region [⟨some 13, .bin .eql (T 11) (.const (.int .i64 1)), none⟩, ⟨some 12, .move (T 13), none⟩]) (.cond (T 12) (.region [⟨some 14, .addr 1 (T 1), none⟩, ⟨some 15, .load1 (T 14), none⟩, ⟨some 16, .bin .geq (T 15) (.const (.int .i64 0)), none⟩, ⟨some 17, .move (T 16), none⟩, ⟨some 18, .addr 1 (T 1), (some (17, true))⟩, ⟨some 19, .load1 (T 18), (some (17, true))⟩, ⟨some 20, .bin .leq (T 19) (.const (.int .i64 2147483647)), (some (17, true))⟩, ⟨some 21, .pick (T 17) (T 20) (.const (.bool false)), none⟩, ⟨some 6, .move (T 21), none⟩]) (.seq (.region [⟨some 23, .bin .eql (T 11) (.const (.int .i64 2)), none⟩, ⟨some 22, .move (T 23), none⟩]) (.cond (T 22) (.region [⟨some 24, .addr 1 (T 1), none⟩, ⟨some 25, .load1 (T 24), none⟩, ⟨some 26, .bin .eql (T 25) (.const (.int .i64 0)), none⟩, ⟨some 27, .move (T 26), none⟩, ⟨some 28, .addr 1 (T 1), (some (27, false))⟩, ⟨some 29, .load1 (T 28), (some (27, false))⟩, ⟨some 30, .bin .eql (T 29) (.const (.int .i64 1)), (some (27, false))⟩, ⟨some 31, .pick (T 27) (.const (.bool true)) (T 30), none⟩, ⟨some 6, .move (T 31), none⟩]) (.seq (.region [⟨some 33, .bin .eql (T 11) (.const (.int .i64 3)), none⟩, ⟨some 32, .move (T 33), none⟩]) (.cond (T 32) (.seq (.region [⟨some 34, .addr 2 (T 1), none⟩, ⟨some 35, .load1 (T 34), none⟩, ⟨some 36, .call 172 [(T 35)], none⟩, ⟨some 7, .move (T 36), none⟩]) (.region [⟨some 37, .addr 1 (T 1), none⟩, ⟨some 38, .load1 (T 37), none⟩, ⟨some 39, .bin .eql (T 38) (.const (.int .i64 0)), none⟩, ⟨some 6, .move (T 39), none⟩])) (.seq (.region [⟨some 41, .bin .eql (T 11) (.const (.int .i64 4)), none⟩, ⟨some 40, .move (T 41), none⟩]) (.cond (T 40) (.regionD [⟨some 42, .addr 2 (T 1), none⟩, ⟨some 43, .load1 (T 42), none⟩, ⟨some 44, .call 172 [(T 43)], none⟩, ⟨some 45, .addr 5 (T 1), none⟩, ⟨some 46, .load1 (T 45), none⟩, ⟨some 47, .lenSlice (T 46), none⟩, ⟨some 7, .move (T 44), none⟩, ⟨some 3, .move (T 47), none⟩] [(2, 4)]) (.seq (.region [⟨some 49, .bin .eql (T 11) (.const (.int .i64 5)), none⟩, ⟨some 48, .move (T 49), none⟩]) (.cond (T 48) (.region [⟨some 50, .addr 5 (T 1), none⟩, ⟨some 51, .load1 (T 50), none⟩, ⟨some 52, .lenSlice (T 51), none⟩, ⟨some 53, .maxI [(T 52), (.const (.int .i64 2))], none⟩, ⟨some 54, .minI [(T 53), (.const (.int .i64 4))], none⟩, ⟨some 3, .move (T 54), none⟩]) (.seq (.region [⟨some 56, .bin .eql (T 11) (.const (.int .i64 6)), none⟩, ⟨some 55, .move (T 56), none⟩]) (.cond (T 55) (.region [⟨some 57, .addr 5 (T 1), none⟩, ⟨some 58, .load1 (T 57), none⟩, ⟨some 59, .lenSlice (T 58), none⟩, ⟨some 3, .move (T 59), none⟩]) (.seq (.region [⟨some 61, .bin .eql (T 11) (.const (.int .i64 7)), none⟩, ⟨some 60, .move (T 61), none⟩]) (.cond (T 60) (.seq (.region [⟨some 62, .addr 2 (T 1), none⟩, ⟨some 63, .load1 (T 62), none⟩, ⟨some 64, .call 173 [(T 63)], none⟩, ⟨some 65, .bin .gtr (T 64) (.const (.int .i64 0)), none⟩, ⟨some 7, .move (T 65), none⟩, ⟨some 3, .move (.const (.int .i64 2)), none⟩]) (.seq (.region [⟨some 66, .addr 2 (T 1), none⟩, ⟨some 67, .load1 (T 66), none⟩, ⟨some 68, .call 173 [(T 67)], none⟩, ⟨some 69, .bin .eql (T 68) (.const (.int .i64 7)), none⟩]) (.cond (T 69) (.region [⟨some 3, .move (.const (.int .i64 1)), none⟩]) (.skip)))) (.seq (.region [⟨some 71, .bin .eql (T 11) (.const (.int .i64 8)), none⟩, ⟨some 70, .move (T 71), none⟩]) (.cond (T 70) (.regionD [⟨some 72, .addr 3 (T 1), none⟩, ⟨some 73, .load1 (T 72), none⟩, ⟨some 74, .lenSlice (T 73), none⟩, ⟨some 75, .maxI [(T 74), (.const (.int .i64 1))], none⟩, ⟨some 76, .minI [(T 75), (.const (.int .i64 4))], none⟩, ⟨some 3, .move (.const (.int .i64 2)), none⟩, ⟨some 5, .move (T 76), none⟩] []) (.seq (.region [⟨some 78, .bin .eql (T 11) (.const (.int .i64 9)), none⟩, ⟨some 77, .move (T 78), none⟩]) (.cond (T 77) (.region [⟨some 3, .move (.const (.int .i64 3)), none⟩]) (.seq (.region [⟨some 80, .bin .eql (T 11) (.const (.int .i64 10)), none⟩, ⟨some 79, .move (T 80), none⟩]) (.cond (T 79) (.region [⟨some 3, .move (.const (.int .i64 3)), none⟩, ⟨some 5, .move (.const (.int .i64 2)), none⟩]) (.seq (.region [⟨some 82, .bin .eql (T 11) (.const (.int .i64 11)), none⟩, ⟨some 81, .move (T 82), none⟩]) (.cond (T 81) (.region [⟨some 3, .move (.const (.int .i64 2)), none⟩]) (.seq (.region [⟨some 84, .bin .eql (T 11) (.const (.int .i64 12)), none⟩, ⟨some 83, .move (T 84), none⟩]) (.cond (T 83) (.region [⟨some 3, .move (.const (.int .i64 1)), none⟩, ⟨some 4, .move (.const (.int .i64 2)), none⟩]) (.seq (.region [⟨some 86, .bin .eql (T 11) (.const (.int .i64 13)), none⟩, ⟨some 85, .move (T 86), none⟩]) (.cond (T 85) (.seq (.region [⟨some 87, .addr 5 (T 1), none⟩, ⟨some 88, .load1 (T 87), none⟩, ⟨some 89, .lenSlice (T 88), none⟩, ⟨some 90, .maxI [(T 89), (.const (.int .i64 1))], none⟩, ⟨some 3, .move (T 90), none⟩]) (.region [⟨some 91, .move (T 3), none⟩, ⟨some 4, .move (T 91), none⟩])) (.seq (.seq (.region [⟨some 93, .bin .eql (T 11) (.const (.int .i64 14)), none⟩, ⟨some 92, .move (T 93), none⟩]) (.cond (T 92) (.skip) (.region [⟨some 94, .bin .eql (T 11) (.const (.int .i64 15)), none⟩, ⟨some 92, .move (T 94), none⟩]))) (.cond (T 92) (.region [⟨some 4, .move (.const (.int .i64 2)), none⟩]) (.seq (.region [⟨some 2, .move (.const (.bool false)), none⟩]) (.ret)))))))))))))))))))))))))))))))) (.seq (.seq (.region [⟨some 95, .addr 0 (T 1), none⟩, ⟨some 96, .load1 (T 95), none⟩, ⟨some 97, .bin .neq (T 96) (.const (.int .i64 1)), none⟩, ⟨some 98, .move (T 97), none⟩, ⟨some 99, .addr 0 (T 1), (some (98, true))⟩, ⟨some 100, .load1 (T 99), (some (98, true))⟩, ⟨some 101, .bin .neq (T 100) (.const (.int .i64 2)), (some (98, true))⟩, ⟨some 102, .pick (T 98) (T 101) (.const (.bool false)), none⟩]) (.cond (T 102) (.region [⟨some 103, .addr 1 (T 1), none⟩, ⟨some 104, .load1 (T 103), none⟩, ⟨some 105, .bin .eql (T 104) (.const (.int .i64 0)), none⟩, ⟨some 6, .move (T 105), none⟩]) (.skip))) (.seq (.seq (.region [⟨some 106, .addr 0 (T 1), none⟩, ⟨some 107, .load1 (T 106), none⟩, ⟨some 108, .bin .neq (T 107) (.const (.int .i64 3)), none⟩, ⟨some 109, .move (T 108), none⟩, ⟨some 110, .addr 0 (T 1), (some (109, true))⟩, ⟨some 111, .load1 (T 110), (some (109, true))⟩, ⟨some 112, .bin .neq (T 111) (.const (.int .i64 4)), (some (109, true))⟩, ⟨some 113, .pick (T 109) (T 112) (.const (.bool false)), none⟩, ⟨some 114, .move (T 113), none⟩, ⟨some 115, .addr 0 (T 1), (some (114, true))⟩, ⟨some 116, .load1 (T 115), (some (114, true))⟩, ⟨some 117, .bin .neq (T 116) (.const (.int .i64 7)), (some (114, true))⟩, ⟨some 118, .pick (T 114) (T 117) (.const (.bool false)), none⟩]) (.cond (T 118) (.region [⟨some 119, .addr 2 (T 1), none⟩, ⟨some 120, .load1 (T 119), none⟩, ⟨some 121, .bin .eql (T 120) (.const (.string { data := #[] })), none⟩, ⟨some 7, .move (T 121), none⟩]) (.skip))) (.seq (.seq (.region [⟨some 122, .addr 4 (T 1), none⟩, ⟨some 123, .load1 (T 122), none⟩, ⟨some 124, .lenSlice (T 123), none⟩, ⟨some 125, .move (.const (.int .i64 0)), none⟩]) (.block 1 (.loop (.seq (.region [⟨some 126, .bin .lss (T 125) (T 124), none⟩]) (.seq (.cond (T 126) (.skip) (.exit 1)) (.seq (.block 2 (.seq (.region [⟨some 127, .indexAddr 1 (T 123) (T 125), none⟩, ⟨some 128, .load1 (T 127), none⟩, ⟨some 9, .move (T 128), none⟩]) (.seq (.region [⟨some 129, .move (T 9), none⟩, ⟨some 130, .bin .gtr (T 129) (.const (.int .i64 2147483647)), none⟩, ⟨some 131, .move (T 130), none⟩, ⟨some 132, .move (T 9), (some (131, false))⟩, ⟨some 133, .bin .lss (T 132) (.const (.int .i64 0)), (some (131, false))⟩, ⟨some 134, .move (T 133), (some (131, false))⟩, ⟨some 135, .addr 0 (T 1), (some (134, true))⟩, ⟨some 136, .load1 (T 135), (some (134, true))⟩, ⟨some 137, .bin .neq (T 136) (.const (.int .i64 15)), (some (134, true))⟩, ⟨some 138, .move (T 137), (some (134, true))⟩, ⟨some 139, .move (T 9), (some (138, false))⟩, ⟨some 140, .bin .lss (T 139) (.const (.int .i64 (-2147483647))), (some (138, false))⟩, ⟨some 141, .pick (T 138) (.const (.bool true)) (T 140), (some (134, true))⟩, ⟨some 142, .pick (T 134) (T 141) (.const (.bool false)), (some (131, false))⟩, ⟨some 143, .pick (T 131) (.const (.bool true)) (T 142), none⟩]) (.cond (T 143) (.seq (.region [⟨some 2, .move (.const (.bool false)), none⟩]) (.ret)) (.skip))))) (.region [⟨some 144, .bin .add (T 125) (.const (.int .i64 1)), none⟩, ⟨some 125, .move (T 144), none⟩]))))))) (.seq (.region [⟨some 145, .move (T 6), none⟩, ⟨some 146, .move (T 145), none⟩, ⟨some 147, .move (T 7), (some (146, true))⟩, ⟨some 148, .pick (T 146) (T 147) (.const (.bool false)), none⟩, ⟨some 149, .move (T 148), none⟩, ⟨some 150, .addr 5 (T 1), (some (149, true))⟩, ⟨some 151, .load1 (T 150), (some (149, true))⟩, ⟨some 152, .lenSlice (T 151), (some (149, true))⟩, ⟨some 153, .move (T 3), (some (149, true))⟩, ⟨some 154, .bin .eql (T 152) (T 153), (some (149, true))⟩, ⟨some 155, .pick (T 149) (T 154) (.const (.bool false)), none⟩, ⟨some 156, .move (T 155), none⟩, ⟨some 157, .addr 4 (T 1), (some (156, true))⟩, ⟨some 158, .load1 (T 157), (some (156, true))⟩, ⟨some 159, .lenSlice (T 158), (some (156, true))⟩, ⟨some 160, .move (T 4), (some (156, true))⟩, ⟨some 161, .bin .eql (T 159) (T 160), (some (156, true))⟩, ⟨some 162, .pick (T 156) (T 161) (.const (.bool false)), none⟩, ⟨some 163, .move (T 162), none⟩, ⟨some 164, .addr 3 (T 1), (some (163, true))⟩, ⟨some 165, .load1 (T 164), (some (163, true))⟩, ⟨some 166, .lenSlice (T 165), (some (163, true))⟩, ⟨some 167, .move (T 5), (some (163, true))⟩, ⟨some 168, .bin .eql (T 166) (T 167), (some (163, true))⟩, ⟨some 169, .pick (T 163) (T 168) (.const (.bool false)), none⟩, ⟨some 170, .move (T 169), none⟩, ⟨some 171, .addr 3 (T 1), (some (170, true))⟩, ⟨some 172, .load1 (T 171), (some (170, true))⟩, ⟨some 173, .call 174 [(T 172)], (some (170, true))⟩, ⟨some 174, .pick (T 170) (T 173) (.const (.bool false)), none⟩, ⟨some 2, .move (T 174), none⟩]) (.ret))))))))⟩
def x133 : XFun := ⟨211, [], .seq (.region [⟨some 5, .box 54 (T 1), none⟩]) (.seq (.region [⟨some 17, .build [(.int .i64 0), (.slice none 0 0), (.pointer none)] [(0, 1, (.const (.int .i64 1)))], none⟩, ⟨some 18, .box 186 (T 17), none⟩, ⟨some 19, .build [(.int .i64 0), (.slice none 0 0), (.pointer none)] [(0, 1, (.const (.int .i64 2)))], none⟩, ⟨some 20, .box 186 (T 19), none⟩, ⟨some 8, .move (T 18), none⟩, ⟨some 9, .move (T 20), none⟩]) (.seq (.region [⟨some 21, .addr 0 (T 5), none⟩, ⟨some 22, .load1 (T 21), none⟩]) (.block 0 (.seq (.region [⟨some 24, .bin .eql (T 22) (.const (.int .i64 9)), none⟩, ⟨some 23, .move (T 24), none⟩]) (.cond (T 23) (.seq (.region [⟨some 25, .move (T 0), none⟩, ⟨some 26, .addr 5 (T 5), none⟩, ⟨some 27, .load1 (T 26), none⟩, ⟨some 28, .indexAddr 8 (T 27) (.const (.int .i64 0)), none⟩, ⟨some 29, .loadN 8 (T 28), none⟩, ⟨some 30, .move (T 2), none⟩, ⟨some 31, .move (T 8), none⟩, ⟨some 32, .call 88 [(T 25), (T 29), (T 30), (T 31)], none⟩]) (.seq (.region [⟨some 33, .move (T 0), none⟩, ⟨some 34, .addr 5 (T 5), none⟩, ⟨some 35, .load1 (T 34), none⟩, ⟨some 36, .indexAddr 8 (T 35) (.const (.int .i64 1)), none⟩, ⟨some 37, .loadN 8 (T 36), none⟩, ⟨some 38, .move (T 2), none⟩, ⟨some 39, .move (T 3), none⟩, ⟨some 40, .call 88 [(T 33), (T 37), (T 38), (T 39)], none⟩]) (.region [⟨some 41, .move (T 0), none⟩, ⟨some 42, .addr 5 (T 5), none⟩, ⟨some 43, .load1 (T 42), none⟩, ⟨some 44, .indexAddr 8 (T 43) (.const (.int .i64 2)), none⟩, ⟨some 45, .loadN 8 (T 44), none⟩, ⟨some 46, .move (T 2), none⟩, ⟨some 47, .move (T 3), none⟩, ⟨some 48, .call 88 [(T 41), (T 45), (T 46), (T 47)], none⟩]))) (.seq (.region [⟨some 50, .bin .eql (T 22) (.const (.int .i64 10)), none⟩, ⟨some 49, .move (T 50), none⟩]) (.cond (T 49) (.seq (.region [⟨some 51, .call 90 [], none⟩, ⟨some 10, .move (T 51), none⟩]) (.seq (.regionD [⟨some 52, .move (T 0), none⟩, ⟨some 53, .addr 5 (T 5), none⟩, ⟨some 54, .load1 (T 53), none⟩, ⟨some 55, .indexAddr 8 (T 54) (.const (.int .i64 0)), none⟩, ⟨some 56, .loadN 8 (T 55), none⟩, ⟨some 57, .move (T 2), none⟩, ⟨some 58, .move (T 10), none⟩, ⟨some 59, .call 136 [(T 58)], none⟩, ⟨some 60, .call 88 [(T 52), (T 56), (T 57), (T 59)], none⟩] [(2, 7), (4, 7)]) (.seq (.region [⟨some 61, .move (T 0), none⟩, ⟨some 62, .addr 5 (T 5), none⟩, ⟨some 63, .load1 (T 62), none⟩, ⟨some 64, .indexAddr 8 (T 63) (.const (.int .i64 1)), none⟩, ⟨some 65, .loadN 8 (T 64), none⟩, ⟨some 66, .move (T 2), none⟩, ⟨some 67, .move (T 3), none⟩, ⟨some 68, .call 88 [(T 61), (T 65), (T 66), (T 67)], none⟩]) (.seq (.region [⟨some 69, .loadN 8 (T 5), none⟩, ⟨some 70, .call 138 [(T 69)], none⟩]) (.regionD [⟨some 71, .move (T 0), none⟩, ⟨some 72, .addr 5 (T 5), none⟩, ⟨some 73, .load1 (T 72), none⟩, ⟨some 74, .indexAddr 8 (T 73) (.const (.int .i64 2)), none⟩, ⟨some 75, .loadN 8 (T 74), none⟩, ⟨some 76, .move (T 2), none⟩, ⟨some 77, .addr 3 (T 5), none⟩, ⟨some 78, .load1 (T 77), none⟩, ⟨some 79, .indexAddr 1 (T 78) (.const (.int .i64 0)), none⟩, ⟨some 80, .load1 (T 79), none⟩, ⟨some 81, .move (T 10), none⟩, ⟨some 82, .build [(.string { data := #[] }), (.pointer none)] [(0, 1, (T 80)), (1, 1, (T 81))], none⟩, ⟨some 83, .addr 3 (T 5), none⟩, ⟨some 84, .load1 (T 83), none⟩, ⟨some 85, .indexAddr 1 (T 84) (.const (.int .i64 1)), none⟩, ⟨some 86, .load1 (T 85), none⟩, ⟨some 87, .move (T 10), none⟩, ⟨some 88, .call 136 [(T 87)], none⟩, ⟨some 89, .build [(.string { data := #[] }), (.pointer none)] [(0, 1, (T 86)), (1, 1, (T 88))], none⟩, ⟨some 90, .buildSlice 183 2 [(.string { data := #[] }), (.pointer none)] 2 [(0, 2, (T 82)), (2, 2, (T 89))], none⟩, ⟨some 91, .call 139 [(T 76), (T 90)], none⟩, ⟨some 92, .move (T 3), none⟩, ⟨some 93, .call 88 [(T 71), (T 75), (T 91), (T 92)], none⟩] [(2, 17), (4, 17), (7, 17), (9, 17), (13, 17), (15, 17), (2, 19), (4, 19), (2, 20), (4, 20)]))))) (.seq (.region [⟨some 95, .bin .eql (T 22) (.const (.int .i64 11)), none⟩, ⟨some 94, .move (T 95), none⟩]) (.cond (T 94) (.seq (.region [⟨some 96, .move (T 0), none⟩, ⟨some 97, .addr 5 (T 5), none⟩, ⟨some 98, .load1 (T 97), none⟩, ⟨some 99, .indexAddr 8 (T 98) (.const (.int .i64 0)), none⟩, ⟨some 100, .loadN 8 (T 99), none⟩, ⟨some 101, .move (T 2), none⟩, ⟨some 102, .move (T 8), none⟩, ⟨some 103, .call 88 [(T 96), (T 100), (T 101), (T 102)], none⟩]) (.region [⟨some 104, .move (T 0), none⟩, ⟨some 105, .addr 5 (T 5), none⟩, ⟨some 106, .load1 (T 105), none⟩, ⟨some 107, .indexAddr 8 (T 106) (.const (.int .i64 1)), none⟩, ⟨some 108, .loadN 8 (T 107), none⟩, ⟨some 109, .move (T 2), none⟩, ⟨some 110, .move (T 3), none⟩, ⟨some 111, .call 88 [(T 104), (T 108), (T 109), (T 110)], none⟩])) (.seq (.region [⟨some 113, .bin .eql (T 22) (.const (.int .i64 12)), none⟩, ⟨some 112, .move (T 113), none⟩]) (.cond (T 112) (.seq (.region [⟨some 114, .loadN 8 (T 5), none⟩, ⟨some 115, .call 175 [(T 114)], none⟩]) (.region [⟨some 116, .move (T 0), none⟩, ⟨some 117, .addr 5 (T 5), none⟩, ⟨some 118, .load1 (T 117), none⟩, ⟨some 119, .indexAddr 8 (T 118) (.const (.int .i64 0)), none⟩, ⟨some 120, .loadN 8 (T 119), none⟩, ⟨some 121, .move (T 2), none⟩, ⟨some 122, .move (T 3), none⟩, ⟨some 123, .call 88 [(T 116), (T 120), (T 121), (T 122)], none⟩])) (.seq (.region [⟨some 125, .bin .eql (T 22) (.const (.int .i64 13)), none⟩, ⟨some 124, .move (T 125), none⟩]) (.cond (T 124) (.seq (.seq (.region [⟨some 126, .addr 5 (T 5), none⟩, ⟨some 127, .load1 (T 126), none⟩, ⟨some 128, .lenSlice (T 127), none⟩, ⟨some 129, .bin .gtr (T 128) (.const (.int .i64 64)), none⟩]) (.cond (T 129) (.region [⟨some 130, .addr 6 (T 5), none⟩, ⟨some 131, .load1 (T 130), none⟩, ⟨some 132, .addr 7 (T 5), none⟩, ⟨some 133, .load1 (T 132), none⟩, ⟨some 134, .call 85 [(.const (.int .i64 16)), (.const (.string { data := #[] })), (T 131), (T 133)], none⟩]) (.skip))) (.seq (.seq (.region [⟨some 135, .addr 4 (T 5), none⟩, ⟨some 136, .load1 (T 135), none⟩, ⟨some 137, .lenSlice (T 136), none⟩, ⟨some 138, .move (.const (.int .i64 0)), none⟩]) (.block 1 (.loop (.seq (.region [⟨some 139, .bin .lss (T 138) (T 137), none⟩]) (.seq (.cond (T 139) (.skip) (.exit 1)) (.seq (.block 2 (.seq (.region [⟨some 140, .indexAddr 1 (T 136) (T 138), none⟩, ⟨some 141, .load1 (T 140), none⟩, ⟨some 12, .move (T 141), none⟩]) (.seq (.region [⟨some 142, .move (T 12), none⟩, ⟨some 143, .bin .lss (T 142) (.const (.int .i64 1)), none⟩, ⟨some 144, .move (T 143), none⟩, ⟨some 145, .move (T 12), (some (144, false))⟩, ⟨some 146, .bin .gtr (T 145) (.const (.int .i64 1000)), (some (144, false))⟩, ⟨some 147, .pick (T 144) (.const (.bool true)) (T 146), none⟩]) (.cond (T 147) (.region [⟨some 148, .addr 6 (T 5), none⟩, ⟨some 149, .load1 (T 148), none⟩, ⟨some 150, .addr 7 (T 5), none⟩, ⟨some 151, .load1 (T 150), none⟩, ⟨some 152, .call 85 [(.const (.int .i64 16)), (.const (.string { data := #[] })), (T 149), (T 151)], none⟩]) (.skip))))) (.region [⟨some 153, .bin .add (T 138) (.const (.int .i64 1)), none⟩, ⟨some 138, .move (T 153), none⟩]))))))) (.seq (.region [⟨some 154, .addr 5 (T 5), none⟩, ⟨some 155, .load1 (T 154), none⟩, ⟨some 156, .lenSlice (T 155), none⟩, ⟨some 157, .move (.const (.int .i64 0)), none⟩]) (.block 3 (.loop (.seq (.region [⟨some 158, .bin .lss (T 157) (T 156), none⟩]) (.seq (.cond (T 158) (.skip) (.exit 3)) (.seq (.block 4 (.seq (.region [⟨some 159, .indexAddr 8 (T 155) (T 157), none⟩, ⟨some 160, .loadN 8 (T 159), none⟩, ⟨some 14, .alloc 54 [(.int .i64 0), (.int .i64 0), (.string { data := #[] }), (.slice none 0 0), (.slice none 0 0), (.slice none 0 0), (.int .i64 0), (.int .i64 0)], none⟩, ⟨none, .store 8 (T 14) (T 160), none⟩]) (.region [⟨some 161, .move (T 0), none⟩, ⟨some 162, .loadN 8 (T 14), none⟩, ⟨some 163, .move (T 2), none⟩, ⟨some 164, .move (T 3), none⟩, ⟨some 165, .call 88 [(T 161), (T 162), (T 163), (T 164)], none⟩]))) (.region [⟨some 166, .bin .add (T 157) (.const (.int .i64 1)), none⟩, ⟨some 157, .move (T 166), none⟩]))))))))) (.seq (.region [⟨some 168, .bin .eql (T 22) (.const (.int .i64 14)), none⟩, ⟨some 167, .move (T 168), none⟩]) (.cond (T 167) (.seq (.region [⟨some 169, .loadN 8 (T 5), none⟩, ⟨some 170, .call 175 [(T 169)], none⟩]) (.region [⟨some 171, .loadN 8 (T 5), none⟩, ⟨some 172, .move (T 8), none⟩, ⟨some 173, .move (T 3), none⟩, ⟨some 174, .call 134 [(T 171), (T 172), (T 173)], none⟩])) (.seq (.region [⟨some 176, .bin .eql (T 22) (.const (.int .i64 15)), none⟩, ⟨some 175, .move (T 176), none⟩]) (.cond (T 175) (.seq (.seq (.regionD [⟨some 177, .addr 4 (T 5), none⟩, ⟨some 178, .load1 (T 177), none⟩, ⟨some 179, .indexAddr 1 (T 178) (.const (.int .i64 0)), none⟩, ⟨some 180, .load1 (T 179), none⟩, ⟨some 181, .addr 4 (T 5), none⟩, ⟨some 182, .load1 (T 181), none⟩, ⟨some 183, .indexAddr 1 (T 182) (.const (.int .i64 1)), none⟩, ⟨some 184, .load1 (T 183), none⟩, ⟨some 15, .move (T 180), none⟩, ⟨some 16, .move (T 184), none⟩] []) (.seq (.region [⟨some 185, .move (T 15), none⟩, ⟨some 186, .move (T 16), none⟩, ⟨some 187, .bin .gtr (T 185) (T 186), none⟩, ⟨some 188, .move (T 187), none⟩, ⟨some 189, .move (T 15), (some (188, false))⟩, ⟨some 190, .bin .lss (T 189) (.const (.int .i64 (-2147483648))), (some (188, false))⟩, ⟨some 191, .pick (T 188) (.const (.bool true)) (T 190), none⟩, ⟨some 192, .move (T 191), none⟩, ⟨some 193, .move (T 16), (some (192, false))⟩, ⟨some 194, .bin .gtr (T 193) (.const (.int .i64 2147483647)), (some (192, false))⟩, ⟨some 195, .pick (T 192) (.const (.bool true)) (T 194), none⟩, ⟨some 196, .move (T 195), none⟩, ⟨some 197, .move (T 16), (some (196, false))⟩, ⟨some 198, .move (T 15), (some (196, false))⟩, ⟨some 199, .bin .sub (T 197) (T 198), (some (196, false))⟩, ⟨some 200, .bin .geq (T 199) (.const (.int .i64 64)), (some (196, false))⟩, ⟨some 201, .pick (T 196) (.const (.bool true)) (T 200), none⟩]) (.cond (T 201) (.region [⟨some 202, .addr 6 (T 5), none⟩, ⟨some 203, .load1 (T 202), none⟩, ⟨some 204, .addr 7 (T 5), none⟩, ⟨some 205, .load1 (T 204), none⟩, ⟨some 206, .call 85 [(.const (.int .i64 16)), (.const (.string { data := #[] })), (T 203), (T 205)], none⟩]) (.skip)))) (.region [⟨some 207, .loadN 8 (T 5), none⟩, ⟨some 208, .move (T 9), none⟩, ⟨some 209, .move (T 3), none⟩, ⟨some 210, .call 134 [(T 207), (T 208), (T 209)], none⟩])) (.skip))))))))))))))))))⟩
def x134 : XFun := ⟨27, [], .seq (.region [⟨some 3, .box 54 (T 0), none⟩]) (.seq (.region [⟨some 7, .move (T 1), none⟩, ⟨some 8, .move (T 2), none⟩, ⟨some 9, .call 176 [(T 7), (T 8)], none⟩, ⟨some 10, .un .not (T 9), none⟩]) (.cond (T 10) (.seq (.region [⟨some 6, .move (.const (.string { data := #[] })), none⟩]) (.seq (.seq (.region [⟨some 11, .addr 0 (T 3), none⟩, ⟨some 12, .load1 (T 11), none⟩, ⟨some 13, .bin .eql (T 12) (.const (.int .i64 3)), none⟩, ⟨some 14, .move (T 13), none⟩, ⟨some 15, .addr 0 (T 3), (some (14, false))⟩, ⟨some 16, .load1 (T 15), (some (14, false))⟩, ⟨some 17, .bin .eql (T 16) (.const (.int .i64 4)), (some (14, false))⟩, ⟨some 18, .pick (T 14) (.const (.bool true)) (T 17), none⟩]) (.cond (T 18) (.region [⟨some 19, .addr 2 (T 3), none⟩, ⟨some 20, .load1 (T 19), none⟩, ⟨some 6, .move (T 20), none⟩]) (.skip))) (.region [⟨some 21, .move (T 6), none⟩, ⟨some 22, .addr 6 (T 3), none⟩, ⟨some 23, .load1 (T 22), none⟩, ⟨some 24, .addr 7 (T 3), none⟩, ⟨some 25, .load1 (T 24), none⟩, ⟨some 26, .call 85 [(.const (.int .i64 14)), (T 21), (T 23), (T 25)], none⟩]))) (.skip)))⟩
def x138 : XFun := ⟨34, [], .seq (.region [⟨some 1, .box 54 (T 0), none⟩]) (.seq (.region [⟨some 6, .addr 3 (T 1), none⟩, ⟨some 7, .load1 (T 6), none⟩, ⟨some 8, .lenSlice (T 7), none⟩, ⟨some 9, .move (.const (.int .i64 0)), none⟩]) (.block 0 (.loop (.seq (.region [⟨some 10, .bin .lss (T 9) (T 8), none⟩]) (.seq (.cond (T 10) (.skip) (.exit 0)) (.seq (.block 1 (.seq (.region [⟨some 11, .move (T 9), none⟩, ⟨some 12, .indexAddr 1 (T 7) (T 9), none⟩, ⟨some 13, .load1 (T 12), none⟩, ⟨some 2, .move (T 11), none⟩, ⟨some 3, .move (T 13), none⟩]) (.seq (.region [⟨some 14, .addr 3 (T 1), none⟩, ⟨some 15, .load1 (T 14), none⟩, ⟨some 16, .move (T 2), none⟩, ⟨some 17, .slice 1 (T 15) none (some (T 16)) none, none⟩, ⟨some 18, .lenSlice (T 17), none⟩, ⟨some 19, .move (.const (.int .i64 0)), none⟩]) (.block 2 (.loop (.seq (.region [⟨some 20, .bin .lss (T 19) (T 18), none⟩]) (.seq (.cond (T 20) (.skip) (.exit 2)) (.seq (.block 3 (.seq (.region [⟨some 21, .indexAddr 1 (T 17) (T 19), none⟩, ⟨some 22, .load1 (T 21), none⟩, ⟨some 5, .move (T 22), none⟩]) (.seq (.region [⟨some 23, .move (T 3), none⟩, ⟨some 24, .move (T 5), none⟩, ⟨some 25, .bin .eql (T 23) (T 24), none⟩]) (.cond (T 25) (.region [⟨some 26, .move (T 3), none⟩, ⟨some 27, .addr 6 (T 1), none⟩, ⟨some 28, .load1 (T 27), none⟩, ⟨some 29, .addr 7 (T 1), none⟩, ⟨some 30, .load1 (T 29), none⟩, ⟨some 31, .call 85 [(.const (.int .i64 13)), (T 26), (T 28), (T 30)], none⟩]) (.skip))))) (.region [⟨some 32, .bin .add (T 19) (.const (.int .i64 1)), none⟩, ⟨some 19, .move (T 32), none⟩]))))))))) (.region [⟨some 33, .bin .add (T 9) (.const (.int .i64 1)), none⟩, ⟨some 9, .move (T 33), none⟩])))))))⟩
def x139 : XFun := ⟨10, [.tmp 4], .seq (.region [⟨some 4, .move (.const (.slice none 0 0)), none⟩]) (.seq (.region [⟨some 5, .buildSlice 183 2 [(.string { data := #[] }), (.pointer none)] 0 [], none⟩, ⟨some 6, .move (T 0), none⟩, ⟨some 7, .append 183 2 24 (T 5) (T 6), none⟩, ⟨some 8, .move (T 1), none⟩, ⟨some 9, .append 183 2 24 (T 7) (T 8), none⟩, ⟨some 4, .move (T 9), none⟩]) (.ret))⟩
def x140 : XFun := ⟨31, [.tmp 2], .seq (.region [⟨some 2, .move (.const (.pointer none)), none⟩]) (.seq (.block 0 (.loop (.seq (.seq (.region [⟨some 3, .move (T 0), none⟩, ⟨some 4, .nilCheck (T 3), none⟩, ⟨some 5, .addr 2 (T 4), none⟩, ⟨some 6, .load1 (T 5), none⟩, ⟨some 7, .eq .ptr true (T 6) (.const (.pointer none)), none⟩]) (.cond (T 7) (.skip) (.exit 0))) (.block 1 (.seq (.seq (.region [⟨some 8, .move (T 0), none⟩, ⟨some 9, .nilCheck (T 8), none⟩, ⟨some 10, .addr 2 (T 9), none⟩, ⟨some 11, .load1 (T 10), none⟩, ⟨some 12, .nilCheck (T 11), none⟩, ⟨some 13, .addr 2 (T 12), none⟩, ⟨some 14, .load1 (T 13), none⟩, ⟨some 15, .eq .ptr true (T 14) (.const (.pointer none)), none⟩]) (.cond (T 15) (.region [⟨some 16, .move (T 0), none⟩, ⟨some 17, .move (T 0), none⟩, ⟨some 18, .nilCheck (T 17), none⟩, ⟨some 19, .addr 2 (T 18), none⟩, ⟨some 20, .load1 (T 19), none⟩, ⟨some 21, .nilCheck (T 20), none⟩, ⟨some 22, .addr 2 (T 21), none⟩, ⟨some 23, .load1 (T 22), none⟩, ⟨some 24, .nilCheck (T 16), none⟩, ⟨some 25, .addr 2 (T 24), none⟩, ⟨none, .store 1 (T 25) (T 23), none⟩]) (.skip))) (.region [⟨some 26, .move (T 0), none⟩, ⟨some 27, .nilCheck (T 26), none⟩, ⟨some 28, .addr 2 (T 27), none⟩, ⟨some 29, .load1 (T 28), none⟩, ⟨some 0, .move (T 29), none⟩])))))) (.seq (.region [⟨some 30, .move (T 0), none⟩, ⟨some 2, .move (T 30), none⟩]) (.ret)))⟩
def x141 : XFun := ⟨5, [.cellN 2 8], .seq (.region [⟨some 1, .box 26 (T 0), none⟩, ⟨some 2, .alloc 30 [(.int .i64 0), (.int .i64 0), (.int .i64 0), (.int .i64 0), (.int .i64 0), (.slice none 0 0), (.slice none 0 0), (.slice none 0 0)], none⟩]) (.seq (.region [⟨some 3, .loadN 3 (T 1), none⟩, ⟨some 4, .build [(.int .i64 0), (.int .i64 0), (.int .i64 0), (.int .i64 0), (.int .i64 0), (.slice none 0 0), (.slice none 0 0), (.slice none 0 0)] [(0, 1, (.const (.int .i64 1))), (3, 3, (T 3))], none⟩, ⟨none, .store 8 (T 2) (T 4), none⟩]) (.ret))⟩
def x142 : XFun := ⟨5, [.cellN 2 3], .seq (.region [⟨some 2, .alloc 26 [(.int .i64 0), (.int .i64 0), (.slice none 0 0)], none⟩]) (.seq (.region [⟨some 3, .move (T 0), none⟩, ⟨some 4, .build [(.int .i64 0), (.int .i64 0), (.slice none 0 0)] [(0, 1, (.const (.int .i64 2))), (1, 1, (T 3))], none⟩, ⟨none, .store 3 (T 2) (T 4), none⟩]) (.ret))⟩
def x143 : XFun := ⟨5, [.cellN 2 3], .seq (.region [⟨some 2, .alloc 26 [(.int .i64 0), (.int .i64 0), (.slice none 0 0)], none⟩]) (.seq (.region [⟨some 3, .move (T 0), none⟩, ⟨some 4, .build [(.int .i64 0), (.int .i64 0), (.slice none 0 0)] [(0, 1, (.const (.int .i64 1))), (1, 1, (T 3))], none⟩, ⟨none, .store 3 (T 2) (T 4), none⟩]) (.ret))⟩
def x146 : XFun := ⟨19, [.tmp 4], .seq (.region [⟨some 4, .move (.const (.int .i64 0)), none⟩]) (.seq (.seq (.region [⟨some 6, .move (T 0), none⟩, ⟨some 7, .lenSlice (T 6), none⟩, ⟨some 8, .move (.const (.int .i64 0)), none⟩]) (.block 0 (.loop (.seq (.region [⟨some 9, .bin .lss (T 8) (T 7), none⟩]) (.seq (.cond (T 9) (.skip) (.exit 0)) (.seq (.block 1 (.seq (.region [⟨some 10, .move (T 8), none⟩, ⟨some 5, .move (T 10), none⟩]) (.seq (.region [⟨some 11, .move (T 1), none⟩, ⟨some 12, .move (T 0), none⟩, ⟨some 13, .move (T 5), none⟩, ⟨some 14, .indexAddr 1 (T 12) (T 13), none⟩, ⟨some 15, .load1 (T 14), none⟩, ⟨some 16, .bin .eql (T 11) (T 15), none⟩]) (.cond (T 16) (.seq (.region [⟨some 17, .move (T 5), none⟩, ⟨some 4, .move (T 17), none⟩]) (.ret)) (.skip))))) (.region [⟨some 18, .bin .add (T 8) (.const (.int .i64 1)), none⟩, ⟨some 8, .move (T 18), none⟩]))))))) (.seq (.region [⟨some 4, .move (.const (.int .i64 (-1))), none⟩]) (.ret)))⟩
def x147 : XFun := ⟨36, [.tmp 2], .seq (.region [⟨some 2, .move (.const (.slice none 0 0)), none⟩]) (.seq (.region [⟨some 3, .move (.const (.int .i64 0)), none⟩]) (.seq (.seq (.region [⟨some 9, .move (T 0), none⟩, ⟨some 10, .lenSlice (T 9), none⟩, ⟨some 11, .move (.const (.int .i64 0)), none⟩]) (.block 0 (.loop (.seq (.region [⟨some 12, .bin .lss (T 11) (T 10), none⟩]) (.seq (.cond (T 12) (.skip) (.exit 0)) (.seq (.block 1 (.seq (.region [⟨some 13, .indexAddr 1 (T 9) (T 11), none⟩, ⟨some 14, .load1 (T 13), none⟩, ⟨some 5, .move (T 14), none⟩]) (.seq (.region [⟨some 15, .move (T 3), none⟩, ⟨some 16, .move (T 5), none⟩, ⟨some 17, .lenSlice (T 16), none⟩, ⟨some 18, .bin .add (T 15) (T 17), none⟩, ⟨some 3, .move (T 18), none⟩]) (.seq (.region [⟨some 19, .move (T 3), none⟩, ⟨some 20, .bin .lss (T 19) (.const (.int .i64 0)), none⟩]) (.cond (T 20) (.region [⟨some 21, .mkIface 9 (.const (.string { data := #[108, 101, 110, 32, 111, 117, 116, 32, 111, 102, 32, 114, 97, 110, 103, 101] })), none⟩, ⟨none, .panic (T 21), none⟩]) (.skip)))))) (.region [⟨some 22, .bin .add (T 11) (.const (.int .i64 1)), none⟩, ⟨some 11, .move (T 22), none⟩]))))))) (.seq (.region [⟨some 23, .move (T 3), none⟩, ⟨some 24, .call 177 [(.const (.slice none 0 0)), (T 23)], none⟩, ⟨some 6, .move (T 24), none⟩]) (.seq (.seq (.region [⟨some 25, .move (T 0), none⟩, ⟨some 26, .lenSlice (T 25), none⟩, ⟨some 27, .move (.const (.int .i64 0)), none⟩]) (.block 2 (.loop (.seq (.region [⟨some 28, .bin .lss (T 27) (T 26), none⟩]) (.seq (.cond (T 28) (.skip) (.exit 2)) (.seq (.block 3 (.seq (.region [⟨some 29, .indexAddr 1 (T 25) (T 27), none⟩, ⟨some 30, .load1 (T 29), none⟩, ⟨some 8, .move (T 30), none⟩]) (.region [⟨some 31, .move (T 6), none⟩, ⟨some 32, .move (T 8), none⟩, ⟨some 33, .append 9 1 16 (T 31) (T 32), none⟩, ⟨some 6, .move (T 33), none⟩]))) (.region [⟨some 34, .bin .add (T 27) (.const (.int .i64 1)), none⟩, ⟨some 27, .move (T 34), none⟩]))))))) (.seq (.region [⟨some 35, .move (T 6), none⟩, ⟨some 2, .move (T 35), none⟩]) (.ret))))))⟩
def x148 : XFun := ⟨16, [.cellN 2 8], .seq (.region [⟨some 2, .alloc 30 [(.int .i64 0), (.int .i64 0), (.int .i64 0), (.int .i64 0), (.int .i64 0), (.slice none 0 0), (.slice none 0 0), (.slice none 0 0)], none⟩]) (.seq (.region [⟨some 3, .move (T 0), none⟩, ⟨some 4, .nilCheck (T 3), none⟩, ⟨some 5, .addr 10 (T 4), none⟩, ⟨some 6, .load1 (T 5), none⟩, ⟨some 7, .bin .add (T 6) (.const (.int .i64 1)), none⟩, ⟨some 8, .nilCheck (T 3), none⟩, ⟨some 9, .addr 10 (T 8), none⟩, ⟨none, .store 1 (T 9) (T 7), none⟩]) (.seq (.region [⟨some 10, .move (T 0), none⟩, ⟨some 11, .nilCheck (T 10), none⟩, ⟨some 12, .addr 10 (T 11), none⟩, ⟨some 13, .load1 (T 12), none⟩, ⟨some 14, .bin .sub (T 13) (.const (.int .i64 1)), none⟩, ⟨some 15, .build [(.int .i64 0), (.int .i64 0), (.int .i64 0), (.int .i64 0), (.int .i64 0), (.slice none 0 0), (.slice none 0 0), (.slice none 0 0)] [(0, 1, (.const (.int .i64 12))), (1, 1, (T 14))], none⟩, ⟨none, .store 8 (T 2) (T 15), none⟩]) (.ret)))⟩
def x150 : XFun := ⟨127, [.cellN 4 2, .tmp 5], .seq (.region [⟨some 2, .box 26 (T 0), none⟩, ⟨some 4, .alloc 65 [(.int .i64 0), (.slice none 0 0)], none⟩, ⟨some 5, .move (.const (.bool false)), none⟩]) (.seq (.region [⟨some 16, .addr 0 (T 2), none⟩, ⟨some 17, .load1 (T 16), none⟩, ⟨some 18, .build [(.int .i64 0), (.slice none 0 0)] [(0, 1, (T 17))], none⟩, ⟨some 6, .alloc 65 [(.int .i64 0), (.slice none 0 0)], none⟩, ⟨none, .store 2 (T 6) (T 18), none⟩]) (.seq (.block 0 (.seq (.region [⟨some 20, .move (T 1), none⟩, ⟨some 21, .bin .lss (T 20) (.const (.int .i64 1)), none⟩, ⟨some 19, .move (T 21), none⟩]) (.cond (T 19) (.seq (.region [⟨some 22, .loadN 2 (T 6), none⟩, ⟨none, .store 2 (T 4) (T 22), none⟩, ⟨some 5, .move (.const (.bool false)), none⟩]) (.ret)) (.seq (.region [⟨some 24, .addr 0 (T 2), none⟩, ⟨some 25, .load1 (T 24), none⟩, ⟨some 26, .bin .eql (T 25) (.const (.int .i64 1)), none⟩, ⟨some 27, .move (T 26), none⟩, ⟨some 28, .addr 0 (T 2), (some (27, false))⟩, ⟨some 29, .load1 (T 28), (some (27, false))⟩, ⟨some 30, .bin .eql (T 29) (.const (.int .i64 2)), (some (27, false))⟩, ⟨some 31, .pick (T 27) (.const (.bool true)) (T 30), none⟩, ⟨some 23, .move (T 31), none⟩]) (.cond (T 23) (.seq (.regionD [⟨some 32, .loadN 2 (T 6), none⟩, ⟨some 33, .loadN 2 (T 6), none⟩, ⟨some 34, .loadN 3 (T 2), none⟩, ⟨some 35, .call 60 [(T 33), (T 34)], none⟩, ⟨none, .store 2 (T 4) (T 32), none⟩, ⟨some 5, .move (T 35), none⟩] [(0, 3)]) (.ret)) (.seq (.region [⟨some 37, .addr 0 (T 2), none⟩, ⟨some 38, .load1 (T 37), none⟩, ⟨some 39, .bin .eql (T 38) (.const (.int .i64 3)), none⟩, ⟨some 40, .move (T 39), none⟩, ⟨some 41, .addr 1 (T 2), (some (40, true))⟩, ⟨some 42, .load1 (T 41), (some (40, true))⟩, ⟨some 43, .bin .eql (T 42) (.const (.int .i64 0)), (some (40, true))⟩, ⟨some 44, .pick (T 40) (T 43) (.const (.bool false)), none⟩, ⟨some 45, .move (T 44), none⟩, ⟨some 46, .addr 2 (T 2), (some (45, true))⟩, ⟨some 47, .load1 (T 46), (some (45, true))⟩, ⟨some 48, .lenSlice (T 47), (some (45, true))⟩, ⟨some 49, .bin .geq (T 48) (.const (.int .i64 2)), (some (45, true))⟩, ⟨some 50, .pick (T 45) (T 49) (.const (.bool false)), none⟩, ⟨some 51, .move (T 50), none⟩, ⟨some 52, .addr 2 (T 2), (some (51, true))⟩, ⟨some 53, .load1 (T 52), (some (51, true))⟩, ⟨some 54, .lenSlice (T 53), (some (51, true))⟩, ⟨some 55, .bin .leq (T 54) (.const (.int .i64 4)), (some (51, true))⟩, ⟨some 56, .pick (T 51) (T 55) (.const (.bool false)), none⟩, ⟨some 36, .move (T 56), none⟩]) (.cond (T 36) (.seq (.seq (.region [⟨some 57, .addr 2 (T 2), none⟩, ⟨some 58, .load1 (T 57), none⟩, ⟨some 59, .lenSlice (T 58), none⟩, ⟨some 60, .move (.const (.int .i64 0)), none⟩]) (.block 1 (.loop (.seq (.region [⟨some 61, .bin .lss (T 60) (T 59), none⟩]) (.seq (.cond (T 61) (.skip) (.exit 1)) (.seq (.block 2 (.seq (.region [⟨some 62, .indexAddr 3 (T 58) (T 60), none⟩, ⟨some 63, .loadN 3 (T 62), none⟩, ⟨some 8, .alloc 26 [(.int .i64 0), (.int .i64 0), (.slice none 0 0)], none⟩, ⟨none, .store 3 (T 8) (T 63), none⟩]) (.seq (.region [⟨some 65, .loadN 3 (T 8), none⟩, ⟨some 66, .move (T 1), none⟩, ⟨some 67, .bin .sub (T 66) (.const (.int .i64 1)), none⟩, ⟨some 68, .call 150 [(T 65), (T 67)], none⟩, ⟨some 64, .move (T 68), none⟩, ⟨some 69, .extract (T 64) 0, none⟩, ⟨some 70, .extract (T 64) 1, none⟩, ⟨some 9, .alloc 65 [(.int .i64 0), (.slice none 0 0)], none⟩, ⟨none, .store 2 (T 9) (T 69), none⟩, ⟨some 10, .move (T 70), none⟩]) (.seq (.seq (.region [⟨some 71, .move (T 10), none⟩, ⟨some 72, .un .not (T 71), none⟩]) (.cond (T 72) (.seq (.region [⟨some 73, .loadN 2 (T 6), none⟩, ⟨none, .store 2 (T 4) (T 73), none⟩, ⟨some 5, .move (.const (.bool false)), none⟩]) (.ret)) (.skip))) (.region [⟨some 74, .addr 1 (T 6), none⟩, ⟨some 75, .load1 (T 74), none⟩, ⟨some 76, .loadN 2 (T 9), none⟩, ⟨some 77, .buildSlice 65 2 [(.int .i64 0), (.slice none 0 0)] 1 [(0, 2, (T 76))], none⟩, ⟨some 78, .append 65 2 32 (T 75) (T 77), none⟩, ⟨some 79, .addr 1 (T 6), none⟩, ⟨none, .store 1 (T 79) (T 78), none⟩]))))) (.region [⟨some 80, .bin .add (T 60) (.const (.int .i64 1)), none⟩, ⟨some 60, .move (T 80), none⟩]))))))) (.seq (.region [⟨some 81, .loadN 2 (T 6), none⟩, ⟨none, .store 2 (T 4) (T 81), none⟩, ⟨some 5, .move (.const (.bool true)), none⟩]) (.ret))) (.seq (.region [⟨some 83, .addr 0 (T 2), none⟩, ⟨some 84, .load1 (T 83), none⟩, ⟨some 85, .bin .eql (T 84) (.const (.int .i64 4)), none⟩, ⟨some 86, .move (T 85), none⟩, ⟨some 87, .addr 1 (T 2), (some (86, true))⟩, ⟨some 88, .load1 (T 87), (some (86, true))⟩, ⟨some 89, .bin .eql (T 88) (.const (.int .i64 0)), (some (86, true))⟩, ⟨some 90, .pick (T 86) (T 89) (.const (.bool false)), none⟩, ⟨some 91, .move (T 90), none⟩, ⟨some 92, .addr 2 (T 2), (some (91, true))⟩, ⟨some 93, .load1 (T 92), (some (91, true))⟩, ⟨some 94, .lenSlice (T 93), (some (91, true))⟩, ⟨some 95, .bin .leq (T 94) (.const (.int .i64 32)), (some (91, true))⟩, ⟨some 96, .pick (T 91) (T 95) (.const (.bool false)), none⟩, ⟨some 82, .move (T 96), none⟩]) (.cond (T 82) (.seq (.region [⟨some 11, .alloc 65 [(.int .i64 0), (.slice none 0 0)], none⟩]) (.seq (.seq (.region [⟨some 97, .addr 2 (T 2), none⟩, ⟨some 98, .load1 (T 97), none⟩, ⟨some 99, .lenSlice (T 98), none⟩, ⟨some 100, .move (.const (.int .i64 0)), none⟩]) (.block 3 (.loop (.seq (.region [⟨some 101, .bin .lss (T 100) (T 99), none⟩]) (.seq (.cond (T 101) (.skip) (.exit 3)) (.seq (.block 4 (.seq (.region [⟨some 102, .indexAddr 3 (T 98) (T 100), none⟩, ⟨some 103, .loadN 3 (T 102), none⟩, ⟨some 13, .alloc 26 [(.int .i64 0), (.int .i64 0), (.slice none 0 0)], none⟩, ⟨none, .store 3 (T 13) (T 103), none⟩]) (.seq (.region [⟨some 105, .loadN 3 (T 13), none⟩, ⟨some 106, .move (T 1), none⟩, ⟨some 107, .bin .sub (T 106) (.const (.int .i64 1)), none⟩, ⟨some 108, .call 150 [(T 105), (T 107)], none⟩, ⟨some 104, .move (T 108), none⟩, ⟨some 109, .extract (T 104) 0, none⟩, ⟨some 110, .extract (T 104) 1, none⟩, ⟨some 14, .alloc 65 [(.int .i64 0), (.slice none 0 0)], none⟩, ⟨none, .store 2 (T 14) (T 109), none⟩, ⟨some 15, .move (T 110), none⟩]) (.seq (.seq (.region [⟨some 111, .move (T 15), none⟩]) (.cond (T 111) (.region [⟨some 113, .loadN 2 (T 11), none⟩, ⟨some 114, .loadN 2 (T 14), none⟩, ⟨some 115, .call 178 [(T 113), (T 114)], none⟩, ⟨some 112, .move (T 115), none⟩, ⟨some 116, .extract (T 112) 0, none⟩, ⟨some 117, .extract (T 112) 1, none⟩, ⟨none, .store 2 (T 11) (T 116), none⟩, ⟨some 15, .move (T 117), none⟩]) (.skip))) (.seq (.region [⟨some 118, .move (T 15), none⟩, ⟨some 119, .un .not (T 118), none⟩]) (.cond (T 119) (.seq (.region [⟨some 120, .loadN 2 (T 6), none⟩, ⟨none, .store 2 (T 4) (T 120), none⟩, ⟨some 5, .move (.const (.bool false)), none⟩]) (.ret)) (.skip))))))) (.region [⟨some 121, .bin .add (T 100) (.const (.int .i64 1)), none⟩, ⟨some 100, .move (T 121), none⟩]))))))) (.seq (.region [⟨some 122, .loadN 2 (T 11), none⟩, ⟨some 123, .buildSlice 65 2 [(.int .i64 0), (.slice none 0 0)] 1 [(0, 2, (T 122))], none⟩, ⟨some 124, .addr 1 (T 6), none⟩, ⟨none, .store 1 (T 124) (T 123), none⟩]) (.seq (.region [⟨some 125, .loadN 2 (T 6), none⟩, ⟨none, .store 2 (T 4) (T 125), none⟩, ⟨some 5, .move (.const (.bool true)), none⟩]) (.ret))))) (.skip)))))))))) (.seq (.region [⟨some 126, .loadN 2 (T 6), none⟩, ⟨none, .store 2 (T 4) (T 126), none⟩, ⟨some 5, .move (.const (.bool false)), none⟩]) (.ret))))⟩
def x151 : XFun := ⟨29, [.cellN 2 2], .seq (.region [⟨some 1, .box 65 (T 0), none⟩, ⟨some 2, .alloc 65 [(.int .i64 0), (.slice none 0 0)], none⟩]) (.seq (.seq (.region [⟨some 6, .addr 0 (T 1), none⟩, ⟨some 7, .load1 (T 6), none⟩, ⟨some 8, .bin .eql (T 7) (.const (.int .i64 0)), none⟩]) (.cond (T 8) (.seq (.region [⟨some 9, .build [(.int .i64 0), (.slice none 0 0)] [(0, 1, (.const (.int .i64 1)))], none⟩, ⟨none, .store 2 (T 2) (T 9), none⟩]) (.ret)) (.skip))) (.seq (.region [⟨some 10, .addr 0 (T 1), none⟩, ⟨some 11, .load1 (T 10), none⟩, ⟨some 12, .build [(.int .i64 0), (.slice none 0 0)] [(0, 1, (T 11))], none⟩, ⟨some 3, .alloc 65 [(.int .i64 0), (.slice none 0 0)], none⟩, ⟨none, .store 2 (T 3) (T 12), none⟩]) (.seq (.seq (.region [⟨some 13, .addr 1 (T 1), none⟩, ⟨some 14, .load1 (T 13), none⟩, ⟨some 15, .lenSlice (T 14), none⟩, ⟨some 16, .move (.const (.int .i64 0)), none⟩]) (.block 0 (.loop (.seq (.region [⟨some 17, .bin .lss (T 16) (T 15), none⟩]) (.seq (.cond (T 17) (.skip) (.exit 0)) (.seq (.block 1 (.seq (.region [⟨some 18, .indexAddr 2 (T 14) (T 16), none⟩, ⟨some 19, .loadN 2 (T 18), none⟩, ⟨some 5, .alloc 65 [(.int .i64 0), (.slice none 0 0)], none⟩, ⟨none, .store 2 (T 5) (T 19), none⟩]) (.regionD [⟨some 20, .addr 1 (T 3), none⟩, ⟨some 21, .load1 (T 20), none⟩, ⟨some 22, .loadN 2 (T 5), none⟩, ⟨some 23, .call 151 [(T 22)], none⟩, ⟨some 24, .buildSlice 65 2 [(.int .i64 0), (.slice none 0 0)] 1 [(0, 2, (T 23))], none⟩, ⟨some 25, .append 65 2 32 (T 21) (T 24), none⟩, ⟨some 26, .addr 1 (T 3), none⟩, ⟨none, .store 1 (T 26) (T 25), none⟩] [(1, 3), (1, 4)]))) (.region [⟨some 27, .bin .add (T 16) (.const (.int .i64 1)), none⟩, ⟨some 16, .move (T 27), none⟩]))))))) (.seq (.region [⟨some 28, .loadN 2 (T 3), none⟩, ⟨none, .store 2 (T 2) (T 28), none⟩]) (.ret)))))⟩
def x152 : XFun := ⟨19, [.tmp 4], .seq (.region [⟨some 4, .move (.const (.int .i64 0)), none⟩]) (.seq (.seq (.region [⟨some 6, .move (T 0), none⟩, ⟨some 7, .lenSlice (T 6), none⟩, ⟨some 8, .move (.const (.int .i64 0)), none⟩]) (.block 0 (.loop (.seq (.region [⟨some 9, .bin .lss (T 8) (T 7), none⟩]) (.seq (.cond (T 9) (.skip) (.exit 0)) (.seq (.block 1 (.seq (.region [⟨some 10, .move (T 8), none⟩, ⟨some 5, .move (T 10), none⟩]) (.seq (.region [⟨some 11, .move (T 1), none⟩, ⟨some 12, .move (T 0), none⟩, ⟨some 13, .move (T 5), none⟩, ⟨some 14, .indexAddr 1 (T 12) (T 13), none⟩, ⟨some 15, .load1 (T 14), none⟩, ⟨some 16, .callV (T 11) [(T 15)], none⟩]) (.cond (T 16) (.seq (.region [⟨some 17, .move (T 5), none⟩, ⟨some 4, .move (T 17), none⟩]) (.ret)) (.skip))))) (.region [⟨some 18, .bin .add (T 8) (.const (.int .i64 1)), none⟩, ⟨some 8, .move (T 18), none⟩]))))))) (.seq (.region [⟨some 4, .move (.const (.int .i64 (-1))), none⟩]) (.ret)))⟩
def x158 : XFun := ⟨26, [.tmp 4], .seq (.region [⟨some 2, .box 26 (.tmp 0), none⟩, ⟨some 3, .box 26 (.tmp 1), none⟩, ⟨some 4, .move (.const (.int .i64 0)), none⟩]) (.seq (.region [⟨some 6, .addr 0 (.tmp 2), none⟩, ⟨some 7, .load1 (.tmp 6), none⟩, ⟨some 8, .addr 0 (.tmp 3), none⟩, ⟨some 9, .load1 (.tmp 8), none⟩, ⟨some 10, .call 180 [(.tmp 7), (.tmp 9)], none⟩, ⟨some 5, .move (.tmp 10), none⟩]) (.seq (.seq (.region [⟨some 11, .move (.tmp 5), none⟩, ⟨some 12, .bin .eql (.tmp 11) (.const (.int .i64 0)), none⟩]) (.cond (.tmp 12) (.region [⟨some 13, .addr 1 (.tmp 2), none⟩, ⟨some 14, .load1 (.tmp 13), none⟩, ⟨some 15, .addr 1 (.tmp 3), none⟩, ⟨some 16, .load1 (.tmp 15), none⟩, ⟨some 17, .call 180 [(.tmp 14), (.tmp 16)], none⟩, ⟨some 5, .move (.tmp 17), none⟩]) (.skip))) (.seq (.seq (.region [⟨some 18, .move (.tmp 5), none⟩, ⟨some 19, .bin .eql (.tmp 18) (.const (.int .i64 0)), none⟩]) (.cond (.tmp 19) (.region [⟨some 20, .addr 2 (.tmp 2), none⟩, ⟨some 21, .load1 (.tmp 20), none⟩, ⟨some 22, .addr 2 (.tmp 3), none⟩, ⟨some 23, .load1 (.tmp 22), none⟩, ⟨some 24, .call 181 [(.tmp 21), (.tmp 23), (.func 158)], none⟩, ⟨some 5, .move (.tmp 24), none⟩]) (.skip))) (.seq (.region [⟨some 25, .move (.tmp 5), none⟩, ⟨some 4, .move (.tmp 25), none⟩]) (.ret)))))⟩
def x159 : XFun := ⟨58, [.tmp 4], .seq (.region [⟨some 2, .box 26 (.tmp 0), none⟩, ⟨some 3, .box 26 (.tmp 1), none⟩, ⟨some 4, .move (.const (.int .i64 0)), none⟩]) (.seq (.region [⟨some 7, .addr 0 (.tmp 2), none⟩, ⟨some 8, .load1 (.tmp 7), none⟩, ⟨some 9, .addr 0 (.tmp 3), none⟩, ⟨some 10, .load1 (.tmp 9), none⟩, ⟨some 11, .call 182 [(.tmp 8), (.tmp 10)], none⟩, ⟨some 5, .move (.tmp 11), none⟩]) (.seq (.seq (.region [⟨some 12, .move (.tmp 5), none⟩, ⟨some 13, .bin .eql (.tmp 12) (.const (.int .i64 0)), none⟩]) (.cond (.tmp 13) (.region [⟨some 14, .addr 1 (.tmp 2), none⟩, ⟨some 15, .load1 (.tmp 14), none⟩, ⟨some 16, .addr 1 (.tmp 3), none⟩, ⟨some 17, .load1 (.tmp 16), none⟩, ⟨some 18, .call 182 [(.tmp 15), (.tmp 17)], none⟩, ⟨some 5, .move (.tmp 18), none⟩]) (.skip))) (.seq (.seq (.region [⟨some 6, .move (.const (.int .i64 0)), none⟩]) (.block 0 (.loop (.seq (.seq (.region [⟨some 19, .move (.tmp 5), none⟩, ⟨some 20, .bin .eql (.tmp 19) (.const (.int .i64 0)), none⟩, ⟨some 21, .move (.tmp 20), none⟩, ⟨some 22, .move (.tmp 6), (some (21, true))⟩, ⟨some 23, .addr 2 (.tmp 2), (some (21, true))⟩, ⟨some 24, .load1 (.tmp 23), (some (21, true))⟩, ⟨some 25, .lenSlice (.tmp 24), (some (21, true))⟩, ⟨some 26, .bin .lss (.tmp 22) (.tmp 25), (some (21, true))⟩, ⟨some 27, .pick (.tmp 21) (.tmp 26) (.const (.bool false)), none⟩, ⟨some 28, .move (.tmp 27), none⟩, ⟨some 29, .move (.tmp 6), (some (28, true))⟩, ⟨some 30, .addr 2 (.tmp 3), (some (28, true))⟩, ⟨some 31, .load1 (.tmp 30), (some (28, true))⟩, ⟨some 32, .lenSlice (.tmp 31), (some (28, true))⟩, ⟨some 33, .bin .lss (.tmp 29) (.tmp 32), (some (28, true))⟩, ⟨some 34, .pick (.tmp 28) (.tmp 33) (.const (.bool false)), none⟩]) (.cond (.tmp 34) (.skip) (.exit 0))) (.seq (.block 1 (.regionD [⟨some 37, .addr 2 (.tmp 2), none⟩, ⟨some 38, .load1 (.tmp 37), none⟩, ⟨some 39, .move (.tmp 6), none⟩, ⟨some 40, .indexAddr 3 (.tmp 38) (.tmp 39), none⟩, ⟨some 41, .loadN 3 (.tmp 40), none⟩, ⟨some 42, .addr 2 (.tmp 3), none⟩, ⟨some 43, .load1 (.tmp 42), none⟩, ⟨some 44, .move (.tmp 6), none⟩, ⟨some 45, .indexAddr 3 (.tmp 43) (.tmp 44), none⟩, ⟨some 46, .loadN 3 (.tmp 45), none⟩, ⟨some 47, .call 159 [(.tmp 41), (.tmp 46)], none⟩, ⟨some 5, .move (.tmp 47), none⟩] [])) (.region [⟨some 35, .move (.tmp 6), none⟩, ⟨some 36, .bin .add (.tmp 35) (.const (.int .i64 1)), none⟩, ⟨some 6, .move (.tmp 36), none⟩])))))) (.seq (.seq (.region [⟨some 48, .move (.tmp 5), none⟩, ⟨some 49, .bin .eql (.tmp 48) (.const (.int .i64 0)), none⟩]) (.cond (.tmp 49) (.region [⟨some 50, .addr 2 (.tmp 2), none⟩, ⟨some 51, .load1 (.tmp 50), none⟩, ⟨some 52, .lenSlice (.tmp 51), none⟩, ⟨some 53, .addr 2 (.tmp 3), none⟩, ⟨some 54, .load1 (.tmp 53), none⟩, ⟨some 55, .lenSlice (.tmp 54), none⟩, ⟨some 56, .call 182 [(.tmp 52), (.tmp 55)], none⟩, ⟨some 5, .move (.tmp 56), none⟩]) (.skip))) (.seq (.region [⟨some 57, .move (.tmp 5), none⟩, ⟨some 4, .move (.tmp 57), none⟩]) (.ret))))))⟩
def x165 : XFun := ⟨6, [.tmp 2], .seq (.region [⟨some 2, .move (.const (.bool false)), none⟩]) (.seq (.region [⟨some 3, .move (.tmp 0), none⟩, ⟨some 4, .move (.tmp 0), none⟩, ⟨some 5, .bin .neq (.tmp 3) (.tmp 4), none⟩, ⟨some 2, .move (.tmp 5), none⟩]) (.ret))⟩
def x166 : XFun := ⟨9, [.tmp 2], .seq (.region [⟨some 2, .move (.const (.bool false)), none⟩]) (.seq (.region [⟨some 3, .move (T 0), none⟩, ⟨some 4, .bin .geq (T 3) (.const (.int .u8 97)), none⟩, ⟨some 5, .move (T 4), none⟩, ⟨some 6, .move (T 0), (some (5, true))⟩, ⟨some 7, .bin .leq (T 6) (.const (.int .u8 122)), (some (5, true))⟩, ⟨some 8, .pick (T 5) (T 7) (.const (.bool false)), none⟩, ⟨some 2, .move (T 8), none⟩]) (.ret))⟩
def x167 : XFun := ⟨9, [.tmp 2], .seq (.region [⟨some 2, .move (.const (.bool false)), none⟩]) (.seq (.region [⟨some 3, .move (T 0), none⟩, ⟨some 4, .bin .geq (T 3) (.const (.int .u8 48)), none⟩, ⟨some 5, .move (T 4), none⟩, ⟨some 6, .move (T 0), (some (5, true))⟩, ⟨some 7, .bin .leq (T 6) (.const (.int .u8 57)), (some (5, true))⟩, ⟨some 8, .pick (T 5) (T 7) (.const (.bool false)), none⟩, ⟨some 2, .move (T 8), none⟩]) (.ret))⟩
def x169 : XFun := ⟨22, [.tmp 2], .seq (.region [⟨some 2, .move (.const (.string { data := #[] })), none⟩]) (.seq (.seq (.region [⟨some 5, .buildSlice 9 1 [(.string { data := #[] })] 4 [(0, 1, (.const (.string { data := #[61, 61] }))), (1, 1, (.const (.string { data := #[61, 62] }))), (2, 1, (.const (.string { data := #[60, 61] }))), (3, 1, (.const (.string { data := #[58, 58] })))], none⟩, ⟨some 6, .lenSlice (T 5), none⟩, ⟨some 7, .move (.const (.int .i64 0)), none⟩]) (.block 0 (.loop (.seq (.region [⟨some 8, .bin .lss (T 7) (T 6), none⟩]) (.seq (.cond (T 8) (.skip) (.exit 0)) (.seq (.block 1 (.seq (.region [⟨some 9, .indexAddr 1 (T 5) (T 7), none⟩, ⟨some 10, .load1 (T 9), none⟩, ⟨some 4, .move (T 10), none⟩]) (.seq (.region [⟨some 11, .move (T 0), none⟩, ⟨some 12, .move (T 4), none⟩, ⟨some 13, .call 185 [(T 11), (T 12)], none⟩]) (.cond (T 13) (.seq (.region [⟨some 14, .move (T 4), none⟩, ⟨some 2, .move (T 14), none⟩]) (.ret)) (.skip))))) (.region [⟨some 15, .bin .add (T 7) (.const (.int .i64 1)), none⟩, ⟨some 7, .move (T 15), none⟩]))))))) (.seq (.seq (.region [⟨some 16, .move (T 0), none⟩, ⟨some 17, .indexStr (T 16) (.const (.int .i64 0)), none⟩, ⟨some 18, .call 186 [(.const (.string { data := #[40, 41, 91, 93, 123, 125, 44, 59, 58, 124, 43, 45, 42, 47, 37, 61, 60] })), (T 17)], none⟩, ⟨some 19, .bin .geq (T 18) (.const (.int .i64 0)), none⟩]) (.cond (T 19) (.seq (.region [⟨some 20, .move (T 0), none⟩, ⟨some 21, .sliceStr (T 20) none (some (.const (.int .i64 1))), none⟩, ⟨some 2, .move (T 21), none⟩]) (.ret)) (.skip))) (.seq (.region [⟨some 2, .move (.const (.string { data := #[] })), none⟩]) (.ret))))⟩
def x170 : XFun := ⟨25, [.cellN 2 8], .seq (.region [⟨some 2, .alloc 54 [(.int .i64 0), (.int .i64 0), (.string { data := #[] }), (.slice none 0 0), (.slice none 0 0), (.slice none 0 0), (.int .i64 0), (.int .i64 0)], none⟩]) (.seq (.region [⟨some 6, .move (T 0), none⟩, ⟨some 7, .call 72 [(T 6)], none⟩, ⟨some 3, .alloc 122 [(.int .i64 0), (.string { data := #[] }), (.int .i64 0), (.int .i64 0), (.int .i64 0)], none⟩, ⟨none, .store 5 (T 3) (T 7), none⟩]) (.seq (.region [⟨some 4, .move (.const (.string { data := #[] })), none⟩]) (.seq (.block 0 (.seq (.region [⟨some 11, .move (T 0), none⟩, ⟨some 12, .call 74 [(T 11), (.const (.string { data := #[110, 111, 116] }))], none⟩, ⟨some 10, .move (T 12), none⟩]) (.cond (T 10) (.region [⟨some 4, .move (.const (.string { data := #[110, 111, 116] })), none⟩]) (.seq (.region [⟨some 14, .move (T 0), none⟩, ⟨some 15, .call 74 [(T 14), (.const (.string { data := #[45] }))], none⟩, ⟨some 13, .move (T 15), none⟩]) (.cond (T 13) (.region [⟨some 4, .move (.const (.string { data := #[110, 101, 103] })), none⟩]) (.seq (.region [⟨some 8, .move (T 0), none⟩, ⟨some 9, .call 187 [(T 8)], none⟩, ⟨none, .store 8 (T 2) (T 9), none⟩]) (.ret))))))) (.seq (.region [⟨some 16, .loadN 5 (T 3), none⟩, ⟨some 17, .call 127 [(.const (.int .i64 7)), (T 16)], none⟩, ⟨some 5, .alloc 54 [(.int .i64 0), (.int .i64 0), (.string { data := #[] }), (.slice none 0 0), (.slice none 0 0), (.slice none 0 0), (.int .i64 0), (.int .i64 0)], none⟩, ⟨none, .store 8 (T 5) (T 17), none⟩]) (.seq (.region [⟨some 18, .move (T 4), none⟩, ⟨some 19, .addr 2 (T 5), none⟩, ⟨none, .store 1 (T 19) (T 18), none⟩]) (.seq (.region [⟨some 20, .move (T 0), none⟩, ⟨some 21, .call 170 [(T 20)], none⟩, ⟨some 22, .buildSlice 54 8 [(.int .i64 0), (.int .i64 0), (.string { data := #[] }), (.slice none 0 0), (.slice none 0 0), (.slice none 0 0), (.int .i64 0), (.int .i64 0)] 1 [(0, 8, (T 21))], none⟩, ⟨some 23, .addr 5 (T 5), none⟩, ⟨none, .store 1 (T 23) (T 22), none⟩]) (.seq (.region [⟨some 24, .loadN 8 (T 5), none⟩, ⟨none, .store 8 (T 2) (T 24), none⟩]) (.ret))))))))⟩
def x171 : XFun := ⟨75, [.tmp 4], .seq (.region [⟨some 4, .move (.const (.string { data := #[] })), none⟩]) (.seq (.region [⟨some 6, .move (T 0), none⟩, ⟨some 7, .call 72 [(T 6)], none⟩, ⟨some 5, .alloc 122 [(.int .i64 0), (.string { data := #[] }), (.int .i64 0), (.int .i64 0), (.int .i64 0)], none⟩, ⟨none, .store 5 (T 5) (T 7), none⟩]) (.seq (.seq (.region [⟨some 8, .addr 0 (T 5), none⟩, ⟨some 9, .load1 (T 8), none⟩, ⟨some 10, .bin .neq (T 9) (.const (.int .i64 4)), none⟩, ⟨some 11, .move (T 10), none⟩, ⟨some 12, .addr 0 (T 5), (some (11, true))⟩, ⟨some 13, .load1 (T 12), (some (11, true))⟩, ⟨some 14, .bin .neq (T 13) (.const (.int .i64 2)), (some (11, true))⟩, ⟨some 15, .pick (T 11) (T 14) (.const (.bool false)), none⟩]) (.cond (T 15) (.seq (.region [⟨some 4, .move (.const (.string { data := #[] })), none⟩]) (.ret)) (.skip))) (.seq (.seq (.region [⟨some 16, .move (T 1), none⟩]) (.block 0 (.seq (.region [⟨some 18, .bin .eql (T 16) (.const (.int .i64 0)), none⟩, ⟨some 17, .move (T 18), none⟩]) (.cond (T 17) (.seq (.region [⟨some 19, .addr 1 (T 5), none⟩, ⟨some 20, .load1 (T 19), none⟩, ⟨some 21, .bin .eql (T 20) (.const (.string { data := #[111, 114] })), none⟩]) (.cond (T 21) (.seq (.region [⟨some 22, .addr 1 (T 5), none⟩, ⟨some 23, .load1 (T 22), none⟩, ⟨some 4, .move (T 23), none⟩]) (.ret)) (.skip))) (.seq (.region [⟨some 25, .bin .eql (T 16) (.const (.int .i64 1)), none⟩, ⟨some 24, .move (T 25), none⟩]) (.cond (T 24) (.seq (.region [⟨some 26, .addr 1 (T 5), none⟩, ⟨some 27, .load1 (T 26), none⟩, ⟨some 28, .bin .eql (T 27) (.const (.string { data := #[97, 110, 100] })), none⟩]) (.cond (T 28) (.seq (.region [⟨some 29, .addr 1 (T 5), none⟩, ⟨some 30, .load1 (T 29), none⟩, ⟨some 4, .move (T 30), none⟩]) (.ret)) (.skip))) (.seq (.region [⟨some 32, .bin .eql (T 16) (.const (.int .i64 2)), none⟩, ⟨some 31, .move (T 32), none⟩]) (.cond (T 31) (.seq (.region [⟨some 33, .buildSlice 9 1 [(.string { data := #[] })] 3 [(0, 1, (.const (.string { data := #[61, 61] }))), (1, 1, (.const (.string { data := #[60] }))), (2, 1, (.const (.string { data := #[60, 61] })))], none⟩, ⟨some 34, .addr 1 (T 5), none⟩, ⟨some 35, .load1 (T 34), none⟩, ⟨some 36, .call 188 [(T 33), (T 35)], none⟩]) (.cond (T 36) (.seq (.region [⟨some 37, .addr 1 (T 5), none⟩, ⟨some 38, .load1 (T 37), none⟩, ⟨some 4, .move (T 38), none⟩]) (.ret)) (.skip))) (.seq (.region [⟨some 40, .bin .eql (T 16) (.const (.int .i64 3)), none⟩, ⟨some 39, .move (T 40), none⟩]) (.cond (T 39) (.seq (.region [⟨some 41, .addr 1 (T 5), none⟩, ⟨some 42, .load1 (T 41), none⟩, ⟨some 43, .bin .eql (T 42) (.const (.string { data := #[58, 58] })), none⟩]) (.cond (T 43) (.seq (.region [⟨some 44, .addr 1 (T 5), none⟩, ⟨some 45, .load1 (T 44), none⟩, ⟨some 4, .move (T 45), none⟩]) (.ret)) (.skip))) (.seq (.region [⟨some 47, .bin .eql (T 16) (.const (.int .i64 4)), none⟩, ⟨some 46, .move (T 47), none⟩]) (.cond (T 46) (.seq (.region [⟨some 48, .addr 1 (T 5), none⟩, ⟨some 49, .load1 (T 48), none⟩, ⟨some 50, .bin .eql (T 49) (.const (.string { data := #[43] })), none⟩, ⟨some 51, .move (T 50), none⟩, ⟨some 52, .addr 1 (T 5), (some (51, false))⟩, ⟨some 53, .load1 (T 52), (some (51, false))⟩, ⟨some 54, .bin .eql (T 53) (.const (.string { data := #[45] })), (some (51, false))⟩, ⟨some 55, .pick (T 51) (.const (.bool true)) (T 54), none⟩]) (.cond (T 55) (.seq (.region [⟨some 56, .addr 1 (T 5), none⟩, ⟨some 57, .load1 (T 56), none⟩, ⟨some 4, .move (T 57), none⟩]) (.ret)) (.skip))) (.seq (.region [⟨some 59, .bin .eql (T 16) (.const (.int .i64 5)), none⟩, ⟨some 58, .move (T 59), none⟩]) (.cond (T 58) (.seq (.region [⟨some 60, .addr 1 (T 5), none⟩, ⟨some 61, .load1 (T 60), none⟩, ⟨some 62, .bin .eql (T 61) (.const (.string { data := #[42] })), none⟩, ⟨some 63, .move (T 62), none⟩, ⟨some 64, .addr 1 (T 5), (some (63, false))⟩, ⟨some 65, .load1 (T 64), (some (63, false))⟩, ⟨some 66, .bin .eql (T 65) (.const (.string { data := #[47] })), (some (63, false))⟩, ⟨some 67, .pick (T 63) (.const (.bool true)) (T 66), none⟩, ⟨some 68, .move (T 67), none⟩, ⟨some 69, .addr 1 (T 5), (some (68, false))⟩, ⟨some 70, .load1 (T 69), (some (68, false))⟩, ⟨some 71, .bin .eql (T 70) (.const (.string { data := #[37] })), (some (68, false))⟩, ⟨some 72, .pick (T 68) (.const (.bool true)) (T 71), none⟩]) (.cond (T 72) (.seq (.region [⟨some 73, .addr 1 (T 5), none⟩, ⟨some 74, .load1 (T 73), none⟩, ⟨some 4, .move (T 74), none⟩]) (.ret)) (.skip))) (.skip))))))))))))))) (.seq (.region [⟨some 4, .move (.const (.string { data := #[] })), none⟩]) (.ret)))))⟩
def x172 : XFun := ⟨33, [.tmp 2], .seq (.region [⟨some 2, .move (.const (.bool false)), none⟩]) (.seq (.region [⟨some 6, .move (T 0), none⟩, ⟨some 7, .call 70 [(T 6)], none⟩, ⟨some 5, .move (T 7), none⟩, ⟨some 8, .extract (T 5) 0, none⟩, ⟨some 9, .extract (T 5) 1, none⟩, ⟨some 4, .alloc 59 [(.int .i64 0), (.string { data := #[] }), (.int .i64 0), (.int .i64 0)], none⟩, ⟨some 3, .move (T 8), none⟩, ⟨none, .store 4 (T 4) (T 9), none⟩]) (.seq (.region [⟨some 10, .addr 0 (T 4), none⟩, ⟨some 11, .load1 (T 10), none⟩, ⟨some 12, .bin .eql (T 11) (.const (.int .i64 0)), none⟩, ⟨some 13, .move (T 12), none⟩, ⟨some 14, .move (T 3), (some (13, true))⟩, ⟨some 15, .lenSlice (T 14), (some (13, true))⟩, ⟨some 16, .bin .eql (T 15) (.const (.int .i64 2)), (some (13, true))⟩, ⟨some 17, .pick (T 13) (T 16) (.const (.bool false)), none⟩, ⟨some 18, .move (T 17), none⟩, ⟨some 19, .move (T 3), (some (18, true))⟩, ⟨some 20, .indexAddr 5 (T 19) (.const (.int .i64 0)), (some (18, true))⟩, ⟨some 21, .addr 0 (T 20), (some (18, true))⟩, ⟨some 22, .load1 (T 21), (some (18, true))⟩, ⟨some 23, .bin .eql (T 22) (.const (.int .i64 1)), (some (18, true))⟩, ⟨some 24, .pick (T 18) (T 23) (.const (.bool false)), none⟩, ⟨some 25, .move (T 24), none⟩, ⟨some 26, .move (T 3), (some (25, true))⟩, ⟨some 27, .indexAddr 5 (T 26) (.const (.int .i64 0)), (some (25, true))⟩, ⟨some 28, .addr 1 (T 27), (some (25, true))⟩, ⟨some 29, .load1 (T 28), (some (25, true))⟩, ⟨some 30, .move (T 0), (some (25, true))⟩, ⟨some 31, .bin .eql (T 29) (T 30), (some (25, true))⟩, ⟨some 32, .pick (T 25) (T 31) (.const (.bool false)), none⟩, ⟨some 2, .move (T 32), none⟩]) (.ret)))⟩
def x174 : XFun := ⟨15, [.tmp 2], .seq (.region [⟨some 2, .move (.const (.bool false)), none⟩]) (.seq (.seq (.region [⟨some 5, .move (T 0), none⟩, ⟨some 6, .lenSlice (T 5), none⟩, ⟨some 7, .move (.const (.int .i64 0)), none⟩]) (.block 0 (.loop (.seq (.region [⟨some 8, .bin .lss (T 7) (T 6), none⟩]) (.seq (.cond (T 8) (.skip) (.exit 0)) (.seq (.block 1 (.seq (.region [⟨some 9, .indexAddr 1 (T 5) (T 7), none⟩, ⟨some 10, .load1 (T 9), none⟩, ⟨some 4, .move (T 10), none⟩]) (.seq (.region [⟨some 11, .move (T 4), none⟩, ⟨some 12, .call 172 [(T 11)], none⟩, ⟨some 13, .un .not (T 12), none⟩]) (.cond (T 13) (.seq (.region [⟨some 2, .move (.const (.bool false)), none⟩]) (.ret)) (.skip))))) (.region [⟨some 14, .bin .add (T 7) (.const (.int .i64 1)), none⟩, ⟨some 7, .move (T 14), none⟩]))))))) (.seq (.region [⟨some 2, .move (.const (.bool true)), none⟩]) (.ret)))⟩
def x175 : XFun := ⟨32, [], .seq (.region [⟨some 1, .box 54 (T 0), none⟩]) (.seq (.regionD [⟨some 4, .addr 4 (T 1), none⟩, ⟨some 5, .load1 (T 4), none⟩, ⟨some 6, .indexAddr 1 (T 5) (.const (.int .i64 0)), none⟩, ⟨some 7, .load1 (T 6), none⟩, ⟨some 8, .addr 4 (T 1), none⟩, ⟨some 9, .load1 (T 8), none⟩, ⟨some 10, .indexAddr 1 (T 9) (.const (.int .i64 1)), none⟩, ⟨some 11, .load1 (T 10), none⟩, ⟨some 2, .move (T 7), none⟩, ⟨some 3, .move (T 11), none⟩] []) (.seq (.region [⟨some 12, .move (T 2), none⟩, ⟨some 13, .bin .lss (T 12) (.const (.int .i64 0)), none⟩, ⟨some 14, .move (T 13), none⟩, ⟨some 15, .move (T 3), (some (14, false))⟩, ⟨some 16, .bin .lss (T 15) (.const (.int .i64 1)), (some (14, false))⟩, ⟨some 17, .pick (T 14) (.const (.bool true)) (T 16), none⟩, ⟨some 18, .move (T 17), none⟩, ⟨some 19, .move (T 2), (some (18, false))⟩, ⟨some 20, .move (T 3), (some (18, false))⟩, ⟨some 21, .bin .gtr (T 19) (T 20), (some (18, false))⟩, ⟨some 22, .pick (T 18) (.const (.bool true)) (T 21), none⟩, ⟨some 23, .move (T 22), none⟩, ⟨some 24, .move (T 3), (some (23, false))⟩, ⟨some 25, .bin .gtr (T 24) (.const (.int .i64 1000)), (some (23, false))⟩, ⟨some 26, .pick (T 23) (.const (.bool true)) (T 25), none⟩]) (.cond (T 26) (.region [⟨some 27, .addr 6 (T 1), none⟩, ⟨some 28, .load1 (T 27), none⟩, ⟨some 29, .addr 7 (T 1), none⟩, ⟨some 30, .load1 (T 29), none⟩, ⟨some 31, .call 85 [(.const (.int .i64 16)), (.const (.string { data := #[] })), (T 28), (T 30)], none⟩]) (.skip))))⟩
def x176 : XFun := ⟨96, [.tmp 4], .seq (.region [⟨some 4, .move (.const (.bool false)), none⟩]) (.seq (.region [⟨some 6, .move (T 0), none⟩, ⟨some 7, .call 140 [(T 6)], none⟩, ⟨some 8, .move (T 1), none⟩, ⟨some 9, .call 140 [(T 8)], none⟩, ⟨some 0, .move (T 7), none⟩, ⟨some 1, .move (T 9), none⟩]) (.seq (.block 0 (.seq (.region [⟨some 11, .move (T 0), none⟩, ⟨some 12, .move (T 1), none⟩, ⟨some 13, .eq .ptr false (T 11) (T 12), none⟩, ⟨some 10, .move (T 13), none⟩]) (.cond (T 10) (.seq (.region [⟨some 4, .move (.const (.bool true)), none⟩]) (.ret)) (.seq (.region [⟨some 15, .move (T 0), none⟩, ⟨some 16, .nilCheck (T 15), none⟩, ⟨some 17, .addr 0 (T 16), none⟩, ⟨some 18, .load1 (T 17), none⟩, ⟨some 19, .bin .eql (T 18) (.const (.int .i64 0)), none⟩, ⟨some 14, .move (T 19), none⟩]) (.cond (T 14) (.seq (.seq (.region [⟨some 20, .move (T 0), none⟩, ⟨some 21, .move (T 1), none⟩, ⟨some 22, .mkMap, none⟩, ⟨some 23, .call 189 [(T 20), (T 21), (T 22)], none⟩]) (.cond (T 23) (.seq (.region [⟨some 4, .move (.const (.bool false)), none⟩]) (.ret)) (.skip))) (.seq (.region [⟨some 24, .move (T 0), none⟩, ⟨some 25, .move (T 1), none⟩, ⟨some 26, .nilCheck (T 24), none⟩, ⟨some 27, .addr 2 (T 26), none⟩, ⟨none, .store 1 (T 27) (T 25), none⟩]) (.seq (.region [⟨some 4, .move (.const (.bool true)), none⟩]) (.ret)))) (.seq (.region [⟨some 29, .move (T 1), none⟩, ⟨some 30, .nilCheck (T 29), none⟩, ⟨some 31, .addr 0 (T 30), none⟩, ⟨some 32, .load1 (T 31), none⟩, ⟨some 33, .bin .eql (T 32) (.const (.int .i64 0)), none⟩, ⟨some 28, .move (T 33), none⟩]) (.cond (T 28) (.seq (.region [⟨some 34, .move (T 1), none⟩, ⟨some 35, .move (T 0), none⟩, ⟨some 36, .call 176 [(T 34), (T 35)], none⟩, ⟨some 4, .move (T 36), none⟩]) (.ret)) (.seq (.regionD [⟨some 38, .move (T 0), none⟩, ⟨some 39, .nilCheck (T 38), none⟩, ⟨some 40, .addr 0 (T 39), none⟩, ⟨some 41, .load1 (T 40), none⟩, ⟨some 42, .move (T 1), none⟩, ⟨some 43, .nilCheck (T 42), none⟩, ⟨some 44, .addr 0 (T 43), none⟩, ⟨some 45, .load1 (T 44), none⟩, ⟨some 46, .bin .neq (T 41) (T 45), none⟩, ⟨some 47, .move (T 46), none⟩, ⟨some 48, .move (T 0), (some (47, false))⟩, ⟨some 49, .nilCheck (T 48), (some (47, false))⟩, ⟨some 50, .addr 1 (T 49), (some (47, false))⟩, ⟨some 51, .load1 (T 50), (some (47, false))⟩, ⟨some 52, .lenSlice (T 51), (some (47, false))⟩, ⟨some 53, .move (T 1), (some (47, false))⟩, ⟨some 54, .nilCheck (T 53), (some (47, false))⟩, ⟨some 55, .addr 1 (T 54), (some (47, false))⟩, ⟨some 56, .load1 (T 55), (some (47, false))⟩, ⟨some 57, .lenSlice (T 56), (some (47, false))⟩, ⟨some 58, .bin .neq (T 52) (T 57), (some (47, false))⟩, ⟨some 59, .pick (T 47) (.const (.bool true)) (T 58), none⟩, ⟨some 37, .move (T 59), none⟩] []) (.cond (T 37) (.seq (.region [⟨some 4, .move (.const (.bool false)), none⟩]) (.ret)) (.skip)))))))))) (.seq (.seq (.region [⟨some 60, .move (T 0), none⟩, ⟨some 61, .nilCheck (T 60), none⟩, ⟨some 62, .addr 1 (T 61), none⟩, ⟨some 63, .load1 (T 62), none⟩, ⟨some 64, .lenSlice (T 63), none⟩, ⟨some 65, .move (.const (.int .i64 0)), none⟩]) (.block 1 (.loop (.seq (.region [⟨some 66, .bin .lss (T 65) (T 64), none⟩]) (.seq (.cond (T 66) (.skip) (.exit 1)) (.seq (.block 2 (.seq (.region [⟨some 67, .move (T 65), none⟩, ⟨some 5, .move (T 67), none⟩]) (.seq (.regionD [⟨some 68, .move (T 0), none⟩, ⟨some 69, .nilCheck (T 68), none⟩, ⟨some 70, .addr 1 (T 69), none⟩, ⟨some 71, .load1 (T 70), none⟩, ⟨some 72, .move (T 5), none⟩, ⟨some 73, .indexAddr 1 (T 71) (T 72), none⟩, ⟨some 74, .load1 (T 73), none⟩, ⟨some 75, .move (T 1), none⟩, ⟨some 76, .nilCheck (T 75), none⟩, ⟨some 77, .addr 1 (T 76), none⟩, ⟨some 78, .load1 (T 77), none⟩, ⟨some 79, .move (T 5), none⟩, ⟨some 80, .indexAddr 1 (T 78) (T 79), none⟩, ⟨some 81, .load1 (T 80), none⟩, ⟨some 82, .call 176 [(T 74), (T 81)], none⟩, ⟨some 83, .un .not (T 82), none⟩] []) (.cond (T 83) (.seq (.region [⟨some 4, .move (.const (.bool false)), none⟩]) (.ret)) (.skip))))) (.region [⟨some 84, .bin .add (T 65) (.const (.int .i64 1)), none⟩, ⟨some 65, .move (T 84), none⟩]))))))) (.seq (.seq (.region [⟨some 85, .move (T 0), none⟩, ⟨some 86, .call 140 [(T 85)], none⟩, ⟨some 87, .move (T 1), none⟩, ⟨some 88, .call 140 [(T 87)], none⟩, ⟨some 0, .move (T 86), none⟩, ⟨some 1, .move (T 88), none⟩]) (.seq (.region [⟨some 89, .move (T 0), none⟩, ⟨some 90, .move (T 1), none⟩, ⟨some 91, .eq .ptr true (T 89) (T 90), none⟩]) (.cond (T 91) (.region [⟨some 92, .move (T 0), none⟩, ⟨some 93, .move (T 1), none⟩, ⟨some 94, .nilCheck (T 92), none⟩, ⟨some 95, .addr 2 (T 94), none⟩, ⟨none, .store 1 (T 95) (T 93), none⟩]) (.skip)))) (.seq (.region [⟨some 4, .move (.const (.bool true)), none⟩]) (.ret))))))⟩
def x177 : XFun := ⟨27, [.tmp 4], .seq (.region [⟨some 4, .move (.const (.slice none 0 0)), none⟩]) (.seq (.seq (.region [⟨some 5, .move (T 1), none⟩, ⟨some 6, .bin .lss (T 5) (.const (.int .i64 0)), none⟩]) (.cond (T 6) (.region [⟨some 7, .mkIface 9 (.const (.string { data := #[99, 97, 110, 110, 111, 116, 32, 98, 101, 32, 110, 101, 103, 97, 116, 105, 118, 101] })), none⟩, ⟨none, .panic (T 7), none⟩]) (.skip))) (.seq (.seq (.region [⟨some 8, .move (T 1), none⟩, ⟨some 9, .move (T 0), none⟩, ⟨some 10, .capSlice (T 9), none⟩, ⟨some 11, .move (T 0), none⟩, ⟨some 12, .lenSlice (T 11), none⟩, ⟨some 13, .bin .sub (T 10) (T 12), none⟩, ⟨some 14, .bin .sub (T 8) (T 13), none⟩, ⟨some 1, .move (T 14), none⟩]) (.seq (.region [⟨some 15, .move (T 1), none⟩, ⟨some 16, .bin .gtr (T 15) (.const (.int .i64 0)), none⟩]) (.cond (T 16) (.region [⟨some 17, .move (T 0), none⟩, ⟨some 18, .move (T 0), none⟩, ⟨some 19, .capSlice (T 18), none⟩, ⟨some 20, .slice 1 (T 17) none (some (T 19)) none, none⟩, ⟨some 21, .move (T 1), none⟩, ⟨some 22, .appendZ 9 [(.string { data := #[] })] 16 (T 20) (T 21), none⟩, ⟨some 23, .move (T 0), none⟩, ⟨some 24, .lenSlice (T 23), none⟩, ⟨some 25, .slice 1 (T 22) none (some (T 24)) none, none⟩, ⟨some 0, .move (T 25), none⟩]) (.skip)))) (.seq (.region [⟨some 26, .move (T 0), none⟩, ⟨some 4, .move (T 26), none⟩]) (.ret))))⟩
def x180 : XFun := ⟨20, [.tmp 4], .seq (.region [⟨some 4, .move (.const (.int .i64 0)), none⟩]) (.seq (.region [⟨some 7, .move (.tmp 0), none⟩, ⟨some 8, .call 165 [(.tmp 7)], none⟩, ⟨some 5, .move (.tmp 8), none⟩]) (.seq (.region [⟨some 9, .move (.tmp 1), none⟩, ⟨some 10, .call 165 [(.tmp 9)], none⟩, ⟨some 6, .move (.tmp 10), none⟩]) (.seq (.seq (.region [⟨some 11, .move (.tmp 5), none⟩]) (.cond (.tmp 11) (.seq (.seq (.region [⟨some 12, .move (.tmp 6), none⟩]) (.cond (.tmp 12) (.seq (.region [⟨some 4, .move (.const (.int .i64 0)), none⟩]) (.ret)) (.skip))) (.seq (.region [⟨some 4, .move (.const (.int .i64 (-1))), none⟩]) (.ret))) (.skip))) (.seq (.seq (.region [⟨some 13, .move (.tmp 6), none⟩]) (.cond (.tmp 13) (.seq (.region [⟨some 4, .move (.const (.int .i64 1)), none⟩]) (.ret)) (.skip))) (.seq (.seq (.region [⟨some 14, .move (.tmp 0), none⟩, ⟨some 15, .move (.tmp 1), none⟩, ⟨some 16, .bin .lss (.tmp 14) (.tmp 15), none⟩]) (.cond (.tmp 16) (.seq (.region [⟨some 4, .move (.const (.int .i64 (-1))), none⟩]) (.ret)) (.skip))) (.seq (.seq (.region [⟨some 17, .move (.tmp 0), none⟩, ⟨some 18, .move (.tmp 1), none⟩, ⟨some 19, .bin .gtr (.tmp 17) (.tmp 18), none⟩]) (.cond (.tmp 19) (.seq (.region [⟨some 4, .move (.const (.int .i64 1)), none⟩]) (.ret)) (.skip))) (.seq (.region [⟨some 4, .move (.const (.int .i64 0)), none⟩]) (.ret))))))))⟩
def x181 : XFun := ⟨39, [.tmp 6], .seq (.region [⟨some 6, .move (.const (.int .i64 0)), none⟩]) (.seq (.seq (.region [⟨some 11, .move (.tmp 0), none⟩, ⟨some 12, .lenSlice (.tmp 11), none⟩, ⟨some 13, .move (.const (.int .i64 0)), none⟩]) (.block 0 (.loop (.seq (.region [⟨some 14, .bin .lss (.tmp 13) (.tmp 12), none⟩]) (.seq (.cond (.tmp 14) (.skip) (.exit 0)) (.seq (.block 1 (.seq (.region [⟨some 15, .move (.tmp 13), none⟩, ⟨some 16, .indexAddr 3 (.tmp 11) (.tmp 13), none⟩, ⟨some 17, .loadN 3 (.tmp 16), none⟩, ⟨some 8, .alloc 26 [(.int .i64 0), (.int .i64 0), (.slice none 0 0)], none⟩, ⟨some 7, .move (.tmp 15), none⟩, ⟨none, .store 3 (.tmp 8) (.tmp 17), none⟩]) (.seq (.seq (.region [⟨some 18, .move (.tmp 7), none⟩, ⟨some 19, .move (.tmp 1), none⟩, ⟨some 20, .lenSlice (.tmp 19), none⟩, ⟨some 21, .bin .geq (.tmp 18) (.tmp 20), none⟩]) (.cond (.tmp 21) (.seq (.region [⟨some 6, .move (.const (.int .i64 1)), none⟩]) (.ret)) (.skip))) (.seq (.region [⟨some 22, .move (.tmp 1), none⟩, ⟨some 23, .move (.tmp 7), none⟩, ⟨some 24, .indexAddr 3 (.tmp 22) (.tmp 23), none⟩, ⟨some 25, .loadN 3 (.tmp 24), none⟩, ⟨some 9, .alloc 26 [(.int .i64 0), (.int .i64 0), (.slice none 0 0)], none⟩, ⟨none, .store 3 (.tmp 9) (.tmp 25), none⟩]) (.seq (.region [⟨some 26, .move (.tmp 2), none⟩, ⟨some 27, .loadN 3 (.tmp 8), none⟩, ⟨some 28, .loadN 3 (.tmp 9), none⟩, ⟨some 29, .callV (.tmp 26) [(.tmp 27), (.tmp 28)], none⟩, ⟨some 10, .move (.tmp 29), none⟩]) (.seq (.region [⟨some 30, .move (.tmp 10), none⟩, ⟨some 31, .bin .neq (.tmp 30) (.const (.int .i64 0)), none⟩]) (.cond (.tmp 31) (.seq (.region [⟨some 32, .move (.tmp 10), none⟩, ⟨some 6, .move (.tmp 32), none⟩]) (.ret)) (.skip)))))))) (.region [⟨some 33, .bin .add (.tmp 13) (.const (.int .i64 1)), none⟩, ⟨some 13, .move (.tmp 33), none⟩]))))))) (.seq (.seq (.region [⟨some 34, .move (.tmp 0), none⟩, ⟨some 35, .lenSlice (.tmp 34), none⟩, ⟨some 36, .move (.tmp 1), none⟩, ⟨some 37, .lenSlice (.tmp 36), none⟩, ⟨some 38, .bin .lss (.tmp 35) (.tmp 37), none⟩]) (.cond (.tmp 38) (.seq (.region [⟨some 6, .move (.const (.int .i64 (-1))), none⟩]) (.ret)) (.skip))) (.seq (.region [⟨some 6, .move (.const (.int .i64 0)), none⟩]) (.ret))))⟩
def x182 : XFun := ⟨13, [.tmp 4], .seq (.region [⟨some 4, .move (.const (.int .i64 0)), none⟩]) (.seq (.block 0 (.seq (.region [⟨some 6, .move (.tmp 0), none⟩, ⟨some 7, .move (.tmp 1), none⟩, ⟨some 8, .bin .lss (.tmp 6) (.tmp 7), none⟩, ⟨some 5, .move (.tmp 8), none⟩]) (.cond (.tmp 5) (.seq (.region [⟨some 4, .move (.const (.int .i64 (-1))), none⟩]) (.ret)) (.seq (.region [⟨some 10, .move (.tmp 0), none⟩, ⟨some 11, .move (.tmp 1), none⟩, ⟨some 12, .bin .gtr (.tmp 10) (.tmp 11), none⟩, ⟨some 9, .move (.tmp 12), none⟩]) (.cond (.tmp 9) (.seq (.region [⟨some 4, .move (.const (.int .i64 1)), none⟩]) (.ret)) (.skip)))))) (.seq (.region [⟨some 4, .move (.const (.int .i64 0)), none⟩]) (.ret)))⟩
def x185 : XFun := ⟨8, [.tmp 4], .seq (.region [⟨some 4, .move (.const (.bool false)), none⟩]) (.seq (.region [⟨some 5, .move (T 0), none⟩, ⟨some 6, .move (T 1), none⟩, ⟨some 7, .call 192 [(T 5), (T 6)], none⟩, ⟨some 4, .move (T 7), none⟩]) (.ret))⟩
def x187 : XFun := ⟨176, [.cellN 2 8], .seq (.region [⟨some 2, .alloc 54 [(.int .i64 0), (.int .i64 0), (.string { data := #[] }), (.slice none 0 0), (.slice none 0 0), (.slice none 0 0), (.int .i64 0), (.int .i64 0)], none⟩]) (.seq (.region [⟨some 14, .move (T 0), none⟩, ⟨some 15, .call 72 [(T 14)], none⟩, ⟨some 3, .alloc 122 [(.int .i64 0), (.string { data := #[] }), (.int .i64 0), (.int .i64 0), (.int .i64 0)], none⟩, ⟨none, .store 5 (T 3) (T 15), none⟩]) (.seq (.block 0 (.seq (.region [⟨some 17, .addr 0 (T 3), none⟩, ⟨some 18, .load1 (T 17), none⟩, ⟨some 19, .bin .eql (T 18) (.const (.int .i64 3)), none⟩, ⟨some 16, .move (T 19), none⟩]) (.cond (T 16) (.seq (.region [⟨some 20, .move (T 0), none⟩, ⟨some 21, .nilCheck (T 20), none⟩, ⟨some 22, .addr 1 (T 21), none⟩, ⟨some 23, .load1 (T 22), none⟩, ⟨some 24, .bin .add (T 23) (.const (.int .i64 1)), none⟩, ⟨some 25, .nilCheck (T 20), none⟩, ⟨some 26, .addr 1 (T 25), none⟩, ⟨none, .store 1 (T 26) (T 24), none⟩]) (.seq (.region [⟨some 27, .loadN 5 (T 3), none⟩, ⟨some 28, .call 127 [(.const (.int .i64 1)), (T 27)], none⟩, ⟨some 4, .alloc 54 [(.int .i64 0), (.int .i64 0), (.string { data := #[] }), (.slice none 0 0), (.slice none 0 0), (.slice none 0 0), (.int .i64 0), (.int .i64 0)], none⟩, ⟨none, .store 8 (T 4) (T 28), none⟩]) (.seq (.region [⟨some 29, .addr 2 (T 3), none⟩, ⟨some 30, .load1 (T 29), none⟩, ⟨some 31, .addr 1 (T 4), none⟩, ⟨none, .store 1 (T 31) (T 30), none⟩]) (.seq (.region [⟨some 32, .loadN 8 (T 4), none⟩, ⟨none, .store 8 (T 2) (T 32), none⟩]) (.ret))))) (.seq (.region [⟨some 34, .addr 0 (T 3), none⟩, ⟨some 35, .load1 (T 34), none⟩, ⟨some 36, .bin .eql (T 35) (.const (.int .i64 1)), none⟩, ⟨some 33, .move (T 36), none⟩]) (.cond (T 33) (.seq (.region [⟨some 37, .move (T 0), none⟩, ⟨some 38, .nilCheck (T 37), none⟩, ⟨some 39, .addr 1 (T 38), none⟩, ⟨some 40, .load1 (T 39), none⟩, ⟨some 41, .bin .add (T 40) (.const (.int .i64 1)), none⟩, ⟨some 42, .nilCheck (T 37), none⟩, ⟨some 43, .addr 1 (T 42), none⟩, ⟨none, .store 1 (T 43) (T 41), none⟩]) (.seq (.region [⟨some 44, .loadN 5 (T 3), none⟩, ⟨some 45, .call 127 [(.const (.int .i64 3)), (T 44)], none⟩, ⟨some 5, .alloc 54 [(.int .i64 0), (.int .i64 0), (.string { data := #[] }), (.slice none 0 0), (.slice none 0 0), (.slice none 0 0), (.int .i64 0), (.int .i64 0)], none⟩, ⟨none, .store 8 (T 5) (T 45), none⟩]) (.seq (.region [⟨some 46, .addr 1 (T 3), none⟩, ⟨some 47, .load1 (T 46), none⟩, ⟨some 48, .addr 2 (T 5), none⟩, ⟨none, .store 1 (T 48) (T 47), none⟩]) (.seq (.seq (.region [⟨some 49, .move (T 0), none⟩, ⟨some 50, .call 74 [(T 49), (.const (.string { data := #[40] }))], none⟩]) (.cond (T 50) (.region [⟨some 51, .move (T 0), none⟩, ⟨some 52, .call 194 [(T 51), (.const (.string { data := #[41] }))], none⟩, ⟨some 53, .addr 0 (T 5), none⟩, ⟨none, .store 1 (T 53) (.const (.int .i64 4)), none⟩, ⟨some 54, .addr 5 (T 5), none⟩, ⟨none, .store 1 (T 54) (T 52), none⟩]) (.skip))) (.seq (.region [⟨some 55, .loadN 8 (T 5), none⟩, ⟨none, .store 8 (T 2) (T 55), none⟩]) (.ret)))))) (.seq (.region [⟨some 57, .move (T 0), none⟩, ⟨some 58, .call 74 [(T 57), (.const (.string { data := #[116, 114, 117, 101] }))], none⟩, ⟨some 56, .move (T 58), none⟩]) (.cond (T 56) (.seq (.region [⟨some 59, .loadN 5 (T 3), none⟩, ⟨some 60, .call 127 [(.const (.int .i64 2)), (T 59)], none⟩, ⟨some 6, .alloc 54 [(.int .i64 0), (.int .i64 0), (.string { data := #[] }), (.slice none 0 0), (.slice none 0 0), (.slice none 0 0), (.int .i64 0), (.int .i64 0)], none⟩, ⟨none, .store 8 (T 6) (T 60), none⟩]) (.seq (.region [⟨some 61, .addr 1 (T 6), none⟩, ⟨none, .store 1 (T 61) (.const (.int .i64 1)), none⟩]) (.seq (.region [⟨some 62, .loadN 8 (T 6), none⟩, ⟨none, .store 8 (T 2) (T 62), none⟩]) (.ret)))) (.seq (.region [⟨some 64, .move (T 0), none⟩, ⟨some 65, .call 74 [(T 64), (.const (.string { data := #[102, 97, 108, 115, 101] }))], none⟩, ⟨some 63, .move (T 65), none⟩]) (.cond (T 63) (.seq (.region [⟨some 66, .loadN 5 (T 3), none⟩, ⟨some 67, .call 127 [(.const (.int .i64 2)), (T 66)], none⟩, ⟨none, .store 8 (T 2) (T 67), none⟩]) (.ret)) (.seq (.region [⟨some 69, .move (T 0), none⟩, ⟨some 70, .call 74 [(T 69), (.const (.string { data := #[40] }))], none⟩, ⟨some 68, .move (T 70), none⟩]) (.cond (T 68) (.seq (.region [⟨some 71, .move (T 0), none⟩, ⟨some 72, .call 78 [(T 71)], none⟩, ⟨some 7, .alloc 54 [(.int .i64 0), (.int .i64 0), (.string { data := #[] }), (.slice none 0 0), (.slice none 0 0), (.slice none 0 0), (.int .i64 0), (.int .i64 0)], none⟩, ⟨none, .store 8 (T 7) (T 72), none⟩]) (.seq (.seq (.region [⟨some 73, .move (T 0), none⟩, ⟨some 74, .call 74 [(T 73), (.const (.string { data := #[41] }))], none⟩]) (.cond (T 74) (.seq (.region [⟨some 75, .loadN 8 (T 7), none⟩, ⟨none, .store 8 (T 2) (T 75), none⟩]) (.ret)) (.skip))) (.seq (.region [⟨some 76, .loadN 5 (T 3), none⟩, ⟨some 77, .call 127 [(.const (.int .i64 5)), (T 76)], none⟩, ⟨some 8, .alloc 54 [(.int .i64 0), (.int .i64 0), (.string { data := #[] }), (.slice none 0 0), (.slice none 0 0), (.slice none 0 0), (.int .i64 0), (.int .i64 0)], none⟩, ⟨none, .store 8 (T 8) (T 77), none⟩]) (.seq (.region [⟨some 78, .loadN 8 (T 7), none⟩, ⟨some 79, .buildSlice 54 8 [(.int .i64 0), (.int .i64 0), (.string { data := #[] }), (.slice none 0 0), (.slice none 0 0), (.slice none 0 0), (.int .i64 0), (.int .i64 0)] 1 [(0, 8, (T 78))], none⟩, ⟨some 80, .addr 5 (T 8), none⟩, ⟨none, .store 1 (T 80) (T 79), none⟩]) (.seq (.region [⟨some 81, .move (T 0), none⟩, ⟨some 82, .call 76 [(T 81), (.const (.string { data := #[44] }))], none⟩]) (.seq (.regionD [⟨some 83, .addr 5 (T 8), none⟩, ⟨some 84, .load1 (T 83), none⟩, ⟨some 85, .move (T 0), none⟩, ⟨some 86, .call 78 [(T 85)], none⟩, ⟨some 87, .buildSlice 54 8 [(.int .i64 0), (.int .i64 0), (.string { data := #[] }), (.slice none 0 0), (.slice none 0 0), (.slice none 0 0), (.int .i64 0), (.int .i64 0)] 1 [(0, 8, (T 86))], none⟩, ⟨some 88, .append 54 8 120 (T 84) (T 87), none⟩, ⟨some 89, .addr 5 (T 8), none⟩, ⟨none, .store 1 (T 89) (T 88), none⟩] [(1, 3), (1, 4)]) (.seq (.block 1 (.loop (.seq (.seq (.region [⟨some 90, .move (T 0), none⟩, ⟨some 91, .call 74 [(T 90), (.const (.string { data := #[44] }))], none⟩]) (.cond (T 91) (.skip) (.exit 1))) (.block 2 (.regionD [⟨some 92, .addr 5 (T 8), none⟩, ⟨some 93, .load1 (T 92), none⟩, ⟨some 94, .move (T 0), none⟩, ⟨some 95, .call 78 [(T 94)], none⟩, ⟨some 96, .buildSlice 54 8 [(.int .i64 0), (.int .i64 0), (.string { data := #[] }), (.slice none 0 0), (.slice none 0 0), (.slice none 0 0), (.int .i64 0), (.int .i64 0)] 1 [(0, 8, (T 95))], none⟩, ⟨some 97, .append 54 8 120 (T 93) (T 96), none⟩, ⟨some 98, .addr 5 (T 8), none⟩, ⟨none, .store 1 (T 98) (T 97), none⟩] [(1, 3), (1, 4)]))))) (.seq (.region [⟨some 99, .move (T 0), none⟩, ⟨some 100, .call 76 [(T 99), (.const (.string { data := #[41] }))], none⟩]) (.seq (.region [⟨some 101, .loadN 8 (T 8), none⟩, ⟨none, .store 8 (T 2) (T 101), none⟩]) (.ret)))))))))) (.seq (.region [⟨some 103, .move (T 0), none⟩, ⟨some 104, .call 74 [(T 103), (.const (.string { data := #[91] }))], none⟩, ⟨some 102, .move (T 104), none⟩]) (.cond (T 102) (.seq (.region [⟨some 105, .loadN 5 (T 3), none⟩, ⟨some 106, .call 127 [(.const (.int .i64 6)), (T 105)], none⟩, ⟨some 9, .alloc 54 [(.int .i64 0), (.int .i64 0), (.string { data := #[] }), (.slice none 0 0), (.slice none 0 0), (.slice none 0 0), (.int .i64 0), (.int .i64 0)], none⟩, ⟨none, .store 8 (T 9) (T 106), none⟩]) (.seq (.region [⟨some 107, .move (T 0), none⟩, ⟨some 108, .call 194 [(T 107), (.const (.string { data := #[93] }))], none⟩, ⟨some 109, .addr 5 (T 9), none⟩, ⟨none, .store 1 (T 109) (T 108), none⟩]) (.seq (.region [⟨some 110, .loadN 8 (T 9), none⟩, ⟨none, .store 8 (T 2) (T 110), none⟩]) (.ret)))) (.seq (.region [⟨some 112, .move (T 0), none⟩, ⟨some 113, .call 74 [(T 112), (.const (.string { data := #[112, 105, 99, 107] }))], none⟩, ⟨some 111, .move (T 113), none⟩]) (.cond (T 111) (.seq (.region [⟨some 114, .loadN 5 (T 3), none⟩, ⟨some 115, .call 127 [(.const (.int .i64 13)), (T 114)], none⟩, ⟨some 10, .alloc 54 [(.int .i64 0), (.int .i64 0), (.string { data := #[] }), (.slice none 0 0), (.slice none 0 0), (.slice none 0 0), (.int .i64 0), (.int .i64 0)], none⟩, ⟨none, .store 8 (T 10) (T 115), none⟩]) (.seq (.region [⟨some 116, .move (T 0), none⟩, ⟨some 117, .call 76 [(T 116), (.const (.string { data := #[123] }))], none⟩]) (.block 3 (.loop (.block 4 (.seq (.regionD [⟨some 118, .addr 4 (T 10), none⟩, ⟨some 119, .load1 (T 118), none⟩, ⟨some 120, .move (T 0), none⟩, ⟨some 121, .call 125 [(T 120), (.const (.int .i64 3))], none⟩, ⟨some 122, .field1 2 (T 121), none⟩, ⟨some 123, .buildSlice 3 1 [(.int .i64 0)] 1 [(0, 1, (T 122))], none⟩, ⟨some 124, .append 3 1 8 (T 119) (T 123), none⟩, ⟨some 125, .addr 4 (T 10), none⟩, ⟨none, .store 1 (T 125) (T 124), none⟩] [(1, 3), (1, 5)]) (.seq (.region [⟨some 126, .move (T 0), none⟩, ⟨some 127, .call 76 [(T 126), (.const (.string { data := #[58] }))], none⟩]) (.seq (.regionD [⟨some 128, .addr 5 (T 10), none⟩, ⟨some 129, .load1 (T 128), none⟩, ⟨some 130, .move (T 0), none⟩, ⟨some 131, .call 78 [(T 130)], none⟩, ⟨some 132, .buildSlice 54 8 [(.int .i64 0), (.int .i64 0), (.string { data := #[] }), (.slice none 0 0), (.slice none 0 0), (.slice none 0 0), (.int .i64 0), (.int .i64 0)] 1 [(0, 8, (T 131))], none⟩, ⟨some 133, .append 54 8 120 (T 129) (T 132), none⟩, ⟨some 134, .addr 5 (T 10), none⟩, ⟨none, .store 1 (T 134) (T 133), none⟩] [(1, 3), (1, 4)]) (.seq (.region [⟨some 135, .move (T 0), none⟩, ⟨some 136, .call 74 [(T 135), (.const (.string { data := #[44] }))], none⟩, ⟨some 137, .un .not (T 136), none⟩]) (.cond (T 137) (.seq (.region [⟨some 138, .move (T 0), none⟩, ⟨some 139, .call 76 [(T 138), (.const (.string { data := #[125] }))], none⟩]) (.seq (.region [⟨some 140, .loadN 8 (T 10), none⟩, ⟨none, .store 8 (T 2) (T 140), none⟩]) (.ret))) (.skip))))))))))) (.seq (.region [⟨some 142, .move (T 0), none⟩, ⟨some 143, .call 74 [(T 142), (.const (.string { data := #[102, 108, 105, 112] }))], none⟩, ⟨some 141, .move (T 143), none⟩]) (.cond (T 141) (.seq (.region [⟨some 144, .loadN 5 (T 3), none⟩, ⟨some 145, .call 127 [(.const (.int .i64 14)), (T 144)], none⟩, ⟨some 11, .alloc 54 [(.int .i64 0), (.int .i64 0), (.string { data := #[] }), (.slice none 0 0), (.slice none 0 0), (.slice none 0 0), (.int .i64 0), (.int .i64 0)], none⟩, ⟨none, .store 8 (T 11) (T 145), none⟩]) (.seq (.region [⟨some 146, .move (T 0), none⟩, ⟨some 147, .call 76 [(T 146), (.const (.string { data := #[40] }))], none⟩]) (.seq (.region [⟨some 148, .move (T 0), none⟩, ⟨some 149, .call 128 [(T 148)], none⟩, ⟨some 150, .addr 4 (T 11), none⟩, ⟨none, .store 1 (T 150) (T 149), none⟩]) (.seq (.region [⟨some 151, .move (T 0), none⟩, ⟨some 152, .call 76 [(T 151), (.const (.string { data := #[41] }))], none⟩]) (.seq (.region [⟨some 153, .loadN 8 (T 11), none⟩, ⟨none, .store 8 (T 2) (T 153), none⟩]) (.ret)))))) (.seq (.region [⟨some 155, .move (T 0), none⟩, ⟨some 156, .call 74 [(T 155), (.const (.string { data := #[114, 97, 110, 103, 101] }))], none⟩, ⟨some 154, .move (T 156), none⟩]) (.cond (T 154) (.seq (.region [⟨some 157, .loadN 5 (T 3), none⟩, ⟨some 158, .call 127 [(.const (.int .i64 15)), (T 157)], none⟩, ⟨some 12, .alloc 54 [(.int .i64 0), (.int .i64 0), (.string { data := #[] }), (.slice none 0 0), (.slice none 0 0), (.slice none 0 0), (.int .i64 0), (.int .i64 0)], none⟩, ⟨none, .store 8 (T 12) (T 158), none⟩]) (.seq (.region [⟨some 159, .move (T 0), none⟩, ⟨some 160, .call 76 [(T 159), (.const (.string { data := #[40] }))], none⟩]) (.seq (.region [⟨some 161, .move (T 0), none⟩, ⟨some 162, .call 195 [(T 161)], none⟩, ⟨some 13, .move (T 162), none⟩]) (.seq (.region [⟨some 163, .move (T 0), none⟩, ⟨some 164, .call 76 [(T 163), (.const (.string { data := #[44] }))], none⟩]) (.seq (.region [⟨some 165, .move (T 13), none⟩, ⟨some 166, .move (T 0), none⟩, ⟨some 167, .call 195 [(T 166)], none⟩, ⟨some 168, .buildSlice 3 1 [(.int .i64 0)] 2 [(0, 1, (T 165)), (1, 1, (T 167))], none⟩, ⟨some 169, .addr 4 (T 12), none⟩, ⟨none, .store 1 (T 169) (T 168), none⟩]) (.seq (.region [⟨some 170, .move (T 0), none⟩, ⟨some 171, .call 76 [(T 170), (.const (.string { data := #[41] }))], none⟩]) (.seq (.region [⟨some 172, .loadN 8 (T 12), none⟩, ⟨none, .store 8 (T 2) (T 172), none⟩]) (.ret)))))))) (.skip)))))))))))))))))))) (.seq (.region [⟨some 173, .move (T 0), none⟩, ⟨some 174, .call 73 [(T 173)], none⟩]) (.seq (.region [⟨some 175, .build [(.int .i64 0), (.int .i64 0), (.string { data := #[] }), (.slice none 0 0), (.slice none 0 0), (.slice none 0 0), (.int .i64 0), (.int .i64 0)] [], none⟩, ⟨none, .store 8 (T 2) (T 175), none⟩]) (.ret)))))⟩
def x188 : XFun := ⟨9, [.tmp 4], .seq (.region [⟨some 4, .move (.const (.bool false)), none⟩]) (.seq (.region [⟨some 5, .move (T 0), none⟩, ⟨some 6, .move (T 1), none⟩, ⟨some 7, .call 146 [(T 5), (T 6)], none⟩, ⟨some 8, .bin .geq (T 7) (.const (.int .i64 0)), none⟩, ⟨some 4, .move (T 8), none⟩]) (.ret))⟩
def x189 : XFun := ⟨33, [.tmp 6], .seq (.region [⟨some 6, .move (.const (.bool false)), none⟩]) (.seq (.region [⟨some 9, .move (T 1), none⟩, ⟨some 10, .call 140 [(T 9)], none⟩, ⟨some 1, .move (T 10), none⟩]) (.seq (.seq (.region [⟨some 11, .move (T 0), none⟩, ⟨some 12, .move (T 1), none⟩, ⟨some 13, .eq .ptr false (T 11) (T 12), none⟩]) (.cond (T 13) (.seq (.region [⟨some 6, .move (.const (.bool true)), none⟩]) (.ret)) (.skip))) (.seq (.seq (.region [⟨some 14, .move (T 2), none⟩, ⟨some 15, .move (T 1), none⟩, ⟨some 16, .lookup .ptr (.bool false) (T 14) (T 15) false, none⟩]) (.cond (T 16) (.seq (.region [⟨some 6, .move (.const (.bool false)), none⟩]) (.ret)) (.skip))) (.seq (.region [⟨some 17, .move (T 2), none⟩, ⟨some 18, .move (T 1), none⟩, ⟨none, .mapUpdate .ptr (T 17) (T 18) (.const (.bool true)), none⟩]) (.seq (.seq (.region [⟨some 19, .move (T 1), none⟩, ⟨some 20, .nilCheck (T 19), none⟩, ⟨some 21, .addr 1 (T 20), none⟩, ⟨some 22, .load1 (T 21), none⟩, ⟨some 23, .lenSlice (T 22), none⟩, ⟨some 24, .move (.const (.int .i64 0)), none⟩]) (.block 0 (.loop (.seq (.region [⟨some 25, .bin .lss (T 24) (T 23), none⟩]) (.seq (.cond (T 25) (.skip) (.exit 0)) (.seq (.block 1 (.seq (.region [⟨some 26, .indexAddr 1 (T 22) (T 24), none⟩, ⟨some 27, .load1 (T 26), none⟩, ⟨some 8, .move (T 27), none⟩]) (.seq (.region [⟨some 28, .move (T 0), none⟩, ⟨some 29, .move (T 8), none⟩, ⟨some 30, .move (T 2), none⟩, ⟨some 31, .call 189 [(T 28), (T 29), (T 30)], none⟩]) (.cond (T 31) (.seq (.region [⟨some 6, .move (.const (.bool true)), none⟩]) (.ret)) (.skip))))) (.region [⟨some 32, .bin .add (T 24) (.const (.int .i64 1)), none⟩, ⟨some 24, .move (T 32), none⟩]))))))) (.seq (.region [⟨some 6, .move (.const (.bool false)), none⟩]) (.ret)))))))⟩
def x192 : XFun := ⟨18, [.tmp 4], .seq (.region [⟨some 4, .move (.const (.bool false)), none⟩]) (.seq (.region [⟨some 5, .move (T 0), none⟩, ⟨some 6, .lenStr (T 5), none⟩, ⟨some 7, .move (T 1), none⟩, ⟨some 8, .lenStr (T 7), none⟩, ⟨some 9, .bin .geq (T 6) (T 8), none⟩, ⟨some 10, .move (T 9), none⟩, ⟨some 11, .move (T 0), (some (10, true))⟩, ⟨some 12, .move (T 1), (some (10, true))⟩, ⟨some 13, .lenStr (T 12), (some (10, true))⟩, ⟨some 14, .sliceStr (T 11) none (some (T 13)), (some (10, true))⟩, ⟨some 15, .move (T 1), (some (10, true))⟩, ⟨some 16, .bin .eql (T 14) (T 15), (some (10, true))⟩, ⟨some 17, .pick (T 10) (T 16) (.const (.bool false)), none⟩, ⟨some 4, .move (T 17), none⟩]) (.ret))⟩
end Go.Xe.YtalckpkiplhbcaaGreatDoor
end
section
namespace Go.Xe.YtalckpkiplhbcaaGreatDoor
open Go Go.Xe Go.Proofs
def glb : Glb := ⟨fun i => Nat.beq i 0, goodW Tryz.prog⟩
def glo : Glb := ⟨fun _ => false, goodW Tryz.prog⟩
theorem d4 : compFun Tryz.prog glo Tryz.f4 = some x4 := by kernel_rfl
theorem d6 : compFun Tryz.prog glo Tryz.f6 = some x6 := by kernel_rfl
theorem d7 : compFun Tryz.prog glo Tryz.f7 = some x7 := by kernel_rfl
theorem d13 : compFun Tryz.prog glo Tryz.f13 = some x13 := by kernel_rfl
theorem d14 : compFun Tryz.prog glo Tryz.f14 = some x14 := by kernel_rfl
theorem d23 : compFun Tryz.prog glo Tryz.f23 = some x23 := by kernel_rfl
theorem d24 : compFun Tryz.prog glo Tryz.f24 = some x24 := by kernel_rfl
theorem d25 : compFun Tryz.prog glo Tryz.f25 = some x25 := by kernel_rfl
theorem d35 : compFun Tryz.prog glo Tryz.f35 = some x35 := by kernel_rfl
theorem d36 : compFun Tryz.prog glo Tryz.f36 = some x36 := by kernel_rfl
theorem d37 : compFun Tryz.prog glo Tryz.f37 = some x37 := by kernel_rfl
theorem d38 : compFun Tryz.prog glo Tryz.f38 = some x38 := by kernel_rfl
theorem d39 : compFun Tryz.prog glo Tryz.f39 = some x39 := by kernel_rfl
theorem d40 : compFun Tryz.prog glo Tryz.f40 = some x40 := by kernel_rfl
theorem d47 : compFun Tryz.prog glo Tryz.f47 = some x47 := by kernel_rfl
theorem d64 : compFun Tryz.prog glo Tryz.f64 = some x64 := by kernel_rfl
theorem d65 : compFun Tryz.prog glo Tryz.f65 = some x65 := by kernel_rfl
theorem d106 : compFun Tryz.prog glo Tryz.f106 = some x106 := by kernel_rfl
theorem d107 : compFun Tryz.prog glo Tryz.f107 = some x107 := by kernel_rfl
theorem d108 : compFun Tryz.prog glo Tryz.f108 = some x108 := by kernel_rfl
theorem d109 : compFun Tryz.prog glo Tryz.f109 = some x109 := by kernel_rfl
theorem d110 : compFun Tryz.prog glo Tryz.f110 = some x110 := by kernel_rfl
theorem d158 : compFun Tryz.prog glo Tryz.f158 = some x158 := by kernel_rfl
theorem d159 : compFun Tryz.prog glo Tryz.f159 = some x159 := by kernel_rfl
theorem d165 : compFun Tryz.prog glo Tryz.f165 = some x165 := by kernel_rfl
theorem d180 : compFun Tryz.prog glo Tryz.f180 = some x180 := by kernel_rfl
theorem d181 : compFun Tryz.prog glo Tryz.f181 = some x181 := by kernel_rfl
theorem d182 : compFun Tryz.prog glo Tryz.f182 = some x182 := by kernel_rfl
theorem c4 : compFun Tryz.prog glb Tryz.f4 = some x4 := by kernel_rfl
theorem c6 : compFun Tryz.prog glb Tryz.f6 = some x6 := by kernel_rfl
theorem c7 : compFun Tryz.prog glb Tryz.f7 = some x7 := by kernel_rfl
theorem c8 : compFun Tryz.prog glb Tryz.f8 = some x8 := by kernel_rfl
theorem c9 : compFun Tryz.prog glb Tryz.f9 = some x9 := by kernel_rfl
theorem c11 : compFun Tryz.prog glb Tryz.f11 = some x11 := by kernel_rfl
theorem c13 : compFun Tryz.prog glb Tryz.f13 = some x13 := by kernel_rfl
theorem c14 : compFun Tryz.prog glb Tryz.f14 = some x14 := by kernel_rfl
theorem c17 : compFun Tryz.prog glb Tryz.f17 = some x17 := by kernel_rfl
theorem c19 : compFun Tryz.prog glb Tryz.f19 = some x19 := by kernel_rfl
theorem c21 : compFun Tryz.prog glb Tryz.f21 = some x21 := by kernel_rfl
theorem c23 : compFun Tryz.prog glb Tryz.f23 = some x23 := by kernel_rfl
theorem c24 : compFun Tryz.prog glb Tryz.f24 = some x24 := by kernel_rfl
theorem c25 : compFun Tryz.prog glb Tryz.f25 = some x25 := by kernel_rfl
theorem c26 : compFun Tryz.prog glb Tryz.f26 = some x26 := by kernel_rfl
theorem c27 : compFun Tryz.prog glb Tryz.f27 = some x27 := by kernel_rfl
theorem c28 : compFun Tryz.prog glb Tryz.f28 = some x28 := by kernel_rfl
theorem c29 : compFun Tryz.prog glb Tryz.f29 = some x29 := by kernel_rfl
theorem c32 : compFun Tryz.prog glb Tryz.f32 = some x32 := by kernel_rfl
theorem c35 : compFun Tryz.prog glb Tryz.f35 = some x35 := by kernel_rfl
theorem c36 : compFun Tryz.prog glb Tryz.f36 = some x36 := by kernel_rfl
theorem c37 : compFun Tryz.prog glb Tryz.f37 = some x37 := by kernel_rfl
theorem c38 : compFun Tryz.prog glb Tryz.f38 = some x38 := by kernel_rfl
theorem c39 : compFun Tryz.prog glb Tryz.f39 = some x39 := by kernel_rfl
theorem c40 : compFun Tryz.prog glb Tryz.f40 = some x40 := by kernel_rfl
theorem c41 : compFun Tryz.prog glb Tryz.f41 = some x41 := by kernel_rfl
theorem c42 : compFun Tryz.prog glb Tryz.f42 = some x42 := by kernel_rfl
theorem c43 : compFun Tryz.prog glb Tryz.f43 = some x43 := by kernel_rfl
theorem c47 : compFun Tryz.prog glb Tryz.f47 = some x47 := by kernel_rfl
theorem c48 : compFun Tryz.prog glb Tryz.f48 = some x48 := by kernel_rfl
theorem c49 : compFun Tryz.prog glb Tryz.f49 = some x49 := by kernel_rfl
theorem c50 : compFun Tryz.prog glb Tryz.f50 = some x50 := by kernel_rfl
theorem c51 : compFun Tryz.prog glb Tryz.f51 = some x51 := by kernel_rfl
theorem c52 : compFun Tryz.prog glb Tryz.f52 = some x52 := by kernel_rfl
theorem c53 : compFun Tryz.prog glb Tryz.f53 = some x53 := by kernel_rfl
theorem c55 : compFun Tryz.prog glb Tryz.f55 = some x55 := by kernel_rfl
theorem c56 : compFun Tryz.prog glb Tryz.f56 = some x56 := by kernel_rfl
theorem c57 : compFun Tryz.prog glb Tryz.f57 = some x57 := by kernel_rfl
theorem c60 : compFun Tryz.prog glb Tryz.f60 = some x60 := by kernel_rfl
theorem c61 : compFun Tryz.prog glb Tryz.f61 = some x61 := by kernel_rfl
theorem c64 : compFun Tryz.prog glb Tryz.f64 = some x64 := by kernel_rfl
theorem c65 : compFun Tryz.prog glb Tryz.f65 = some x65 := by kernel_rfl
theorem c66 : compFun Tryz.prog glb Tryz.f66 = some x66 := by kernel_rfl
theorem c67 : compFun Tryz.prog glb Tryz.f67 = some x67 := by kernel_rfl
theorem c68 : compFun Tryz.prog glb Tryz.f68 = some x68 := by kernel_rfl
theorem c69 : compFun Tryz.prog glb Tryz.f69 = some x69 := by kernel_rfl
theorem c70 : compFun Tryz.prog glb Tryz.f70 = some x70 := by kernel_rfl
theorem c71 : compFun Tryz.prog glb Tryz.f71 = some x71 := by kernel_rfl
theorem c72 : compFun Tryz.prog glb Tryz.f72 = some x72 := by kernel_rfl
theorem c74 : compFun Tryz.prog glb Tryz.f74 = some x74 := by kernel_rfl
theorem c76 : compFun Tryz.prog glb Tryz.f76 = some x76 := by kernel_rfl
theorem c78 : compFun Tryz.prog glb Tryz.f78 = some x78 := by kernel_rfl
theorem c81 : compFun Tryz.prog glb Tryz.f81 = some x81 := by kernel_rfl
theorem c82 : compFun Tryz.prog glb Tryz.f82 = some x82 := by kernel_rfl
theorem c83 : compFun Tryz.prog glb Tryz.f83 = some x83 := by kernel_rfl
theorem c84 : compFun Tryz.prog glb Tryz.f84 = some x84 := by kernel_rfl
theorem c86 : compFun Tryz.prog glb Tryz.f86 = some x86 := by kernel_rfl
theorem c88 : compFun Tryz.prog glb Tryz.f88 = some x88 := by kernel_rfl
theorem c90 : compFun Tryz.prog glb Tryz.f90 = some x90 := by kernel_rfl
theorem c91 : compFun Tryz.prog glb Tryz.f91 = some x91 := by kernel_rfl
theorem c92 : compFun Tryz.prog glb Tryz.f92 = some x92 := by kernel_rfl
theorem c93 : compFun Tryz.prog glb Tryz.f93 = some x93 := by kernel_rfl
theorem c94 : compFun Tryz.prog glb Tryz.f94 = some x94 := by kernel_rfl
theorem c97 : compFun Tryz.prog glb Tryz.f97 = some x97 := by kernel_rfl
theorem c98 : compFun Tryz.prog glb Tryz.f98 = some x98 := by kernel_rfl
theorem c99 : compFun Tryz.prog glb Tryz.f99 = some x99 := by kernel_rfl
theorem c100 : compFun Tryz.prog glb Tryz.f100 = some x100 := by kernel_rfl
theorem c101 : compFun Tryz.prog glb Tryz.f101 = some x101 := by kernel_rfl
theorem c106 : compFun Tryz.prog glb Tryz.f106 = some x106 := by kernel_rfl
theorem c107 : compFun Tryz.prog glb Tryz.f107 = some x107 := by kernel_rfl
theorem c108 : compFun Tryz.prog glb Tryz.f108 = some x108 := by kernel_rfl
theorem c109 : compFun Tryz.prog glb Tryz.f109 = some x109 := by kernel_rfl
theorem c110 : compFun Tryz.prog glb Tryz.f110 = some x110 := by kernel_rfl
theorem c111 : compFun Tryz.prog glb Tryz.f111 = some x111 := by kernel_rfl
theorem c112 : compFun Tryz.prog glb Tryz.f112 = some x112 := by kernel_rfl
theorem c122 : compFun Tryz.prog glb Tryz.f122 = some x122 := by kernel_rfl
theorem c123 : compFun Tryz.prog glb Tryz.f123 = some x123 := by kernel_rfl
theorem c124 : compFun Tryz.prog glb Tryz.f124 = some x124 := by kernel_rfl
theorem c125 : compFun Tryz.prog glb Tryz.f125 = some x125 := by kernel_rfl
theorem c127 : compFun Tryz.prog glb Tryz.f127 = some x127 := by kernel_rfl
theorem c128 : compFun Tryz.prog glb Tryz.f128 = some x128 := by kernel_rfl
theorem c129 : compFun Tryz.prog glb Tryz.f129 = some x129 := by kernel_rfl
theorem c130 : compFun Tryz.prog glb Tryz.f130 = some x130 := by kernel_rfl
theorem c131 : compFun Tryz.prog glb Tryz.f131 = some x131 := by kernel_rfl
theorem c132 : compFun Tryz.prog glb Tryz.f132 = some x132 := by kernel_rfl
theorem c133 : compFun Tryz.prog glb Tryz.f133 = some x133 := by kernel_rfl
theorem c134 : compFun Tryz.prog glb Tryz.f134 = some x134 := by kernel_rfl
theorem c138 : compFun Tryz.prog glb Tryz.f138 = some x138 := by kernel_rfl
theorem c139 : compFun Tryz.prog glb Tryz.f139 = some x139 := by kernel_rfl
theorem c140 : compFun Tryz.prog glb Tryz.f140 = some x140 := by kernel_rfl
theorem c141 : compFun Tryz.prog glb Tryz.f141 = some x141 := by kernel_rfl
theorem c142 : compFun Tryz.prog glb Tryz.f142 = some x142 := by kernel_rfl
theorem c143 : compFun Tryz.prog glb Tryz.f143 = some x143 := by kernel_rfl
theorem c146 : compFun Tryz.prog glb Tryz.f146 = some x146 := by kernel_rfl
theorem c147 : compFun Tryz.prog glb Tryz.f147 = some x147 := by kernel_rfl
theorem c148 : compFun Tryz.prog glb Tryz.f148 = some x148 := by kernel_rfl
theorem c150 : compFun Tryz.prog glb Tryz.f150 = some x150 := by kernel_rfl
theorem c151 : compFun Tryz.prog glb Tryz.f151 = some x151 := by kernel_rfl
theorem c152 : compFun Tryz.prog glb Tryz.f152 = some x152 := by kernel_rfl
theorem c158 : compFun Tryz.prog glb Tryz.f158 = some x158 := by kernel_rfl
theorem c159 : compFun Tryz.prog glb Tryz.f159 = some x159 := by kernel_rfl
theorem c165 : compFun Tryz.prog glb Tryz.f165 = some x165 := by kernel_rfl
theorem c166 : compFun Tryz.prog glb Tryz.f166 = some x166 := by kernel_rfl
theorem c167 : compFun Tryz.prog glb Tryz.f167 = some x167 := by kernel_rfl
theorem c169 : compFun Tryz.prog glb Tryz.f169 = some x169 := by kernel_rfl
theorem c170 : compFun Tryz.prog glb Tryz.f170 = some x170 := by kernel_rfl
theorem c171 : compFun Tryz.prog glb Tryz.f171 = some x171 := by kernel_rfl
theorem c172 : compFun Tryz.prog glb Tryz.f172 = some x172 := by kernel_rfl
theorem c174 : compFun Tryz.prog glb Tryz.f174 = some x174 := by kernel_rfl
theorem c175 : compFun Tryz.prog glb Tryz.f175 = some x175 := by kernel_rfl
theorem c176 : compFun Tryz.prog glb Tryz.f176 = some x176 := by kernel_rfl
theorem c177 : compFun Tryz.prog glb Tryz.f177 = some x177 := by kernel_rfl
theorem c180 : compFun Tryz.prog glb Tryz.f180 = some x180 := by kernel_rfl
theorem c181 : compFun Tryz.prog glb Tryz.f181 = some x181 := by kernel_rfl
theorem c182 : compFun Tryz.prog glb Tryz.f182 = some x182 := by kernel_rfl
theorem c185 : compFun Tryz.prog glb Tryz.f185 = some x185 := by kernel_rfl
theorem c187 : compFun Tryz.prog glb Tryz.f187 = some x187 := by kernel_rfl
theorem c188 : compFun Tryz.prog glb Tryz.f188 = some x188 := by kernel_rfl
theorem c189 : compFun Tryz.prog glb Tryz.f189 = some x189 := by kernel_rfl
theorem c192 : compFun Tryz.prog glb Tryz.f192 = some x192 := by kernel_rfl
def tabL : List (Nat × XFun) := [(4, x4), (6, x6), (7, x7), (8, x8), (9, x9), (11, x11), (13, x13), (14, x14), (17, x17), (19, x19), (21, x21), (23, x23), (24, x24), (25, x25), (26, x26), (27, x27), (28, x28), (29, x29), (32, x32), (35, x35), (36, x36), (37, x37), (38, x38), (39, x39), (40, x40), (41, x41), (42, x42), (43, x43), (47, x47), (48, x48), (49, x49), (50, x50), (51, x51), (52, x52), (53, x53), (55, x55), (56, x56), (57, x57), (60, x60), (61, x61), (64, x64), (65, x65), (66, x66), (67, x67), (68, x68), (69, x69), (70, x70), (71, x71), (72, x72), (74, x74), (76, x76), (78, x78), (81, x81), (82, x82), (83, x83), (84, x84), (86, x86), (88, x88), (90, x90), (91, x91), (92, x92), (93, x93), (94, x94), (97, x97), (98, x98), (99, x99), (100, x100), (101, x101), (106, x106), (107, x107), (108, x108), (109, x109), (110, x110), (111, x111), (112, x112), (122, x122), (123, x123), (124, x124), (125, x125), (127, x127), (128, x128), (129, x129), (130, x130), (131, x131), (132, x132), (133, x133), (134, x134), (138, x138), (139, x139), (140, x140), (141, x141), (142, x142), (143, x143), (146, x146), (147, x147), (148, x148), (150, x150), (151, x151), (152, x152), (158, x158), (159, x159), (165, x165), (166, x166), (167, x167), (169, x169), (170, x170), (171, x171), (172, x172), (174, x174), (175, x175), (176, x176), (177, x177), (180, x180), (181, x181), (182, x182), (185, x185), (187, x187), (188, x188), (189, x189), (192, x192)]
def tab : Tri XFun := (.node (.node (.node (.node (.node (.node (.node (.node .nil (some x127) .nil) none .nil) none (.node (.node .nil (some x159) .nil) none .nil)) none (.node (.node (.node .nil (some x143) .nil) none .nil) (some x47) (.node (.node .nil (some x175) .nil) (some x111) .nil))) (some x7) (.node (.node (.node .nil (some x71) .nil) (some x39) (.node (.node .nil (some x167) .nil) none .nil)) (some x23) (.node (.node (.node .nil (some x151) .nil) none .nil) (some x55) .nil))) none (.node (.node (.node (.node (.node .nil (some x131) .nil) (some x67) .nil) (some x35) (.node .nil (some x99) .nil)) (some x19) (.node (.node (.node .nil (some x147) .nil) (some x83) .nil) (some x51) .nil)) (some x11) (.node (.node (.node (.node .nil (some x139) .nil) none .nil) (some x43) (.node (.node .nil (some x171) .nil) (some x107) .nil)) (some x27) (.node (.node .nil (some x91) .nil) none (.node (.node .nil (some x187) .nil) (some x123) .nil))))) none (.node (.node (.node (.node (.node (.node .nil (some x129) .nil) (some x65) .nil) none (.node .nil (some x97) .nil)) (some x17) (.node (.node .nil (some x81) .nil) (some x49) (.node (.node .nil (some x177) .nil) none .nil))) (some x9) (.node (.node .nil (some x41) (.node (.node .nil (some x169) .nil) none .nil)) (some x25) (.node .nil (some x57) (.node (.node .nil (some x185) .nil) none .nil)))) none (.node (.node (.node (.node (.node .nil (some x133) .nil) (some x69) .nil) (some x37) (.node (.node .nil (some x165) .nil) (some x101) .nil)) (some x21) (.node .nil (some x53) (.node (.node .nil (some x181) .nil) none .nil))) (some x13) (.node (.node (.node (.node .nil (some x141) .nil) none .nil) none (.node .nil (some x109) .nil)) (some x29) (.node (.node .nil (some x93) .nil) (some x61) (.node (.node .nil (some x189) .nil) (some x125) .nil)))))) none (.node (.node (.node (.node (.node (.node (.node .nil (some x128) .nil) (some x64) (.node .nil (some x192) .nil)) (some x32) .nil) none (.node .nil (some x48) (.node (.node .nil (some x176) .nil) (some x112) .nil))) (some x8) (.node (.node (.node .nil (some x72) .nil) (some x40) .nil) (some x24) (.node (.node (.node .nil (some x152) .nil) (some x88) .nil) (some x56) .nil))) (some x4) (.node (.node (.node (.node (.node .nil (some x132) .nil) (some x68) .nil) (some x36) (.node .nil (some x100) .nil)) none (.node (.node (.node .nil (some x148) .nil) (some x84) .nil) (some x52) (.node (.node .nil (some x180) .nil) none .nil))) none (.node (.node (.node (.node .nil (some x140) .nil) (some x76) .nil) none (.node (.node .nil (some x172) .nil) (some x108) .nil)) (some x28) (.node (.node .nil (some x92) .nil) (some x60) (.node (.node .nil (some x188) .nil) (some x124) .nil))))) none (.node (.node (.node (.node (.node (.node .nil (some x130) .nil) (some x66) .nil) none (.node .nil (some x98) .nil)) none (.node (.node (.node .nil (some x146) .nil) (some x82) .nil) (some x50) .nil)) none (.node (.node (.node (.node .nil (some x138) .nil) (some x74) .nil) (some x42) (.node (.node .nil (some x170) .nil) (some x106) .nil)) (some x26) (.node (.node .nil (some x90) .nil) none (.node .nil (some x122) .nil)))) (some x6) (.node (.node (.node (.node (.node .nil (some x134) .nil) (some x70) .nil) (some x38) (.node (.node .nil (some x166) .nil) none .nil)) none (.node (.node (.node .nil (some x150) .nil) (some x86) .nil) none (.node (.node .nil (some x182) .nil) none .nil))) (some x14) (.node (.node (.node (.node .nil (some x142) .nil) (some x78) .nil) none (.node (.node .nil (some x174) .nil) (some x110) .nil)) none (.node (.node (.node .nil (some x158) .nil) (some x94) .nil) none .nil))))))
theorem tab_eq : ofPairs tabL .nil = tab := by kernel_rfl
theorem tabL_ok : AllOk Tryz.prog glb tabL :=
  .cons Tryz.func4 c4 (
  .cons Tryz.func6 c6 (
  .cons Tryz.func7 c7 (
  .cons Tryz.func8 c8 (
  .cons Tryz.func9 c9 (
  .cons Tryz.func11 c11 (
  .cons Tryz.func13 c13 (
  .cons Tryz.func14 c14 (
  .cons Tryz.func17 c17 (
  .cons Tryz.func19 c19 (
  .cons Tryz.func21 c21 (
  .cons Tryz.func23 c23 (
  .cons Tryz.func24 c24 (
  .cons Tryz.func25 c25 (
  .cons Tryz.func26 c26 (
  .cons Tryz.func27 c27 (
  .cons Tryz.func28 c28 (
  .cons Tryz.func29 c29 (
  .cons Tryz.func32 c32 (
  .cons Tryz.func35 c35 (
  .cons Tryz.func36 c36 (
  .cons Tryz.func37 c37 (
  .cons Tryz.func38 c38 (
  .cons Tryz.func39 c39 (
  .cons Tryz.func40 c40 (
  .cons Tryz.func41 c41 (
  .cons Tryz.func42 c42 (
  .cons Tryz.func43 c43 (
  .cons Tryz.func47 c47 (
  .cons Tryz.func48 c48 (
  .cons Tryz.func49 c49 (
  .cons Tryz.func50 c50 (
  .cons Tryz.func51 c51 (
  .cons Tryz.func52 c52 (
  .cons Tryz.func53 c53 (
  .cons Tryz.func55 c55 (
  .cons Tryz.func56 c56 (
  .cons Tryz.func57 c57 (
  .cons Tryz.func60 c60 (
  .cons Tryz.func61 c61 (
  .cons Tryz.func64 c64 (
  .cons Tryz.func65 c65 (
  .cons Tryz.func66 c66 (
  .cons Tryz.func67 c67 (
  .cons Tryz.func68 c68 (
  .cons Tryz.func69 c69 (
  .cons Tryz.func70 c70 (
  .cons Tryz.func71 c71 (
  .cons Tryz.func72 c72 (
  .cons Tryz.func74 c74 (
  .cons Tryz.func76 c76 (
  .cons Tryz.func78 c78 (
  .cons Tryz.func81 c81 (
  .cons Tryz.func82 c82 (
  .cons Tryz.func83 c83 (
  .cons Tryz.func84 c84 (
  .cons Tryz.func86 c86 (
  .cons Tryz.func88 c88 (
  .cons Tryz.func90 c90 (
  .cons Tryz.func91 c91 (
  .cons Tryz.func92 c92 (
  .cons Tryz.func93 c93 (
  .cons Tryz.func94 c94 (
  .cons Tryz.func97 c97 (
  .cons Tryz.func98 c98 (
  .cons Tryz.func99 c99 (
  .cons Tryz.func100 c100 (
  .cons Tryz.func101 c101 (
  .cons Tryz.func106 c106 (
  .cons Tryz.func107 c107 (
  .cons Tryz.func108 c108 (
  .cons Tryz.func109 c109 (
  .cons Tryz.func110 c110 (
  .cons Tryz.func111 c111 (
  .cons Tryz.func112 c112 (
  .cons Tryz.func122 c122 (
  .cons Tryz.func123 c123 (
  .cons Tryz.func124 c124 (
  .cons Tryz.func125 c125 (
  .cons Tryz.func127 c127 (
  .cons Tryz.func128 c128 (
  .cons Tryz.func129 c129 (
  .cons Tryz.func130 c130 (
  .cons Tryz.func131 c131 (
  .cons Tryz.func132 c132 (
  .cons Tryz.func133 c133 (
  .cons Tryz.func134 c134 (
  .cons Tryz.func138 c138 (
  .cons Tryz.func139 c139 (
  .cons Tryz.func140 c140 (
  .cons Tryz.func141 c141 (
  .cons Tryz.func142 c142 (
  .cons Tryz.func143 c143 (
  .cons Tryz.func146 c146 (
  .cons Tryz.func147 c147 (
  .cons Tryz.func148 c148 (
  .cons Tryz.func150 c150 (
  .cons Tryz.func151 c151 (
  .cons Tryz.func152 c152 (
  .cons Tryz.func158 c158 (
  .cons Tryz.func159 c159 (
  .cons Tryz.func165 c165 (
  .cons Tryz.func166 c166 (
  .cons Tryz.func167 c167 (
  .cons Tryz.func169 c169 (
  .cons Tryz.func170 c170 (
  .cons Tryz.func171 c171 (
  .cons Tryz.func172 c172 (
  .cons Tryz.func174 c174 (
  .cons Tryz.func175 c175 (
  .cons Tryz.func176 c176 (
  .cons Tryz.func177 c177 (
  .cons Tryz.func180 c180 (
  .cons Tryz.func181 c181 (
  .cons Tryz.func182 c182 (
  .cons Tryz.func185 c185 (
  .cons Tryz.func187 c187 (
  .cons Tryz.func188 c188 (
  .cons Tryz.func189 c189 (
  .cons Tryz.func192 c192 (
  .nil))))))))))))))))))))))))))))))))))))))))))))))))))))))))))))))))))))))))))))))))))))))))))))))))))))))))))))))))))))))))
end Go.Xe.YtalckpkiplhbcaaGreatDoor
end
section
namespace Go.Xe
open Go
set_option linter.unusedVariables false
set_option linter.unusedSimpArgs false
inductive Rdx (P : Program) (g : Hp) {H : Type} : TypeId → List Value → DataW H → Prop
  | bool {t : TypeId} (b : Bool) : P.underlying t = some .bool → Rdx P g t [.bool b] (.lit (.bool b))
  | int {t : TypeId} {k : IntKind} (n : Int) : P.underlying t = some (.int k) → (Lit.int k n).wf = true → Rdx P g t [.int k n] (.lit (.int k n))
  | str {t : TypeId} (s : ByteArray) : P.underlying t = some .string → s.size ≤ maxLen → Rdx P g t [.string s] (.lit (.string s.data.toList))
  | nil {t e : TypeId} : P.underlying t = some (.slice e) → Rdx P g t [.slice none 0 0] .nil
  | slice {t e : TypeId} (id len cap : Nat) (ds sp : List (DataW H)) (C : Nat → List Value) : P.underlying t = some (.slice e) → ds.length = len → len ≤ cap → cap ≤ maxLen →
    (∀ (i : Nat) (d : DataW H), ds[i]? = some d → loadList g ⟨id, i * P.cellsOf e, none⟩ (P.cellsOf e) = some (C i)) → (∀ (i : Nat) (d : DataW H), ds[i]? = some d → Rdx P g e (C i) d) → Rdx P g t [.slice (some ⟨id, 0, none⟩) len cap] (.slice ds sp)
  | struct {t : TypeId} {fs : Array Field} (cs : List Value) (ds : List (DataW H)) : P.underlying t = some (.struct fs) → cs.length = P.cellsOf t → ds.length = fs.size →
    (∀ (i : Nat) (f : Field) (d : DataW H), fs[i]? = some f → ds[i]? = some d → Rdx P g f.type ((cs.drop f.offset).take (P.cellsOf f.type)) d) → Rdx P g t cs (.agg ds)
theorem loadList_mono {g g' : Hp} (h : ∀ k o, g k = some o → g' k = some o) {a : Addr} {n : Nat} {l : List Value} (hl : loadList g a n = some l) : loadList g' a n = some l := by
  obtain ⟨i, o, ver, vs, e, ro, rfl, hg, hle, rfl⟩ := loadList_some hl
  simp only [loadList, h _ _ hg]
  have : Nat.ble (o + n) vs.length = true := Nat.ble_eq_true_of_le hle
  rw [this]
theorem Rdx.mono {P : Program} {g g' : Hp} {H : Type} (h : ∀ k o, g k = some o → g' k = some o) {t : TypeId} {cs : List Value} {d : DataW H} (r : Rdx P g t cs d) : Rdx P g' t cs d := by
  induction r with
  | bool b ht => exact .bool b ht
  | int n ht hw => exact .int n ht hw
  | str s ht hs => exact .str s ht hs
  | nil ht => exact .nil ht
  | slice id len cap ds sp C ht hl hc hm h1 h2 ih => exact .slice id len cap ds sp C ht hl hc hm (fun i d hd => loadList_mono h (h1 i d hd)) ih
  | struct cs ds ht hl hn h2 ih => exact .struct cs ds ht hl hn ih
abbrev Lst := List (AObj × (Nat × Nat × Nat))
def gL (L : Lst) : Hp := fun k => (L[k]?).map (·.1)
def φL (L : Lst) : Loc := fun k => (L[k]?).map (·.2)
def ExtL (L L' : Lst) : Prop := ∃ M, L' = L ++ M
theorem ExtL.refl (L : Lst) : ExtL L L := ⟨[], by simp⟩
theorem ExtL.trans {L L' L'' : Lst} (a : ExtL L L') (b : ExtL L' L'') : ExtL L L'' := by
  obtain ⟨M, rfl⟩ := a; obtain ⟨N, rfl⟩ := b; exact ⟨M ++ N, by simp⟩
theorem ExtL.get {L L' : Lst} (h : ExtL L L') {k : Nat} {x : AObj × (Nat × Nat × Nat)} (hk : L[k]? = some x) : L'[k]? = some x := by
  obtain ⟨M, rfl⟩ := h
  rw [List.getElem?_append_left (List.getElem?_eq_some_iff.1 hk).1]; exact hk
theorem ExtL.g {L L' : Lst} (h : ExtL L L') : ∀ k o, gL L k = some o → gL L' k = some o := fun k o e => by
  unfold gL at e ⊢
  cases hk : L[k]? with
  | none => rw [hk] at e; cases e
  | some x => rw [hk] at e; rw [h.get hk]; exact e
theorem ExtL.φ {L L' : Lst} (h : ExtL L L') : (φL L).le (φL L') := fun k o e => by
  unfold φL at e ⊢
  cases hk : L[k]? with
  | none => rw [hk] at e; cases e
  | some x => rw [hk] at e; rw [h.get hk]; exact e
def LOk (w : World) (L : Lst) : Prop := ∀ (k : Nat) (o : AObj) (b d t : Nat), L[k]? = some (o, (b, d, t)) → o.body.isRo = true ∧ ∃ ob, w.heap[b]? = some ob ∧ ORel (φL L) d t o.body ob
theorem LOk.nil (w : World) : LOk w [] := fun k o b d t h => by simp at h
section
variable {H : Type} {enc : TypeId × Value → H} {P : Program} {w : World}
def Lay (P : Program) (w : World) (t : TypeId) (cs : List Value) (d : DataW H) : Prop :=
  ∀ L, LOk w L → ∃ L' : Lst, ∃ cs' : List Value, ExtL L L' ∧ LOk w L' ∧ VRels (φL L') cs' cs ∧ ones cs' = true ∧ Rdx P (gL L') t cs' d
theorem lay_many (t : TypeId) {n : Nat} {cs : Nat → List Value} {D : Nat → DataW H} (h : ∀ i, i < n → Lay P w t (cs i) (D i)) : ∀ L, LOk w L →
    ∃ L' : Lst, ∃ C : Nat → List Value, ExtL L L' ∧ LOk w L' ∧ ∀ i, i < n → VRels (φL L') (C i) (cs i) ∧ ones (C i) = true ∧ Rdx P (gL L') t (C i) (D i) := by
  induction n with
  | zero => intro L hL; exact ⟨L, fun _ => [], ExtL.refl L, hL, fun i hi => by omega⟩
  | succ n ih =>
    intro L hL
    obtain ⟨L1, C, h1, h2, h3⟩ := ih (fun i hi => h i (by omega)) L hL
    obtain ⟨L2, c, k1, k2, k3, k4, k5⟩ := h n (by omega) L1 h2
    refine ⟨L2, fun i => if i = n then c else C i, h1.trans k1, k2, fun i hi => ?_⟩
    by_cases e : i = n
    · subst e; simp only [if_true]; exact ⟨k3, k4, k5⟩
    · simp only [if_neg e]
      obtain ⟨q1, q2, q3⟩ := h3 i (by omega)
      exact ⟨q1.mono k1.φ, q2, q3.mono k1.g⟩
def rowOfCells (C : Nat → List Value) : Nat → List Value
  | 0 => []
  | n + 1 => rowOfCells C n ++ C n
theorem rowOfCells_len {C : Nat → List Value} {c : Nat} : ∀ n, (∀ i, i < n → (C i).length = c) → (rowOfCells C n).length = n * c
  | 0, _ => by simp [rowOfCells]
  | n + 1, h => by rw [rowOfCells, List.length_append, rowOfCells_len n (fun i hi => h i (by omega)), h n (by omega), Nat.succ_mul]
theorem rowOfCells_chunk {C : Nat → List Value} {c : Nat} : ∀ n, (∀ i, i < n → (C i).length = c) → ∀ i, i < n → ((rowOfCells C n).drop (i * c)).take c = C i
  | 0, _, i, h => by omega
  | n + 1, hl, i, hi => by
    have hn := rowOfCells_len n (fun i hi => hl i (by omega))
    rw [rowOfCells]
    by_cases e : i = n
    · subst e
      rw [List.drop_append_of_le_length (by omega), List.drop_of_length_le (by omega), List.nil_append, List.take_of_length_le (by rw [hl i (by omega)]; exact Nat.le_refl _)]
    · have hle : i * c + c ≤ n * c := by have := Nat.mul_le_mul_right c (show i + 1 ≤ n by omega); rw [Nat.succ_mul] at this; exact this
      rw [List.drop_append_of_le_length (by omega), List.take_append_of_le_length (by simp; omega)]
      exact rowOfCells_chunk n (fun i hi => hl i (by omega)) i (by omega)
theorem rowOfCells_rel {φ : Loc} {C D : Nat → List Value} : ∀ n, (∀ i, i < n → VRels φ (C i) (D i)) → VRels φ (rowOfCells C n) (rowOfCells D n)
  | 0, _ => .nil
  | n + 1, h => (rowOfCells_rel n (fun i hi => h i (by omega))).append (h n (by omega))
theorem rowOfCells_ones {C : Nat → List Value} : ∀ n, (∀ i, i < n → ones (C i) = true) → ones (rowOfCells C n) = true
  | 0, _ => rfl
  | n + 1, h => ones_append (rowOfCells_ones n (fun i hi => h i (by omega))) (h n (by omega))
def tiles (P : Program) : Nat → List Field → Option Nat
  | o, [] => some o
  | o, f :: r => match Nat.beq f.offset o with
    | true => tiles P (o + P.cellsOf f.type) r
    | false => none
def plainT (P : Program) (T : List TypeId) (t : TypeId) : Bool :=
  match P.underlying t with
  | some .bool | some (.int _) | some .string => true
  | some (.slice e) => T.contains e && Nat.blt 0 (P.cellsOf e)
  | some (.struct fs) => (fs.toList.all fun f => T.contains f.type) && (match tiles P 0 fs.toList with | some n => Nat.beq n (P.cellsOf t) | none => false)
  | _ => false
theorem lay_one {t : TypeId} {v : Value} {d : DataW H} (hv : ∀ φ, VRel φ v v) (ho : ones [v] = true) (hr : ∀ g, Rdx P g t [v] d) : Lay P w t [v] d :=
  fun L hL => ⟨L, [v], ExtL.refl L, hL, .cons (hv _) .nil, ho, hr _⟩
theorem LOk.push {L : Lst} (hL : LOk w L) {o : AObj} {b d t : Nat} (hro : o.body.isRo = true) {ob : Obj} (hb : w.heap[b]? = some ob) (h : ORel (φL (L ++ [(o, (b, d, t))])) d t o.body ob) : LOk w (L ++ [(o, (b, d, t))]) := by
  intro k o' b' d' t' hk
  by_cases hlt : k < L.length
  · rw [List.getElem?_append_left hlt] at hk
    obtain ⟨h1, ob', h2, h3⟩ := hL k o' b' d' t' hk
    exact ⟨h1, ob', h2, h3.mono (ExtL.φ ⟨[_], rfl⟩)⟩
  · have hke : k = L.length := by
      have := (List.getElem?_eq_some_iff.1 hk).1
      simp at this; omega
    subst hke
    simp at hk
    obtain ⟨rfl, rfl, rfl, rfl⟩ := hk
    exact ⟨hro, ob, hb, h⟩
theorem addr_add_spot {a : Addr} {v : Value} {n : Nat} (h : w.cell? (a.add n) = some v) (hn : n = 0) : a.spot = none := by
  subst hn
  have : a.add 0 = a := by unfold Addr.add; simp
  rw [this] at h
  exact World.cell?_spot h
theorem lay_slice {t e : TypeId} (ht : P.underlying t = some (.slice e)) (hc : 0 < P.cellsOf e) {a : Addr} {len cap : Nat} (hlc : len ≤ cap) (hcm : cap ≤ maxLen) {cs : Nat → List Value} {D : Nat → DataW H} {sp : List (DataW H)}
    (hcells : ∀ i, i < cap → w.cells? 0 (a.add (i * P.cellsOf e)) (P.cellsOf e) = some (cs i)) (hlay : ∀ i, i < cap → Lay P w e (cs i) (D i)) :
    Lay P w t [.slice (some a) len cap] (.slice ((List.range len).map D) sp) := by
  intro L hL
  by_cases h0 : cap = 0
  · obtain rfl : cap = 0 := h0
    obtain rfl : len = 0 := by omega
    refine ⟨L, [.slice (some ⟨0, 0, none⟩) 0 0], ExtL.refl L, hL, .cons (.slice0 _ _ _) .nil, rfl, ?_⟩
    exact .slice 0 0 0 [] sp (fun _ => []) ht rfl (Nat.le_refl _) (Nat.zero_le _) (fun i d h => by simp at h) (fun i d h => by simp at h)
  · obtain ⟨L1, C, h1, h2, h3⟩ := lay_many e (n := cap) hlay L hL
    obtain ⟨c, hcdef⟩ : ∃ c, c = P.cellsOf e := ⟨_, rfl⟩
    rw [← hcdef] at hcells hc
    have hcell := fun i hi => World.cells?_some (hcells i hi)
    have hlenC : ∀ i, i < cap → (C i).length = c := fun i hi => by rw [← (h3 i hi).1.length]; exact (hcell i hi).2.1
    have hlenD : ∀ i, i < cap → (cs i).length = c := fun i hi => (hcell i hi).2.1
    have hfirst : ∃ v, w.cell? (a.add 0) = some v := by
      have := (hcell 0 (by omega)).2.2 0 hc
      rw [Nat.zero_mul, Deep.add_add, List.getElem?_eq_getElem (by rw [hlenD 0 (by omega)]; exact hc)] at this
      exact ⟨_, this⟩
    obtain ⟨v0, hv0⟩ := hfirst
    have hspot := addr_add_spot hv0 rfl
    obtain ⟨b, off, spot⟩ := a
    simp only at hspot
    subst hspot
    have hblk : ∃ cc e' fr, w.heap[b]? = some (.cells cc e' fr) := by
      rw [add_none] at hv0
      unfold World.cell? at hv0
      simp only at hv0
      split at hv0
      · rename_i hb; exact ⟨_, _, _, hb⟩
      · cases hv0
    obtain ⟨cc, e', fr, hb⟩ := hblk
    have hrow : ∀ i, i < cap → ∀ j, j < c → cc[off + (i * c + j)]? = (cs i)[j]? := fun i hi j hj => by
      have := (hcell i hi).2.2 j hj
      rw [Deep.add_add, add_none, cell_of_blk hb] at this
      exact this
    have hpiece : ∀ m, m ≤ cap → (cc.toList.drop off).take (m * c) = rowOfCells cs m := by
      intro m
      induction m with
      | zero => intro _; simp [rowOfCells]
      | succ m ih =>
        intro hm
        rw [rowOfCells, ← ih (by omega), Nat.succ_mul, List.take_add]
        congr 1
        apply List.ext_getElem?
        intro j
        by_cases hj : j < c
        · rw [List.getElem?_take, if_pos hj, List.getElem?_drop, List.getElem?_drop, Array.getElem?_toList, ← hrow m (by omega) j hj]
        · rw [List.getElem?_take, if_neg hj, List.getElem?_eq_none (by rw [hlenD m (by omega)]; omega)]
    have hrl := rowOfCells_len (C := C) cap hlenC
    let ob : AObj := ⟨0, .cells (rowOfCells C cap) e' true⟩
    have hext : ExtL L1 (L1 ++ [(ob, (b, off, cc.size))]) := ⟨_, rfl⟩
    have hφ : φL (L1 ++ [(ob, (b, off, cc.size))]) L1.length = some (b, off, cc.size) := by simp [φL]
    have hg : gL (L1 ++ [(ob, (b, off, cc.size))]) L1.length = some ob := by simp [gL]
    refine ⟨L1 ++ [(ob, (b, off, cc.size))], [.slice (some ⟨L1.length, 0, none⟩) len cap], h1.trans hext, ?_, ?_, rfl, ?_⟩
    · refine h2.push rfl hb ⟨rfl, rfl, (fun h => by cases h), rowOfCells_ones cap (fun i hi => (h3 i hi).2.1), ?_⟩
      rw [hrl, hpiece cap (Nat.le_refl _)]
      exact (rowOfCells_rel cap fun i hi => (h3 i hi).1).mono hext.φ
    · refine .cons ?_ .nil
      have := VRel.slice (o := 0) len cap hφ hlc (by unfold capU; unfold maxLen at hcm; omega)
      exact this
    · refine .slice L1.length len cap _ sp C ht (by simp) hlc hcm (fun i d hd => ?_) (fun i d hd => ?_)
      · have hi : i < len := by
          have := (List.getElem?_eq_some_iff.1 hd).1; simpa using this
        rw [← hcdef]
        simp only [loadList, hg, ob]
        have hle : i * c + c ≤ (rowOfCells C cap).length := by
          rw [hrl]
          have := Nat.mul_le_mul_right c (show i + 1 ≤ cap by omega); rw [Nat.succ_mul] at this; exact this
        have hbl : Nat.ble (i * c + c) (rowOfCells C cap).length = true := Nat.ble_eq_true_of_le hle
        rw [hbl]
        simp only
        rw [rowOfCells_chunk cap hlenC i (by omega)]
      · have hi : i < len := by
          have := (List.getElem?_eq_some_iff.1 hd).1; simpa using this
        have hdi : d = D i := by
          rw [List.getElem?_map, List.getElem?_range hi] at hd
          simpa using hd.symm
        rw [hdi]
        exact (h3 i (by omega)).2.2.mono hext.g
end
end Go.Xe
end
section
namespace Go.Xe
open Go
set_option linter.unusedVariables false
set_option linter.unusedSimpArgs false
section
variable {H : Type} {enc : TypeId × Value → H} {P : Program} {w : World}
theorem lay_fields (cs : List Value) : ∀ (fs : List Field) (o e : Nat) (ds : List (DataW H)), tiles P o fs = some e → e ≤ cs.length → ds.length = fs.length →
    (∀ (i : Nat) (f : Field) (d : DataW H), fs[i]? = some f → ds[i]? = some d → Lay P w f.type ((cs.drop f.offset).take (P.cellsOf f.type)) d) →
    ∀ L, LOk w L → ∃ L' : Lst, ∃ C : List Value, ExtL L L' ∧ LOk w L' ∧ VRels (φL L') C ((cs.drop o).take (e - o)) ∧ o ≤ e ∧ ones C = true ∧ C.length = e - o ∧
      ∀ (i : Nat) (f : Field) (d : DataW H), fs[i]? = some f → ds[i]? = some d → o ≤ f.offset ∧ Rdx P (gL L') f.type ((C.drop (f.offset - o)).take (P.cellsOf f.type)) d
  | [], o, e, ds, ht, he, hl, h, L, hL => by
    simp only [tiles] at ht; cases ht
    refine ⟨L, [], ExtL.refl L, hL, by simp; exact .nil, Nat.le_refl _, rfl, by simp, fun i f d hf => by simp at hf⟩
  | f :: fs, o, e, ds, ht, he, hl, h, L, hL => by
    cases ds with
    | nil => simp at hl
    | cons d ds =>
      simp only [tiles] at ht
      split at ht
      · rename_i hb
        rw [beqNat] at hb
        have ho := of_decide_eq_true hb
        obtain ⟨L1, c, k1, k2, k3, k4, k5⟩ := h 0 f d rfl rfl L hL
        obtain ⟨L2, C, q1, q2, q3, q4, q5, q6, q7⟩ := lay_fields cs fs (o + P.cellsOf f.type) e ds ht he (by simpa using hl) (fun i f' d' hf hd => h (i + 1) f' d' (by simpa using hf) (by simpa using hd)) L1 k2
        have hclen : c.length = P.cellsOf f.type := by
          rw [← k3.length, List.length_take, List.length_drop]; omega
        have hsplit : (cs.drop o).take (e - o) = (cs.drop f.offset).take (P.cellsOf f.type) ++ (cs.drop (o + P.cellsOf f.type)).take (e - (o + P.cellsOf f.type)) := by
          rw [ho, show e - o = P.cellsOf f.type + (e - (o + P.cellsOf f.type)) by omega, List.take_add, List.drop_drop]
        refine ⟨L2, c ++ C, k1.trans q1, q2, ?_, by omega, ones_append k4 q5, by rw [List.length_append, hclen, q6]; omega, fun i f' d' hf hd => ?_⟩
        · rw [hsplit]; exact (k3.mono q1.φ).append q3
        · cases i with
          | zero =>
            simp at hf hd; subst hf; subst hd
            refine ⟨by omega, ?_⟩
            rw [ho, Nat.sub_self, List.drop_zero, List.take_append_of_le_length (by omega), List.take_of_length_le (by omega)]
            exact k5.mono q1.g
          | succ i =>
            obtain ⟨p1, p2⟩ := q7 i f' d' (by simpa using hf) (by simpa using hd)
            refine ⟨by omega, ?_⟩
            have : f'.offset - o = P.cellsOf f.type + (f'.offset - (o + P.cellsOf f.type)) := by omega
            rw [this, ← hclen, List.drop_append]
            rw [show c.length + (f'.offset - (o + c.length)) - c.length = f'.offset - (o + c.length) by omega]
            have hd0 : c.drop (c.length + (f'.offset - (o + c.length))) = [] := List.drop_of_length_le (by omega)
            rw [hd0, List.nil_append, hclen]
            exact p2
      · cases ht
theorem lay_struct {t : TypeId} {fs : Array Field} (ht : P.underlying t = some (.struct fs)) (htl : tiles P 0 fs.toList = some (P.cellsOf t)) {cs : List Value} (hl : cs.length = P.cellsOf t) {ds : List (DataW H)} (hn : ds.length = fs.size)
    (h : ∀ (i : Nat) (f : Field) (d : DataW H), fs[i]? = some f → ds[i]? = some d → Lay P w f.type ((cs.drop f.offset).take (P.cellsOf f.type)) d) : Lay P w t cs (.agg ds) := by
  intro L hL
  obtain ⟨L', C, h1, h2, h3, _, h4, h5, h6⟩ := lay_fields (P := P) (w := w) cs fs.toList 0 (P.cellsOf t) ds htl (by omega) (by simpa using hn) (fun i f d hf hd => h i f d (by simpa using hf) hd) L hL
  rw [List.drop_zero, Nat.sub_zero, List.take_of_length_le (by omega)] at h3
  refine ⟨L', C, h1, h2, h3, h4, .struct C ds ht (by omega) hn fun i f d hf hd => ?_⟩
  have := (h6 i f d (by simpa using hf) hd).2
  rwa [Nat.sub_zero] at this
theorem lay_all (T : List TypeId) (hT : T.all (plainT P T) = true) : ∀ (fuel : Nat) (t : TypeId), T.contains t = true → ∀ (cs : List Value) (x : DataW H × List MemPlace), DataW.trod enc P w 0 (fun _ => true) true fuel t cs = some x → Lay P w t cs x.1 := by
  intro fuel
  induction fuel using Nat.strongRecOn with
  | _ fuel ih =>
    intro t htT cs x h
    have hp := List.all_eq_true.1 hT t (by simpa using htT)
    unfold plainT at hp
    split at hp
    · rename_i hu
      obtain ⟨b, rfl, rfl⟩ := DataW.trod_bool hu h
      exact lay_one (fun φ => .bool b) rfl (fun g => .bool b hu)
    · rename_i k hu
      obtain ⟨n, rfl, rfl, hw⟩ := DataW.trod_int hu h
      exact lay_one (fun φ => .int k n) rfl (fun g => .int n hu hw)
    · rename_i hu
      obtain ⟨s, rfl, rfl, hs⟩ := DataW.trod_string hu h
      exact lay_one (fun φ => .string s) rfl (fun g => .str s hu hs)
    · rename_i e hu
      simp only [Bool.and_eq_true, bltNat, decide_eq_true_eq] at hp
      rcases DataW.trod_slice hu h with ⟨rfl, rfl⟩ | ⟨a, len, cap, elems, rest, n, hfu, rfl, rfl, hb, hlc, hm, hlen, hel, hsp, hns⟩
      · exact fun L hL => ⟨L, [.slice none 0 0], ExtL.refl L, hL, .cons .sliceN .nil, rfl, .nil hu⟩
      · obtain ⟨hrl, hrest⟩ := hsp rfl
        have key : ∀ i, i < cap → (w.cells? 0 (a.add (i * P.cellsOf e)) (P.cellsOf e)).bind (DataW.trod enc P w 0 (fun _ => true) true n e) = (elems ++ rest)[i]? := by
          intro i hi
          by_cases hil : i < len
          · rw [hel i hil, List.getElem?_append_left (by omega)]
          · have := hrest (i - len) (by omega)
            rw [show len + (i - len) = i by omega] at this
            rw [this, List.getElem?_append_right (by omega), hlen]
        have hall : (elems ++ rest).length = cap := by rw [List.length_append, hlen, hrl]; omega
        have hD : ∀ i, i < cap → ∃ cs', w.cells? 0 (a.add (i * P.cellsOf e)) (P.cellsOf e) = some cs' ∧ DataW.trod enc P w 0 (fun _ => true) true n e cs' = some ((elems ++ rest).getD i (.nil, [])) := fun i hi => by
          have := key i hi
          rw [List.getElem?_eq_getElem (by omega)] at this
          obtain ⟨cs', h1, h2⟩ := Option.bind_eq_some_iff.1 this
          refine ⟨cs', h1, ?_⟩
          rw [h2]
          simp [List.getD, List.getElem?_eq_getElem (show i < (elems ++ rest).length by omega)]
        obtain ⟨cs, hcs⟩ := Deep.choose_lt (α := List Value) hD
        have hl2 := lay_slice (P := P) (w := w) hu hp.2 (a := a) (len := len) (cap := cap) hlc hm (cs := cs) (D := fun i => ((elems ++ rest).getD i (.nil, [])).1) (sp := rest.map (·.1)) (fun i hi => (hcs i hi).1)
          (fun i hi => ih n (by omega) e hp.1 _ _ (hcs i hi).2)
        have he : elems.map (·.1) = (List.range len).map fun i => ((elems ++ rest).getD i (.nil, [])).1 := by
          apply List.ext_getElem?
          intro i
          by_cases hi : i < len
          · rw [List.getElem?_map, List.getElem?_map, List.getElem?_range hi, List.getElem?_eq_getElem (by omega)]
            simp [List.getD, List.getElem?_append_left (show i < elems.length by omega), List.getElem?_eq_getElem (show i < elems.length by omega)]
          · rw [List.getElem?_eq_none (by simp; omega), List.getElem?_eq_none (by simp; omega)]
        rw [he]
        exact hl2
    · rename_i fs hu
      simp only [Bool.and_eq_true, List.all_eq_true] at hp
      obtain ⟨xs, n, rfl, rfl, hl, hn, hf⟩ := DataW.trod_struct hu h
      have htl : tiles P 0 fs.toList = some (P.cellsOf t) := by
        have h2 := hp.2
        split at h2
        · rename_i m hm; rw [beqNat] at h2; rw [hm, of_decide_eq_true h2]
        · cases h2
      refine lay_struct hu htl hl (by simpa using hn) fun i f d hfi hd => ?_
      have hx := hf i f hfi
      rw [List.getElem?_map] at hd
      cases hxi : xs[i]? with
      | none => rw [hxi] at hd; cases hd
      | some y =>
        rw [hxi] at hd hx
        cases hd
        have hmem : f ∈ fs.toList := by rw [← Array.getElem?_toList] at hfi; exact List.mem_of_getElem? hfi
        exact ih n (Nat.lt_succ_self n) f.type (hp.1 f hmem) _ _ hx
    · cases hp
end
end Go.Xe
end
section
namespace Go.Xe
open Go Go.RowKit
set_option linter.unusedVariables false
set_option linter.unusedSimpArgs false
theorem laid_inv {gl : Glb} (hgl : ∀ i, gl.is i = false) {w : World} (hg : gl.good w w.heap.size) {L : Lst} (hL : LOk w L) : Inv gl w w.heap.size (φL L) ⟨gL L, .nil, L.length⟩ w := by
  have hget : (AS.mk (gL L) .nil L.length).get = gL L := by
    funext k
    simp only [AS.get, Tri.get_nil]
  refine ⟨⟨Nat.le_refl _, fun _ _ => rfl, rfl, rfl, rfl, fun i o h => ?_, fun i j b d d' t t' hi hj hib hjb => ?_⟩, fun i hi => ?_, fun i h => ?_, hg⟩
  · rw [hget] at h
    unfold gL at h
    cases hk : L[i]? with
    | none => rw [hk] at h; cases h
    | some x =>
      rw [hk] at h; cases h
      obtain ⟨o, b, d, t⟩ := x
      obtain ⟨h1, ob, h2, h3⟩ := hL i o b d t hk
      exact ⟨b, d, t, ob, by simp [φL, hk], h2, h3, fun _ => h1⟩
  · left
    rw [hget] at hi
    unfold gL at hi
    cases hk : L[i]? with
    | none => rw [hk] at hi; exact absurd rfl hi
    | some x =>
      obtain ⟨o, b', d2, t2⟩ := x
      obtain ⟨h1, ob, h2, h3⟩ := hL i o b' d2 t2 hk
      simp [φL, hk] at hib
      obtain ⟨rfl, _, _⟩ := hib
      exact (Array.getElem?_eq_some_iff.1 h2).1
  · rw [hget]
    unfold gL
    rw [List.getElem?_eq_none (by exact hi)]
    rfl
  · rw [hgl] at h; cases h
theorem laid_true {P : Program} {gl : Glb} {F : FuncId → Option XFun} {O : FuncId → List Value → Option Value} (hE : Env P gl F O) (hgl : ∀ i, gl.is i = false) {n : Nat} {f : FuncId} {args args' : List Value} {L : Lst} {w : World} (hg : gl.good w w.heap.size)
    (hL : LOk w L) (ha : VRels (φL L) args args') {s' : AS} (h : xcall F O n f args ⟨gL L, .nil, L.length⟩ = some (.ret (.bool true), s')) : Calls P f args'.toArray w fun E w' => E = .returned (.bool true) ∧ Below w.heap.size w w' := by
  obtain ⟨_, hc⟩ := xcall_sound hE n f args _ _ _ h
  refine Calls.mono (hc w w.heap.size (φL L) w args' (laid_inv hgl hg hL) (fun i h1 h2 => ?_) ha) ?_
  · unfold φL
    rw [List.getElem?_eq_none (by exact h1)]
    rfl
  · rintro E w' ⟨ψ, hE', hi, hs⟩
    obtain ⟨v', rfl, hv⟩ := hE'
    cases hv
    exact ⟨rfl, hi.rel.below rfl⟩
structure Ex1 (s s' : AS) : Prop where
  next : s.next ≤ s'.next
  same : ∀ k, k < s.next → s'.get k = s.get k
  dm : Dm s'
theorem Ex1.refl {s : AS} (h : Dm s) : Ex1 s s := ⟨Nat.le_refl _, fun _ _ => rfl, h⟩
theorem Ex1.trans {a b c : AS} (h : Ex1 a b) (k : Ex1 b c) : Ex1 a c := ⟨Nat.le_trans h.next k.next, fun i hi => by rw [k.same i (Nat.lt_of_lt_of_le hi h.next), h.same i hi], k.dm⟩
theorem Ex1.load {a b : AS} (h : Ex1 a b) (hd : Dm a) {ad : Addr} {n : Nat} {l : List Value} (hl : loadList a.get ad n = some l) : loadList b.get ad n = some l := by
  refine loadList_mono (fun k o hk => ?_) hl
  rw [h.same k ?_]
  · exact hk
  · by_cases hlt : k < a.next
    · exact hlt
    · rw [hd k (by omega)] at hk; cases hk
theorem Ex1.rdx {P : Program} {a b : AS} (h : Ex1 a b) (hd : Dm a) {H : Type} {t : TypeId} {cs : List Value} {d : DataW H} (r : Rdx P a.get t cs d) : Rdx P b.get t cs d := by
  refine r.mono fun k o hk => ?_
  rw [h.same k ?_]
  · exact hk
  · by_cases hlt : k < a.next
    · exact hlt
    · rw [hd k (by omega)] at hk; cases hk
theorem get_new (s : AS) (o : AObj) (k : Nat) : (s.upd [(s.next, some o)] (s.next + 1)).get k = if s.next = k then some o else s.get k := by
  rw [AS.upd_get]; simp only [Hp.upd, Hp.set1]
theorem ex1_new {s : AS} (hd : Dm s) (o : AObj) : Ex1 s (s.upd [(s.next, some o)] (s.next + 1)) := by
  refine ⟨Nat.le_succ _, fun k hk => ?_, fun k hk => ?_⟩
  · rw [get_new, if_neg (by omega)]
  · have hk : s.next + 1 ≤ k := hk
    rw [get_new, if_neg (by omega)]; exact hd k (by omega)
end Go.Xe
end
section
namespace Go.Xe
open Go
set_option linter.unusedVariables false
set_option linter.unusedSimpArgs false
theorem upd_nil (s : AS) : s.upd [] s.next = s := rfl
theorem upd_upd_nil (s : AS) (δ : List (Nat × Option AObj)) (n : Nat) : (s.upd δ n).upd [] n = s.upd δ n := rfl
theorem xbin_add (k : IntKind) (a b : Int) : xbin .add (.int k a) (.int k b) = some (.int k (k.wrap (a + b))) := by cases k <;> rfl
theorem xbin_sub (k : IntKind) (a b : Int) : xbin .sub (.int k a) (.int k b) = some (.int k (k.wrap (a - b))) := by cases k <;> rfl
theorem xbin_eql (k : IntKind) (a b : Int) : xbin .eql (.int k a) (.int k b) = some (.bool (decide (a = b))) := by rw [← beqInt_eq]; cases k <;> rfl
theorem xbin_neq (k : IntKind) (a b : Int) : xbin .neq (.int k a) (.int k b) = some (.bool (!(decide (a = b)))) := by rw [← beqInt_eq]; cases k <;> rfl
theorem xbin_lss (k : IntKind) (a b : Int) : xbin .lss (.int k a) (.int k b) = some (.bool (decide (a < b))) := by rw [← ltInt_eq]; cases k <;> rfl
theorem xbin_gtr (k : IntKind) (a b : Int) : xbin .gtr (.int k a) (.int k b) = some (.bool (decide (b < a))) := by rw [← ltInt_eq]; cases k <;> rfl
theorem xbin_leq (k : IntKind) (a b : Int) : xbin .leq (.int k a) (.int k b) = some (.bool (!(decide (b < a)))) := by rw [← ltInt_eq]; cases k <;> rfl
theorem xbin_geq (k : IntKind) (a b : Int) : xbin .geq (.int k a) (.int k b) = some (.bool (!(decide (a < b)))) := by rw [← ltInt_eq]; cases k <;> rfl
theorem wrap_small (n : Int) (h0 : -9223372036854775808 ≤ n) (h1 : n ≤ 9223372036854775807) : IntKind.i64.wrap n = n := by
  rw [IntKind.wrap_i64]; omega
theorem load_one {g : Hp} {b o : Nat} {ver : Nat} {vs : List Value} {e : TypeId} {ro : Bool} (hg : g b = some ⟨ver, .cells vs e ro⟩) {v : Value} (h : vs[o]? = some v) : loadList g ⟨b, o, none⟩ 1 = some [v] := by
  have hlt := (List.getElem?_eq_some_iff.1 h).1
  simp only [loadList, hg]
  have : Nat.ble (o + 1) vs.length = true := Nat.ble_eq_true_of_le hlt
  rw [this]
  simp only [Option.some.injEq]
  apply List.ext_getElem?
  intro j
  cases j with
  | zero => rw [List.getElem?_take, if_pos (by omega), List.getElem?_drop, Nat.add_zero, h]; rfl
  | succ j => rw [List.getElem?_take, if_neg (by omega)]; rfl
theorem add_lit (b o n : Nat) : (⟨b, o, none⟩ : Addr).add n = ⟨b, o + n, none⟩ := add_none b o n
end Go.Xe
end
section
namespace Go.Xt
open Go Go.Xe
set_option linter.unusedVariables false
inductive Md where
  | fz
  | own (e s : Nat)
  | nl
inductive Pl where
  | tmp (t : Nat)
  | tcell (t o ser : Nat)
  | cell (k o : Nat)
inductive TV where
  | int (k : IntKind) (n : Int)
  | bool (b : Bool)
  | str (s : ByteArray)
  | nilp
  | ptr (k o : Nat)
  | elt (ch : List TV) (o : Nat)
  | via (p : Pl) (c : Nat)
  | vel (p : Pl) (c j o : Nat)
  | bx (ser : Nat) (cells : List TV) (e : TypeId)
  | vpt (t o ser : Nat)
  | sl (m : Md) (chs : List (List TV))
  | ref (k o size n c : Nat)
  | nilm
  | map (k : Nat)
  | nilf
  | func (f : FuncId) (first cap : List TV)
  | nili
  | iface (t : TypeId) (v : TV)
  | agg (l : List TV)
  | tuple (l : List TV)
  | dead
inductive TBody where
  | cells (vs : List TV) (e : TypeId)
  | map (es : List (TV × TV × Nat)) (clock : Nat)
  | iter (s : ByteArray) (pos : Nat)
structure TObj where
  ver : Nat
  body : TBody
abbrev Sto := List (Option TObj)
def Sto.at (σ : Sto) (k : Nat) : Option TObj :=
  match σ[k]? with
  | some (some o) => some o
  | _ => none
def ofV : Value → TV
  | .int k n => .int k n
  | .bool b => .bool b
  | .string s => .str s
  | .pointer none => .nilp
  | .slice none 0 0 => .sl .nl []
  | .map none => .nilm
  | .nilFunc => .nilf
  | .nilIface => .nili
  | .agg ⟨l⟩ => .agg (ofVs l)
  | .tuple ⟨l⟩ => .tuple (ofVs l)
  | _ => .dead
where
  ofVs : List Value → List TV
    | [] => []
    | v :: l => ofV v :: ofVs l
def give : TV → Option TV
  | .sl (.own _ _) c => some (.sl .fz c)
  | .via _ _ => none
  | .vel _ _ _ _ => none
  | .bx _ _ _ => none
  | .vpt _ _ _ => none
  | .dead => none
  | v => some v
def gives : List TV → Option (List TV)
  | [] => some []
  | v :: l => match give v, gives l with
    | some v, some l => some (v :: l)
    | _, _ => none
def isOwn : TV → Bool
  | .sl (.own _ _) _ => true
  | _ => false
def frz : TV → TV
  | .sl (.own _ _) c => .sl .fz c
  | v => v
def below (b : Nat) : TV → Bool
  | .ptr k _ => Nat.blt k b
  | .ref k _ _ _ _ => Nat.blt k b
  | .map k => Nat.blt k b
  | .elt ch _ => belows ch
  | .sl _ chs => belowss chs
  | .func _ x y => belows x && belows y
  | .iface _ v => below b v
  | .agg l => belows l
  | .tuple l => belows l
  | _ => true
where
  belows : List TV → Bool
    | [] => true
    | v :: l => below b v && belows l
  belowss : List (List TV) → Bool
    | [] => true
    | v :: l => belows v && belowss l
def canon : TV → TV
  | .sl (.own _ _) c => .sl .fz c
  | .sl .nl c => .sl .fz c
  | .agg l => .agg (canons l)
  | .tuple l => .tuple (canons l)
  | v => v
where
  canons : List TV → List TV
    | [] => []
    | v :: l => canon v :: canons l
def TV.cells : TV → List TV
  | .agg l => l
  | v => [v]
def onesT : List TV → Bool
  | [] => true
  | .agg _ :: _ => false
  | .tuple _ :: _ => false
  | .dead :: _ => false
  | .bx _ _ _ :: _ => false
  | .vpt _ _ _ :: _ => false
  | _ :: r => onesT r
def tint (op : BinOp) (k : IntKind) (a b : Int) : Option TV :=
  match op with
  | .add => some (.int k (k.wrap (a + b)))
  | .sub => some (.int k (k.wrap (a - b)))
  | .mul => some (.int k (k.wrap (a * b)))
  | .quo => if beqInt b 0 then none else some (.int k (k.wrap (a.tdiv b)))
  | .rem => if beqInt b 0 then none else some (.int k (a.tmod b))
  | .and => some (.int k (k.wrap (BitVec.ofInt k.bits a &&& BitVec.ofInt k.bits b).toNat))
  | .or => some (.int k (k.wrap (BitVec.ofInt k.bits a ||| BitVec.ofInt k.bits b).toNat))
  | .xor => some (.int k (k.wrap (BitVec.ofInt k.bits a ^^^ BitVec.ofInt k.bits b).toNat))
  | .andNot => some (.int k (k.wrap (BitVec.ofInt k.bits a &&& ~~~(BitVec.ofInt k.bits b)).toNat))
  | .eql => some (.bool (beqInt a b))
  | .neq => some (.bool (!(beqInt a b)))
  | .lss => some (.bool (ltInt a b))
  | .leq => some (.bool (leInt a b))
  | .gtr => some (.bool (ltInt b a))
  | .geq => some (.bool (leInt b a))
  | _ => none
def tstr (op : BinOp) (x y : ByteArray) : Option TV :=
  match op with
  | .add => if Nat.ble (x.data.toList.length + y.data.toList.length) 9223372036854775807 then some (.str ⟨(x.data.toList ++ y.data.toList).toArray⟩) else none
  | .eql => some (.bool (beqBytes x.data.toList y.data.toList))
  | .neq => some (.bool (!(beqBytes x.data.toList y.data.toList)))
  | .lss => some (.bool (ltBytes x.data.toList y.data.toList))
  | .leq => some (.bool (ltBytes x.data.toList y.data.toList || beqBytes x.data.toList y.data.toList))
  | .gtr => some (.bool (!(ltBytes x.data.toList y.data.toList || beqBytes x.data.toList y.data.toList)))
  | .geq => some (.bool (!(ltBytes x.data.toList y.data.toList)))
  | _ => none
def tbin (op : BinOp) (x y : TV) : Option TV :=
  match op, x, y with
  | .shl, .int k a, .int _ b => match ltInt b 0 with
    | true => none
    | false => some (.int k (k.wrap (a * 2 ^ (min b.toNat k.bits))))
  | .shr, .int k a, .int _ b => match ltInt b 0 with
    | true => none
    | false => some (.int k (a.fdiv (2 ^ (min b.toNat k.bits))))
  | op, .int k a, .int k' b => match beqKind k k' with
    | true => tint op k a b
    | false => none
  | op, .str a, .str b => tstr op a b
  | _, _, _ => none
def tun (op : UnOp) (x : TV) : Option TV :=
  match op, x with
  | .neg, .int k n => some (.int k (k.wrap (0 - n)))
  | .xor, .int k n => tint .xor k (if k.signed then -1 else k.max) n
  | .not, .bool b => some (.bool !b)
  | _, _ => none
def plainT (σ : Sto) (k o : Nat) : Bool :=
  match σ.at k with
  | some ⟨_, .cells vs _⟩ => Nat.blt o vs.length
  | _ => false
mutual
def teq (σ : Sto) : EqK → TV → TV → Option Bool
  | .int, .int k a, .int k' b => match beqKind k k' with
    | true => some (beqInt a b)
    | false => none
  | .bool, .bool a, .bool b => some (a == b)
  | .str, .str a, .str b => some (beqBytes a.data.toList b.data.toList)
  | .ptr, .nilp, .nilp => some true
  | .ptr, .nilp, .ptr _ _ => some false
  | .ptr, .ptr _ _, .nilp => some false
  | .ptr, .ptr b o, .ptr b' o' =>
    match plainT σ b o && plainT σ b' o' with
    | true => some (Nat.beq b b' && Nat.beq o o')
    | false => none
  | .ifaceNil, .nili, .nili => some true
  | .ifaceNil, .nili, .iface _ _ => some false
  | .ifaceNil, .iface _ _, .nili => some false
  | .sliceNil, .sl .nl _, .sl .nl _ => some true
  | .sliceNil, .sl .fz (_ :: _), .sl .nl _ => some false
  | .sliceNil, .sl .nl _, .sl .fz (_ :: _) => some false
  | .sliceNil, .ref _ _ _ _ _, .sl .nl _ => some false
  | .mapNil, .nilm, .nilm => some true
  | .mapNil, .nilm, .map _ => some false
  | .mapNil, .map _, .nilm => some false
  | .funcNil, .nilf, .nilf => some true
  | .funcNil, .nilf, .func _ _ _ => some false
  | .funcNil, .func _ _ _, .nilf => some false
  | .agg ps, .agg xs, .agg ys => teqs σ ps xs ys
  | _, _, _ => none
def teqs (σ : Sto) : List (Nat × EqK) → List TV → List TV → Option Bool
  | [], _, _ => some true
  | (i, k) :: r, xs, ys =>
    match xs[i]?, ys[i]? with
    | some x, some y => match teq σ k x y with
      | some true => teqs σ r xs ys
      | some false => some false
      | none => none
    | _, _ => none
end
def findT (σ : Sto) (k : EqK) (x : TV) : List (TV × TV × Nat) → Nat → Option (Option (Nat × TV))
  | [], _ => some none
  | e :: es, i => match teq σ k x e.1 with
    | some true => some (some (i, e.2.1))
    | some false => findT σ k x es (i + 1)
    | none => none
def putAt (vs : List TV) (o : Nat) (l : List TV) : List TV := vs.take o ++ l ++ vs.drop (o + l.length)
def fillT (cells : List TV) : List (Nat × Nat × TV) → Option (List TV)
  | [] => some cells
  | (off, size, v) :: r =>
    match give v with
    | some v => match Nat.beq v.cells.length size && Nat.ble (off + size) cells.length with
      | true => fillT (putAt cells off v.cells) r
      | false => none
    | none => none
def chop (s : Nat) : Nat → List TV → List (List TV)
  | 0, _ => []
  | n + 1, l => l.take s :: chop s n (l.drop s)
def repT (z : List TV) : Nat → List TV
  | 0 => []
  | n + 1 => z ++ repT z n
def boundT (x : TV) (y : Nat) : Option Nat :=
  match x with
  | .int _ (.ofNat i) => match Nat.ble i y with
    | true => some i
    | false => none
  | _ => none
def optB (x : Option TV) (y d : Nat) : Option Nat :=
  match x with
  | some v => boundT v y
  | none => some d
def hiB (hi mx : Option TV) (m len : Nat) : Option Nat :=
  match hi with
  | some v => boundT v m
  | none => match mx with
    | none => some len
    | some _ => none
def boundsT (len cap : Nat) (lo hi mx : Option TV) : Option (Nat × Nat × Nat) :=
  match optB mx cap cap with
  | none => none
  | some m => match hiB hi mx m len with
    | none => none
    | some h => match optB lo h 0 with
      | none => none
      | some l => some (l, h, m)
def okSz (s : Nat) (chs : List (List TV)) : Bool := chs.all fun c => Nat.beq c.length s
def intsT : List TV → Option (List (IntKind × Int))
  | [] => some []
  | .int k n :: r => match intsT r with
    | some l => some ((k, n) :: l)
    | none => none
  | _ => none
def bytesT : List (List TV) → Option (List UInt8)
  | [] => some []
  | [.int .u8 (.ofNat n)] :: r => match bytesT r with
    | some l => some (UInt8.ofNat n :: l)
    | none => none
  | _ => none
def Md.app (e s : Nat) : Md → Bool
  | .own e' s' => Nat.beq e' e && Nat.beq s' s
  | .nl => true
  | .fz => false
end Go.Xt
end
section
namespace Go.Xt
open Go Go.Xe
set_option linter.unusedVariables false
structure TDfr where
  f : FuncId
  args : List TV
structure TAct where
  tm : Tri TV
  df : List TDfr
  clk : Nat
def undT : TV := .tuple []
def TAct.ev (a : TAct) : Operand → TV
  | .tmp t => match a.tm.get t with
    | some v => v
    | none => undT
  | .const v => ofV v
  | .global _ => .dead
  | .func f => .func f [] []
def TAct.put (a : TAct) (d : Option Nat) (v : TV) : TAct :=
  match d with
  | some t => ⟨a.tm.set t v, a.df, a.clk⟩
  | none => a
def TAct.tick (a : TAct) : TAct := ⟨a.tm, a.df, a.clk + 1⟩
def frz1 (a : TAct) : Operand → TAct
  | .tmp t => match isOwn (a.ev (.tmp t)) with
    | true => ⟨a.tm.set t (frz (a.ev (.tmp t))), a.df, a.clk + 1⟩
    | false => a
  | _ => a
def frzs (a : TAct) : List Operand → TAct
  | [] => a
  | x :: l => frzs (frz1 a x) l
def taken (a : TAct) : Operand → TAct
  | .tmp t => match isOwn (a.ev (.tmp t)) with
    | true => ⟨a.tm.set t .dead, a.df, a.clk + 1⟩
    | false => a
  | _ => a
def ownChs : TV → Option (List (List TV))
  | .sl (.own _ _) c => some c
  | _ => none
def reSl (chs : List (List TV)) : TV → TV
  | .sl m _ => .sl m chs
  | v => v
def boxAt (a : TAct) (t ser : Nat) : Option (List TV × TypeId) :=
  match a.ev (.tmp t) with
  | .bx s cs e => match Nat.beq s ser with
    | true => some (cs, e)
    | false => none
  | _ => none
def boxPut (a : TAct) (t ser : Nat) (cs : List TV) (e : TypeId) : TAct := ⟨a.tm.set t (.bx ser cs e), a.df, a.clk + 1⟩
def TAct.at (a : TAct) (x : Operand) : TV :=
  match a.ev x with
  | .bx s cs e => match x with
    | .tmp t => .vpt t 0 s
    | _ => .bx s cs e
  | v => v
def plGet (a : TAct) (σ : Sto) : Pl → Option (List (List TV))
  | .tmp t => ownChs (a.ev (.tmp t))
  | .tcell t o s => match boxAt a t s with
    | some (cs, _) => match cs[o]? with
      | some v => ownChs v
      | none => none
    | none => none
  | .cell k o => match σ.at k with
    | some ⟨_, .cells vs _⟩ => match vs[o]? with
      | some v => ownChs v
      | none => none
    | _ => none
def velAt (a : TAct) (σ : Sto) (p : Pl) (c j : Nat) : Option (List TV) :=
  match Nat.beq c a.clk with
  | true => match plGet a σ p with
    | some chs => chs[j]?
    | none => none
  | false => none
def plSet (a : TAct) (σ : Sto) (f : TV → TV) : Pl → TAct × Sto
  | .tmp t => (⟨a.tm.set t (f (a.ev (.tmp t))), a.df, a.clk + 1⟩, σ)
  | .tcell t o s => match boxAt a t s with
    | some (cs, e) => match cs[o]? with
      | some v => (boxPut a t s (cs.set o (f v)) e, σ)
      | none => (a.tick, σ)
    | none => (a.tick, σ)
  | .cell k o => match σ.at k with
    | some ⟨ver, .cells vs e⟩ => match vs[o]? with
      | some v => (a.tick, σ.set k (some ⟨ver, .cells (vs.set o (f v)) e⟩))
      | none => (a.tick, σ)
    | _ => (a.tick, σ)
def stok : TV → Bool
  | .via _ _ => false
  | .vel _ _ _ _ => false
  | .bx _ _ _ => false
  | .vpt _ _ _ => false
  | .dead => false
  | _ => true
def srcT (a : TAct) (σ : Sto) (size : Nat) : TV → Option (List (List TV))
  | .sl _ c => some c
  | .via p ck => match Nat.beq ck a.clk with
    | true => plGet a σ p
    | false => none
  | .ref k o s n _ => match σ.at k with
    | some ⟨_, .cells vs _⟩ => match Nat.beq s size && Nat.ble (o + n * s) vs.length && !((vs.drop o).take (n * s)).any isOwn with
      | true => some (chop s n (vs.drop o))
      | false => none
    | _ => none
  | .str s => match size with
    | 1 => some (s.data.toList.map fun b => [.int .u8 b.toNat])
    | _ => none
  | _ => none
def bytesSrc (a : TAct) (σ : Sto) : TV → Option (List (List TV))
  | .sl .fz [] => none
  | .sl m c => some c
  | .via p ck => match Nat.beq ck a.clk with
    | true => plGet a σ p
    | false => none
  | _ => none
def isStr : TV → Bool
  | .str _ => true
  | _ => false
def slOk (size : Nat) : Md → List (List TV) → Bool
  | .own _ s, _ => Nat.beq s size
  | .nl, _ => true
  | .fz, [] => false
  | .fz, _ :: _ => true
def apm (e s : Nat) (m : Md) : List (List TV) → Md
  | [] => m
  | _ :: _ => .own e s
def baseOk (b k : Nat) (l : List TV) : Bool := Nat.ble b k || below.belows 0 l
abbrev Tri3 := Option (TV × TAct × Sto)
def Pl.offX : Pl → Operand → Bool
  | .tmp t, .tmp t' => !(Nat.beq t t')
  | _, _ => true
def Pl.old (b : Nat) (l : List TV) : Pl → Bool
  | .cell k _ => baseOk b k l
  | _ => true
section
variable (md b : Nat) (a : TAct) (σ : Sto)
def tMove (x : Operand) : Tri3 :=
  match isOwn (a.ev x) with
  | false => some (a.at x, a, σ)
  | true => match x with
    | .tmp t => match md with
      | 1 => some (a.ev x, taken a x, σ)
      | 2 => some (frz (a.ev x), frz1 a x, σ)
      | _ => some (.via (.tmp t) a.clk, a, σ)
    | _ => none
def tLoad1 : TV → Tri3
  | .ptr k o => match σ.at k with
    | some ⟨ver, .cells vs e⟩ => match vs[o]? with
      | some v => match isOwn v with
        | false => some (v, a, σ)
        | true => match md with
          | 1 => some (v, a.tick, σ.set k (some ⟨ver, .cells (vs.set o .dead) e⟩))
          | 2 => some (frz v, a.tick, σ.set k (some ⟨ver, .cells (vs.set o (frz v)) e⟩))
          | _ => some (.via (.cell k o) a.clk, a, σ)
      | none => none
    | _ => none
  | .vpt t o s => match boxAt a t s with
    | some (cs, e) => match cs[o]? with
      | some v => match isOwn v with
        | false => some (v, a, σ)
        | true => match md with
          | 1 => some (v, boxPut a t s (cs.set o .dead) e, σ)
          | 2 => some (frz v, boxPut a t s (cs.set o (frz v)) e, σ)
          | _ => some (.via (.tcell t o s) a.clk, a, σ)
      | none => none
    | none => none
  | .elt ch o => match ch[o]? with
    | some v => some (v, a, σ)
    | none => none
  | .vel p c j o => match velAt a σ p c j with
    | some ch => match ch[o]? with
      | some v => some (v, a, σ)
      | none => none
    | none => none
  | _ => none
def tLoadN (n : Nat) : TV → Tri3
  | .ptr k o => match σ.at k with
    | some ⟨ver, .cells vs e⟩ => match Nat.ble (o + n) vs.length with
      | true => match ((vs.drop o).take n).any isOwn with
        | false => some (.agg ((vs.drop o).take n), a, σ)
        | true => some (.agg (((vs.drop o).take n).map frz), a.tick, σ.set k (some ⟨ver, .cells (putAt vs o (((vs.drop o).take n).map frz)) e⟩))
      | false => none
    | _ => none
  | .vpt t o s => match boxAt a t s with
    | some (cs, e) => match Nat.ble (o + n) cs.length with
      | true => match ((cs.drop o).take n).any isOwn with
        | false => some (.agg ((cs.drop o).take n), a, σ)
        | true => some (.agg (((cs.drop o).take n).map frz), boxPut a t s (putAt cs o (((cs.drop o).take n).map frz)) e, σ)
      | false => none
    | none => none
  | .elt ch o => match Nat.ble (o + n) ch.length with
    | true => some (.agg ((ch.drop o).take n), a, σ)
    | false => none
  | .vel p c j o => match velAt a σ p c j with
    | some ch => match Nat.ble (o + n) ch.length with
      | true => some (.agg ((ch.drop o).take n), a, σ)
      | false => none
    | none => none
  | _ => none
def tStore (n : Nat) (x : Operand) : TV → Tri3
  | .ptr k o => match σ.at k with
    | some ⟨ver, .cells vs e⟩ => match Nat.beq (a.ev x).cells.length n && onesT (a.ev x).cells && Nat.ble (o + n) vs.length && stok (a.ev x) && baseOk b k (a.ev x).cells with
      | true => some (undT, (taken a x).tick.tick, σ.set k (some ⟨ver + 1, .cells (putAt vs o (a.ev x).cells) e⟩))
      | false => none
    | _ => none
  | .vpt t o s => match boxAt a t s with
    | some (cs, e) => match Nat.beq (a.ev x).cells.length n && onesT (a.ev x).cells && Nat.ble (o + n) cs.length && stok (a.ev x) with
      | true => some (undT, (boxPut (taken a x) t s (putAt cs o (a.ev x).cells) e).tick, σ)
      | false => none
    | none => none
  | .vel p c j o => match Nat.beq c a.clk && p.offX x with
    | true => match plGet a σ p, give (a.ev x) with
      | some chs, some v => match chs[j]? with
        | some ch => match Nat.beq v.cells.length n && onesT v.cells && Nat.ble (o + n) ch.length && p.old b v.cells with
          | true => some (undT, (plSet (frz1 a x) σ (reSl (chs.set j (putAt ch o v.cells))) p).1, (plSet (frz1 a x) σ (reSl (chs.set j (putAt ch o v.cells))) p).2)
          | false => none
        | none => none
      | _, _ => none
    | false => none
  | _ => none
def tAppend (e size bytes : Nat) (x : Operand) (new : List (List TV)) : Tri3 :=
  match a.ev x with
  | .sl m c => match m.app e size && okSz size c && okSz size new && Nat.ble (c.length + new.length) small && Nat.ble bytes 65536 with
    | true => some (.sl (apm e size m new) (c ++ new), (taken a x).tick, σ)
    | false => none
  | .ref k o s n c => match new.isEmpty, σ.at k with
    | true, _ => some (.ref k o s n c, a, σ)
    | false, some ⟨_, .cells vs e'⟩ => match Nat.beq s size && Nat.beq e' e && okSz size new && Nat.blt 0 new.length && Nat.ble (o + n * s) vs.length && !((vs.drop o).take (n * s)).any isOwn && Nat.ble (n + new.length) small && Nat.ble bytes 65536 with
      | true => match Nat.beq c (capU + s) with
        | true => some (.ref σ.length 0 s (n + new.length) (capU + s), a.tick.tick, (σ.set k none) ++ [some ⟨0, .cells ((vs.drop o).take (n * s) ++ new.flatten) e⟩])
        | false => match Nat.blt c (n + new.length) with
          | true => some (.ref σ.length 0 s (n + new.length) (capU + s), a.tick.tick, σ ++ [some ⟨0, .cells ((vs.drop o).take (n * s) ++ new.flatten) e⟩])
          | false => none
      | false => none
    | _, _ => none
  | _ => none
def tIndex (size : Nat) (x : Operand) (j : Nat) : TV → Tri3
  | .sl (.own _ _) c => match x, c[j]? with
    | .tmp t, some ch => match Nat.beq ch.length size with
      | true => some (.vel (.tmp t) a.clk j 0, a, σ)
      | false => none
    | _, _ => none
  | .sl _ c => match c[j]? with
    | some ch => match Nat.beq ch.length size with
      | true => some (.elt ch 0, a, σ)
      | false => none
    | none => none
  | .via p ck => match Nat.beq ck a.clk with
    | true => match plGet a σ p with
      | some chs => match chs[j]? with
        | some ch => match Nat.beq ch.length size with
          | true => some (.vel p ck j 0, a, σ)
          | false => none
        | none => none
      | none => none
    | false => none
  | .ref k o s n c => match Nat.beq s size && Nat.blt j n with
    | true => some (.ptr k (o + j * size), a, σ)
    | false => none
  | _ => none
def tLen : TV → Option Nat
  | .sl _ c => some c.length
  | .via p ck => match Nat.beq ck a.clk with
    | true => match plGet a σ p with
      | some chs => some chs.length
      | none => none
    | false => none
  | .ref _ _ _ n _ => some n
  | _ => none
def tSlice (size : Nat) (x : Operand) (lo hi mx : Option TV) : TV → Tri3
  | .sl m c => match mx with
    | none => match boundsT c.length c.length lo hi none with
      | some (l, h, _) => match okSz size c && slOk size m c with
        | true => some (.sl m ((c.drop l).take (h - l)), taken a x, σ)
        | false => none
      | none => none
    | some _ => none
  | .via p ck => match mx, Nat.beq ck a.clk with
    | none, true => match plGet a σ p with
      | some c => match boundsT c.length c.length lo hi none with
        | some (l, h, _) => match okSz size c && slOk size .fz c with
          | true => some (.sl .fz ((c.drop l).take (h - l)), (plSet a σ frz p).1, (plSet a σ frz p).2)
          | false => none
        | none => none
      | none => none
    | _, _ => none
  | .ref k o s n c => match Nat.ble capU c with
    | true => none
    | false => match boundsT n c lo hi mx with
      | some (l, h, m) => match Nat.beq s size with
        | true => some (.ref k (match Nat.beq m l with | true => o | false => o + l * size) s (h - l) (m - l), a, σ)
        | false => none
      | none => none
  | _ => none
def tCopy (size : Nat) (x : TV) (src : List (List TV)) : Tri3 :=
  match x with
  | .ref k o s n c => match σ.at k with
    | some ⟨ver, .cells vs e⟩ =>
      match Nat.beq s size && Nat.ble (o + n * s) vs.length && okSz size src && baseOk b k (src.take (Nat.min src.length n)).flatten with
      | true => match Nat.min src.length n with
        | 0 => some (.int .i64 0, a, σ)
        | m + 1 => some (.int .i64 (.ofNat (m + 1)), a.tick, σ.set k (some ⟨ver + 1, .cells (putAt vs o (src.take (m + 1)).flatten) e⟩))
      | false => none
    | _ => none
  | _ => none
def tNew (o : TObj) (v : TV) : Tri3 := some (v, a.tick, σ ++ [some o])
def tVal : Option TV → Tri3
  | some v => some (v, a, σ)
  | none => none
def tLookup (k : EqK) (z : TV) (m x : TV) (ok : Bool) : Option TV :=
  match (match m with
    | .nilm => some (some none)
    | .map r => match σ.at r with
      | some ⟨_, .map es _⟩ => some (findT σ k x es 0)
      | _ => none
    | _ => none) with
  | some (some (some (_, v))) => some (match ok with | true => .tuple [v, .bool true] | false => v)
  | some (some none) => some (match ok with | true => .tuple [z, .bool false] | false => z)
  | _ => none
def tMapUpdate (k : EqK) (m x v : TV) : Tri3 :=
  match m, give x, give v with
  | .map r, some x, some v => match σ.at r with
    | some ⟨ver, .map es clock⟩ => match baseOk b r [x, v] with
      | true => match findT σ k x es 0 with
        | some (some (i, _)) => some (undT, a.tick, σ.set r (some ⟨ver + 1, .map (es.modify i fun e => (x, v, e.2.2)) clock⟩))
        | some none => some (undT, a.tick, σ.set r (some ⟨ver + 1, .map (es ++ [(x, v, clock)]) (clock + 1)⟩))
        | none => none
      | false => none
    | _ => none
  | _, _, _ => none
def tdo : XOp → Tri3
  | .move x => tMove md a σ x
  | .keep x => match a.ev x with
    | .str s => some (.str s, a, σ)
    | _ => none
  | .pick c x y => match a.ev c with
    | .bool true => match isOwn (a.ev x) with | false => some (a.at x, a, σ) | true => none
    | .bool false => match isOwn (a.ev y) with | false => some (a.at y, a, σ) | true => none
    | _ => none
  | .alloc e z => match ones z with
    | false => none
    | true => match md with
      | 3 => tNew a σ ⟨0, .cells (ofV.ofVs z) e⟩ (.ptr σ.length 0)
      | _ => some (.bx a.clk (ofV.ofVs z) e, a.tick, σ)
  | .box e x => match onesT (a.ev x).cells && stok (a.ev x) with
    | false => none
    | true => match md with
      | 3 => tNew (taken a x).tick σ ⟨0, .cells (a.ev x).cells e⟩ (.ptr σ.length 0)
      | _ => some (.bx (taken a x).clk (a.ev x).cells e, (taken a x).tick.tick, σ)
  | .build z ps => match fillT (ofV.ofVs z) (ps.map fun (o, n, x) => (o, n, a.ev x)) with
    | some cs => some (.agg cs, frzs a (ps.map fun p => p.2.2), σ)
    | none => none
  | .buildSlice e size z len ps => match Nat.beq z.length size && Nat.ble len small, fillT (repT (ofV.ofVs z) len) (ps.map fun (o, n, x) => (o, n, a.ev x)) with
    | true, some cs => match onesT cs with
      | false => none
      | true => match md with
        | 3 => tNew (frzs a (ps.map fun p => p.2.2)) σ ⟨0, .cells cs e⟩ (.ref σ.length 0 size len len)
        | _ => some (.sl (.own e size) (chop size len cs), (frzs a (ps.map fun p => p.2.2)).tick, σ)
    | _, _ => none
  | .load1 p => tLoad1 md a σ (a.at p)
  | .loadN n p => tLoadN a σ n (a.at p)
  | .store n p x => tStore b a σ n x (a.at p)
  | .nilCheck x => match a.at x with
    | .vpt t o s => match boxAt a t s with
      | some _ => some (.vpt t o s, a, σ)
      | none => none
    | .ptr k o => some (.ptr k o, a, σ)
    | .elt ch o => some (.elt ch o, a, σ)
    | .func f x y => some (.func f x y, a, σ)
    | _ => none
  | .bin op x y => tVal a σ (tbin op (a.ev x) (a.ev y))
  | .eq k neg x y => match teq σ k (a.ev x) (a.ev y) with
    | some r => some (.bool (xor r neg), a, σ)
    | none => none
  | .un op x => tVal a σ (tun op (a.ev x))
  | .toInt k x => match a.ev x with
    | .int _ n => some (.int k (k.wrap n), a, σ)
    | _ => none
  | .bytesToStr x => match bytesSrc a σ (a.ev x) with
    | some chs => match bytesT chs with
      | some bs => some (.str ⟨bs.toArray⟩, a, σ)
      | none => none
    | none => none
  | .strToBytes e x => match a.ev x with
    | .str s => match Nat.ble s.data.toList.length small with
      | true => some (.sl .fz (s.data.toList.map fun b => [.int .u8 b.toNat]), a, σ)
      | false => none
    | _ => none
  | .mkIface t x => match give (a.ev x) with
    | some v => some (.iface t v, frz1 a x, σ)
    | none => none
  | .mkFunc fn first cap => match fn, gives (first.map a.ev), gives (cap.map a.ev) with
    | .func f, some x, some y => some (.func f x y, frzs (frzs a first) cap, σ)
    | _, _, _ => none
  | .mkMap => tNew a σ ⟨0, .map [] 0⟩ (.map σ.length)
  | .mkSlice e z bytes l c => match a.ev l, a.ev c with
    | .int .i64 (.ofNat l), .int .i64 (.ofNat c) => match Nat.ble l c && Nat.ble (bytes * c) 281474976710656 && Nat.ble c 9223372036854775807 && ones z with
      | true => match md with
        | 3 => tNew a σ ⟨0, .cells (repT (ofV.ofVs z) c) e⟩ (.ref σ.length 0 z.length l c)
        | _ => some (.sl (.own e z.length) (List.replicate l (ofV.ofVs z)), a.tick, σ)
      | false => none
    | _, _ => none
  | .sliceStr x lo hi => match a.ev x with
    | .str s => match boundsT s.data.toList.length s.data.toList.length (lo.map a.ev) (hi.map a.ev) none with
      | some (l, h, _) => some (.str ⟨((s.data.toList.drop l).take (h - l)).toArray⟩, a, σ)
      | none => none
    | _ => none
  | .slice size x lo hi mx => tSlice a σ size x (lo.map a.ev) (hi.map a.ev) (mx.map a.ev) (a.ev x)
  | .sliceArr n size x lo hi mx => match a.ev x with
    | .ptr k o => match boundsT n n (lo.map a.ev) (hi.map a.ev) (mx.map a.ev) with
      | some (l, h, m) => some (.ref k (match Nat.beq m l with | true => o | false => o + l * size) size (h - l) (m - l), a, σ)
      | none => none
    | _ => none
  | .addr off x => match a.at x with
    | .ptr k o => some (.ptr k (o + off), a, σ)
    | .vpt t o s => match boxAt a t s with
      | some _ => some (.vpt t (o + off) s, a, σ)
      | none => none
    | .elt ch o => some (.elt ch (o + off), a, σ)
    | .vel p c j o => match velAt a σ p c j with
      | some _ => some (.vel p c j (o + off), a, σ)
      | none => none
    | _ => none
  | .field1 off x => match a.ev x with
    | .agg cs => tVal a σ cs[off]?
    | _ => none
  | .fieldN off n x => match a.ev x with
    | .agg cs => some (.agg ((cs.drop off).take n), a, σ)
    | _ => none
  | .indexAddr size x i => match a.ev i with
    | .int _ (.ofNat j) => tIndex a σ size x j (a.ev x)
    | _ => none
  | .indexArrAddr len size x i => match a.at x, a.ev i with
    | .ptr k o, .int _ (.ofNat j) => match Nat.blt j len with
      | true => some (.ptr k (o + j * size), a, σ)
      | false => none
    | .vpt t o s, .int _ (.ofNat j) => match Nat.blt j len, boxAt a t s with
      | true, some _ => some (.vpt t (o + j * size) s, a, σ)
      | _, _ => none
    | .elt ch o, .int _ (.ofNat j) => match Nat.blt j len with
      | true => some (.elt ch (o + j * size), a, σ)
      | false => none
    | _, _ => none
  | .indexStr x i => match a.ev x, a.ev i with
    | .str s, .int _ (.ofNat j) => match s.data.toList[j]? with
      | some b => some (.int .u8 b.toNat, a, σ)
      | none => none
    | _, _ => none
  | .index1 len x i => match a.ev x, a.ev i with
    | .agg cs, .int _ (.ofNat j) => match Nat.blt j len with
      | true => tVal a σ cs[j]?
      | false => none
    | _, _ => none
  | .indexN len size x i => match a.ev x, a.ev i with
    | .agg cs, .int _ (.ofNat j) => match Nat.blt j len with
      | true => some (.agg ((cs.drop (j * size)).take size), a, σ)
      | false => none
    | _, _ => none
  | .lookup k z m x ok => tVal a σ (tLookup σ k (ofV z) (a.ev m) (a.ev x) ok)
  | .mapUpdate k m x v => match tMapUpdate b (frzs a [x, v]) σ k (a.ev m) (a.ev x) (a.ev v) with
    | some r => some r
    | none => none
  | .assertT t z x ok => match a.ev x with
    | .iface u v => match Nat.beq u t with
      | true => some (match ok with | true => .tuple [v, .bool true] | false => v, a, σ)
      | false => match ok with
        | true => some (.tuple [ofV z, .bool false], a, σ)
        | false => none
    | .nili => match ok with
      | true => some (.tuple [ofV z, .bool false], a, σ)
      | false => none
    | _ => none
  | .extract x i => match a.ev x with
    | .tuple vs => tVal a σ vs[i]?
    | _ => none
  | .lenStr x => match a.ev x with
    | .str s => some (.int .i64 (.ofNat s.data.toList.length), a, σ)
    | _ => none
  | .lenSlice x => match tLen a σ (a.ev x) with
    | some n => some (.int .i64 (.ofNat n), a, σ)
    | none => none
  | .lenArr n => some (.int .i64 (.ofNat n), a, σ)
  | .lenMap x => match a.ev x with
    | .nilm => some (.int .i64 0, a, σ)
    | .map r => match σ.at r with
      | some ⟨_, .map es _⟩ => some (.int .i64 (.ofNat es.length), a, σ)
      | _ => none
    | _ => none
  | .capSlice x => match a.ev x with
    | .ref _ _ _ _ c => match Nat.ble capU c with
      | true => none
      | false => some (.int .i64 (.ofNat c), a, σ)
    | _ => none
  | .append e size bytes x y => match srcT a σ size (a.ev y) with
    | some new => tAppend a σ e size bytes x new
    | none => none
  | .appendZ e z bytes x n => match a.ev n with
    | .int .i64 (.ofNat n) => match Nat.ble n small && Nat.ble bytes 65536 && ones z with
      | true => tAppend a σ e z.length bytes x (List.replicate n (ofV.ofVs z))
      | false => none
    | _ => none
  | .copy size x y => match isStr (a.ev y), srcT a σ size (a.ev y) with
    | false, some src => tCopy b a σ size (a.ev x) src
    | _, _ => none
  | .maxI xs => match intsT (xs.map a.ev) with
    | some ((k, n) :: r) => some (.int k (r.foldl (fun a b => match ltInt a b.2 with | true => b.2 | false => a) n), a, σ)
    | _ => none
  | .minI xs => match intsT (xs.map a.ev) with
    | some ((k, n) :: r) => some (.int k (r.foldl (fun a b => match ltInt b.2 a with | true => b.2 | false => a) n), a, σ)
    | _ => none
  | _ => none
end
inductive TEx where
  | normal
  | exit (id : Nat)
  | ret
  | panic (v : TV)
inductive TEnd where
  | ret (v : TV)
  | panic (v : TV)
abbrev TCallee := Nat → FuncId → List TV → Sto → Option (TEnd × Sto)
abbrev Ann := Nat → Nat
def Ann.md (an : Ann) : Option Nat → Nat
  | some d => an d
  | none => 0
def wantedT (a : TAct) : Option (Nat × Bool) → Option Bool
  | none => some true
  | some (t, b) => match a.tm.get t with
    | some (.bool c) => some (c == b)
    | some (.tuple []) => some false
    | none => some false
    | _ => none
def targetT (v : TV) (args : List TV) : Option (FuncId × List TV) :=
  match v with
  | .func f first cap => some (f, first ++ args ++ cap)
  | _ => none
def tops (an : Ann) (b : Nat) (C : TCallee) : List XOper → TAct → Sto → Option (TEx × TAct × Sto)
  | [], a, σ => some (.normal, a, σ)
  | o :: r, a, σ =>
    match wantedT a o.guard with
    | none => none
    | some false => tops an b C r (a.put o.dst undT) σ
    | some true => match o.op with
      | .call f args => match gives (args.map a.ev) with
        | some vs => match C b f vs σ with
          | some (.ret v, σ') => tops an b C r ((frzs a args).tick.put o.dst v) σ'
          | some (.panic v, σ') => some (.panic v, (frzs a args).tick, σ')
          | none => none
        | none => none
      | .callV x args => match gives (args.map a.ev) with
        | some vs => match targetT (a.ev x) vs with
          | some (f, l) => match C b f l σ with
            | some (.ret v, σ') => tops an b C r ((frzs a args).tick.put o.dst v) σ'
            | some (.panic v, σ') => some (.panic v, (frzs a args).tick, σ')
            | none => none
          | none => none
        | none => none
      | .panic x => match a.ev x with
        | .iface t v => some (.panic (.iface t v), a, σ)
        | _ => none
      | .defer x args => match gives (args.map a.ev) with
        | some vs => match targetT (a.ev x) vs with
          | some (f, l) => tops an b C r (TAct.put ⟨(frzs a args).tm, ⟨f, l⟩ :: a.df, (frzs a args).clk⟩ o.dst undT) σ
          | none => none
        | none => none
      | op => match tdo (an.md o.dst) b a σ op with
        | some (v, a', σ') => tops an b C r (a'.put o.dst v) σ'
        | none => none
inductive TK where
  | bad
  | rd (q : Operand)
  | wr (q : Operand)
  | new
  | call
structure TRec where
  kind : TK
  dst : Option Nat
  pre : TAct
  s0 : Sto
  s1 : Sto
def kindOf : XOp → TK
  | .load1 p => .rd p
  | .loadN _ p => .rd p
  | .store _ p _ => .wr p
  | .alloc _ _ => .new
  | .box _ _ => .new
  | .buildSlice _ _ _ _ _ => .new
  | .mkSlice _ _ _ _ _ => .new
  | .strToBytes _ _ => .new
  | .mkMap => .new
  | _ => .bad
def topsD (an : Ann) (b : Nat) (C : TCallee) : List XOper → TAct → Sto → List TRec → Option (TAct × Sto × List TRec)
  | [], a, σ, l => some (a, σ, l.reverse)
  | o :: r, a, σ, l =>
    match wantedT a o.guard with
    | none => none
    | some false => topsD an b C r (a.put o.dst undT) σ (⟨.bad, o.dst, a, σ, σ⟩ :: l)
    | some true => match o.op with
      | .call f args => match gives (args.map a.ev) with
        | some vs => match C b f vs σ with
          | some (.ret v, σ') => topsD an b C r ((frzs a args).tick.put o.dst v) σ' (⟨.call, o.dst, frzs a args, σ, σ'⟩ :: l)
          | _ => none
        | none => none
      | .callV x args => match gives (args.map a.ev) with
        | some vs => match targetT (a.ev x) vs with
          | some (f, l') => match C b f l' σ with
            | some (.ret v, σ') => topsD an b C r ((frzs a args).tick.put o.dst v) σ' (⟨.call, o.dst, frzs a args, σ, σ'⟩ :: l)
            | _ => none
          | none => none
        | none => none
      | op => match tdo (an.md o.dst) b a σ op with
        | some (v, a', σ') => topsD an b C r (a'.put o.dst v) σ' (⟨kindOf op, o.dst, a, σ, σ'⟩ :: l)
        | none => none
def freeT (l : List TRec) (i j : Nat) : Operand → Bool
  | .tmp t => ((l.drop i).take (j - i)).all fun r => match r.dst with
    | some d => !(Nat.beq d t)
    | none => true
  | _ => false
def stays (a : TAct) (σ σ' : Sto) (q : Operand) : Bool :=
  match a.at q with
  | .vpt t _ s => (boxAt a t s).isSome
  | .elt _ _ => true
  | .ptr k _ => match σ.at k, σ'.at k with
    | some o, some o' => Nat.beq o.ver o'.ver
    | _, _ => false
  | _ => false
def sepT (a : TAct) (q q' : Operand) : Bool :=
  match a.at q, a.at q' with
  | .vpt t _ s, .vpt t' _ s' => !(Nat.beq t t') && (boxAt a t s).isSome && (boxAt a t' s').isSome
  | .ptr k _, .ptr k' _ => !(Nat.beq k k')
  | .vpt t _ s, .ptr _ _ => (boxAt a t s).isSome
  | .ptr _ _, .vpt t' _ s' => (boxAt a t' s').isSome
  | .elt _ _, .vpt t' _ s' => (boxAt a t' s').isSome
  | .elt _ _, .ptr _ _ => true
  | _, _ => false
def pairOkT (l : List TRec) (i j : Nat) (x y : TRec) : Bool :=
  match x.kind, y.kind with
  | .rd q, .call => freeT l i j q && stays y.pre y.s0 y.s1 q
  | .call, .rd q => freeT l i j q && stays x.pre x.s0 x.s1 q
  | .rd _, .new => true
  | .rd q, .wr q' => freeT l i j q && sepT y.pre q q'
  | _, _ => false
def pairsOkT (l : List TRec) : List (Nat × Nat) → Bool
  | [] => true
  | (i, j) :: r => match l[i]?, l[j]? with
    | some x, some y => match Nat.blt i j && pairOkT l i j x y with
      | true => pairsOkT l r
      | false => false
    | _, _ => false
def tloop (body : TAct → Sto → Option (TEx × TAct × Sto)) : Nat → TAct → Sto → Option (TEx × TAct × Sto)
  | 0, _, _ => none
  | n + 1, a, σ => match body a σ with
    | some (.normal, a, σ) => tloop body n a σ
    | r => r
def tcode (an : Ann) (b : Nat) (C : TCallee) (n : Nat) : XCode → TAct → Sto → Option (TEx × TAct × Sto)
  | .skip, a, σ => some (.normal, a, σ)
  | .region ops, a, σ => tops an b C ops a σ
  | .regionD ops ps, a, σ => match topsD an b C ops a σ [] with
    | some (a, σ, l) => match pairsOkT l ps with
      | true => some (.normal, a, σ)
      | false => none
    | none => none
  | .seq x y, a, σ => match tcode an b C n x a σ with
    | some (.normal, a, σ) => tcode an b C n y a σ
    | r => r
  | .cond c x y, a, σ => match a.ev c with
    | .bool true => tcode an b C n x a σ
    | .bool false => tcode an b C n y a σ
    | _ => none
  | .block id c, a, σ => match tcode an b C n c a σ with
    | some (.exit k, a, σ) => match Nat.beq k id with
      | true => some (.normal, a, σ)
      | false => some (.exit k, a, σ)
    | r => r
  | .loop c, a, σ => tloop (tcode an b C n c) n a σ
  | .exit id, a, σ => some (.exit id, a, σ)
  | .ret, a, σ => some (.ret, a, σ)
def tres (a : TAct) (σ : Sto) : XRes → Option TV
  | .tmp t => some (a.ev (.tmp t))
  | .cell1 t => match a.ev (.tmp t) with
    | .bx _ cs _ => cs[0]?
    | .ptr k o => match σ.at k with
      | some ⟨_, .cells vs _⟩ => match vs[o]? with
        | some v => match isOwn v with
          | true => none
          | false => some v
        | none => none
      | _ => none
    | _ => none
  | .cellN t n => match a.ev (.tmp t) with
    | .bx _ cs _ => match Nat.ble n cs.length with
      | true => some (.agg ((cs.take n).map frz))
      | false => none
    | .ptr k o => match σ.at k with
      | some ⟨_, .cells vs _⟩ => match Nat.ble (o + n) vs.length && !((vs.drop o).take n).any isOwn with
        | true => some (.agg ((vs.drop o).take n))
        | false => none
      | _ => none
    | _ => none
def tresults (a : TAct) (σ : Sto) : List XRes → Option (List TV)
  | [] => some []
  | r :: l => match tres a σ r, tresults a σ l with
    | some v, some vs => some (v :: vs)
    | _, _ => none
def packedT : List TV → TV
  | [v] => v
  | l => .tuple l
inductive TMode where
  | ret
  | panicking (v : TV)
  | recovered
def topsR (an : Ann) (b : Nat) (C : TCallee) : List XOper → TAct → Sto → TMode → Option (TEx × TAct × Sto × TMode)
  | [], a, σ, m => some (.normal, a, σ, m)
  | o :: r, a, σ, m =>
    match wantedT a o.guard with
    | none => none
    | some false => topsR an b C r (a.put o.dst undT) σ m
    | some true => match o.op with
      | .recover => match m with
        | .panicking v => topsR an b C r (a.put o.dst v) σ .recovered
        | m => topsR an b C r (a.put o.dst .nili) σ m
      | _ => match tops an b C [o] a σ with
        | some (.normal, a, σ) => topsR an b C r a σ m
        | some (e, a, σ) => some (e, a, σ, m)
        | none => none
def tcodeR (an : Ann) (b : Nat) (C : TCallee) (n : Nat) : XCode → TAct → Sto → TMode → Option (TEx × TAct × Sto × TMode)
  | .region ops, a, σ, m => topsR an b C ops a σ m
  | .seq x y, a, σ, m => match tcodeR an b C n x a σ m with
    | some (.normal, a, σ, m) => tcodeR an b C n y a σ m
    | r => r
  | .cond c x y, a, σ, m => match a.ev c with
    | .bool true => tcodeR an b C n x a σ m
    | .bool false => tcodeR an b C n y a σ m
    | _ => none
  | .block id c, a, σ, m => match tcodeR an b C n c a σ m with
    | some (.exit k, a, σ, m) => match Nat.beq k id with
      | true => some (.normal, a, σ, m)
      | false => some (.exit k, a, σ, m)
    | r => r
  | c, a, σ, m => match tcode an b C n c a σ with
    | some (e, a, σ) => some (e, a, σ, m)
    | none => none
def enterT (args : List TV) : TAct := ⟨Tri.ofList args 0 .nil, [], 0⟩
def TMode.settle : TMode → TMode
  | .recovered => .ret
  | m => m
structure TFun where
  fn : XFun
  an : Ann
  keep : Bool
def tdefers (C : TCallee) (F : FuncId → Option TFun) (b n : Nat) : List TDfr → Sto → TMode → Option (Sto × TMode)
  | [], σ, m => some (σ, m)
  | d :: r, σ, m => match F d.f with
    | some fn => match tcodeR fn.an b C n fn.fn.body (enterT d.args) σ m with
      | some (e, a, σ, m) => match a.df, e, tresults a σ fn.fn.results with
        | [], .normal, some _ => tdefers C F b n r σ m.settle
        | [], .ret, some _ => tdefers C F b n r σ m.settle
        | _, _, _ => none
      | none => none
    | none => none
def tleave (keep : Bool) (k : Nat) (σ : Sto) (v : TV) : Option (TV × Sto) :=
  match keep with
  | true => some (v, σ)
  | false => match below k (canon v) with
    | true => some (canon v, σ.take k)
    | false => none
def tfinish (a : TAct) (fn : TFun) (k : Nat) (σ : Sto) : TMode → Option (TEnd × Sto)
  | .panicking v => match tleave fn.keep k σ v with
    | some (v, σ) => some (.panic v, σ)
    | none => none
  | _ => match tresults a σ fn.fn.results with
    | some l => match gives l with
      | some l => match tleave fn.keep k σ (packedT l) with
        | some (v, σ) => some (.ret v, σ)
        | none => none
      | none => none
    | none => none
def baseOf (keep : Bool) (b k : Nat) : Nat :=
  match keep with
  | true => b
  | false => k
def tcall (F : FuncId → Option TFun) (O : FuncId → List TV → Option TV) : Nat → TCallee
  | 0, _, _, _, _ => none
  | n + 1, b, f, args, σ => match F f with
    | some fn => match tcode fn.an (baseOf fn.keep b σ.length) (tcall F O n) n fn.fn.body (enterT args) σ with
      | some (.normal, a, σ1) => match tdefers (tcall F O n) F (baseOf fn.keep b σ.length) n a.df σ1 .ret with
        | some (σ2, m) => tfinish a fn σ.length σ2 m
        | none => none
      | some (.ret, a, σ1) => match tdefers (tcall F O n) F (baseOf fn.keep b σ.length) n a.df σ1 .ret with
        | some (σ2, m) => tfinish a fn σ.length σ2 m
        | none => none
      | some (.panic v, a, σ1) => match tdefers (tcall F O n) F (baseOf fn.keep b σ.length) n a.df σ1 (.panicking v) with
        | some (σ2, m) => tfinish a fn σ.length σ2 m
        | none => none
      | _ => none
    | none => match O f args with
      | some v => some (.ret v, σ)
      | none => none
end Go.Xt
end
section
namespace Go.Xt
open Go Go.Xe
set_option linter.unusedVariables false
abbrev Str := ByteArray
inductive PTyp where
  | mk (kind : Int) (list : List PTyp)
inductive PExpr where
  | mk (kind n : Int) (name : Str) (names : List Str) (odds : List Int) (kids : List PExpr) (line col : Int)
namespace PTyp
def kind : PTyp → Int | .mk k _ => k
def list : PTyp → List PTyp | .mk _ l => l
end PTyp
namespace PExpr
def kind : PExpr → Int | .mk k _ _ _ _ _ _ _ => k
def n : PExpr → Int | .mk _ n _ _ _ _ _ _ => n
def name : PExpr → Str | .mk _ _ s _ _ _ _ _ => s
def names : PExpr → List Str | .mk _ _ _ l _ _ _ _ => l
def odds : PExpr → List Int | .mk _ _ _ _ l _ _ _ => l
def kids : PExpr → List PExpr | .mk _ _ _ _ _ l _ _ => l
def line : PExpr → Int | .mk _ _ _ _ _ _ l _ => l
def col : PExpr → Int | .mk _ _ _ _ _ _ _ c => c
end PExpr
structure PFld where
  name : Str
  type : PTyp
  line : Int
  col : Int
structure PFun where
  name : Str
  params : List PFld
  result : PTyp
  body : PExpr
  line : Int
  col : Int
structure PProg where
  inputs : List PFld
  funs : List PFun
  query : PExpr
def i64 (n : Int) : TV := .int .i64 n
def encI (n : Int) : List TV := [.int .i64 n]
def encS (s : Str) : List TV := [.str s]
def encB (s : Bool) : List TV := [.bool s]
mutual
def encT : PTyp → List TV
  | .mk k l => [.int .i64 k, .sl .fz (encTs l)]
def encTs : List PTyp → List (List TV)
  | [] => []
  | t :: l => encT t :: encTs l
end
mutual
def encE : PExpr → List TV
  | .mk k n s ns od l ln c => [.int .i64 k, .int .i64 n, .str s, .sl .fz (ns.map encS), .sl .fz (od.map encI), .sl .fz (encEs l), .int .i64 ln, .int .i64 c]
def encEs : List PExpr → List (List TV)
  | [] => []
  | t :: l => encE t :: encEs l
end
theorem encTs_eq : ∀ l, encTs l = l.map encT
  | [] => rfl
  | t :: l => by simp only [encTs, List.map_cons, encTs_eq l]
theorem encEs_eq : ∀ l, encEs l = l.map encE
  | [] => rfl
  | t :: l => by simp only [encEs, List.map_cons, encEs_eq l]
theorem encT_def (t : PTyp) : encT t = [.int .i64 t.kind, .sl .fz (t.list.map encT)] := by cases t; simp only [encT, encTs_eq, PTyp.kind, PTyp.list]
theorem encE_def (e : PExpr) : encE e = [.int .i64 e.kind, .int .i64 e.n, .str e.name, .sl .fz (e.names.map encS), .sl .fz (e.odds.map encI), .sl .fz (e.kids.map encE), .int .i64 e.line, .int .i64 e.col] := by
  cases e; simp only [encE, encEs_eq, PExpr.kind, PExpr.n, PExpr.name, PExpr.names, PExpr.odds, PExpr.kids, PExpr.line, PExpr.col]
def encF (f : PFld) : List TV := .str f.name :: (encT f.type ++ [.int .i64 f.line, .int .i64 f.col])
def encFun (f : PFun) : List TV := .str f.name :: .sl .fz (f.params.map encF) :: (encT f.result ++ (encE f.body ++ [.int .i64 f.line, .int .i64 f.col]))
def encP (p : PProg) : List TV := .sl .fz (p.inputs.map encF) :: .sl .fz (p.funs.map encFun) :: encE p.query
theorem encF_def (f : PFld) : encF f = [.str f.name, .int .i64 f.type.kind, .sl .fz (f.type.list.map encT), .int .i64 f.line, .int .i64 f.col] := by
  simp only [encF, encT_def, List.cons_append, List.nil_append]
theorem encFun_def (f : PFun) : encFun f = [.str f.name, .sl .fz (f.params.map encF), .int .i64 f.result.kind, .sl .fz (f.result.list.map encT), .int .i64 f.body.kind, .int .i64 f.body.n, .str f.body.name, .sl .fz (f.body.names.map encS), .sl .fz (f.body.odds.map encI),
    .sl .fz (f.body.kids.map encE), .int .i64 f.body.line, .int .i64 f.body.col, .int .i64 f.line, .int .i64 f.col] := by
  simp only [encFun, encT_def, encE_def, List.cons_append, List.nil_append]
theorem encP_def (p : PProg) : encP p = [.sl .fz (p.inputs.map encF), .sl .fz (p.funs.map encFun), .int .i64 p.query.kind, .int .i64 p.query.n, .str p.query.name, .sl .fz (p.query.names.map encS), .sl .fz (p.query.odds.map encI),
    .sl .fz (p.query.kids.map encE), .int .i64 p.query.line, .int .i64 p.query.col] := by
  simp only [encP, encE_def]
mutual
def szT : PTyp → Nat
  | .mk _ l => szTs l + 4
def szTs : List PTyp → Nat
  | [] => 0
  | t :: l => szT t + 1 + szTs l
end
mutual
def szE : PExpr → Nat
  | .mk _ _ _ ns od l _ _ => szEs l + ns.length + od.length + 4
def szEs : List PExpr → Nat
  | [] => 0
  | t :: l => szE t + 1 + szEs l
end
theorem szTs_len : ∀ l, l.length ≤ szTs l
  | [] => Nat.le_refl _
  | t :: l => by simp only [szTs, List.length_cons]; have := szTs_len l; omega
theorem szTs_mem : ∀ (l : List PTyp) (t : PTyp), t ∈ l → szT t + 1 ≤ szTs l
  | [], t, h => by cases h
  | x :: l, t, h => by
    simp only [szTs]
    rcases List.mem_cons.1 h with rfl | h
    · omega
    · have := szTs_mem l t h; omega
theorem szEs_len : ∀ l, l.length ≤ szEs l
  | [] => Nat.le_refl _
  | t :: l => by simp only [szEs, List.length_cons]; have := szEs_len l; omega
theorem szEs_mem : ∀ (l : List PExpr) (t : PExpr), t ∈ l → szE t + 1 ≤ szEs l
  | [], t, h => by cases h
  | x :: l, t, h => by
    simp only [szEs]
    rcases List.mem_cons.1 h with rfl | h
    · omega
    · have := szEs_mem l t h; omega
theorem szT_def (t : PTyp) : szT t = szTs t.list + 4 := by cases t; simp only [szT, PTyp.list]
theorem szE_def (e : PExpr) : szE e = szEs e.kids + e.names.length + e.odds.length + 4 := by cases e; simp only [szE, PExpr.kids, PExpr.names, PExpr.odds]
end Go.Xt
end
section
namespace Go.Xt
open Go Go.Xe
set_option linter.unusedVariables false
set_option linter.unusedSimpArgs false
inductive Pc where
  | tmp (t : Nat)
  | tcell (t o : Nat)
  | obj (k : Nat)
  | cell (k o : Nat)
  | hand (h : Nat)
deriving DecidableEq
abbrev Own := Pc → Option Nat
def Zo (w : Own) (Pr : Nat → Prop) (i : Nat) : Prop := (∀ p, w p ≠ some i) ∧ ¬ Pr i
mutual
inductive RV (g : Hp) (μ : List Nat) (Z : Nat → Prop) : TV → Value → Prop
  | int (k : IntKind) (n : Int) : RV g μ Z (.int k n) (.int k n)
  | bool (b : Bool) : RV g μ Z (.bool b) (.bool b)
  | str (s : ByteArray) : RV g μ Z (.str s) (.string s)
  | nilp : RV g μ Z .nilp (.pointer none)
  | ptr {k o i : Nat} : μ[k]? = some i → RV g μ Z (.ptr k o) (.pointer (some ⟨i, o, none⟩))
  | elt {ch : List TV} {o i d ver : Nat} {vs : List Value} {e : TypeId} {ro : Bool} : Z i → g i = some ⟨ver, .cells vs e ro⟩ → d + ch.length ≤ vs.length → RVs g μ Z ch ((vs.drop d).take ch.length) →
      RV g μ Z (.elt ch o) (.pointer (some ⟨i, d + o, none⟩))
  | fz {chs : List (List TV)} {n i o c s ver : Nat} {vs : List Value} {e : TypeId} {ro : Bool} : Z i → g i = some ⟨ver, .cells vs e ro⟩ → okSz s chs = true → chs.length = n → (c < capU → n ≤ c) → (capU ≤ c → c = capU + s) → o + n * s ≤ vs.length →
      RVs g μ Z chs.flatten ((vs.drop o).take (n * s)) → RV g μ Z (.sl .fz chs) (.slice (some ⟨i, o, none⟩) n c)
  | fz0 (b : Option Addr) (c : Nat) : RV g μ Z (.sl .fz []) (.slice b 0 c)
  | nl : RV g μ Z (.sl .nl []) (.slice none 0 0)
  | ref {k o s n c i : Nat} : μ[k]? = some i → n ≤ c → RV g μ Z (.ref k o s n c) (.slice (some ⟨i, o, none⟩) n c)
  | nilm : RV g μ Z .nilm (.map none)
  | map {k i : Nat} : μ[k]? = some i → RV g μ Z (.map k) (.map (some i))
  | nilf : RV g μ Z .nilf .nilFunc
  | func (f : FuncId) {x y : List TV} {x' y' : Array Value} : RVs g μ Z x x'.toList → RVs g μ Z y y'.toList → RV g μ Z (.func f x y) (.func (.func f) x' y')
  | nili : RV g μ Z .nili .nilIface
  | iface (t : TypeId) {v : TV} {v' : Value} : RV g μ Z v v' → RV g μ Z (.iface t v) (.iface t v')
  | agg {l : List TV} {l' : Array Value} : RVs g μ Z l l'.toList → RV g μ Z (.agg l) (.agg l')
  | tuple {l : List TV} {l' : Array Value} : RVs g μ Z l l'.toList → RV g μ Z (.tuple l) (.tuple l')
  | dead (v : Value) : RV g μ Z .dead v
inductive RVs (g : Hp) (μ : List Nat) (Z : Nat → Prop) : List TV → List Value → Prop
  | nil : RVs g μ Z [] []
  | cons {v : TV} {v' : Value} {l : List TV} {l' : List Value} : RV g μ Z v v' → RVs g μ Z l l' → RVs g μ Z (v :: l) (v' :: l')
end
structure Mo (g : Hp) (μ : List Nat) (Z : Nat → Prop) (g' : Hp) (μ' : List Nat) (Z' : Nat → Prop) : Prop where
  mu : ∀ (k i : Nat), μ[k]? = some i → μ'[k]? = some i
  z : ∀ (i ver : Nat) (vs : List Value) (e : TypeId) (ro : Bool), Z i → g i = some ⟨ver, .cells vs e ro⟩ → Z' i ∧ g' i = some ⟨ver, .cells vs e ro⟩
mutual
theorem RV.mono {g g' : Hp} {μ μ' : List Nat} {Z Z' : Nat → Prop} (h : Mo g μ Z g' μ' Z') : ∀ {v : TV} {v' : Value}, RV g μ Z v v' → RV g' μ' Z' v v'
  | _, _, .int k n => .int k n
  | _, _, .bool b => .bool b
  | _, _, .str s => .str s
  | _, _, .nilp => .nilp
  | _, _, .ptr e => .ptr (h.mu _ _ e)
  | _, _, .elt a b c d => .elt (h.z _ _ _ _ _ a b).1 (h.z _ _ _ _ _ a b).2 c (d.mono h)
  | _, _, .fz a b c d e f m k => .fz (h.z _ _ _ _ _ a b).1 (h.z _ _ _ _ _ a b).2 c d e f m (k.mono h)
  | _, _, .fz0 b c => .fz0 b c
  | _, _, .nl => .nl
  | _, _, .ref e n => .ref (h.mu _ _ e) n
  | _, _, .nilm => .nilm
  | _, _, .map e => .map (h.mu _ _ e)
  | _, _, .nilf => .nilf
  | _, _, .func f a b => .func f (a.mono h) (b.mono h)
  | _, _, .nili => .nili
  | _, _, .iface t a => .iface t (a.mono h)
  | _, _, .agg a => .agg (a.mono h)
  | _, _, .tuple a => .tuple (a.mono h)
  | _, _, .dead v => .dead v
theorem RVs.mono {g g' : Hp} {μ μ' : List Nat} {Z Z' : Nat → Prop} (h : Mo g μ Z g' μ' Z') : ∀ {l : List TV} {l' : List Value}, RVs g μ Z l l' → RVs g' μ' Z' l l'
  | _, _, .nil => .nil
  | _, _, .cons a b => .cons (a.mono h) (b.mono h)
end
namespace RVs
variable {g : Hp} {μ : List Nat} {Z : Nat → Prop}
theorem length {l : List TV} {l' : List Value} (h : RVs g μ Z l l') : l'.length = l.length := by
  induction l generalizing l' with
  | nil => cases h; rfl
  | cons v l ih => cases h with | cons _ h => simp [ih h]
theorem get {l : List TV} {l' : List Value} (h : RVs g μ Z l l') : ∀ {i : Nat} {v : TV}, l[i]? = some v → ∃ v', l'[i]? = some v' ∧ RV g μ Z v v' := by
  induction l generalizing l' with
  | nil => intro i v e; simp at e
  | cons x l ih =>
    intro i v e
    cases h with
    | cons hx h =>
      cases i with
      | zero => simp at e; subst e; exact ⟨_, rfl, hx⟩
      | succ i => simp at e; obtain ⟨v', e', r⟩ := ih h e; exact ⟨v', by simpa using e', r⟩
theorem append {l m : List TV} {l' m' : List Value} (h : RVs g μ Z l l') (k : RVs g μ Z m m') : RVs g μ Z (l ++ m) (l' ++ m') := by
  induction l generalizing l' with
  | nil => cases h; exact k
  | cons x l ih => cases h with | cons hx h => exact .cons hx (ih h)
theorem drop {l : List TV} {l' : List Value} (h : RVs g μ Z l l') : ∀ n, RVs g μ Z (l.drop n) (l'.drop n) := by
  induction l generalizing l' with
  | nil => cases h; intro n; simp; exact .nil
  | cons x l ih =>
    intro n
    cases h with
    | cons hx h =>
      cases n with
      | zero => exact .cons hx h
      | succ n => exact ih h n
theorem take {l : List TV} {l' : List Value} (h : RVs g μ Z l l') : ∀ n, RVs g μ Z (l.take n) (l'.take n) := by
  induction l generalizing l' with
  | nil => cases h; intro n; simp; exact .nil
  | cons x l ih =>
    intro n
    cases h with
    | cons hx h =>
      cases n with
      | zero => exact .nil
      | succ n => exact .cons hx (ih h n)
theorem of_get {l : List TV} {l' : List Value} (hl : l'.length = l.length) (h : ∀ (i : Nat) (v : TV) (v' : Value), l[i]? = some v → l'[i]? = some v' → RV g μ Z v v') : RVs g μ Z l l' := by
  induction l generalizing l' with
  | nil => cases l' with | nil => exact .nil | cons => simp at hl
  | cons x l ih =>
    cases l' with
    | nil => simp at hl
    | cons x' l' => exact .cons (h 0 x x' rfl rfl) (ih (by simpa using hl) fun i v v' e e' => h (i + 1) v v' (by simpa using e) (by simpa using e'))
theorem map {α : Type} {f : α → TV} {f' : α → Value} (h : ∀ a, RV g μ Z (f a) (f' a)) : ∀ l : List α, RVs g μ Z (l.map f) (l.map f')
  | [] => .nil
  | a :: l => .cons (h a) (map h l)
theorem set {l : List TV} {l' : List Value} (h : RVs g μ Z l l') {v : TV} {v' : Value} (hv : RV g μ Z v v') : ∀ i, RVs g μ Z (l.set i v) (l'.set i v') := by
  induction l generalizing l' with
  | nil => cases h; intro n; exact .nil
  | cons x l ih =>
    intro n
    cases h with
    | cons hx h =>
      cases n with
      | zero => exact .cons hv h
      | succ n => exact .cons hx (ih h n)
theorem setList : ∀ {xs : List TV} {xs' : List Value}, RVs g μ Z xs xs' → ∀ {vs : List TV} {vs' : List Value} (i : Nat), RVs g μ Z vs vs' → i + xs.length ≤ vs.length → RVs g μ Z (putAt vs i xs) (Xe.setList vs' i xs')
  | _, _, .nil, vs, vs', i, h, _ => by simpa [putAt, Xe.setList] using h
  | x :: xs, x' :: xs', .cons hx hxs, vs, vs', i, h, hl => by
    simp only [List.length_cons] at hl
    have ih := setList hxs (i + 1) (h.set hx i) (by simp; omega)
    rw [Xe.setList]
    have : putAt (vs.set i x) (i + 1) xs = putAt vs i (x :: xs) := by
      unfold putAt
      have h1 : (vs.set i x).take (i + 1) = vs.take i ++ [x] := by
        rw [List.take_add_one]
        simp [List.take_set, List.getElem?_set, show i < vs.length by omega]
        rw [List.set_eq_of_length_le (by simp; omega)]
      have h2 : (vs.set i x).drop (i + 1 + xs.length) = vs.drop (i + (x :: xs).length) := by
        rw [List.drop_set, if_pos (by omega), List.length_cons]; congr 1; omega
      rw [h1, h2]; simp
    rw [this] at ih
    exact ih
end RVs
inductive RO (g : Hp) (μ : List Nat) (Z : Nat → Prop) (i : Nat) : TV → Value → Prop
  | mk {chs : List (List TV)} {n o c s ver : Nat} {vs : List Value} {e : TypeId} : g i = some ⟨ver, .cells vs e false⟩ → okSz s chs = true → chs.length = n → (c < capU → n ≤ c ∧ o + c * s ≤ vs.length) → (capU ≤ c → c = capU + s) → o + n * s ≤ vs.length →
      RVs g μ Z chs.flatten ((vs.drop o).take (n * s)) → RO g μ Z i (.sl (.own e s) chs) (.slice (some ⟨i, o, none⟩) n c)
theorem RO.mono {g g' : Hp} {μ μ' : List Nat} {Z Z' : Nat → Prop} (h : Mo g μ Z g' μ' Z') {i : Nat} (hi : g' i = g i) {v : TV} {v' : Value} (r : RO g μ Z i v v') : RO g' μ' Z' i v v' := by
  cases r with
  | mk a b c d e f k => exact .mk (hi ▸ a) b c d e f (k.mono h)
theorem RO.frz {g : Hp} {μ : List Nat} {Z : Nat → Prop} {i : Nat} {v : TV} {v' : Value} (r : RO g μ Z i v v') (hz : Z i) : RV g μ Z (frz v) v' := by
  cases r with
  | mk a b c d e f k => exact .fz hz a b c (fun h => (d h).1) e f k
end Go.Xt
end
section
namespace Go.Xt
open Go Go.Xe
set_option linter.unusedVariables false
set_option linter.unusedSimpArgs false
def isAl : TV → Bool
  | .via _ _ => true
  | .vel _ _ _ _ => true
  | .vpt _ _ _ => true
  | _ => false
def RC (g : Hp) (μ : List Nat) (Z : Nat → Prop) : Option Nat → TV → Value → Prop
  | none, tv, v => RV g μ Z tv v
  | some i, tv, v => RO g μ Z i tv v
structure RCs (g : Hp) (μ : List Nat) (Z : Nat → Prop) (ow : Nat → Option Nat) (cs : List TV) (vs : List Value) : Prop where
  len : vs.length = cs.length
  get : ∀ (o : Nat) (tv : TV) (v : Value), cs[o]? = some tv → vs[o]? = some v → RC g μ Z (ow o) tv v
  out : ∀ o, cs.length ≤ o → ow o = none
inductive RT (g : Hp) (μ : List Nat) (Z : Nat → Prop) (w : Own) (clk t : Nat) : TV → Value → Prop
  | plain {tv : TV} {v : Value} : RV g μ Z tv v → w (.tmp t) = none → (∀ o, w (.tcell t o) = none) → RT g μ Z w clk t tv v
  | own {i : Nat} {tv : TV} {v : Value} : w (.tmp t) = some i → (∀ o, w (.tcell t o) = none) → RO g μ Z i tv v → RT g μ Z w clk t tv v
  | bx {i ser : Nat} {cs : List TV} {e : TypeId} {ver : Nat} {vs : List Value} : w (.tmp t) = some i → g i = some ⟨ver, .cells vs e false⟩ → RCs g μ Z (fun o => w (.tcell t o)) cs vs → ser < clk →
      RT g μ Z w clk t (.bx ser cs e) (.pointer (some ⟨i, 0, none⟩))
  | al {tv : TV} {v : Value} : isAl tv = true → w (.tmp t) = none → (∀ o, w (.tcell t o) = none) → RT g μ Z w clk t tv v
def HVal (μ : List Nat) (w : Own) (ax : Xe.Act) (g : Hp) : Pl → Value → Prop
  | .tmp t, v => v = ax.ev (.tmp t)
  | .tcell t o _, v => ∃ i ver vs e, w (.tmp t) = some i ∧ g i = some ⟨ver, .cells vs e false⟩ ∧ vs[o]? = some v
  | .cell k o, v => ∃ i ver vs e, μ[k]? = some i ∧ g i = some ⟨ver, .cells vs e false⟩ ∧ vs[o]? = some v
def AL (μ : List Nat) (w : Own) (a : TAct) (σ : Sto) (ax : Xe.Act) (g : Hp) : TV → Value → Prop
  | .via p c, v => c ≤ a.clk ∧ (c = a.clk → ∀ chs, plGet a σ p = some chs → HVal μ w ax g p v)
  | .vel p c j o, v => c ≤ a.clk ∧ (c = a.clk → ∀ chs ch, plGet a σ p = some chs → chs[j]? = some ch → ∃ i b n cc, HVal μ w ax g p (.slice (some ⟨i, b, none⟩) n cc) ∧ v = .pointer (some ⟨i, b + j * ch.length + o, none⟩))
  | .vpt t o ser, v => ser < a.clk ∧ ∀ cs e, a.ev (.tmp t) = .bx ser cs e → ∃ i, w (.tmp t) = some i ∧ v = .pointer (some ⟨i, o, none⟩)
  | _, _ => True
def RB (g : Hp) (μ : List Nat) (Z : Nat → Prop) (w : Own) (k : Nat) : TBody → ABody → Prop
  | .cells cs e, .cells vs e' ro => e' = e ∧ ro = false ∧ RCs g μ Z (fun o => w (.cell k o)) cs vs
  | .map es ck, .map es' ck' => ck' = ck ∧ es'.length = es.length ∧ (∀ (j : Nat) (x : TV × TV × Nat) (y : MapEntry), es[j]? = some x → es'[j]? = some y → RV g μ Z x.1 y.key ∧ RV g μ Z x.2.1 y.val ∧ y.born = x.2.2) ∧ ∀ o, w (.cell k o) = none
  | .iter s p, .iter s' p' => s' = s ∧ p' = p ∧ ∀ o, w (.cell k o) = none
  | _, _ => False
def RObj (g : Hp) (μ : List Nat) (Z : Nat → Prop) (w : Own) (k : Nat) (o : TObj) : Prop :=
  ∃ i b, μ[k]? = some i ∧ g i = some ⟨o.ver, b⟩ ∧ RB g μ Z w k o.body b
def RDf (g : Hp) (μ : List Nat) (Z : Nat → Prop) : List TDfr → List Dfr → Prop
  | [], [] => True
  | d :: l, d' :: l' => d'.f = d.f ∧ RVs g μ Z d.args d'.args ∧ RDf g μ Z l l'
  | _, _ => False
structure Rs (Pr : Nat → Prop) (μ : List Nat) (w : Own) (σ : Sto) (s : AS) : Prop where
  dm : Dm s
  len : μ.length = σ.length
  inj : ∀ p q i, w p = some i → w q = some i → p = q
  pr : ∀ p i, w p = some i → ¬ Pr i
  live : ∀ p i, w p = some i → i < s.next
  wobj : ∀ k, w (.obj k) = μ[k]?
  out : ∀ k c, σ.length ≤ k → w (.cell k c) = none
  obj : ∀ k o, σ.at k = some o → RObj s.get μ (Zo w Pr) w k o
  full : True
structure Rl (Pr : Nat → Prop) (μ : List Nat) (w : Own) (a : TAct) (σ : Sto) (ax : Xe.Act) (s : AS) : Prop extends Rs Pr μ w σ s where
  tm : ∀ t, RT s.get μ (Zo w Pr) w a.clk t (a.ev (.tmp t)) (ax.ev (.tmp t))
  al : ∀ t, AL μ w a σ ax s.get (a.ev (.tmp t)) (ax.ev (.tmp t))
  df : RDf s.get μ (Zo w Pr) a.df ax.df
theorem RC.mono {g g' : Hp} {μ μ' : List Nat} {Z Z' : Nat → Prop} (h : Mo g μ Z g' μ' Z') : ∀ {ow : Option Nat}, (∀ i, ow = some i → g' i = g i) → ∀ {tv : TV} {v : Value}, RC g μ Z ow tv v → RC g' μ' Z' ow tv v
  | none, _, _, _, r => RV.mono h r
  | some i, hi, _, _, r => RO.mono h (hi i rfl) r
theorem RCs.mono {g g' : Hp} {μ μ' : List Nat} {Z Z' : Nat → Prop} (h : Mo g μ Z g' μ' Z') {ow : Nat → Option Nat} (hi : ∀ o i, ow o = some i → g' i = g i) {cs : List TV} {vs : List Value} (r : RCs g μ Z ow cs vs) : RCs g' μ' Z' ow cs vs :=
  ⟨r.len, fun o tv v h1 h2 => (r.get o tv v h1 h2).mono h (hi o), r.out⟩
theorem RT.mono {g g' : Hp} {μ μ' : List Nat} {Z Z' : Nat → Prop} {w w' : Own} {clk clk' t : Nat} (h : Mo g μ Z g' μ' Z') (h1 : w' (.tmp t) = w (.tmp t)) (h2 : ∀ o, w' (.tcell t o) = w (.tcell t o)) (h3 : ∀ i, w (.tmp t) = some i → g' i = g i)
    (h4 : ∀ o i, w (.tcell t o) = some i → g' i = g i) (hc : clk ≤ clk') {tv : TV} {v : Value} (r : RT g μ Z w clk t tv v) : RT g' μ' Z' w' clk' t tv v := by
  cases r with
  | plain a b c => exact .plain (a.mono h) (h1.trans b) fun o => (h2 o).trans (c o)
  | own a b c => exact .own (h1.trans a) (fun o => (h2 o).trans (b o)) (c.mono h (h3 _ a))
  | bx a b c d =>
    refine .bx (h1.trans a) ((h3 _ a).trans b) ?_ (by omega)
    have : (fun o => w' (.tcell t o)) = fun o => w (.tcell t o) := funext h2
    rw [this]
    exact c.mono h h4
  | al a b c => exact .al a (h1.trans b) fun o => (h2 o).trans (c o)
theorem RB.mono {g g' : Hp} {μ μ' : List Nat} {Z Z' : Nat → Prop} {w w' : Own} {k : Nat} (h : Mo g μ Z g' μ' Z') (h2 : ∀ o, w' (.cell k o) = w (.cell k o)) (h4 : ∀ o i, w (.cell k o) = some i → g' i = g i) {b : TBody} {b' : ABody} (r : RB g μ Z w k b b') : RB g' μ' Z' w' k b b' := by
  cases b <;> cases b' <;> simp only [RB] at r ⊢
  · refine ⟨r.1, r.2.1, ?_⟩
    have : (fun o => w' (.cell k o)) = fun o => w (.cell k o) := funext h2
    rw [this]
    exact r.2.2.mono h h4
  · exact ⟨r.1, r.2.1, fun j x y hx hy => ⟨(r.2.2.1 j x y hx hy).1.mono h, (r.2.2.1 j x y hx hy).2.1.mono h, (r.2.2.1 j x y hx hy).2.2⟩, fun o => (h2 o).trans (r.2.2.2 o)⟩
  · exact ⟨r.1, r.2.1, fun o => (h2 o).trans (r.2.2 o)⟩
theorem RObj.mono {g g' : Hp} {μ μ' : List Nat} {Z Z' : Nat → Prop} {w w' : Own} {k : Nat} (h : Mo g μ Z g' μ' Z') (h2 : ∀ o, w' (.cell k o) = w (.cell k o)) (h3 : ∀ i, μ[k]? = some i → g' i = g i) (h4 : ∀ o i, w (.cell k o) = some i → g' i = g i) {o : TObj} (r : RObj g μ Z w k o) : RObj g' μ' Z' w' k o := by
  obtain ⟨i, b, a1, a2, a3⟩ := r
  exact ⟨i, b, h.mu _ _ a1, (h3 _ a1).trans a2, a3.mono h h2 h4⟩
theorem RDf.mono {g g' : Hp} {μ μ' : List Nat} {Z Z' : Nat → Prop} (h : Mo g μ Z g' μ' Z') : ∀ {l : List TDfr} {l' : List Dfr}, RDf g μ Z l l' → RDf g' μ' Z' l l'
  | [], [], _ => trivial
  | _ :: _, _ :: _, ⟨a, b, c⟩ => ⟨a, b.mono h, c.mono h⟩
  | [], _ :: _, h => h.elim
  | _ :: _, [], h => h.elim
theorem RV.notown {g : Hp} {μ : List Nat} {Z : Nat → Prop} {tv : TV} {v : Value} (r : RV g μ Z tv v) : ownChs tv = none ∧ isOwn tv = false ∧ isAl tv = false ∧ ∀ s cs e, tv ≠ .bx s cs e := by
  cases r <;> exact ⟨rfl, rfl, rfl, fun _ _ _ h => by cases h⟩
section
variable {Pr : Nat → Prop} {μ μ' : List Nat} {w w' : Own} {a a' : TAct} {σ σ' : Sto} {ax ax' : Xe.Act} {s s' : AS}
theorem Rl.step (r : Rl Pr μ w a σ ax s) (mo : Mo s.get μ (Zo w Pr) s'.get μ' (Zo w' Pr)) (rs : Rs Pr μ' w' σ' s') (hclk : a.clk < a'.clk)
    (tm : ∀ t, (a'.ev (.tmp t) = a.ev (.tmp t) ∧ ax'.ev (.tmp t) = ax.ev (.tmp t) ∧ w' (.tmp t) = w (.tmp t) ∧ (∀ o, w' (.tcell t o) = w (.tcell t o)) ∧ (∀ i, w (.tmp t) = some i → s'.get i = s.get i) ∧ (∀ o i, w (.tcell t o) = some i → s'.get i = s.get i)) ∨
      (RT s'.get μ' (Zo w' Pr) w' a'.clk t (a'.ev (.tmp t)) (ax'.ev (.tmp t)) ∧ isAl (a'.ev (.tmp t)) = false ∧ ∀ ser cs e, a'.ev (.tmp t) = .bx ser cs e → a.clk ≤ ser ∨ ((∃ cs' e', a.ev (.tmp t) = .bx ser cs' e') ∧ w' (.tmp t) = w (.tmp t))))
    (df : a'.df = a.df ∧ ax'.df = ax.df) : Rl Pr μ' w' a' σ' ax' s' := by
  refine ⟨rs, fun t => ?_, fun t => ?_, ?_⟩
  · rcases tm t with ⟨h1, h2, h3, h4, h5, h6⟩ | ⟨h, _⟩
    · rw [h1, h2]; exact (r.tm t).mono mo h3 h4 h5 h6 (Nat.le_of_lt hclk)
    · exact h
  · rcases tm t with ⟨h1, h2, h3, h4, h5, h6⟩ | ⟨h, hal, _⟩
    · rw [h1, h2]
      have ha := r.al t
      revert ha
      generalize a.ev (.tmp t) = x
      generalize ax.ev (.tmp t) = y
      intro ha
      cases x <;> first | trivial | skip
      · simp only [AL] at ha ⊢
        exact ⟨by omega, fun h => by omega⟩
      · simp only [AL] at ha ⊢
        exact ⟨by omega, fun h => by omega⟩
      · rename_i t' o ser
        simp only [AL] at ha ⊢
        refine ⟨by omega, fun cs e hb => ?_⟩
        rcases tm t' with ⟨k1, k2, k3, k4, k5, k6⟩ | ⟨_, _, k⟩
        · rw [k1] at hb; rw [k3]; exact ha.2 cs e hb
        · rcases k ser cs e hb with k | ⟨⟨cs', e', k⟩, k'⟩
          · omega
          · rw [k']; exact ha.2 cs' e' k
    · revert hal
      generalize a'.ev (.tmp t) = x
      intro hal
      cases x <;> first | trivial | (cases hal)
  · rw [df.1, df.2]; exact r.df.mono mo
def rel (w : Own) (d : Option Nat) : Own
  | .tmp t => match d with
    | some d => if d = t then none else w (.tmp t)
    | none => w (.tmp t)
  | .tcell t o => match d with
    | some d => if d = t then none else w (.tcell t o)
    | none => w (.tcell t o)
  | p => w p
theorem rel_le (w : Own) (d : Option Nat) (p : Pc) (i : Nat) (h : rel w d p = some i) : w p = some i := by
  cases p <;> simp only [rel] at h <;> try exact h
  all_goals (cases d <;> simp only at h <;> first | exact h | (split at h <;> first | cases h | exact h))
theorem Zo.sub {w w' : Own} (h : ∀ p i, w' p = some i → w p = some i) {i : Nat} (z : Zo w Pr i) : Zo w' Pr i := ⟨fun p e => z.1 p (h p i e), z.2⟩
theorem Mo.sub {g : Hp} {w w' : Own} (h : ∀ p i, w' p = some i → w p = some i) : Mo g μ (Zo w Pr) g μ (Zo w' Pr) := ⟨fun _ _ e => e, fun i _ _ _ _ z hg => ⟨z.sub h, hg⟩⟩
theorem Mo.refl (g : Hp) (μ : List Nat) (Z : Nat → Prop) : Mo g μ Z g μ Z := ⟨fun _ _ e => e, fun i _ _ _ _ z hg => ⟨z, hg⟩⟩
theorem Mo.trans {g g1 g2 : Hp} {μ μ1 μ2 : List Nat} {Z Z1 Z2 : Nat → Prop} (a : Mo g μ Z g1 μ1 Z1) (b : Mo g1 μ1 Z1 g2 μ2 Z2) : Mo g μ Z g2 μ2 Z2 :=
  ⟨fun k i e => b.mu k i (a.mu k i e), fun i ver vs e ro z hg => have h := a.z i ver vs e ro z hg; b.z i ver vs e ro h.1 h.2⟩
theorem Rs.sub (r : Rs Pr μ w σ s) (h : ∀ p i, w' p = some i → w p = some i) (ho : ∀ k, w' (.obj k) = w (.obj k)) (hc : ∀ k c, w' (.cell k c) = w (.cell k c)) : Rs Pr μ w' σ s :=
  ⟨r.dm, r.len, fun p q i e f => r.inj p q i (h p i e) (h q i f), fun p i e => r.pr p i (h p i e), fun p i e => r.live p i (h p i e), fun k => (ho k).trans (r.wobj k), fun k c hk => (hc k c).trans (r.out k c hk),
    fun k o e => (r.obj k o e).mono (Mo.sub h) (hc k) (fun _ _ => rfl) (fun _ _ _ => rfl), r.full⟩
theorem TAct.ev_put_same (a : TAct) (d : Nat) (v : TV) : (a.put (some d) v).ev (.tmp d) = v := by
  simp only [TAct.put, TAct.ev, Tri.get_set_same]
theorem TAct.ev_put_ne (a : TAct) {d t : Nat} (v : TV) (h : d ≠ t) : (a.put (some d) v).ev (.tmp t) = a.ev (.tmp t) := by
  simp only [TAct.put, TAct.ev, Tri.get_set_ne _ _ h]
def Pl.offT (d : Nat) : Pl → Bool
  | .tmp t => !(Nat.beq d t)
  | .tcell t _ _ => !(Nat.beq d t)
  | .cell _ _ => true
theorem beq_false {a b : Nat} : (!(Nat.beq a b)) = true ↔ a ≠ b := by
  rw [beqNat]; simp
theorem plGet_put {d : Nat} {tv : TV} {p : Pl} (h : ownChs tv = none) (hb : ∀ s cs e, tv ≠ .bx s cs e) {chs : List (List TV)} (hp : plGet (a.put (some d) tv) σ p = some chs) : p.offT d = true ∧ plGet a σ p = some chs := by
  cases p with
  | tmp t =>
    by_cases e : d = t
    · subst e; simp only [plGet, TAct.ev_put_same, h] at hp; cases hp
    · simp only [plGet, TAct.ev_put_ne a tv e] at hp ⊢; exact ⟨beq_false.2 e, hp⟩
  | tcell t o ser =>
    by_cases e : d = t
    · subst e
      simp only [plGet, boxAt, TAct.ev_put_same] at hp
      revert hp hb
      cases tv <;> intro hb hp <;> first | exact absurd rfl (hb _ _ _) | cases hp
    · simp only [plGet, boxAt, TAct.ev_put_ne a tv e] at hp ⊢; exact ⟨beq_false.2 e, hp⟩
  | cell k o => exact ⟨rfl, hp⟩
theorem hval_put {g : Hp} {d : Nat} {p : Pl} {x v : Value} (h : p.offT d = true) (hv : HVal μ w ax g p v) : HVal μ (rel w (some d)) (ax.put (some d) x) g p v := by
  cases p with
  | tmp t =>
    have e := beq_false.1 h
    simp only [HVal] at hv ⊢
    rw [Act.ev_put_ne _ _ e]; exact hv
  | tcell t o ser =>
    have e := beq_false.1 h
    obtain ⟨i, ver, vs, e', h1, h2, h3⟩ := hv
    exact ⟨i, ver, vs, e', by simp only [rel, if_neg e]; exact h1, h2, h3⟩
  | cell k o => exact hv
theorem rel_tmp_same (w : Own) (d : Nat) : rel w (some d) (.tmp d) = none := by simp [rel]
theorem rel_tcell_same (w : Own) (d o : Nat) : rel w (some d) (.tcell d o) = none := by simp [rel]
theorem rel_tmp_ne (w : Own) {d t : Nat} (h : d ≠ t) : rel w (some d) (.tmp t) = w (.tmp t) := by simp [rel, h]
theorem rel_tcell_ne (w : Own) {d t : Nat} (o : Nat) (h : d ≠ t) : rel w (some d) (.tcell t o) = w (.tcell t o) := by simp [rel, h]
theorem rel_none (w : Own) : rel w none = w := by funext p; cases p <;> rfl
theorem Rl.put (r : Rl Pr μ w a σ ax s) (d : Option Nat) {tv : TV} {v : Value} (h : RV s.get μ (Zo w Pr) tv v ∨ (isAl tv = true ∧ AL μ w a σ ax s.get tv v)) : Rl Pr μ (rel w d) (a.put d tv) σ (ax.put d v) s := by
  have hsub := rel_le w d
  cases d with
  | none => rw [rel_none]; exact r
  | some d =>
    have hno : ownChs tv = none ∧ ∀ s cs e, tv ≠ .bx s cs e := by
      rcases h with h | ⟨h, _⟩
      · exact ⟨h.notown.1, h.notown.2.2.2⟩
      · cases tv <;> simp [isAl] at h <;> exact ⟨rfl, fun _ _ _ h => by cases h⟩
    have hal : ∀ x y, AL μ w a σ ax s.get x y → AL μ (rel w (some d)) (a.put (some d) tv) σ (ax.put (some d) v) s.get x y := by
      intro x y hx
      cases x <;> first | trivial | skip
      · exact ⟨hx.1, fun hc chs hp => hval_put (plGet_put hno.1 hno.2 hp).1 (hx.2 hc chs (plGet_put hno.1 hno.2 hp).2)⟩
      · refine ⟨hx.1, fun hc chs ch hp hj => ?_⟩
        obtain ⟨i, b, n, cc, h1, h2⟩ := hx.2 hc chs ch (plGet_put hno.1 hno.2 hp).2 hj
        exact ⟨i, b, n, cc, hval_put (plGet_put hno.1 hno.2 hp).1 h1, h2⟩
      · rename_i t o ser
        refine ⟨hx.1, fun cs e hb => ?_⟩
        by_cases e2 : d = t
        · subst e2; rw [TAct.ev_put_same] at hb; exact absurd hb (hno.2 _ _ _)
        · rw [TAct.ev_put_ne a tv e2] at hb
          rw [rel_tmp_ne w e2]
          exact hx.2 cs e hb
    refine ⟨r.toRs.sub hsub (fun _ => rfl) (fun _ _ => rfl), fun t => ?_, fun t => ?_, ?_⟩
    · by_cases e : d = t
      · subst e
        rw [TAct.ev_put_same, Act.ev_put_same]
        rcases h with h | ⟨h, _⟩
        · exact .plain (h.mono (Mo.sub hsub)) (rel_tmp_same w d) (rel_tcell_same w d)
        · exact .al h (rel_tmp_same w d) (rel_tcell_same w d)
      · rw [TAct.ev_put_ne a tv e, Act.ev_put_ne ax v e]
        exact (r.tm t).mono (Mo.sub hsub) (rel_tmp_ne w e) (fun o => rel_tcell_ne w o e) (fun _ _ => rfl) (fun _ _ _ => rfl) (Nat.le_refl _)
    · by_cases e : d = t
      · subst e
        rw [TAct.ev_put_same, Act.ev_put_same]
        rcases h with h | ⟨h, h'⟩
        · have := h.notown.2.2.1
          revert this
          generalize tv = x
          intro this
          cases x <;> first | trivial | cases this
        · exact hal _ _ h'
      · rw [TAct.ev_put_ne a tv e, Act.ev_put_ne ax v e]
        exact hal _ _ (r.al t)
    · exact r.df.mono (Mo.sub hsub)
end
end Go.Xt
end
