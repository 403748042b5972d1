/-
  A part of the proof: it is imported by YtalckpkiplhbcaaGreatDoorTop. Nothing here is a claim of its own.
-/
import Derived.Test.YtalckpkiplhbcaaGreatDoorK4
section
namespace Go.Xe.YtalckpkiplhbcaaGreatDoor
open Go Go.Xe Go.Xt
@[simp] def a3 : Ann := fun d => if d = 4 then 1 else if d = 8 then 1 else if d = 9 then 2 else if d = 19 then 1 else if d = 21 then 2 else if d = 24 then 2 else if d = 28 then 1 else 0
def f3 : TFun := ⟨x3, a3, false⟩
@[simp] theorem f3_an : f3.an = a3 := rfl
@[simp] theorem f3_body : f3.fn.body = x3.body := rfl
@[simp] theorem f3_keep : f3.keep = false := rfl
@[simp] theorem f3_res : f3.fn.results = [.tmp 4] := rfl
@[simp] def a6 : Ann := fun d => if d = 4 then 1 else if d = 5 then 1 else if d = 6 then 1 else if d = 11 then 1 else if d = 17 then 1 else if d = 18 then 2 else if d = 20 then 2 else if d = 27 then 2 else if d = 29 then 2 else if d = 34 then 1 else if d = 35 then 2 else if d = 36 then 2 else if d = 39 then 2 else if d = 47 then 2 else if d = 48 then 2 else if d = 50 then 2 else if d = 51 then 2 else 0
def f6 : TFun := ⟨x6, a6, false⟩
@[simp] theorem f6_an : f6.an = a6 := rfl
@[simp] theorem f6_body : f6.fn.body = x6.body := rfl
@[simp] theorem f6_keep : f6.keep = false := rfl
@[simp] theorem f6_res : f6.fn.results = [.tmp 4] := rfl
@[simp] def a7 : Ann := fun d => if d = 4 then 1 else if d = 5 then 1 else if d = 6 then 1 else if d = 7 then 2 else if d = 11 then 2 else if d = 17 then 2 else if d = 18 then 2 else if d = 20 then 2 else if d = 21 then 2 else 0
def f7 : TFun := ⟨x7, a7, false⟩
@[simp] theorem f7_an : f7.an = a7 := rfl
@[simp] theorem f7_body : f7.fn.body = x7.body := rfl
@[simp] theorem f7_keep : f7.keep = false := rfl
@[simp] theorem f7_res : f7.fn.results = [.tmp 4] := rfl
@[simp] def a9 : Ann := fun d => if d = 2 then 1 else if d = 5 then 1 else if d = 12 then 1 else if d = 18 then 1 else if d = 20 then 2 else if d = 23 then 1 else if d = 25 then 2 else if d = 28 then 1 else if d = 31 then 2 else if d = 38 then 2 else if d = 40 then 1 else if d = 50 then 3 else if d = 52 then 2 else if d = 54 then 1 else if d = 58 then 2 else if d = 63 then 2 else 0
def f9 : TFun := ⟨x9, a9, false⟩
@[simp] theorem f9_an : f9.an = a9 := rfl
@[simp] theorem f9_body : f9.fn.body = x9.body := rfl
@[simp] theorem f9_keep : f9.keep = false := rfl
@[simp] theorem f9_res : f9.fn.results = [.tmp 2] := rfl
@[simp] def a10 : Ann := fun d => if d = 2 then 1 else if d = 3 then 1 else if d = 4 then 1 else if d = 9 then 1 else if d = 15 then 1 else if d = 18 then 2 else if d = 24 then 1 else if d = 26 then 2 else if d = 29 then 1 else if d = 31 then 2 else if d = 34 then 2 else if d = 39 then 2 else if d = 48 then 2 else if d = 53 then 2 else 0
def f10 : TFun := ⟨x10, a10, false⟩
@[simp] theorem f10_an : f10.an = a10 := rfl
@[simp] theorem f10_body : f10.fn.body = x10.body := rfl
@[simp] theorem f10_keep : f10.keep = false := rfl
@[simp] theorem f10_res : f10.fn.results = [.tmp 2] := rfl
@[simp] def a11 : Ann := fun d => if d = 4 then 1 else if d = 6 then 2 else if d = 7 then 2 else 0
def f11 : TFun := ⟨x11, a11, false⟩
@[simp] theorem f11_an : f11.an = a11 := rfl
@[simp] theorem f11_body : f11.fn.body = x11.body := rfl
@[simp] theorem f11_keep : f11.keep = false := rfl
@[simp] theorem f11_res : f11.fn.results = [.tmp 4] := rfl
@[simp] def a12 : Ann := fun d => if d = 5 then 1 else if d = 12 then 2 else if d = 16 then 2 else 0
def f12 : TFun := ⟨x12, a12, false⟩
@[simp] theorem f12_an : f12.an = a12 := rfl
@[simp] theorem f12_body : f12.fn.body = x12.body := rfl
@[simp] theorem f12_keep : f12.keep = false := rfl
@[simp] theorem f12_res : f12.fn.results = [.tmp 4] := rfl
@[simp] def a23 : Ann := fun d => if d = 4 then 1 else if d = 5 then 1 else if d = 6 then 1 else if d = 7 then 2 else if d = 11 then 2 else if d = 17 then 2 else if d = 18 then 2 else if d = 20 then 2 else if d = 21 then 2 else 0
def f23 : TFun := ⟨x23, a23, false⟩
@[simp] theorem f23_an : f23.an = a23 := rfl
@[simp] theorem f23_body : f23.fn.body = x23.body := rfl
@[simp] theorem f23_keep : f23.keep = false := rfl
@[simp] theorem f23_res : f23.fn.results = [.tmp 4] := rfl
@[simp] def a24 : Ann := fun d => if d = 1 then 1 else if d = 6 then 1 else if d = 7 then 1 else if d = 8 then 2 else if d = 14 then 2 else if d = 20 then 2 else if d = 22 then 2 else if d = 27 then 1 else if d = 28 then 2 else if d = 29 then 2 else if d = 32 then 2 else if d = 39 then 2 else if d = 40 then 2 else if d = 42 then 1 else 0
def f24 : TFun := ⟨x24, a24, false⟩
@[simp] theorem f24_an : f24.an = a24 := rfl
@[simp] theorem f24_body : f24.fn.body = x24.body := rfl
@[simp] theorem f24_keep : f24.keep = false := rfl
@[simp] theorem f24_res : f24.fn.results = [.tmp 6] := rfl
@[simp] def a25 : Ann := fun d => if d = 1 then 1 else if d = 6 then 1 else if d = 7 then 1 else if d = 8 then 2 else if d = 10 then 2 else if d = 15 then 1 else if d = 16 then 2 else if d = 17 then 2 else if d = 20 then 2 else if d = 27 then 2 else if d = 28 then 2 else if d = 30 then 1 else 0
def f25 : TFun := ⟨x25, a25, false⟩
@[simp] theorem f25_an : f25.an = a25 := rfl
@[simp] theorem f25_body : f25.fn.body = x25.body := rfl
@[simp] theorem f25_keep : f25.keep = false := rfl
@[simp] theorem f25_res : f25.fn.results = [.tmp 6] := rfl
@[simp] def a28 : Ann := fun d => if d = 2 then 1 else 0
def f28 : TFun := ⟨x28, a28, false⟩
@[simp] theorem f28_an : f28.an = a28 := rfl
@[simp] theorem f28_body : f28.fn.body = x28.body := rfl
@[simp] theorem f28_keep : f28.keep = false := rfl
@[simp] theorem f28_res : f28.fn.results = [.tmp 2] := rfl
@[simp] def a29 : Ann := fun d => if d = 4 then 1 else if d = 5 then 1 else if d = 6 then 1 else if d = 8 then 2 else if d = 10 then 1 else if d = 12 then 2 else if d = 15 then 1 else if d = 17 then 2 else if d = 19 then 2 else if d = 22 then 1 else if d = 24 then 2 else if d = 28 then 2 else if d = 29 then 3 else if d = 31 then 2 else if d = 32 then 1 else if d = 34 then 1 else if d = 36 then 1 else if d = 39 then 2 else if d = 41 then 2 else if d = 44 then 2 else if d = 47 then 2 else 0
def f29 : TFun := ⟨x29, a29, false⟩
@[simp] theorem f29_an : f29.an = a29 := rfl
@[simp] theorem f29_body : f29.fn.body = x29.body := rfl
@[simp] theorem f29_keep : f29.keep = false := rfl
@[simp] theorem f29_res : f29.fn.results = [.tmp 4] := rfl
@[simp] def a30 : Ann := fun d => if d = 2 then 1 else 0
def f30 : TFun := ⟨x30, a30, false⟩
@[simp] theorem f30_an : f30.an = a30 := rfl
@[simp] theorem f30_body : f30.fn.body = x30.body := rfl
@[simp] theorem f30_keep : f30.keep = false := rfl
@[simp] theorem f30_res : f30.fn.results = [.tmp 2] := rfl
@[simp] def a31 : Ann := fun d => if d = 4 then 1 else if d = 5 then 1 else if d = 6 then 1 else if d = 8 then 2 else if d = 10 then 1 else if d = 12 then 2 else if d = 15 then 1 else if d = 17 then 2 else if d = 19 then 2 else if d = 22 then 1 else if d = 24 then 2 else if d = 29 then 2 else if d = 31 then 2 else if d = 34 then 3 else if d = 35 then 2 else if d = 37 then 2 else if d = 39 then 2 else if d = 41 then 2 else if d = 47 then 2 else 0
def f31 : TFun := ⟨x31, a31, false⟩
@[simp] theorem f31_an : f31.an = a31 := rfl
@[simp] theorem f31_body : f31.fn.body = x31.body := rfl
@[simp] theorem f31_keep : f31.keep = false := rfl
@[simp] theorem f31_res : f31.fn.results = [.tmp 4] := rfl
@[simp] def a32 : Ann := fun d => if d = 7 then 1 else if d = 15 then 2 else if d = 17 then 1 else if d = 19 then 1 else if d = 23 then 1 else if d = 26 then 2 else 0
def f32 : TFun := ⟨x32, a32, false⟩
@[simp] theorem f32_an : f32.an = a32 := rfl
@[simp] theorem f32_body : f32.fn.body = x32.body := rfl
@[simp] theorem f32_keep : f32.keep = false := rfl
@[simp] theorem f32_res : f32.fn.results = [.tmp 6] := rfl
@[simp] def a33 : Ann := fun d => if d = 4 then 1 else if d = 7 then 1 else if d = 12 then 1 else 0
def f33 : TFun := ⟨x33, a33, false⟩
@[simp] theorem f33_an : f33.an = a33 := rfl
@[simp] theorem f33_body : f33.fn.body = x33.body := rfl
@[simp] theorem f33_keep : f33.keep = false := rfl
@[simp] theorem f33_res : f33.fn.results = [.tmp 4] := rfl
@[simp] def a34 : Ann := fun d => if d = 4 then 1 else if d = 7 then 1 else if d = 12 then 1 else 0
def f34 : TFun := ⟨x34, a34, false⟩
@[simp] theorem f34_an : f34.an = a34 := rfl
@[simp] theorem f34_body : f34.fn.body = x34.body := rfl
@[simp] theorem f34_keep : f34.keep = false := rfl
@[simp] theorem f34_res : f34.fn.results = [.tmp 4] := rfl
@[simp] def a45 : Ann := fun d => if d = 2 then 1 else if d = 3 then 1 else if d = 5 then 2 else if d = 7 then 1 else if d = 9 then 2 else if d = 11 then 1 else if d = 13 then 2 else if d = 16 then 1 else if d = 18 then 2 else if d = 21 then 1 else 0
def f45 : TFun := ⟨x45, a45, false⟩
@[simp] theorem f45_an : f45.an = a45 := rfl
@[simp] theorem f45_body : f45.fn.body = x45.body := rfl
@[simp] theorem f45_keep : f45.keep = false := rfl
@[simp] theorem f45_res : f45.fn.results = [.tmp 2] := rfl
@[simp] def a47 : Ann := fun d => if d = 1 then 1 else if d = 6 then 1 else if d = 7 then 1 else if d = 8 then 2 else if d = 10 then 2 else if d = 15 then 1 else if d = 16 then 2 else if d = 17 then 2 else if d = 20 then 2 else if d = 27 then 2 else if d = 28 then 2 else if d = 30 then 1 else 0
def f47 : TFun := ⟨x47, a47, false⟩
@[simp] theorem f47_an : f47.an = a47 := rfl
@[simp] theorem f47_body : f47.fn.body = x47.body := rfl
@[simp] theorem f47_keep : f47.keep = false := rfl
@[simp] theorem f47_res : f47.fn.results = [.tmp 6] := rfl
@[simp] def a56 : Ann := fun d => if d = 3 then 3 else if d = 4 then 1 else if d = 5 then 2 else if d = 8 then 2 else if d = 9 then 1 else if d = 16 then 1 else if d = 22 then 1 else if d = 28 then 1 else if d = 35 then 2 else 0
def f56 : TFun := ⟨x56, a56, false⟩
@[simp] theorem f56_an : f56.an = a56 := rfl
@[simp] theorem f56_body : f56.fn.body = x56.body := rfl
@[simp] theorem f56_keep : f56.keep = false := rfl
@[simp] theorem f56_res : f56.fn.results = [.tmp 4] := rfl
@[simp] def a57 : Ann := fun d => if d = 8 then 1 else if d = 9 then 1 else if d = 10 then 1 else if d = 11 then 1 else if d = 12 then 1 else if d = 13 then 1 else if d = 15 then 1 else if d = 16 then 2 else if d = 18 then 1 else if d = 19 then 2 else if d = 27 then 1 else if d = 29 then 2 else if d = 30 then 1 else if d = 35 then 1 else if d = 38 then 2 else if d = 40 then 1 else if d = 42 then 2 else if d = 43 then 2 else if d = 46 then 2 else if d = 49 then 1 else if d = 54 then 2 else if d = 56 then 1 else if d = 59 then 1 else if d = 61 then 1 else if d = 62 then 2 else if d = 64 then 1 else if d = 65 then 2 else if d = 68 then 1 else if d = 71 then 1 else if d = 72 then 1 else if d = 78 then 1 else if d = 82 then 2 else if d = 85 then 1 else if d = 89 then 2 else if d = 93 then 2 else if d = 96 then 1 else if d = 100 then 2 else if d = 103 then 1 else if d = 107 then 2 else if d = 110 then 1 else if d = 119 then 1 else if d = 121 then 2 else if d = 124 then 1 else if d = 126 then 2 else if d = 127 then 2 else if d = 131 then 2 else if d = 134 then 1 else if d = 136 then 2 else if d = 139 then 2 else if d = 141 then 2 else if d = 143 then 1 else if d = 144 then 2 else if d = 145 then 2 else if d = 148 then 2 else if d = 149 then 2 else if d = 153 then 2 else if d = 155 then 2 else if d = 156 then 1 else if d = 158 then 1 else if d = 160 then 2 else if d = 161 then 2 else if d = 166 then 2 else if d = 167 then 2 else if d = 172 then 2 else if d = 174 then 1 else if d = 176 then 1 else if d = 179 then 1 else if d = 180 then 1 else if d = 186 then 1 else if d = 187 then 2 else if d = 189 then 2 else if d = 190 then 2 else 0
def f57 : TFun := ⟨x57, a57, false⟩
@[simp] theorem f57_an : f57.an = a57 := rfl
@[simp] theorem f57_body : f57.fn.body = x57.body := rfl
@[simp] theorem f57_keep : f57.keep = false := rfl
@[simp] theorem f57_res : f57.fn.results = [.tmp 8] := rfl
@[simp] def a58 : Ann := fun d => if d = 5 then 1 else if d = 6 then 1 else if d = 7 then 1 else if d = 12 then 2 else if d = 14 then 1 else if d = 16 then 2 else if d = 19 then 1 else if d = 20 then 2 else if d = 23 then 1 else if d = 25 then 2 else if d = 27 then 1 else if d = 28 then 2 else if d = 31 then 1 else if d = 32 then 2 else if d = 36 then 1 else if d = 38 then 2 else if d = 40 then 1 else if d = 41 then 2 else if d = 45 then 1 else if d = 47 then 1 else if d = 48 then 2 else if d = 51 then 2 else if d = 52 then 2 else if d = 54 then 2 else if d = 61 then 2 else 0
def f58 : TFun := ⟨x58, a58, false⟩
@[simp] theorem f58_an : f58.an = a58 := rfl
@[simp] theorem f58_body : f58.fn.body = x58.body := rfl
@[simp] theorem f58_keep : f58.keep = false := rfl
@[simp] theorem f58_res : f58.fn.results = [.tmp 4] := rfl
@[simp] def a59 : Ann := fun d => if d = 7 then 1 else if d = 8 then 1 else if d = 9 then 1 else if d = 10 then 1 else if d = 11 then 2 else if d = 13 then 1 else if d = 14 then 2 else if d = 19 then 2 else if d = 24 then 2 else if d = 26 then 2 else if d = 35 then 1 else if d = 36 then 2 else if d = 38 then 2 else if d = 39 then 2 else if d = 42 then 2 else if d = 44 then 2 else if d = 50 then 2 else if d = 56 then 2 else if d = 61 then 1 else if d = 62 then 2 else if d = 64 then 2 else if d = 65 then 2 else if d = 68 then 2 else if d = 70 then 2 else 0
def f59 : TFun := ⟨x59, a59, false⟩
@[simp] theorem f59_an : f59.an = a59 := rfl
@[simp] theorem f59_body : f59.fn.body = x59.body := rfl
@[simp] theorem f59_keep : f59.keep = false := rfl
@[simp] theorem f59_res : f59.fn.results = [.tmp 6] := rfl
@[simp] def a60 : Ann := fun d => if d = 2 then 3 else if d = 4 then 1 else if d = 6 then 2 else if d = 8 then 2 else if d = 11 then 2 else if d = 12 then 1 else if d = 15 then 2 else if d = 17 then 1 else if d = 19 then 2 else if d = 22 then 1 else if d = 28 then 1 else if d = 31 then 2 else if d = 33 then 1 else if d = 35 then 2 else if d = 38 then 1 else if d = 44 then 1 else if d = 47 then 2 else if d = 49 then 1 else if d = 51 then 2 else if d = 53 then 2 else if d = 57 then 2 else if d = 59 then 1 else if d = 65 then 1 else if d = 67 then 2 else 0
def f60 : TFun := ⟨x60, a60, false⟩
@[simp] theorem f60_an : f60.an = a60 := rfl
@[simp] theorem f60_body : f60.fn.body = x60.body := rfl
@[simp] theorem f60_keep : f60.keep = false := rfl
@[simp] theorem f60_res : f60.fn.results = [.tmp 4] := rfl
@[simp] def a61 : Ann := fun d => if d = 2 then 1 else if d = 3 then 1 else if d = 7 then 2 else if d = 9 then 1 else if d = 13 then 2 else if d = 18 then 2 else if d = 21 then 1 else 0
def f61 : TFun := ⟨x61, a61, false⟩
@[simp] theorem f61_an : f61.an = a61 := rfl
@[simp] theorem f61_body : f61.fn.body = x61.body := rfl
@[simp] theorem f61_keep : f61.keep = false := rfl
@[simp] theorem f61_res : f61.fn.results = [.tmp 2] := rfl
@[simp] def a62 : Ann := fun d => if d = 4 then 1 else if d = 5 then 1 else if d = 6 then 1 else if d = 12 then 2 else if d = 14 then 2 else if d = 17 then 2 else if d = 19 then 2 else if d = 21 then 1 else if d = 22 then 2 else if d = 25 then 1 else if d = 27 then 2 else if d = 29 then 1 else if d = 31 then 2 else if d = 33 then 1 else if d = 35 then 2 else if d = 39 then 1 else if d = 41 then 2 else if d = 43 then 1 else if d = 45 then 2 else if d = 48 then 1 else if d = 50 then 2 else if d = 53 then 1 else if d = 56 then 2 else if d = 58 then 1 else if d = 59 then 2 else if d = 65 then 2 else if d = 66 then 2 else if d = 68 then 2 else if d = 75 then 2 else 0
def f62 : TFun := ⟨x62, a62, false⟩
@[simp] theorem f62_an : f62.an = a62 := rfl
@[simp] theorem f62_body : f62.fn.body = x62.body := rfl
@[simp] theorem f62_keep : f62.keep = false := rfl
@[simp] theorem f62_res : f62.fn.results = [.tmp 4] := rfl
@[simp] def a63 : Ann := fun d => if d = 2 then 1 else 0
def f63 : TFun := ⟨x63, a63, false⟩
@[simp] theorem f63_an : f63.an = a63 := rfl
@[simp] theorem f63_body : f63.fn.body = x63.body := rfl
@[simp] theorem f63_keep : f63.keep = false := rfl
@[simp] theorem f63_res : f63.fn.results = [.tmp 2] := rfl
@[simp] def a95 : Ann := fun d => if d = 4 then 1 else if d = 5 then 2 else if d = 6 then 2 else 0
def f95 : TFun := ⟨x95, a95, false⟩
@[simp] theorem f95_an : f95.an = a95 := rfl
@[simp] theorem f95_body : f95.fn.body = x95.body := rfl
@[simp] theorem f95_keep : f95.keep = false := rfl
@[simp] theorem f95_res : f95.fn.results = [.tmp 4] := rfl
@[simp] def a96 : Ann := fun d => if d = 3 then 1 else if d = 5 then 2 else 0
def f96 : TFun := ⟨x96, a96, false⟩
@[simp] theorem f96_an : f96.an = a96 := rfl
@[simp] theorem f96_body : f96.fn.body = x96.body := rfl
@[simp] theorem f96_keep : f96.keep = false := rfl
@[simp] theorem f96_res : f96.fn.results = [.tmp 3] := rfl
@[simp] def a97 : Ann := fun d => if d = 4 then 1 else if d = 6 then 2 else if d = 7 then 1 else if d = 10 then 1 else if d = 13 then 2 else if d = 15 then 1 else if d = 17 then 2 else if d = 18 then 2 else if d = 26 then 2 else if d = 35 then 1 else if d = 36 then 1 else if d = 43 then 1 else if d = 49 then 1 else if d = 51 then 1 else if d = 53 then 2 else if d = 55 then 1 else if d = 57 then 2 else if d = 60 then 1 else if d = 62 then 2 else if d = 64 then 1 else if d = 67 then 1 else if d = 70 then 1 else if d = 72 then 1 else 0
def f97 : TFun := ⟨x97, a97, false⟩
@[simp] theorem f97_an : f97.an = a97 := rfl
@[simp] theorem f97_body : f97.fn.body = x97.body := rfl
@[simp] theorem f97_keep : f97.keep = false := rfl
@[simp] theorem f97_res : f97.fn.results = [.tmp 4] := rfl
@[simp] def a98 : Ann := fun d => if d = 2 then 1 else if d = 4 then 1 else if d = 5 then 1 else if d = 10 then 1 else if d = 11 then 1 else if d = 16 then 1 else 0
def f98 : TFun := ⟨x98, a98, false⟩
@[simp] theorem f98_an : f98.an = a98 := rfl
@[simp] theorem f98_body : f98.fn.body = x98.body := rfl
@[simp] theorem f98_keep : f98.keep = false := rfl
@[simp] theorem f98_res : f98.fn.results = [.tmp 2] := rfl
@[simp] def a99 : Ann := fun d => if d = 4 then 1 else if d = 5 then 2 else if d = 6 then 2 else 0
def f99 : TFun := ⟨x99, a99, false⟩
@[simp] theorem f99_an : f99.an = a99 := rfl
@[simp] theorem f99_body : f99.fn.body = x99.body := rfl
@[simp] theorem f99_keep : f99.keep = false := rfl
@[simp] theorem f99_res : f99.fn.results = [.tmp 4] := rfl
@[simp] def a100 : Ann := fun d => if d = 2 then 1 else if d = 3 then 2 else if d = 5 then 1 else if d = 6 then 2 else 0
def f100 : TFun := ⟨x100, a100, false⟩
@[simp] theorem f100_an : f100.an = a100 := rfl
@[simp] theorem f100_body : f100.fn.body = x100.body := rfl
@[simp] theorem f100_keep : f100.keep = false := rfl
@[simp] theorem f100_res : f100.fn.results = [.tmp 2] := rfl
@[simp] def a101 : Ann := fun d => if d = 2 then 1 else 0
def f101 : TFun := ⟨x101, a101, false⟩
@[simp] theorem f101_an : f101.an = a101 := rfl
@[simp] theorem f101_body : f101.fn.body = x101.body := rfl
@[simp] theorem f101_keep : f101.keep = false := rfl
@[simp] theorem f101_res : f101.fn.results = [.tmp 2] := rfl
@[simp] def a102 : Ann := fun d => if d = 4 then 1 else if d = 5 then 1 else if d = 10 then 2 else if d = 11 then 1 else if d = 13 then 2 else if d = 15 then 1 else if d = 20 then 1 else if d = 22 then 2 else if d = 24 then 1 else if d = 26 then 2 else if d = 29 then 1 else if d = 31 then 2 else if d = 32 then 2 else if d = 35 then 2 else if d = 38 then 1 else if d = 39 then 2 else if d = 46 then 2 else if d = 48 then 1 else if d = 51 then 2 else if d = 53 then 1 else if d = 55 then 2 else if d = 56 then 2 else if d = 64 then 1 else if d = 65 then 2 else if d = 66 then 2 else if d = 75 then 2 else if d = 78 then 1 else if d = 80 then 2 else if d = 82 then 1 else if d = 83 then 2 else if d = 86 then 1 else if d = 88 then 2 else if d = 90 then 1 else if d = 93 then 2 else if d = 95 then 1 else if d = 97 then 2 else if d = 100 then 1 else if d = 101 then 2 else if d = 104 then 2 else if d = 106 then 1 else if d = 108 then 2 else if d = 113 then 1 else if d = 114 then 2 else if d = 116 then 1 else if d = 117 then 2 else if d = 121 then 1 else if d = 123 then 2 else if d = 125 then 1 else if d = 127 then 2 else if d = 130 then 1 else if d = 132 then 2 else if d = 135 then 1 else if d = 136 then 2 else if d = 138 then 2 else if d = 140 then 2 else if d = 143 then 1 else if d = 145 then 2 else if d = 147 then 1 else if d = 149 then 2 else if d = 151 then 1 else if d = 152 then 2 else if d = 154 then 2 else if d = 157 then 1 else if d = 159 then 2 else if d = 161 then 1 else if d = 163 then 2 else if d = 165 then 1 else if d = 167 then 2 else if d = 170 then 1 else if d = 172 then 2 else if d = 177 then 1 else if d = 179 then 2 else if d = 182 then 1 else if d = 184 then 2 else if d = 187 then 1 else if d = 189 then 2 else if d = 190 then 2 else if d = 194 then 2 else 0
def f102 : TFun := ⟨x102, a102, false⟩
@[simp] theorem f102_an : f102.an = a102 := rfl
@[simp] theorem f102_body : f102.fn.body = x102.body := rfl
@[simp] theorem f102_keep : f102.keep = false := rfl
@[simp] theorem f102_res : f102.fn.results = [.tmp 4] := rfl
@[simp] def a103 : Ann := fun d => if d = 4 then 1 else if d = 5 then 2 else if d = 6 then 2 else 0
def f103 : TFun := ⟨x103, a103, false⟩
@[simp] theorem f103_an : f103.an = a103 := rfl
@[simp] theorem f103_body : f103.fn.body = x103.body := rfl
@[simp] theorem f103_keep : f103.keep = false := rfl
@[simp] theorem f103_res : f103.fn.results = [.tmp 4] := rfl
@[simp] def a104 : Ann := fun d => if d = 3 then 1 else 0
def f104 : TFun := ⟨x104, a104, false⟩
@[simp] theorem f104_an : f104.an = a104 := rfl
@[simp] theorem f104_body : f104.fn.body = x104.body := rfl
@[simp] theorem f104_keep : f104.keep = false := rfl
@[simp] theorem f104_res : f104.fn.results = [.tmp 3] := rfl
@[simp] def a105 : Ann := fun d => if d = 1 then 1 else if d = 4 then 1 else if d = 5 then 1 else if d = 6 then 2 else if d = 8 then 2 else if d = 13 then 1 else if d = 14 then 2 else if d = 17 then 2 else if d = 24 then 2 else if d = 26 then 1 else 0
def f105 : TFun := ⟨x105, a105, false⟩
@[simp] theorem f105_an : f105.an = a105 := rfl
@[simp] theorem f105_body : f105.fn.body = x105.body := rfl
@[simp] theorem f105_keep : f105.keep = false := rfl
@[simp] theorem f105_res : f105.fn.results = [.tmp 4] := rfl
@[simp] def a149 : Ann := fun d => if d = 4 then 1 else if d = 5 then 1 else if d = 8 then 1 else if d = 10 then 1 else if d = 11 then 2 else if d = 17 then 1 else 0
def f149 : TFun := ⟨x149, a149, false⟩
@[simp] theorem f149_an : f149.an = a149 := rfl
@[simp] theorem f149_body : f149.fn.body = x149.body := rfl
@[simp] theorem f149_keep : f149.keep = false := rfl
@[simp] theorem f149_res : f149.fn.results = [.tmp 4] := rfl
@[simp] def a150 : Ann := fun d => if d = 5 then 1 else if d = 10 then 1 else if d = 15 then 1 else if d = 17 then 2 else if d = 19 then 1 else if d = 20 then 2 else if d = 23 then 1 else if d = 25 then 2 else if d = 27 then 1 else if d = 29 then 2 else if d = 36 then 1 else if d = 38 then 2 else if d = 40 then 1 else if d = 42 then 2 else if d = 45 then 1 else if d = 51 then 1 else if d = 58 then 2 else if d = 60 then 1 else if d = 64 then 1 else if d = 66 then 2 else if d = 71 then 1 else if d = 75 then 1 else if d = 82 then 1 else if d = 84 then 2 else if d = 86 then 1 else if d = 88 then 2 else if d = 91 then 1 else if d = 98 then 2 else if d = 100 then 1 else if d = 104 then 1 else if d = 106 then 2 else if d = 112 then 1 else if d = 118 then 2 else 0
def f150 : TFun := ⟨x150, a150, false⟩
@[simp] theorem f150_an : f150.an = a150 := rfl
@[simp] theorem f150_body : f150.fn.body = x150.body := rfl
@[simp] theorem f150_keep : f150.keep = false := rfl
@[simp] theorem f150_res : f150.fn.results = [.cellN 4 2, .tmp 5] := rfl
@[simp] def a151 : Ann := fun d => if d = 7 then 2 else if d = 11 then 2 else if d = 14 then 2 else if d = 16 then 1 else if d = 21 then 1 else 0
def f151 : TFun := ⟨x151, a151, false⟩
@[simp] theorem f151_an : f151.an = a151 := rfl
@[simp] theorem f151_body : f151.fn.body = x151.body := rfl
@[simp] theorem f151_keep : f151.keep = false := rfl
@[simp] theorem f151_res : f151.fn.results = [.cellN 2 2] := rfl
@[simp] def a152 : Ann := fun d => if d = 4 then 1 else if d = 5 then 1 else if d = 8 then 1 else if d = 10 then 1 else if d = 11 then 2 else if d = 15 then 2 else if d = 17 then 1 else 0
def f152 : TFun := ⟨x152, a152, false⟩
@[simp] theorem f152_an : f152.an = a152 := rfl
@[simp] theorem f152_body : f152.fn.body = x152.body := rfl
@[simp] theorem f152_keep : f152.keep = false := rfl
@[simp] theorem f152_res : f152.fn.results = [.tmp 4] := rfl
@[simp] def a153 : Ann := fun d => if d = 2 then 1 else if d = 4 then 1 else if d = 8 then 1 else if d = 13 then 1 else 0
def f153 : TFun := ⟨x153, a153, false⟩
@[simp] theorem f153_an : f153.an = a153 := rfl
@[simp] theorem f153_body : f153.fn.body = x153.body := rfl
@[simp] theorem f153_keep : f153.keep = false := rfl
@[simp] theorem f153_res : f153.fn.results = [.tmp 2] := rfl
@[simp] def a154 : Ann := fun d => if d = 7 then 1 else if d = 8 then 2 else if d = 10 then 1 else if d = 11 then 2 else if d = 12 then 2 else if d = 15 then 2 else if d = 16 then 2 else if d = 20 then 1 else if d = 21 then 2 else if d = 22 then 2 else if d = 23 then 2 else if d = 26 then 2 else if d = 28 then 2 else 0
def f154 : TFun := ⟨x154, a154, false⟩
@[simp] theorem f154_an : f154.an = a154 := rfl
@[simp] theorem f154_body : f154.fn.body = x154.body := rfl
@[simp] theorem f154_keep : f154.keep = false := rfl
@[simp] theorem f154_res : f154.fn.results = [.tmp 6] := rfl
@[simp] def a155 : Ann := fun d => if d = 2 then 1 else if d = 6 then 1 else if d = 9 then 2 else if d = 12 then 1 else if d = 15 then 2 else if d = 18 then 2 else if d = 21 then 1 else if d = 24 then 2 else if d = 27 then 1 else if d = 30 then 2 else 0
def f155 : TFun := ⟨x155, a155, false⟩
@[simp] theorem f155_an : f155.an = a155 := rfl
@[simp] theorem f155_body : f155.fn.body = x155.body := rfl
@[simp] theorem f155_keep : f155.keep = false := rfl
@[simp] theorem f155_res : f155.fn.results = [.tmp 2] := rfl
@[simp] def a156 : Ann := fun d => if d = 2 then 1 else if d = 3 then 1 else if d = 4 then 2 else if d = 8 then 2 else if d = 13 then 2 else if d = 15 then 1 else if d = 19 then 2 else if d = 25 then 1 else 0
def f156 : TFun := ⟨x156, a156, false⟩
@[simp] theorem f156_an : f156.an = a156 := rfl
@[simp] theorem f156_body : f156.fn.body = x156.body := rfl
@[simp] theorem f156_keep : f156.keep = false := rfl
@[simp] theorem f156_res : f156.fn.results = [.tmp 2] := rfl
@[simp] def a157 : Ann := fun d => if d = 4 then 1 else if d = 5 then 1 else if d = 8 then 1 else if d = 10 then 1 else if d = 11 then 2 else if d = 17 then 1 else 0
def f157 : TFun := ⟨x157, a157, false⟩
@[simp] theorem f157_an : f157.an = a157 := rfl
@[simp] theorem f157_body : f157.fn.body = x157.body := rfl
@[simp] theorem f157_keep : f157.keep = false := rfl
@[simp] theorem f157_res : f157.fn.results = [.tmp 4] := rfl
@[simp] def a178 : Ann := fun d => if d = 7 then 1 else if d = 9 then 1 else if d = 10 then 1 else if d = 12 then 2 else if d = 15 then 1 else if d = 17 then 2 else if d = 20 then 1 else if d = 22 then 2 else if d = 24 then 2 else if d = 26 then 1 else if d = 37 then 2 else if d = 42 then 1 else if d = 44 then 1 else if d = 45 then 1 else if d = 59 then 1 else if d = 63 then 1 else 0
def f178 : TFun := ⟨x178, a178, false⟩
@[simp] theorem f178_an : f178.an = a178 := rfl
@[simp] theorem f178_body : f178.fn.body = x178.body := rfl
@[simp] theorem f178_keep : f178.keep = false := rfl
@[simp] theorem f178_res : f178.fn.results = [.cellN 4 2, .tmp 5] := rfl
@[simp] def a179 : Ann := fun d => if d = 5 then 1 else if d = 8 then 1 else if d = 10 then 1 else if d = 12 then 1 else if d = 14 then 1 else if d = 15 then 2 else if d = 19 then 2 else if d = 20 then 1 else if d = 24 then 2 else if d = 30 then 1 else if d = 33 then 2 else if d = 35 then 2 else if d = 40 then 2 else if d = 42 then 1 else if d = 48 then 2 else if d = 53 then 1 else if d = 57 then 1 else if d = 64 then 2 else if d = 66 then 1 else if d = 72 then 1 else if d = 78 then 1 else if d = 81 then 2 else if d = 83 then 1 else if d = 89 then 1 else if d = 90 then 2 else if d = 95 then 2 else if d = 100 then 2 else if d = 102 then 1 else if d = 108 then 2 else if d = 114 then 1 else if d = 120 then 2 else if d = 124 then 2 else 0
def f179 : TFun := ⟨x179, a179, false⟩
@[simp] theorem f179_an : f179.an = a179 := rfl
@[simp] theorem f179_body : f179.fn.body = x179.body := rfl
@[simp] theorem f179_keep : f179.keep = false := rfl
@[simp] theorem f179_res : f179.fn.results = [.cellN 4 2, .tmp 5] := rfl
@[simp] def a190 : Ann := fun d => if d = 7 then 1 else if d = 9 then 1 else if d = 11 then 2 else if d = 15 then 2 else if d = 19 then 2 else if d = 21 then 2 else if d = 23 then 1 else if d = 34 then 2 else if d = 36 then 2 else if d = 41 then 2 else if d = 43 then 1 else if d = 57 then 1 else if d = 61 then 1 else 0
def f190 : TFun := ⟨x190, a190, false⟩
@[simp] theorem f190_an : f190.an = a190 := rfl
@[simp] theorem f190_body : f190.fn.body = x190.body := rfl
@[simp] theorem f190_keep : f190.keep = false := rfl
@[simp] theorem f190_res : f190.fn.results = [.cellN 4 2, .tmp 5] := rfl
end Go.Xe.YtalckpkiplhbcaaGreatDoor
end
section
namespace Go.Xt
open Go Go.Xe
set_option linter.unusedVariables false
attribute [simp] Function.comp_def small Xe.ones tops wantedT tdo TAct.ev TAct.at TAct.put TAct.tick taken isOwn frz frz1 frzs Tri.ofList Tri.get_set Tri.get_nil TV.cells onesT stok Ann.md ofV ofV.ofVs boxAt boxPut tLoad1 tLoadN tStore tMove tLen tVal tNew
  tIndex tSlice srcT tAppend apm slOk bytesSrc Md.app plGet velAt plSet ownChs reSl give gives fillT putAt chop repT boundT optB hiB boundsT tLookup tMapUpdate targetT enterT tres tresults packedT tleave tfinish canon canon.canons below below.belows
  below.belowss okSz tun teq teqs baseOk Pl.old baseOf Pl.offX isStr
  topsE topsD pairsOkT pairOkT freeT stays stayB sepT kindOf twE_some twE_none twD_some twD_none tw_regionE tw_regionD
  tw_some tw_none tw_nil tw_k tw_k_exit tw_k_ret tw_k_panic tw_b tw_b_ret tw_b_panic tw_b_exit tw_seq tw_block tw_cond twc_true twc_false tw_skip tw_exit tw_ret tw_region
  tbin_add tbin_sub tbin_mul tbin_eql tbin_neq tbin_lss tbin_gtr tbin_leq tbin_geq tbin_seql tbin_sneq bleT bltT beqT
def Fin (fn : TFun) (k : Nat) (P : TEnd → Sto → Prop) : TEx → TAct → Sto → Prop
  | .normal, a, σ => a.df = [] ∧ ∃ e σ', tfinish a fn k σ .ret = some (e, σ') ∧ P e σ'
  | .ret, a, σ => a.df = [] ∧ ∃ e σ', tfinish a fn k σ .ret = some (e, σ') ∧ P e σ'
  | .panic v, a, σ => a.df = [] ∧ ∃ e σ', tfinish a fn k σ (.panicking v) = some (e, σ') ∧ P e σ'
  | .exit _, _, _ => False
theorem fin_normal (fn : TFun) (k : Nat) (P : TEnd → Sto → Prop) (a : TAct) (σ : Sto) : Fin fn k P .normal a σ ↔ a.df = [] ∧ ∃ e σ', tfinish a fn k σ .ret = some (e, σ') ∧ P e σ' := Iff.rfl
theorem fin_ret (fn : TFun) (k : Nat) (P : TEnd → Sto → Prop) (a : TAct) (σ : Sto) : Fin fn k P .ret a σ ↔ a.df = [] ∧ ∃ e σ', tfinish a fn k σ .ret = some (e, σ') ∧ P e σ' := Iff.rfl
theorem fin_panic (fn : TFun) (k : Nat) (P : TEnd → Sto → Prop) (v : TV) (a : TAct) (σ : Sto) : Fin fn k P (.panic v) a σ ↔ a.df = [] ∧ ∃ e σ', tfinish a fn k σ (.panicking v) = some (e, σ') ∧ P e σ' := Iff.rfl
attribute [simp] fin_normal fin_ret fin_panic
@[simp] theorem ex2 {α β : Type} {x : α} {y : β} {P : α → β → Prop} : (∃ e s, (x = e ∧ y = s) ∧ P e s) ↔ P x y :=
  ⟨fun ⟨_, _, ⟨h1, h2⟩, h⟩ => by subst h1; subst h2; exact h, fun h => ⟨x, y, ⟨rfl, rfl⟩, h⟩⟩
theorem tcall_of {F : FuncId → Option TFun} {O : FuncId → List TV → Option TV} {N b : Nat} {f : FuncId} {args : List TV} {σ : Sto} {fn : TFun} (hF : F f = some fn) {P : TEnd → Sto → Prop}
    (h : Tw fn.an (baseOf fn.keep b σ.length) (tcall F O N) N (Fin fn σ.length P) [] (tcode fn.an (baseOf fn.keep b σ.length) (tcall F O N) N fn.fn.body (enterT args) σ)) :
    ∃ e σ', tcall F O (N + 1) b f args σ = some (e, σ') ∧ P e σ' := by
  obtain ⟨e, a, σ1, h1, h2⟩ := h
  simp only [tcall, hF]
  cases e with
  | normal => obtain ⟨h3, e, σ', h4, h5⟩ := h2; refine ⟨e, σ', ?_, h5⟩; rw [h1]; simp only [h3, tdefers]; exact h4
  | ret => obtain ⟨h3, e, σ', h4, h5⟩ := h2; refine ⟨e, σ', ?_, h5⟩; rw [h1]; simp only [h3, tdefers]; exact h4
  | panic v => obtain ⟨h3, e, σ', h4, h5⟩ := h2; refine ⟨e, σ', ?_, h5⟩; rw [h1]; simp only [h3, tdefers]; exact h4
  | exit id => exact h2.elim
theorem tcall_pure {F : FuncId → Option TFun} {O : FuncId → List TV → Option TV} {N b : Nat} {f : FuncId} {args : List TV} {σ : Sto} {fn : TFun} (hF : F f = some fn) {v : TV}
    (h : Tw fn.an (baseOf fn.keep b σ.length) (tcall F O N) N (Fin fn σ.length fun e σ' => e = .ret v ∧ σ' = σ) [] (tcode fn.an (baseOf fn.keep b σ.length) (tcall F O N) N fn.fn.body (enterT args) σ)) :
    tcall F O (N + 1) b f args σ = some (.ret v, σ) := by
  obtain ⟨e, σ', h1, rfl, rfl⟩ := tcall_of hF h
  exact h1
@[simp] theorem all_tt {α : Type} (l : List α) : (l.all fun _ => true) = true := List.all_eq_true.2 fun _ _ => rfl
@[simp] theorem any_ff {α : Type} (l : List α) : (l.any fun _ => false) = false := List.any_eq_false.2 fun _ _ => by simp
@[simp] theorem take_set_len (σ : Sto) (i : Nat) (x : Option TObj) : List.take (List.length σ) (List.set σ i x) = List.set σ i x := List.take_of_length_le (by simp)
@[simp] theorem take_app_len (σ τ : Sto) : List.take (List.length σ) (σ ++ τ) = σ := by simp
@[simp] theorem take_map_len {α β : Type} (f : α → β) (l : List α) : List.take l.length (l.map f) = l.map f := List.take_of_length_le (by simp)
theorem Sto.lt {σ : Sto} {k : Nat} {o : TObj} (h : σ.at k = some o) : k < σ.length := by
  unfold Sto.at at h
  split at h
  · rename_i x hx; exact (List.getElem?_eq_some_iff.1 hx).1
  · cases h
theorem at_ne {σ : Sto} {k j : Nat} {o : Option TObj} (h : k ≠ j) : Sto.at (σ.set k o) j = σ.at j := by simp only [Sto.at]; rw [List.getElem?_set_ne h]
theorem Sto.set_same {σ : Sto} {k : Nat} {o : TObj} (h : σ.at k = some o) : σ.set k (some o) = σ := by
  have hk := Sto.lt h
  unfold Sto.at at h
  split at h
  · rename_i x hx
    cases h
    have := (List.getElem?_eq_some_iff.1 hx).2
    rw [← this]; simp
  · cases h
def tk {α : Type} (l : List α) (j : Nat) : List α := l.take j
theorem tk_zero {α : Type} (l : List α) : tk l 0 = [] := rfl
theorem tk_all {α : Type} (l : List α) : tk l l.length = l := List.take_length
theorem tk_succ {α : Type} {l : List α} {j : Nat} (h : j < l.length) : tk l (j + 1) = tk l j ++ [l[j]] := by unfold tk; simp
theorem tk_len {α : Type} {l : List α} {j : Nat} (h : j ≤ l.length) : (tk l j).length = j := by unfold tk; simp; omega
inductive Bld (e s : Nat) : List (List TV) → TV → Prop
  | nl : Bld e s [] (.sl .nl [])
  | own (l : List (List TV)) : Bld e s l (.sl (.own e s) l)
theorem Bld.inv {e s : Nat} {l : List (List TV)} {v : TV} (h : Bld e s l v) : (l = [] ∧ v = .sl .nl []) ∨ v = .sl (.own e s) l := by
  cases h
  · exact .inl ⟨rfl, rfl⟩
  · exact .inr rfl
end Go.Xt
end
section
namespace Go.Xt
open Go Go.Xe
set_option linter.unusedVariables false
set_option linter.unusedSimpArgs false
inductive PVal where
  | mk (kind n : Int) (list : List PVal)
namespace PVal
def kind : PVal → Int | .mk k _ _ => k
def n : PVal → Int | .mk _ n _ => n
def list : PVal → List PVal | .mk _ _ l => l
end PVal
inductive PTerm where
  | mk (kind n m : Int) (val : PVal) (odds : List Int) (kids : List PTerm)
namespace PTerm
def kind : PTerm → Int | .mk k _ _ _ _ _ => k
def n : PTerm → Int | .mk _ n _ _ _ _ => n
def m : PTerm → Int | .mk _ _ m _ _ _ => m
def val : PTerm → PVal | .mk _ _ _ v _ _ => v
def odds : PTerm → List Int | .mk _ _ _ _ o _ => o
def kids : PTerm → List PTerm | .mk _ _ _ _ _ l => l
end PTerm
structure PBody where
  params : Int
  slots : Int
  term : PTerm
structure PCore where
  types : List PTyp
  funs : List PBody
  query : PBody
  sites : Int
mutual
def encV : PVal → List TV
  | .mk k n l => [.int .i64 k, .int .i64 n, .sl .fz (encVs l)]
def encVs : List PVal → List (List TV)
  | [] => []
  | t :: l => encV t :: encVs l
end
theorem encVs_eq : ∀ l, encVs l = l.map encV
  | [] => rfl
  | t :: l => by simp only [encVs, List.map_cons, encVs_eq l]
theorem encV_def (t : PVal) : encV t = [.int .i64 t.kind, .int .i64 t.n, .sl .fz (t.list.map encV)] := by cases t; simp only [encV, encVs_eq, PVal.kind, PVal.n, PVal.list]
mutual
def encTm : PTerm → List TV
  | .mk k n m v o l => .int .i64 k :: .int .i64 n :: .int .i64 m :: (encV v ++ [.sl .fz (o.map encI), .sl .fz (encTms l)])
def encTms : List PTerm → List (List TV)
  | [] => []
  | t :: l => encTm t :: encTms l
end
theorem encTms_eq : ∀ l, encTms l = l.map encTm
  | [] => rfl
  | t :: l => by simp only [encTms, List.map_cons, encTms_eq l]
theorem encTm_mk (t : PTerm) : encTm t = .int .i64 t.kind :: .int .i64 t.n :: .int .i64 t.m :: (encV t.val ++ [.sl .fz (t.odds.map encI), .sl .fz (t.kids.map encTm)]) := by
  cases t; simp only [encTm, encTms_eq, PTerm.kind, PTerm.n, PTerm.m, PTerm.val, PTerm.odds, PTerm.kids]
theorem encTm_def (t : PTerm) : encTm t = [.int .i64 t.kind, .int .i64 t.n, .int .i64 t.m, .int .i64 t.val.kind, .int .i64 t.val.n, .sl .fz (t.val.list.map encV), .sl .fz (t.odds.map encI), .sl .fz (t.kids.map encTm)] := by
  rw [encTm_mk, encV_def]; rfl
def encBd (b : PBody) : List TV := .int .i64 b.params :: .int .i64 b.slots :: encTm b.term
def encC (c : PCore) : List TV := .sl .fz (c.types.map encT) :: .sl .fz (c.funs.map encBd) :: (encBd c.query ++ [.int .i64 c.sites])
theorem encBd_def (b : PBody) : encBd b = [.int .i64 b.params, .int .i64 b.slots, .int .i64 b.term.kind, .int .i64 b.term.n, .int .i64 b.term.m, .int .i64 b.term.val.kind, .int .i64 b.term.val.n, .sl .fz (b.term.val.list.map encV), .sl .fz (b.term.odds.map encI), .sl .fz (b.term.kids.map encTm)] := by
  simp only [encBd, encTm_def]
theorem encC_def (c : PCore) : encC c = [.sl .fz (c.types.map encT), .sl .fz (c.funs.map encBd), .int .i64 c.query.params, .int .i64 c.query.slots, .int .i64 c.query.term.kind, .int .i64 c.query.term.n, .int .i64 c.query.term.m, .int .i64 c.query.term.val.kind, .int .i64 c.query.term.val.n,
    .sl .fz (c.query.term.val.list.map encV), .sl .fz (c.query.term.odds.map encI), .sl .fz (c.query.term.kids.map encTm), .int .i64 c.sites] := by
  simp only [encC, encBd_def]; rfl
mutual
def szV : PVal → Nat
  | .mk _ _ l => szVs l + 4
def szVs : List PVal → Nat
  | [] => 0
  | t :: l => szV t + 1 + szVs l
end
mutual
def szTm : PTerm → Nat
  | .mk _ _ _ v o l => szTms l + szV v + o.length + 8
def szTms : List PTerm → Nat
  | [] => 0
  | t :: l => szTm t + 1 + szTms l
end
theorem szVs_len : ∀ l, l.length ≤ szVs l
  | [] => Nat.le_refl _
  | t :: l => by simp only [szVs, List.length_cons]; have := szVs_len l; omega
theorem szVs_mem : ∀ (l : List PVal) (t : PVal), t ∈ l → szV t + 1 ≤ szVs l
  | [], t, h => by cases h
  | x :: l, t, h => by
    simp only [szVs]
    rcases List.mem_cons.1 h with rfl | h
    · omega
    · have := szVs_mem l t h; omega
theorem szTms_len : ∀ l, l.length ≤ szTms l
  | [] => Nat.le_refl _
  | t :: l => by simp only [szTms, List.length_cons]; have := szTms_len l; omega
theorem szTms_mem : ∀ (l : List PTerm) (t : PTerm), t ∈ l → szTm t + 1 ≤ szTms l
  | [], t, h => by cases h
  | x :: l, t, h => by
    simp only [szTms]
    rcases List.mem_cons.1 h with rfl | h
    · omega
    · have := szTms_mem l t h; omega
theorem szV_def (t : PVal) : szV t = szVs t.list + 4 := by cases t; simp only [szV, PVal.list]
theorem szTm_def (t : PTerm) : szTm t = szTms t.kids + szV t.val + t.odds.length + 8 := by cases t; simp only [szTm, PTerm.kids, PTerm.val, PTerm.odds]
inductive OkV : PVal → Prop
  | mk {k n : Int} {l : List PVal} : I64 k → I64 n → l.length ≤ maxLen → (∀ t ∈ l, OkV t) → OkV (.mk k n l)
theorem OkV.kind {t : PVal} (h : OkV t) : I64 t.kind := by cases h; assumption
theorem OkV.n {t : PVal} (h : OkV t) : I64 t.n := by cases h; assumption
theorem OkV.len {t : PVal} (h : OkV t) : t.list.length ≤ maxLen := by cases h; assumption
theorem OkV.sub {t : PVal} (h : OkV t) : ∀ x ∈ t.list, OkV x := by cases h; assumption
inductive OkTm : PTerm → Prop
  | mk {k n m : Int} {v : PVal} {o : List Int} {l : List PTerm} : I64 k → I64 n → I64 m → OkV v → o.length ≤ maxLen → (∀ x ∈ o, I64 x) → l.length ≤ maxLen → (∀ t ∈ l, OkTm t) → OkTm (.mk k n m v o l)
theorem OkTm.kind {t : PTerm} (h : OkTm t) : I64 t.kind := by cases h; assumption
theorem OkTm.n {t : PTerm} (h : OkTm t) : I64 t.n := by cases h; assumption
theorem OkTm.m {t : PTerm} (h : OkTm t) : I64 t.m := by cases h; assumption
theorem OkTm.val {t : PTerm} (h : OkTm t) : OkV t.val := by cases h; assumption
theorem OkTm.olen {t : PTerm} (h : OkTm t) : t.odds.length ≤ maxLen := by cases h; assumption
theorem OkTm.odds {t : PTerm} (h : OkTm t) : ∀ x ∈ t.odds, I64 x := by cases h; assumption
theorem OkTm.len {t : PTerm} (h : OkTm t) : t.kids.length ≤ maxLen := by cases h; assumption
theorem OkTm.sub {t : PTerm} (h : OkTm t) : ∀ x ∈ t.kids, OkTm x := by cases h; assumption
structure OkBd (b : PBody) : Prop where
  params : I64 b.params
  slots : I64 b.slots
  term : OkTm b.term
structure OkC (c : PCore) : Prop where
  tlen : c.types.length ≤ maxLen
  types : ∀ t ∈ c.types, OkT t
  flen : c.funs.length ≤ maxLen
  funs : ∀ t ∈ c.funs, OkBd t
  query : OkBd c.query
  sites : I64 c.sites
structure ApiC (P : Program) extends ApiT P where
  val : TypeId
  vals : TypeId
  term : TypeId
  terms : TypeId
  body : TypeId
  bodies : TypeId
  core : TypeId
  hval : IsSt P val 3 [(0, int, 1), (1, int, 1), (2, vals, 1)]
  hvals : P.underlying vals = some (.slice val)
  hterm : IsSt P term 8 [(0, int, 1), (1, int, 1), (2, int, 1), (3, val, 3), (6, ints, 1), (7, terms, 1)]
  hterms : P.underlying terms = some (.slice term)
  hbody : IsSt P body 10 [(0, int, 1), (1, int, 1), (2, term, 8)]
  hbodies : P.underlying bodies = some (.slice body)
  hcore : IsSt P core 13 [(0, typs, 1), (1, bodies, 1), (2, body, 10), (12, int, 1)]
theorem len3 {α : Type} {l : List α} (h : l.length = 3) : ∃ a b c, l = [a, b, c] := by
  match l, h with | [a, b, c], _ => exact ⟨a, b, c, rfl⟩
section
variable {P : Program} (A : ApiC P)
theorem sh_val : ∀ (n : Nat) (l : List TV), SizeOf.sizeOf l < n → Sh P A.val l → ∃ t, l = encV t ∧ OkV t
  | 0, l, hn, h => by omega
  | n + 1, l, hn, h => by
    obtain ⟨h1, h2⟩ := h.st A.hval
    obtain ⟨a, b, c, rfl⟩ := len3 h1
    obtain ⟨k, q1, w1⟩ := (h2 (0, A.int, 1) (by simp)).intOf A.hint
    obtain ⟨m, q2, w2⟩ := (h2 (1, A.int, 1) (by simp)).intOf A.hint
    obtain ⟨chs, q3, q4, q5⟩ := (h2 (2, A.vals, 1) (by simp)).sliceOf A.hvals
    simp at q1 q2 q3
    subst q1 q2 q3
    obtain ⟨l, rfl, hm⟩ := map_of (f := encV) (R := OkV) chs (fun c hc => sh_val n c (by
      have := sz_head (l := [TV.int .i64 k, TV.int .i64 m, .sl .fz chs]) hc .fz (by simp)
      omega) (q5 c hc))
    exact ⟨.mk k m l, by rw [encV_def]; rfl, .mk (i64_wf w1) (i64_wf w2) (by simpa using q4) hm⟩
theorem sh_term : ∀ (n : Nat) (l : List TV), SizeOf.sizeOf l < n → Sh P A.term l → ∃ t, l = encTm t ∧ OkTm t
  | 0, l, hn, h => by omega
  | n + 1, l, hn, h => by
    obtain ⟨h1, h2⟩ := h.st A.hterm
    obtain ⟨a0, a1, a2, a3, a4, a5, a6, a7, rfl⟩ := len8 h1
    obtain ⟨k0, p0, w0⟩ := (h2 (0, A.int, 1) (by simp)).intOf A.hint
    obtain ⟨k1, p1, w1⟩ := (h2 (1, A.int, 1) (by simp)).intOf A.hint
    obtain ⟨k2, p2, w2⟩ := (h2 (2, A.int, 1) (by simp)).intOf A.hint
    obtain ⟨v, p3, w3⟩ := sh_val A _ _ (Nat.lt_succ_self _) (h2 (3, A.val, 3) (by simp))
    obtain ⟨c4, p4, w4, x4⟩ := (h2 (6, A.ints, 1) (by simp)).sliceOf A.hints
    obtain ⟨c5, p5, w5, x5⟩ := (h2 (7, A.terms, 1) (by simp)).sliceOf A.hterms
    simp at p0 p1 p2 p3 p4 p5
    subst p0 p1 p2 p4 p5
    obtain ⟨m4, rfl, y4⟩ := map_of (f := encI) (R := I64) c4 (fun c hc => by
      obtain ⟨n, e1, e2⟩ := (x4 c hc).intOf A.hint
      exact ⟨n, e1, i64_wf e2⟩)
    obtain ⟨m5, rfl, y5⟩ := map_of (f := encTm) (R := OkTm) c5 (fun c hc => sh_term n c (by
      have := sz_head hc (l := [TV.int .i64 k0, .int .i64 k1, .int .i64 k2, a3, a4, a5, .sl .fz (m4.map encI), .sl .fz c5]) .fz (by simp)
      omega) (x5 c hc))
    refine ⟨.mk k0 k1 k2 v m4 m5, ?_, .mk (i64_wf w0) (i64_wf w1) (i64_wf w2) w3 (by simpa using w4) y4 (by simpa using w5) y5⟩
    rw [encTm_mk]
    simp only [PTerm.kind, PTerm.n, PTerm.m, PTerm.val, PTerm.odds, PTerm.kids, ← p3, List.cons_append, List.nil_append]
theorem sh_body {l : List TV} (h : Sh P A.body l) : ∃ t, l = encBd t ∧ OkBd t := by
  obtain ⟨h1, h2⟩ := h.st A.hbody
  have hl : l = l.take 1 ++ ((l.drop 1).take 1 ++ (l.drop 2).take 8) := by
    match l, h1 with | [_, _, _, _, _, _, _, _, _, _], _ => rfl
  obtain ⟨k0, p0, w0⟩ := (h2 (0, A.int, 1) (by simp)).intOf A.hint
  obtain ⟨k1, p1, w1⟩ := (h2 (1, A.int, 1) (by simp)).intOf A.hint
  obtain ⟨t, p2, w2⟩ := sh_term A _ _ (Nat.lt_succ_self _) (h2 (2, A.term, 8) (by simp))
  refine ⟨⟨k0, k1, t⟩, ?_, i64_wf w0, i64_wf w1, w2⟩
  simp only [List.drop_zero] at p0 p1 p2
  rw [hl, p0, p1, p2]
  simp only [encBd, List.cons_append, List.nil_append]
theorem sh_core {l : List TV} (h : Sh P A.core l) : ∃ t, l = encC t ∧ OkC t := by
  obtain ⟨h1, h2⟩ := h.st A.hcore
  have hl : l = l.take 1 ++ ((l.drop 1).take 1 ++ ((l.drop 2).take 10 ++ (l.drop 12).take 1)) := by
    match l, h1 with | [_, _, _, _, _, _, _, _, _, _, _, _, _], _ => rfl
  obtain ⟨c0, p0, w0, x0⟩ := (h2 (0, A.typs, 1) (by simp)).sliceOf A.htyps
  obtain ⟨c1, p1, w1, x1⟩ := (h2 (1, A.bodies, 1) (by simp)).sliceOf A.hbodies
  obtain ⟨e, p2, w2⟩ := sh_body A (h2 (2, A.body, 10) (by simp))
  obtain ⟨k3, p3, w3⟩ := (h2 (12, A.int, 1) (by simp)).intOf A.hint
  obtain ⟨m0, rfl, hm0⟩ := map_of (f := encT) (R := OkT) c0 (fun c hc => sh_typ A.toApiT _ _ (Nat.lt_succ_self _) (x0 c hc))
  obtain ⟨m1, rfl, hm1⟩ := map_of (f := encBd) (R := OkBd) c1 (fun c hc => sh_body A (x1 c hc))
  refine ⟨⟨m0, m1, e, k3⟩, ?_, by simpa using w0, hm0, by simpa using w1, hm1, w2, i64_wf w3⟩
  simp only [List.drop_zero] at p0 p1 p2 p3
  rw [hl, p0, p1, p2, p3]
  simp only [encC, List.cons_append, List.nil_append]
end
end Go.Xt
end
section
namespace Go.Xt
open Go Go.Xe
set_option linter.unusedVariables false
def all2 {α β : Type} (f : α → β → Bool) : List α → List β → Bool
  | [], [] => true
  | a :: l, b :: m => f a b && all2 f l m
  | _, _ => false
theorem all2_ne {α β : Type} {f : α → β → Bool} : ∀ {l : List α} {m : List β}, l.length ≠ m.length → all2 f l m = false
  | [], [], h => absurd rfl h
  | [], _ :: _, _ => rfl
  | _ :: _, [], _ => rfl
  | a :: l, b :: m, h => by
    simp only [all2]
    rw [all2_ne (l := l) (m := m) (fun e => h (by simp [e])), Bool.and_false]
theorem all2_step {α β : Type} {f : α → β → Bool} {l : List α} {m : List β} {k : Nat} (h : k < l.length) (h' : k < m.length) : all2 f (l.drop k) (m.drop k) = (f l[k] m[k] && all2 f (l.drop (k + 1)) (m.drop (k + 1))) := by
  rw [List.drop_eq_getElem_cons h, List.drop_eq_getElem_cons h']
  rfl
theorem all2_end {α β : Type} {f : α → β → Bool} {l : List α} {m : List β} {k : Nat} (h : l.length ≤ k) (h' : m.length ≤ k) : all2 f (l.drop k) (m.drop k) = true := by
  rw [List.drop_of_length_le h, List.drop_of_length_le h']; rfl
end Go.Xt
end
section
namespace Go.Xt
open Go Go.Xe
set_option linter.unusedVariables false
inductive QTyp where
  | mk (kind : Int) (nl : Bool) (list : List QTyp)
namespace QTyp
def kind : QTyp → Int | .mk k _ _ => k
def nl : QTyp → Bool | .mk _ b _ => b
def list : QTyp → List QTyp | .mk _ _ l => l
end QTyp
def mdOf (b : Bool) : Md := match b with | true => .nl | false => .fz
mutual
def encQ : QTyp → List TV
  | .mk k b l => [.int .i64 k, .sl (mdOf b) (encQs l)]
def encQs : List QTyp → List (List TV)
  | [] => []
  | t :: l => encQ t :: encQs l
end
theorem encQs_eq : ∀ l, encQs l = l.map encQ
  | [] => rfl
  | t :: l => by simp only [encQs, List.map_cons, encQs_eq l]
theorem encQ_def (t : QTyp) : encQ t = [.int .i64 t.kind, .sl (mdOf t.nl) (t.list.map encQ)] := by cases t; simp only [encQ, encQs_eq, QTyp.kind, QTyp.nl, QTyp.list]
mutual
def szQ : QTyp → Nat
  | .mk _ _ l => szQs l + 4
def szQs : List QTyp → Nat
  | [] => 0
  | t :: l => szQ t + 1 + szQs l
end
theorem szQs_len : ∀ l, l.length ≤ szQs l
  | [] => Nat.le_refl _
  | t :: l => by simp only [szQs, List.length_cons]; have := szQs_len l; omega
theorem szQs_mem : ∀ (l : List QTyp) (t : QTyp), t ∈ l → szQ t + 1 ≤ szQs l
  | [], t, h => by cases h
  | x :: l, t, h => by
    simp only [szQs]
    rcases List.mem_cons.1 h with rfl | h
    · omega
    · have := szQs_mem l t h; omega
theorem szQ_def (t : QTyp) : szQ t = szQs t.list + 4 := by cases t; simp only [szQ, QTyp.list]
inductive OkQ : QTyp → Prop
  | mk {k : Int} {b : Bool} {l : List QTyp} : I64 k → (b = true → l = []) → l.length ≤ maxLen → (∀ t ∈ l, OkQ t) → OkQ (.mk k b l)
theorem OkQ.kind {t : QTyp} (h : OkQ t) : I64 t.kind := by cases h; assumption
theorem OkQ.nl {t : QTyp} (h : OkQ t) : t.nl = true → t.list = [] := by cases h; assumption
theorem OkQ.len {t : QTyp} (h : OkQ t) : t.list.length ≤ maxLen := by cases h; assumption
theorem OkQ.sub {t : QTyp} (h : OkQ t) : ∀ x ∈ t.list, OkQ x := by cases h; assumption
mutual
def embT : PTyp → QTyp
  | .mk k l => .mk k false (embTs l)
def embTs : List PTyp → List QTyp
  | [] => []
  | t :: l => embT t :: embTs l
end
theorem embTs_eq : ∀ l, embTs l = l.map embT
  | [] => rfl
  | t :: l => by simp only [embTs, List.map_cons, embTs_eq l]
mutual
theorem encQ_emb : ∀ t, encQ (embT t) = encT t
  | .mk k l => by simp only [embT, encQ, encT, mdOf, encQs_emb l]
theorem encQs_emb : ∀ l, encQs (embTs l) = encTs l
  | [] => rfl
  | t :: l => by simp only [embTs, encQs, encTs, encQ_emb t, encQs_emb l]
end
theorem okQ_emb : ∀ (n : Nat) (t : PTyp), szT t ≤ n → OkT t → OkQ (embT t)
  | 0, t, h, _ => by rw [szT_def] at h; omega
  | n + 1, .mk k l, h, ho => by
    cases ho with
    | mk h1 h2 h3 =>
      rw [szT_def] at h
      simp only [embT, embTs_eq]
      refine .mk h1 (fun h => by cases h) (by simpa using h2) fun x hx => ?_
      obtain ⟨y, hy, rfl⟩ := List.mem_map.1 hx
      have := szTs_mem _ _ hy
      simp only [PTyp.list] at h
      exact okQ_emb n y (by omega) (h3 y hy)
def rightT : Nat → QTyp → Bool
  | 0, _ => false
  | n + 1, t => if t.kind = 1 ∨ t.kind = 2 then decide (t.list.length = 0)
    else if t.kind = 3 then decide (2 ≤ t.list.length ∧ t.list.length ≤ 4) && t.list.all (rightT n)
    else if t.kind = 4 then decide (t.list.length = 1) && t.list.all (rightT n)
    else false
end Go.Xt
end
section
namespace Go.Xe.YtalckpkiplhbcaaGreatDoor
open Go Go.Xe Go.Xt
set_option linter.unusedVariables false
set_option linter.unusedSimpArgs false
variable {F : FuncId → Option TFun} {O : FuncId → List TV → Option TV}
theorem wrapJ {j n : Nat} (h : j < n) (hn : n ≤ maxLen) : IntKind.i64.wrap ((j : Int) + 1) = ((j + 1 : Nat) : Int) := by
  unfold maxLen at hn
  rw [wrap_in] <;> omega
theorem typeSize_t (hF : F 47 = some f47) : ∀ (N : Nat) (e : PTyp) (b : Nat) (σ : Sto) (m most : Int), szT e ≤ N → OkT e →
    ∃ r : Int, tcall F O N b 47 [.agg (encT e), .int .i64 m, .int .i64 most] σ = some (.ret (.int .i64 r), σ)
  | 0, e, b, σ, m, most, h, _ => by rw [szT_def] at h; omega
  | N + 1, e, b, σ, m, most, h, hb => by
    have ih := typeSize_t hF N
    have hk := szTs_len e.list
    have hs := szT_def e
    suffices hh : ∃ e' σ', tcall F O (N + 1) b 47 [.agg (encT e), .int .i64 m, .int .i64 most] σ = some (e', σ') ∧ ∃ r : Int, e' = .ret (.int .i64 r) ∧ σ' = σ by
      obtain ⟨e', σ', h1, r, rfl, rfl⟩ := hh
      exact ⟨r, h1⟩
    refine tcall_of hF ?_
    simp [x47, encT_def]
    refine tw_loop (I := fun j a σ' => a.df = [] ∧ σ' = σ ∧ ∃ acc : Int, a.tm.get 1 = some (.int .i64 acc) ∧ a.tm.get 2 = some (.int .i64 most) ∧ a.tm.get 3 = some (.bx 0 (encT e) 65) ∧ a.tm.get 7 = some (.int .i64 j)) e.list.length
      (R := fun ex a σ' => ex = .exit 0 ∧ a.df = [] ∧ σ' = σ ∧ ∃ acc : Int, a.tm.get 1 = some (.int .i64 acc)) ?_ ?_ ?_ ?_ ?_
    · simp [encT_def]
    · omega
    · rintro j ⟨tm, df, clk⟩ σ' hj ⟨rfl, rfl, acc, h1, h2, h3, h7⟩
      have hm := szTs_mem e.list e.list[j] (List.getElem_mem hj)
      have hw := wrapJ hj hb.len
      obtain ⟨r, hc⟩ := ih e.list[j] σ'.length σ' acc most (by omega) (hb.sub _ (List.getElem_mem hj))
      rw [encT_def] at h3 hc
      by_cases ha : acc ≤ most
      · simp [h1, h2, h3, h7, hj, ha, hc, hw, encT_def]
      · simp [h1, h2, h3, h7, hj, ha]
    · rintro ⟨tm, df, clk⟩ σ' ⟨rfl, rfl, acc, h1, h2, h3, h7⟩
      rw [encT_def] at h3
      simp [h1, h2, h3, h7]
    · rintro ex ⟨tm, df, clk⟩ σ' ⟨rfl, rfl, rfl, acc, h1⟩
      simp [h1]
theorem valSize_t (hF : F 25 = some f25) : ∀ (N : Nat) (e : PVal) (b : Nat) (σ : Sto) (m most : Int), szV e ≤ N → OkV e →
    ∃ r : Int, tcall F O N b 25 [.agg (encV e), .int .i64 m, .int .i64 most] σ = some (.ret (.int .i64 r), σ)
  | 0, e, b, σ, m, most, h, _ => by rw [szV_def] at h; omega
  | N + 1, e, b, σ, m, most, h, hb => by
    have ih := valSize_t hF N
    have hk := szVs_len e.list
    have hs := szV_def e
    suffices hh : ∃ e' σ', tcall F O (N + 1) b 25 [.agg (encV e), .int .i64 m, .int .i64 most] σ = some (e', σ') ∧ ∃ r : Int, e' = .ret (.int .i64 r) ∧ σ' = σ by
      obtain ⟨e', σ', h1, r, rfl, rfl⟩ := hh
      exact ⟨r, h1⟩
    refine tcall_of hF ?_
    simp [x25, encV_def]
    refine tw_loop (I := fun j a σ' => a.df = [] ∧ σ' = σ ∧ ∃ acc : Int, a.tm.get 1 = some (.int .i64 acc) ∧ a.tm.get 2 = some (.int .i64 most) ∧ a.tm.get 3 = some (.bx 0 (encV e) 26) ∧ a.tm.get 7 = some (.int .i64 j)) e.list.length
      (R := fun ex a σ' => ex = .exit 0 ∧ a.df = [] ∧ σ' = σ ∧ ∃ acc : Int, a.tm.get 1 = some (.int .i64 acc)) ?_ ?_ ?_ ?_ ?_
    · simp [encV_def]
    · omega
    · rintro j ⟨tm, df, clk⟩ σ' hj ⟨rfl, rfl, acc, h1, h2, h3, h7⟩
      have hm := szVs_mem e.list e.list[j] (List.getElem_mem hj)
      have hw := wrapJ hj hb.len
      obtain ⟨r, hc⟩ := ih e.list[j] σ'.length σ' acc most (by omega) (hb.sub _ (List.getElem_mem hj))
      rw [encV_def] at h3 hc
      by_cases ha : acc ≤ most
      · simp [h1, h2, h3, h7, hj, ha, hc, hw, encV_def]
      · simp [h1, h2, h3, h7, hj, ha]
    · rintro ⟨tm, df, clk⟩ σ' ⟨rfl, rfl, acc, h1, h2, h3, h7⟩
      rw [encV_def] at h3
      simp [h1, h2, h3, h7]
    · rintro ex ⟨tm, df, clk⟩ σ' ⟨rfl, rfl, rfl, acc, h1⟩
      simp [h1]
theorem few_t (hF : F 7 = some f7) (hS : F 25 = some f25) (N : Nat) (l : List PVal) (b : Nat) (σ : Sto) (most : Int) (h : szVs l < N) (hl : l.length ≤ maxLen) (hok : ∀ e ∈ l, OkV e) :
    ∃ r, tcall F O (N + 1) b 7 [.int .i64 most, .sl .fz (l.map encV)] σ = some (.ret (.bool r), σ) := by
  have hk := szVs_len l
  suffices hh : ∃ e σ', tcall F O (N + 1) b 7 [.int .i64 most, .sl .fz (l.map encV)] σ = some (e, σ') ∧ ∃ r, e = .ret (.bool r) ∧ σ' = σ by
    obtain ⟨e, σ', h1, r, rfl, rfl⟩ := hh
    exact ⟨r, h1⟩
  refine tcall_of hF ?_
  simp [x7]
  refine tw_loop (I := fun j a σ' => a.df = [] ∧ σ' = σ ∧ ∃ acc, a.tm.get 0 = some (.int .i64 most) ∧ a.tm.get 1 = some (.sl .fz (l.map encV)) ∧ a.tm.get 5 = some (.int .i64 acc) ∧ a.tm.get 6 = some (.int .i64 j)) l.length
    (R := fun ex a σ' => ex = .exit 0 ∧ a.df = [] ∧ σ' = σ ∧ ∃ acc, a.tm.get 0 = some (.int .i64 most) ∧ a.tm.get 5 = some (.int .i64 acc)) ?_ ?_ ?_ ?_ ?_
  · simp
  · omega
  · rintro j ⟨tm, df, clk⟩ σ' hj ⟨rfl, rfl, acc, h0, h1, h5, h6⟩
    have hm := szVs_mem l l[j] (List.getElem_mem hj)
    have hw := wrapJ hj hl
    obtain ⟨r, hc⟩ := valSize_t (O := O) hS N l[j] σ'.length σ' acc most (by omega) (hok _ (List.getElem_mem hj))
    rw [encV_def] at hc
    simp [h0, h1, h5, h6, hj, hc, hw, encV_def]
  · rintro ⟨tm, df, clk⟩ σ' ⟨rfl, rfl, acc, h0, h1, h5, h6⟩
    simp [h0, h1, h5, h6]
  · rintro ex ⟨tm, df, clk⟩ σ' ⟨rfl, rfl, rfl, acc, h0, h5⟩
    simp [h0, h5]
    omega
theorem fewTypes_t (hF : F 23 = some f23) (hS : F 47 = some f47) (N : Nat) (l : List PTyp) (b : Nat) (σ : Sto) (most : Int) (h : szTs l < N) (hl : l.length ≤ maxLen) (hok : ∀ e ∈ l, OkT e) :
    ∃ r, tcall F O (N + 1) b 23 [.int .i64 most, .sl .fz (l.map encT)] σ = some (.ret (.bool r), σ) := by
  have hk := szTs_len l
  suffices hh : ∃ e σ', tcall F O (N + 1) b 23 [.int .i64 most, .sl .fz (l.map encT)] σ = some (e, σ') ∧ ∃ r, e = .ret (.bool r) ∧ σ' = σ by
    obtain ⟨e, σ', h1, r, rfl, rfl⟩ := hh
    exact ⟨r, h1⟩
  refine tcall_of hF ?_
  simp [x23]
  refine tw_loop (I := fun j a σ' => a.df = [] ∧ σ' = σ ∧ ∃ acc, a.tm.get 0 = some (.int .i64 most) ∧ a.tm.get 1 = some (.sl .fz (l.map encT)) ∧ a.tm.get 5 = some (.int .i64 acc) ∧ a.tm.get 6 = some (.int .i64 j)) l.length
    (R := fun ex a σ' => ex = .exit 0 ∧ a.df = [] ∧ σ' = σ ∧ ∃ acc, a.tm.get 0 = some (.int .i64 most) ∧ a.tm.get 5 = some (.int .i64 acc)) ?_ ?_ ?_ ?_ ?_
  · simp
  · omega
  · rintro j ⟨tm, df, clk⟩ σ' hj ⟨rfl, rfl, acc, h0, h1, h5, h6⟩
    have hm := szTs_mem l l[j] (List.getElem_mem hj)
    have hw := wrapJ hj hl
    obtain ⟨r, hc⟩ := typeSize_t (O := O) hS N l[j] σ'.length σ' acc most (by omega) (hok _ (List.getElem_mem hj))
    rw [encT_def] at hc
    simp [h0, h1, h5, h6, hj, hc, hw, encT_def]
  · rintro ⟨tm, df, clk⟩ σ' ⟨rfl, rfl, acc, h0, h1, h5, h6⟩
    simp [h0, h1, h5, h6]
  · rintro ex ⟨tm, df, clk⟩ σ' ⟨rfl, rfl, rfl, acc, h0, h5⟩
    simp [h0, h5]
    omega
theorem termSize_t (hF : F 24 = some f24) (h7 : F 7 = some f7) (h25 : F 25 = some f25) : ∀ (N : Nat) (e : PTerm) (b : Nat) (σ : Sto) (m most : Int), szTm e ≤ N → OkTm e →
    ∃ r : Int, tcall F O N b 24 [.agg (encTm e), .int .i64 m, .int .i64 most] σ = some (.ret (.int .i64 r), σ)
  | 0, e, b, σ, m, most, h, _ => by rw [szTm_def] at h; omega
  | N + 1, e, b, σ, m, most, h, hb => by
    have ih := termSize_t hF h7 h25 N
    have hk := szTms_len e.kids
    have hs := szTm_def e
    have hv := szV_def e.val
    obtain ⟨M, rfl⟩ : ∃ M, N = M + 1 := ⟨N - 1, by omega⟩
    obtain ⟨rf, hf⟩ := few_t (O := O) h7 h25 M [e.val] σ.length σ most (by simp only [szVs]; omega) (by simp [maxLen]) (by intro x hx; simp at hx; subst hx; exact hb.val)
    suffices hh : ∃ e' σ', tcall F O (M + 1 + 1) b 24 [.agg (encTm e), .int .i64 m, .int .i64 most] σ = some (e', σ') ∧ ∃ r : Int, e' = .ret (.int .i64 r) ∧ σ' = σ by
      obtain ⟨e', σ', h1, r, rfl, rfl⟩ := hh
      exact ⟨r, h1⟩
    refine tcall_of hF ?_
    simp [encV_def] at hf
    cases rf with
    | false => simp [x24, encTm_def, hf]
    | true =>
      simp [x24, encTm_def, hf]
      refine tw_loop (I := fun j a σ' => a.df = [] ∧ σ' = σ ∧ ∃ acc : Int, a.tm.get 1 = some (.int .i64 acc) ∧ a.tm.get 2 = some (.int .i64 most) ∧ a.tm.get 3 = some (.bx 0 (encTm e) 30) ∧ a.tm.get 7 = some (.int .i64 j)) e.kids.length
        (R := fun ex a σ' => ex = .exit 0 ∧ a.df = [] ∧ σ' = σ ∧ ∃ acc : Int, a.tm.get 1 = some (.int .i64 acc)) ?_ ?_ ?_ ?_ ?_
      · simp [encTm_def]
      · omega
      · rintro j ⟨tm, df, clk⟩ σ' hj ⟨rfl, rfl, acc, h1, h2, h3, h7'⟩
        have hm := szTms_mem e.kids e.kids[j] (List.getElem_mem hj)
        have hw := wrapJ hj hb.len
        obtain ⟨r, hc⟩ := ih e.kids[j] σ'.length σ' acc most (by omega) (hb.sub _ (List.getElem_mem hj))
        rw [encTm_def] at h3 hc
        by_cases ha : acc ≤ most
        · simp [h1, h2, h3, h7', hj, ha, hc, hw, encTm_def]
        · simp [h1, h2, h3, h7', hj, ha]
      · rintro ⟨tm, df, clk⟩ σ' ⟨rfl, rfl, acc, h1, h2, h3, h7'⟩
        rw [encTm_def] at h3
        simp [h1, h2, h3, h7']
      · rintro ex ⟨tm, df, clk⟩ σ' ⟨rfl, rfl, rfl, acc, h1⟩
        simp [h1]
theorem fewCore_t (h6 : F 6 = some f6) (h23 : F 23 = some f23) (h47 : F 47 = some f47) (h24 : F 24 = some f24) (h7 : F 7 = some f7) (h25 : F 25 = some f25) (N : Nat) (c : PCore) (b : Nat) (σ : Sto) (most : Int) (hok : OkC c)
    (h1 : szTs c.types < N) (h2 : szTm c.query.term ≤ N) (h3 : ∀ f ∈ c.funs, szTm f.term ≤ N) (hn : c.funs.length ≤ N) :
    ∃ r, tcall F O (N + 2) b 6 [.int .i64 most, .agg (encC c)] σ = some (.ret (.bool r), σ) := by
  obtain ⟨rt, ht⟩ := fewTypes_t (O := O) h23 h47 N c.types σ.length σ most h1 hok.tlen hok.types
  obtain ⟨rq, hq⟩ := termSize_t (O := O) h24 h7 h25 (N + 1) c.query.term σ.length σ 0 most (by omega) hok.query.term
  suffices hh : ∃ e' σ', tcall F O (N + 2) b 6 [.int .i64 most, .agg (encC c)] σ = some (e', σ') ∧ ∃ r, e' = .ret (.bool r) ∧ σ' = σ by
    obtain ⟨e', σ', h1, r, rfl, rfl⟩ := hh
    exact ⟨r, h1⟩
  refine tcall_of h6 ?_
  rw [encTm_def] at hq
  by_cases hf : (100 : Int) < (c.funs.length : Int)
  · simp [x6, encC_def, hf]
  by_cases htt : (100 : Int) < (c.types.length : Int)
  · simp [x6, encC_def, hf, htt]
  cases rt with
  | false => simp [x6, encC_def, hf, htt, ht]
  | true =>
    simp [x6, encC_def, hf, htt, ht, hq]
    refine tw_loop (I := fun j a σ' => a.df = [] ∧ σ' = σ ∧ ∃ acc : Int, a.tm.get 0 = some (.int .i64 most) ∧ a.tm.get 3 = some (.bx 0 (encC c) 34) ∧ a.tm.get 5 = some (.int .i64 acc) ∧ a.tm.get 6 = some (.int .i64 j)) c.funs.length
      (R := fun ex a σ' => ex = .exit 0 ∧ a.df = [] ∧ σ' = σ ∧ ∃ acc : Int, a.tm.get 0 = some (.int .i64 most) ∧ a.tm.get 5 = some (.int .i64 acc)) ?_ ?_ ?_ ?_ ?_
    · simp [encC_def]
    · omega
    · rintro j ⟨tm, df, clk⟩ σ' hj ⟨rfl, rfl, acc, g0, g3, g5, g6⟩
      have hw := wrapJ hj hok.flen
      have hmem := List.getElem_mem hj
      obtain ⟨r, hc⟩ := termSize_t (O := O) h24 h7 h25 (N + 1) c.funs[j].term σ'.length σ' acc most (Nat.le_succ_of_le (h3 _ hmem)) (hok.funs _ hmem).term
      rw [encTm_def] at hc
      rw [encC_def] at g3
      by_cases ha : acc ≤ most
      · simp [g0, g3, g5, g6, hj, ha, hc, hw, encC_def, encBd_def]
      · simp [g0, g3, g5, g6, hj, ha]
    · rintro ⟨tm, df, clk⟩ σ' ⟨rfl, rfl, acc, g0, g3, g5, g6⟩
      rw [encC_def] at g3
      simp [g0, g3, g5, g6]
    · rintro ex ⟨tm, df, clk⟩ σ' ⟨rfl, rfl, rfl, acc, g0, g5⟩
      simp [g0, g5]
      omega
end Go.Xe.YtalckpkiplhbcaaGreatDoor
end
section
namespace Go.Xe.YtalckpkiplhbcaaGreatDoor
open Go Go.Xe Go.Xt
set_option linter.unusedVariables false
set_option linter.unusedSimpArgs false
variable {F : FuncId → Option TFun} {O : FuncId → List TV → Option TV}
theorem any_step {α : Type} {S : α → Bool} {l : List α} {j : Nat} (h : j < l.length) : (l.drop j).any S = (S l[j] || (l.drop (j + 1)).any S) := by
  rw [List.drop_eq_getElem_cons h, List.any_cons]
theorem anyT_i (hF : F 149 = some f149) (G : FuncId) (cap : List TV) (N : Nat) (S : QTyp → Bool) (b : Nat) (σ : Sto) (l : List QTyp) (hl : l.length ≤ maxLen) (hn : l.length < N)
    (hc : ∀ x ∈ l, ∀ b, tcall F O N b G (.agg (encQ x) :: cap) σ = some (.ret (.bool (S x)), σ)) :
    ∃ r : Int, tcall F O (N + 1) b 149 [.sl .fz (l.map encQ), .func G [] cap] σ = some (.ret (.int .i64 r), σ) ∧ decide (0 ≤ r) = l.any S := by
  suffices hh : ∃ e' σ', tcall F O (N + 1) b 149 [.sl .fz (l.map encQ), .func G [] cap] σ = some (e', σ') ∧ ∃ r : Int, e' = .ret (.int .i64 r) ∧ σ' = σ ∧ decide (0 ≤ r) = l.any S by
    obtain ⟨e', σ', q1, r, rfl, rfl, q2⟩ := hh
    exact ⟨r, q1, q2⟩
  refine tcall_of hF ?_
  simp [x149]
  obtain ⟨I, hI⟩ : ∃ I : Nat → TAct → Sto → Prop, I = (fun j a σ' => a.df = [] ∧ σ' = σ ∧ (l.drop j).any S = l.any S ∧ a.tm.get 0 = some (.sl .fz (l.map encQ)) ∧ a.tm.get 1 = some (.func G [] cap) ∧ a.tm.get 7 = some (.int .i64 (l.length : Int)) ∧ a.tm.get 8 = some (.int .i64 j)) := ⟨_, rfl⟩
  obtain ⟨R, hR⟩ : ∃ R : TEx → TAct → Sto → Prop, R = (fun ex a σ' => a.df = [] ∧ σ' = σ ∧ (ex = .exit 0 ∧ l.any S = false ∨ ex = .ret ∧ l.any S = true ∧ ∃ r : Int, 0 ≤ r ∧ a.tm.get 4 = some (.int .i64 r))) := ⟨_, rfl⟩
  refine tw_loop I l.length R ?_ ?_ ?_ ?_ ?_
  · rw [hI]
    simp
  · omega
  · rw [hI]
    rintro j ⟨tm, df, clk⟩ σ' hj ⟨rfl, rfl, hd, h0, h1, h7, h8⟩
    rw [← hI]
    have hw := wrapJ hj hl
    rw [any_step hj] at hd
    have hcc := hc l[j] (List.getElem_mem hj) σ'.length
    rw [encQ_def] at hcc
    cases hs : S l[j] with
    | true =>
      rw [hs] at hd hcc
      simp [h0, h1, h7, h8, hj, hcc, hw, encQ_def]
      rw [hR]
      exact ⟨rfl, rfl, .inr ⟨rfl, by simpa using hd.symm, j, by omega, by simp⟩⟩
    | false =>
      rw [hs] at hd hcc
      simp [h0, h1, h7, h8, hj, hcc, hw, encQ_def]
      rw [hI]
      simpa [h0, h1, h7] using hd
  · rw [hI]
    rintro ⟨tm, df, clk⟩ σ' ⟨rfl, rfl, hd, h0, h1, h7, h8⟩
    rw [List.drop_of_length_le (Nat.le_refl _)] at hd
    simp [h0, h1, h7, h8]
    rw [hR]
    exact ⟨rfl, rfl, .inl ⟨rfl, hd.symm⟩⟩
  · rw [hR]
    rintro ex ⟨tm, df, clk⟩ σ' ⟨rfl, rfl, ⟨rfl, h⟩ | ⟨rfl, h, r, hr, h4⟩⟩
    · simp [h]
    · simp [h, h4, hr]
theorem anyT (hF : F 95 = some f95) (hI : F 149 = some f149) (G : FuncId) (cap : List TV) (N : Nat) (S : QTyp → Bool) (b : Nat) (σ : Sto) (l : List QTyp) (hl : l.length ≤ maxLen) (hn : l.length < N)
    (hc : ∀ x ∈ l, ∀ b, tcall F O N b G (.agg (encQ x) :: cap) σ = some (.ret (.bool (S x)), σ)) :
    tcall F O (N + 2) b 95 [.sl .fz (l.map encQ), .func G [] cap] σ = some (.ret (.bool (l.any S)), σ) := by
  obtain ⟨r, hq, hr⟩ := anyT_i (O := O) hI G cap N S σ.length σ l hl hn hc
  refine tcall_pure hF ?_
  simp [x95, hq, ← hr]
theorem anyV_i (hF : F 157 = some f157) (G : FuncId) (cap : List TV) (N : Nat) (S : PVal → Bool) (b : Nat) (σ : Sto) (l : List PVal) (hl : l.length ≤ maxLen) (hn : l.length < N)
    (hc : ∀ x ∈ l, ∀ b, tcall F O N b G (.agg (encV x) :: cap) σ = some (.ret (.bool (S x)), σ)) :
    ∃ r : Int, tcall F O (N + 1) b 157 [.sl .fz (l.map encV), .func G [] cap] σ = some (.ret (.int .i64 r), σ) ∧ decide (0 ≤ r) = l.any S := by
  suffices hh : ∃ e' σ', tcall F O (N + 1) b 157 [.sl .fz (l.map encV), .func G [] cap] σ = some (e', σ') ∧ ∃ r : Int, e' = .ret (.int .i64 r) ∧ σ' = σ ∧ decide (0 ≤ r) = l.any S by
    obtain ⟨e', σ', q1, r, rfl, rfl, q2⟩ := hh
    exact ⟨r, q1, q2⟩
  refine tcall_of hF ?_
  simp [x157]
  obtain ⟨I, hI⟩ : ∃ I : Nat → TAct → Sto → Prop, I = (fun j a σ' => a.df = [] ∧ σ' = σ ∧ (l.drop j).any S = l.any S ∧ a.tm.get 0 = some (.sl .fz (l.map encV)) ∧ a.tm.get 1 = some (.func G [] cap) ∧ a.tm.get 7 = some (.int .i64 (l.length : Int)) ∧ a.tm.get 8 = some (.int .i64 j)) := ⟨_, rfl⟩
  obtain ⟨R, hR⟩ : ∃ R : TEx → TAct → Sto → Prop, R = (fun ex a σ' => a.df = [] ∧ σ' = σ ∧ (ex = .exit 0 ∧ l.any S = false ∨ ex = .ret ∧ l.any S = true ∧ ∃ r : Int, 0 ≤ r ∧ a.tm.get 4 = some (.int .i64 r))) := ⟨_, rfl⟩
  refine tw_loop I l.length R ?_ ?_ ?_ ?_ ?_
  · rw [hI]
    simp
  · omega
  · rw [hI]
    rintro j ⟨tm, df, clk⟩ σ' hj ⟨rfl, rfl, hd, h0, h1, h7, h8⟩
    rw [← hI]
    have hw := wrapJ hj hl
    rw [any_step hj] at hd
    have hcc := hc l[j] (List.getElem_mem hj) σ'.length
    rw [encV_def] at hcc
    cases hs : S l[j] with
    | true =>
      rw [hs] at hd hcc
      simp [h0, h1, h7, h8, hj, hcc, hw, encV_def]
      rw [hR]
      exact ⟨rfl, rfl, .inr ⟨rfl, by simpa using hd.symm, j, by omega, by simp⟩⟩
    | false =>
      rw [hs] at hd hcc
      simp [h0, h1, h7, h8, hj, hcc, hw, encV_def]
      rw [hI]
      simpa [h0, h1, h7] using hd
  · rw [hI]
    rintro ⟨tm, df, clk⟩ σ' ⟨rfl, rfl, hd, h0, h1, h7, h8⟩
    rw [List.drop_of_length_le (Nat.le_refl _)] at hd
    simp [h0, h1, h7, h8]
    rw [hR]
    exact ⟨rfl, rfl, .inl ⟨rfl, hd.symm⟩⟩
  · rw [hR]
    rintro ex ⟨tm, df, clk⟩ σ' ⟨rfl, rfl, ⟨rfl, h⟩ | ⟨rfl, h, r, hr, h4⟩⟩
    · simp [h]
    · simp [h, h4, hr]
theorem anyV (hF : F 103 = some f103) (hI : F 157 = some f157) (G : FuncId) (cap : List TV) (N : Nat) (S : PVal → Bool) (b : Nat) (σ : Sto) (l : List PVal) (hl : l.length ≤ maxLen) (hn : l.length < N)
    (hc : ∀ x ∈ l, ∀ b, tcall F O N b G (.agg (encV x) :: cap) σ = some (.ret (.bool (S x)), σ)) :
    tcall F O (N + 2) b 103 [.sl .fz (l.map encV), .func G [] cap] σ = some (.ret (.bool (l.any S)), σ) := by
  obtain ⟨r, hq, hr⟩ := anyV_i (O := O) hI G cap N S σ.length σ l hl hn hc
  refine tcall_pure hF ?_
  simp [x103, hq, ← hr]
end Go.Xe.YtalckpkiplhbcaaGreatDoor
end
section
namespace Go.Xe.YtalckpkiplhbcaaGreatDoor
open Go Go.Xe Go.Xt
set_option linter.unusedVariables false
set_option linter.unusedSimpArgs false
variable {F : FuncId → Option TFun} {O : FuncId → List TV → Option TV}
theorem deep1_t (h96 : F 96 = some f96) (N : Nat) (x : QTyp) (left : Int) (hl : I64 left) (h1 : 1 ≤ left) (b k ver : Nat) (σ : Sto) (hk : σ.at k = some ⟨ver, .cells [.int .i64 left] 3⟩)
    (ih : ∀ b, tcall F O N b 56 [.agg (encQ x), .int .i64 (left - 1)] σ = some (.ret (.bool (rightT (left - 1).toNat x)), σ)) :
    tcall F O (N + 1) b 96 [.agg (encQ x), .ptr k 0] σ = some (.ret (.bool (!(rightT (left - 1).toNat x))), σ) := by
  have hc := ih σ.length
  have hw : IntKind.i64.wrap (left - 1) = left - 1 := by
    unfold I64 at hl
    rw [wrap_in] <;> omega
  rw [encQ_def] at hc
  refine tcall_pure h96 ?_
  generalize (left - 1).toNat = n1 at hc ⊢
  cases hm : x.nl <;> (rw [hm] at hc; simp only [mdOf] at hc; simp [x96, encQ_def, hm, mdOf, hk, hw, hc])
theorem at_push (σ : Sto) (o : TObj) : Sto.at (σ ++ [some o]) σ.length = some o := by simp [Sto.at]
theorem deep_t (h56 : F 56 = some f56) (h96 : F 96 = some f96) (h95 : F 95 = some f95) (h149 : F 149 = some f149) : ∀ (N : Nat) (t : QTyp) (left : Int) (b : Nat) (σ : Sto), szQ t ≤ N → OkQ t → I64 left →
    tcall F O N b 56 [.agg (encQ t), .int .i64 left] σ = some (.ret (.bool (rightT left.toNat t)), σ)
  | 0, t, left, b, σ, h, _, _ => by rw [szQ_def] at h; omega
  | 1, t, left, b, σ, h, _, _ => by rw [szQ_def] at h; omega
  | 2, t, left, b, σ, h, _, _ => by rw [szQ_def] at h; omega
  | 3, t, left, b, σ, h, _, _ => by rw [szQ_def] at h; omega
  | N + 4, t, left, b, σ, h, ht, hl => by
    have hs := szQ_def t
    have hk := szQs_len t.list
    refine tcall_pure h56 ?_
    by_cases h1 : left < 1
    · have e0 : left.toNat = 0 := by omega
      cases hm : t.nl <;> simp [x56, encQ_def, hm, mdOf, h1, e0, rightT, at_push]
    obtain ⟨n, hn⟩ : ∃ n : Nat, left.toNat = n + 1 := ⟨left.toNat - 1, by omega⟩
    have hn2 : (left - 1).toNat = n := by omega
    have hl2 : I64 (left - 1) := by unfold I64 at hl ⊢; omega
    have hany : ∀ σ1 : Sto, ∀ k ver b, σ1.at k = some ⟨ver, .cells [.int .i64 left] 3⟩ → tcall F O (N + 3) b 95 [.sl .fz (t.list.map encQ), .func 96 [] [.ptr k 0]] σ1 = some (.ret (.bool (t.list.any fun x => !(rightT n x))), σ1) := fun σ1 k ver b hat => by
      rw [← hn2]
      exact anyT (O := O) h95 h149 96 [.ptr k 0] (N + 1) (fun x => !(rightT (left - 1).toNat x)) b σ1 t.list ht.len (by omega) (fun x hx b => deep1_t h96 N x left hl (by omega) b k ver σ1 hat (fun b => deep_t h56 h96 h95 h149 N x (left - 1) b σ1 (by have := szQs_mem _ _ hx; omega) (ht.sub x hx) hl2))
    have hp := at_push σ ⟨0, .cells [.int .i64 left] 3⟩
    have hc := hany _ _ _ σ.length hp
    have hall : (!(t.list.any fun x => !(rightT n x))) = t.list.all (rightT n) := by
      generalize t.list = l
      induction l with
      | nil => rfl
      | cons a l ih => rw [List.any_cons, List.all_cons, ← ih]; cases rightT n a <;> simp
    generalize (t.list.any fun x => !(rightT n x)) = v at hc hall
    rw [hn]
    cases hm : t.nl with
    | true =>
      have hnil := ht.nl hm
      simp [hnil] at hall
      by_cases k1 : t.kind = 1
      · simp [x56, encQ_def, hm, mdOf, h1, hp, k1, rightT, hnil]
      by_cases k2 : t.kind = 2
      · simp [x56, encQ_def, hm, mdOf, h1, hp, k2, rightT, hnil]
      by_cases k3 : t.kind = 3
      · simp [x56, encQ_def, hm, mdOf, h1, hp, k3, rightT, hnil]
      by_cases k4 : t.kind = 4
      · simp [x56, encQ_def, hm, mdOf, h1, hp, k4, rightT, hnil]
      simp [x56, encQ_def, hm, mdOf, h1, hp, k1, k2, k3, k4, rightT, hnil]
    | false =>
      by_cases k1 : t.kind = 1
      · simp [x56, encQ_def, hm, mdOf, h1, hp, k1, rightT]
      by_cases k2 : t.kind = 2
      · simp [x56, encQ_def, hm, mdOf, h1, hp, k2, rightT]
      by_cases k3 : t.kind = 3
      · by_cases l2 : (t.list.length : Int) < 2
        · have l2' : ¬ 2 ≤ t.list.length := by omega
          simp [x56, encQ_def, hm, mdOf, h1, hp, k3, rightT, l2, l2']
        by_cases l4 : (4 : Int) < (t.list.length : Int)
        · have l4' : ¬ t.list.length ≤ 4 := by omega
          simp [x56, encQ_def, hm, mdOf, h1, hp, k3, rightT, l2, l4, l4']
        have l2' : 2 ≤ t.list.length := by omega
        have l4' : t.list.length ≤ 4 := by omega
        simp [x56, encQ_def, hm, mdOf, h1, hp, k3, rightT, l2, l4, l2', l4', hc, ← hall]
      by_cases k4 : t.kind = 4
      · by_cases l1 : (t.list.length : Int) = 1
        · have l1' : t.list.length = 1 := by omega
          simp [x56, encQ_def, hm, mdOf, h1, hp, k4, rightT, l1', hc, ← hall]
        · have l1' : t.list.length ≠ 1 := by omega
          simp [x56, encQ_def, hm, mdOf, h1, hp, k4, rightT, l1, l1']
      simp [x56, encQ_def, hm, mdOf, h1, hp, k1, k2, k3, k4, rightT]
end Go.Xe.YtalckpkiplhbcaaGreatDoor
end
section
namespace Go.Xe.YtalckpkiplhbcaaGreatDoor
open Go Go.Xe Go.Xt
set_option linter.unusedVariables false
set_option linter.unusedSimpArgs false
variable {F : FuncId → Option TFun} {O : FuncId → List TV → Option TV}
theorem all_step {α : Type} {S : α → Bool} {l : List α} {j : Nat} (h : j < l.length) : (l.drop j).all S = (S l[j] && (l.drop (j + 1)).all S) := by
  rw [List.drop_eq_getElem_cons h, List.all_cons]
set_option maxHeartbeats 2000000 in
theorem typed_t (h58 : F 58 = some f58) : ∀ (N : Nat) (t : QTyp) (d : Int) (b : Nat) (σ : Sto), szQ t ≤ N → OkQ t → 1 ≤ d → d ≤ 41 →
    tcall F O N b 58 [.agg (encQ t), .int .i64 d] σ = some (.ret (.bool (rightT (41 - d).toNat t)), σ)
  | 0, t, d, b, σ, h, _, _, _ => by rw [szQ_def] at h; omega
  | N + 1, t, d, b, σ, h, ht, hd1, hd2 => by
    have ih : ∀ (x : QTyp) (d : Int) (b : Nat) (σ : Sto), szQ x ≤ N → OkQ x → 1 ≤ d → d ≤ 41 → tcall F O N b 58 [.agg (encQ x), .int .i64 d] σ = some (.ret (.bool (rightT (41 - d).toNat x)), σ) := typed_t h58 N
    have hs := szQ_def t
    have hk := szQs_len t.list
    refine tcall_pure h58 ?_
    have hlen := ht.len
    have hfine : ∀ fn : Bool, fn = (decide ((t.kind = 1 ∨ t.kind = 2) ∧ t.list.length = 0 ∨ t.kind = 3 ∧ 2 ≤ t.list.length ∧ t.list.length ≤ 4 ∨ t.kind = 4 ∧ t.list.length = 1)) → fn = false → ∀ n, rightT n t = false := fun fn h1 h2 n => by
      subst h1
      have h2 := of_decide_eq_false h2
      cases n with
      | zero => rfl
      | succ n =>
        unfold rightT
        by_cases k12 : t.kind = 1 ∨ t.kind = 2
        · rw [if_pos k12]; apply decide_eq_false; exact fun e => h2 (.inl ⟨k12, e⟩)
        rw [if_neg k12]
        by_cases k3 : t.kind = 3
        · rw [if_pos k3, decide_eq_false (fun e => h2 (.inr (.inl ⟨k3, e⟩)))]; rfl
        rw [if_neg k3]
        by_cases k4 : t.kind = 4
        · rw [if_pos k4, decide_eq_false (fun e => h2 (.inr (.inr ⟨k4, e⟩)))]; rfl
        rw [if_neg k4]
    by_cases hf : ((t.kind = 1 ∨ t.kind = 2) ∧ t.list.length = 0 ∨ t.kind = 3 ∧ 2 ≤ t.list.length ∧ t.list.length ≤ 4 ∨ t.kind = 4 ∧ t.list.length = 1)
    case neg =>
      have hz := hfine _ rfl (decide_eq_false hf)
      rw [hz]
      by_cases k1 : t.kind = 1
      · have e1 : t.list.length ≠ 0 := fun e => hf (.inl ⟨.inl k1, e⟩)
        have e2 : (t.list.length : Int) ≠ 0 := by omega
        cases hm : t.nl with
        | true => exact absurd (by rw [ht.nl hm]; rfl) e1
        | false => simp [x58, undT, encQ_def, hm, mdOf, k1, e1, e2]
      by_cases k2 : t.kind = 2
      · have e1 : t.list.length ≠ 0 := fun e => hf (.inl ⟨.inr k2, e⟩)
        have e2 : (t.list.length : Int) ≠ 0 := by omega
        cases hm : t.nl with
        | true => exact absurd (by rw [ht.nl hm]; rfl) e1
        | false => simp [x58, undT, encQ_def, hm, mdOf, k2, e1, e2]
      by_cases k3 : t.kind = 3
      · by_cases l2 : (2 : Int) ≤ (t.list.length : Int)
        · have l4 : ¬ (t.list.length : Int) ≤ 4 := fun e => hf (.inr (.inl ⟨k3, by omega, by omega⟩))
          have l2' : 2 ≤ t.list.length := by omega
          have l4' : ¬ t.list.length ≤ 4 := by omega
          cases hm : t.nl <;> simp [x58, undT, encQ_def, hm, mdOf, k3, l2, l4, l2', l4']
        · have l2' : ¬ 2 ≤ t.list.length := by omega
          cases hm : t.nl <;> simp [x58, undT, encQ_def, hm, mdOf, k3, l2, l2']
      by_cases k4 : t.kind = 4
      · have e1 : t.list.length ≠ 1 := fun e => hf (.inr (.inr ⟨k4, e⟩))
        have e2 : (t.list.length : Int) ≠ 1 := by omega
        cases hm : t.nl <;> simp [x58, undT, encQ_def, hm, mdOf, k4, e1, e2]
      cases hm : t.nl <;> simp [x58, undT, encQ_def, hm, mdOf, k1, k2, k3, k4]
    by_cases h40 : 40 < d
    case pos =>
      have : (41 - d).toNat = 0 := by omega
      rw [this]
      by_cases k1 : t.kind = 1
      · have e1 : t.list.length = 0 := by omega
        cases hm : t.nl <;> simp [x58, undT, encQ_def, hm, mdOf, k1, e1, h40, rightT]
      by_cases k2 : t.kind = 2
      · have e1 : t.list.length = 0 := by omega
        cases hm : t.nl <;> simp [x58, undT, encQ_def, hm, mdOf, k2, e1, h40, rightT]
      by_cases k3 : t.kind = 3
      · have l2 : 2 ≤ t.list.length ∧ t.list.length ≤ 4 := by omega
        have l2'' : (2 : Int) ≤ (t.list.length : Int) := by omega
        have l4' : (t.list.length : Int) ≤ 4 := by omega
        cases hm : t.nl <;> simp [x58, undT, encQ_def, hm, mdOf, k3, rightT, l2.1, l2.2, l2'', l4', h40]
      have k4 : t.kind = 4 := by omega
      have e1 : t.list.length = 1 := by omega
      cases hm : t.nl <;> simp [x58, undT, encQ_def, hm, mdOf, k4, e1, h40, rightT]
    obtain ⟨n, hn⟩ : ∃ n : Nat, (41 - d).toNat = n + 1 := ⟨(41 - d).toNat - 1, by omega⟩
    have hn2 : (41 - (d + 1)).toNat = n := by omega
    have hwd : IntKind.i64.wrap (d + 1) = d + 1 := by rw [wrap_in] <;> omega
    rw [hn]
    have hk12 : t.kind = 1 ∨ t.kind = 2 → t.list = [] ∧ rightT (n + 1) t = t.list.all (rightT n) := fun k => by
      have e1 : t.list.length = 0 := by omega
      have e2 := List.eq_nil_of_length_eq_zero e1
      refine ⟨e2, ?_⟩
      unfold rightT
      rw [if_pos k, e2]; rfl
    by_cases k1 : t.kind = 1
    · obtain ⟨e2, e3⟩ := hk12 (.inl k1)
      rw [e3]
      cases hm : t.nl <;>
      · simp [x58, undT, encQ_def, hm, mdOf, k1, e2, h40]
        refine tw_loop (I := fun j a σ' => a.df = [] ∧ σ' = σ ∧ a.tm.get 5 = some (.int .i64 0) ∧ a.tm.get 7 = some (.int .i64 j)) 0
          (R := fun ex a σ' => ex = .exit 0 ∧ a.df = [] ∧ σ' = σ) ?_ ?_ ?_ ?_ ?_
        · simp
        · omega
        · rintro j ⟨tm, df, clk⟩ σ' hj
          omega
        · rintro ⟨tm, df, clk⟩ σ' ⟨rfl, rfl, g5, g7⟩
          simp at g7
          simp [g5, g7]
        · rintro ex ⟨tm, df, clk⟩ σ' ⟨rfl, rfl, rfl⟩
          simp
    by_cases k2 : t.kind = 2
    · obtain ⟨e2, e3⟩ := hk12 (.inr k2)
      rw [e3]
      cases hm : t.nl <;>
      · simp [x58, undT, encQ_def, hm, mdOf, k2, e2, h40]
        refine tw_loop (I := fun j a σ' => a.df = [] ∧ σ' = σ ∧ a.tm.get 5 = some (.int .i64 0) ∧ a.tm.get 7 = some (.int .i64 j)) 0
          (R := fun ex a σ' => ex = .exit 0 ∧ a.df = [] ∧ σ' = σ) ?_ ?_ ?_ ?_ ?_
        · simp
        · omega
        · rintro j ⟨tm, df, clk⟩ σ' hj
          omega
        · rintro ⟨tm, df, clk⟩ σ' ⟨rfl, rfl, g5, g7⟩
          simp at g7
          simp [g5, g7]
        · rintro ex ⟨tm, df, clk⟩ σ' ⟨rfl, rfl, rfl⟩
          simp
    by_cases k3 : t.kind = 3
    · have l2 : 2 ≤ t.list.length ∧ t.list.length ≤ 4 := by omega
      have l2'' : (2 : Int) ≤ (t.list.length : Int) := by omega
      have l4' : (t.list.length : Int) ≤ 4 := by omega
      cases hm : t.nl with
      | true => rw [ht.nl hm] at l2; simp at l2
      | false =>
        simp [x58, undT, encQ_def, hm, mdOf, k3, rightT, l2.1, l2.2, l2'', l4', h40]
        obtain ⟨I, hI⟩ : ∃ I : Nat → TAct → Sto → Prop, I = (fun j a σ' => a.df = [] ∧ σ' = σ ∧ (t.list.drop j).all (rightT n) = t.list.all (rightT n) ∧ a.tm.get 1 = some (.int .i64 d) ∧ a.tm.get 2 = some (.bx 0 (encQ t) 65) ∧ a.tm.get 5 = some (.int .i64 (t.list.length : Int)) ∧ a.tm.get 7 = some (.int .i64 j)) := ⟨_, rfl⟩
        obtain ⟨R, hR⟩ : ∃ R : TEx → TAct → Sto → Prop, R = (fun ex a σ' => a.df = [] ∧ σ' = σ ∧ (ex = .exit 0 ∧ t.list.all (rightT n) = true ∨ ex = .ret ∧ t.list.all (rightT n) = false ∧ a.tm.get 4 = some (.bool false))) := ⟨_, rfl⟩
        refine tw_loop I t.list.length R ?_ ?_ ?_ ?_ ?_
        · rw [hI]
          exact ⟨rfl, rfl, by simp, by simp, by simp [encQ_def, hm, mdOf, k3], by simp [k3], by simp⟩
        · omega
        · rw [hI]
          rintro j ⟨tm, df, clk⟩ σ' hj ⟨rfl, rfl, hd, g1, g2, g5, g7⟩
          rw [← hI]
          have hw := wrapJ hj ht.len
          rw [all_step hj] at hd
          have hcc := ih t.list[j] (d + 1) σ'.length σ' (by have := szQs_mem _ _ (List.getElem_mem hj); omega) (ht.sub _ (List.getElem_mem hj)) (by omega) (by omega)
          rw [hn2] at hcc
          rw [encQ_def, hm] at g2
          simp only [mdOf] at g2
          cases hs : rightT n t.list[j] with
          | true =>
            rw [hs] at hd hcc
            cases hmj : (t.list[j]).nl <;>
            · rw [encQ_def, hmj] at hcc
              simp only [mdOf] at hcc
              simp [g1, g2, g5, g7, hj, hcc, hw, hwd, encQ_def, hmj, mdOf]
              rw [hI]
              simpa [g1, g2, g5, encQ_def, hm, mdOf] using hd
          | false =>
            rw [hs] at hd hcc
            cases hmj : (t.list[j]).nl <;>
            · rw [encQ_def, hmj] at hcc
              simp only [mdOf] at hcc
              simp [g1, g2, g5, g7, hj, hcc, hw, hwd, encQ_def, hmj, mdOf]
              rw [hR]
              simpa using hd.symm
        · rw [hI]
          rintro ⟨tm, df, clk⟩ σ' ⟨rfl, rfl, hd, g1, g2, g5, g7⟩
          rw [List.drop_of_length_le (Nat.le_refl _)] at hd
          simp [g1, g5, g7]
          rw [hR]
          exact ⟨rfl, rfl, .inl ⟨rfl, hd.symm⟩⟩
        · rw [hR]
          rintro ex ⟨tm, df, clk⟩ σ' ⟨rfl, rfl, ⟨rfl, h⟩ | ⟨rfl, h, h4⟩⟩
          · simp [h]
          · simp [h, h4]
    have k4 : t.kind = 4 := by omega
    have e1 : t.list.length = 1 := by omega
    have e2 : (t.list.length : Int) = 1 := by omega
    cases hm : t.nl with
    | true => rw [ht.nl hm] at e1; simp at e1
    | false =>
      simp [x58, undT, encQ_def, hm, mdOf, k4, rightT, e1, h40]
      obtain ⟨I, hI⟩ : ∃ I : Nat → TAct → Sto → Prop, I = (fun j a σ' => a.df = [] ∧ σ' = σ ∧ (t.list.drop j).all (rightT n) = t.list.all (rightT n) ∧ a.tm.get 1 = some (.int .i64 d) ∧ a.tm.get 2 = some (.bx 0 (encQ t) 65) ∧ a.tm.get 5 = some (.int .i64 (t.list.length : Int)) ∧ a.tm.get 7 = some (.int .i64 j)) := ⟨_, rfl⟩
      obtain ⟨R, hR⟩ : ∃ R : TEx → TAct → Sto → Prop, R = (fun ex a σ' => a.df = [] ∧ σ' = σ ∧ (ex = .exit 0 ∧ t.list.all (rightT n) = true ∨ ex = .ret ∧ t.list.all (rightT n) = false ∧ a.tm.get 4 = some (.bool false))) := ⟨_, rfl⟩
      refine tw_loop I t.list.length R ?_ ?_ ?_ ?_ ?_
      · rw [hI]
        exact ⟨rfl, rfl, by simp, by simp, by simp [encQ_def, hm, mdOf, k4, e1], by simp [k4, e1], by simp⟩
      · omega
      · rw [hI]
        rintro j ⟨tm, df, clk⟩ σ' hj ⟨rfl, rfl, hd, g1, g2, g5, g7⟩
        rw [← hI]
        have hw := wrapJ hj ht.len
        rw [all_step hj] at hd
        have hcc := ih t.list[j] (d + 1) σ'.length σ' (by have := szQs_mem _ _ (List.getElem_mem hj); omega) (ht.sub _ (List.getElem_mem hj)) (by omega) (by omega)
        rw [hn2] at hcc
        rw [encQ_def, hm] at g2
        simp only [mdOf] at g2
        cases hs : rightT n t.list[j] with
        | true =>
          rw [hs] at hd hcc
          cases hmj : (t.list[j]).nl <;>
          · rw [encQ_def, hmj] at hcc
            simp only [mdOf] at hcc
            simp [g1, g2, g5, g7, hj, hcc, hw, hwd, encQ_def, hmj, mdOf]
            rw [hI]
            simpa [g1, g2, g5, encQ_def, hm, mdOf] using hd
        | false =>
          rw [hs] at hd hcc
          cases hmj : (t.list[j]).nl <;>
          · rw [encQ_def, hmj] at hcc
            simp only [mdOf] at hcc
            simp [g1, g2, g5, g7, hj, hcc, hw, hwd, encQ_def, hmj, mdOf]
            rw [hR]
            simpa using hd.symm
      · rw [hI]
        rintro ⟨tm, df, clk⟩ σ' ⟨rfl, rfl, hd, g1, g2, g5, g7⟩
        rw [List.drop_of_length_le (Nat.le_refl _)] at hd
        simp [g1, g5, g7]
        rw [hR]
        exact ⟨rfl, rfl, .inl ⟨rfl, hd.symm⟩⟩
      · rw [hR]
        rintro ex ⟨tm, df, clk⟩ σ' ⟨rfl, rfl, ⟨rfl, h⟩ | ⟨rfl, h, h4⟩⟩
        · simp [h]
        · simp [h, h4]
theorem typeRight_t (h28 : F 28 = some f28) (h56 : F 56 = some f56) (h96 : F 96 = some f96) (h95 : F 95 = some f95) (h149 : F 149 = some f149) (N : Nat) (t : QTyp) (b : Nat) (σ : Sto) (h : szQ t ≤ N) (ht : OkQ t) :
    tcall F O (N + 1) b 28 [.agg (encQ t)] σ = some (.ret (.bool (rightT 40 t)), σ) := by
  have hc := deep_t (O := O) h56 h96 h95 h149 N t 40 σ.length σ h ht (by unfold I64; omega)
  have e : (40 : Int).toNat = 40 := rfl
  rw [e] at hc
  refine tcall_pure h28 ?_
  cases hm : t.nl <;> (rw [encQ_def, hm] at hc; simp only [mdOf] at hc; simp [x28, encQ_def, hm, mdOf, hc])
theorem refTypeRight_t (h30 : F 30 = some f30) (h58 : F 58 = some f58) (N : Nat) (t : QTyp) (b : Nat) (σ : Sto) (h : szQ t ≤ N) (ht : OkQ t) :
    tcall F O (N + 1) b 30 [.agg (encQ t)] σ = some (.ret (.bool (rightT 40 t)), σ) := by
  have hc := typed_t (O := O) h58 N t 1 σ.length σ h ht (by omega) (by omega)
  have e : (41 - 1 : Int).toNat = 40 := rfl
  rw [e] at hc
  refine tcall_pure h30 ?_
  cases hm : t.nl <;> (rw [encQ_def, hm] at hc; simp only [mdOf] at hc; simp [x30, encQ_def, hm, mdOf, hc])
end Go.Xe.YtalckpkiplhbcaaGreatDoor
end
section
namespace Go.Xe.YtalckpkiplhbcaaGreatDoor
open Go Go.Xe Go.Xt
set_option linter.unusedVariables false
set_option linter.unusedSimpArgs false
variable {F : FuncId → Option TFun} {O : FuncId → List TV → Option TV}
mutual
def sV : PVal → Nat
  | .mk _ _ l => sVs l + 1
def sVs : List PVal → Nat
  | [] => 0
  | t :: l => sV t + sVs l
end
theorem sV_def (v : PVal) : sV v = sVs v.list + 1 := by cases v; simp only [sV, PVal.list]
theorem counted_t (h105 : F 105 = some f105) : ∀ (N : Nat) (v : PVal) (n : Nat) (b : Nat) (σ : Sto), szV v ≤ N → OkV v → n ≤ 1000 →
    tcall F O N b 105 [.agg (encV v), .int .i64 (n : Int)] σ = some (.ret (.int .i64 ((min (n + sV v) 1001 : Nat) : Int)), σ)
  | 0, v, n, b, σ, h, _, _ => by rw [szV_def] at h; omega
  | N + 1, v, n, b, σ, h, hv, hn => by
    have ih := counted_t h105 N
    have hs := szV_def v
    have hk := szVs_len v.list
    have hd := sV_def v
    have hw1 : IntKind.i64.wrap ((n : Int) + 1) = ((n + 1 : Nat) : Int) := by rw [wrap_in] <;> omega
    suffices hh : ∃ e' σ', tcall F O (N + 1) b 105 [.agg (encV v), .int .i64 (n : Int)] σ = some (e', σ') ∧ ∃ r : Nat, e' = .ret (.int .i64 (r : Int)) ∧ σ' = σ ∧ r = min (n + sV v) 1001 by
      obtain ⟨e', σ', q1, r', rfl, rfl, rfl⟩ := hh
      exact q1
    refine tcall_of h105 ?_
    simp [x105, encV_def, hw1]
    obtain ⟨I, hI⟩ : ∃ I : Nat → TAct → Sto → Prop, I = (fun j a σ' => a.df = [] ∧ σ' = σ ∧ ∃ acc : Nat, min (acc + sVs (v.list.drop j)) 1001 = min (n + sV v) 1001 ∧ acc ≤ 1001 ∧ a.tm.get 1 = some (.int .i64 (acc : Int)) ∧ a.tm.get 2 = some (.bx 0 (encV v) 26) ∧ a.tm.get 5 = some (.int .i64 j)) := ⟨_, rfl⟩
    obtain ⟨R, hR⟩ : ∃ R : TEx → TAct → Sto → Prop, R = (fun ex a σ' => ex = .exit 0 ∧ a.df = [] ∧ σ' = σ ∧ a.tm.get 1 = some (.int .i64 ((min (n + sV v) 1001 : Nat) : Int))) := ⟨_, rfl⟩
    refine tw_loop I v.list.length R ?_ ?_ ?_ ?_ ?_
    · rw [hI]
      exact ⟨rfl, rfl, n + 1, by rw [List.drop_zero]; omega, by omega, by simp, by simp [encV_def], by simp⟩
    · omega
    · rw [hI]
      rintro j ⟨tm, df, clk⟩ σ' hj ⟨rfl, rfl, acc, hacc, hle, g1, g2, g5⟩
      rw [← hI]
      have hw := wrapJ hj hv.len
      have hdr : sVs (v.list.drop j) = sV v.list[j] + sVs (v.list.drop (j + 1)) := by rw [List.drop_eq_getElem_cons hj]; rfl
      rw [encV_def] at g2
      by_cases ha : (acc : Int) ≤ 1000
      · have hcc := ih v.list[j] acc σ'.length σ' (by have := szVs_mem _ _ (List.getElem_mem hj); omega) (hv.sub _ (List.getElem_mem hj)) (by omega)
        rw [encV_def] at hcc
        generalize hr : min (acc + sV v.list[j]) 1001 = r at hcc
        have ha' : acc ≤ 1000 := by omega
        simp [g1, g2, g5, hj, ha, ha', hcc, hw, encV_def]
        rw [hI]
        exact ⟨rfl, rfl, r, by omega, by omega, by simp, by simp [g2, encV_def], by simp⟩
      · have ha' : ¬ acc ≤ 1000 := by omega
        simp [g1, g2, g5, hj, ha, ha']
        rw [hR]
        exact ⟨rfl, rfl, rfl, by simp [g1]; omega⟩
    · rw [hI]
      rintro ⟨tm, df, clk⟩ σ' ⟨rfl, rfl, acc, hacc, hle, g1, g2, g5⟩
      rw [List.drop_of_length_le (Nat.le_refl _)] at hacc
      have e0 : sVs ([] : List PVal) = 0 := rfl
      rw [e0] at hacc
      rw [encV_def] at g2
      simp [g1, g2, g5]
      rw [hR]
      exact ⟨rfl, rfl, rfl, by simp [g1]; omega⟩
    · rw [hR]
      rintro ex ⟨tm, df, clk⟩ σ' ⟨rfl, rfl, rfl, g1⟩
      simp [g1]
theorem refSize_t (h63 : F 63 = some f63) (h105 : F 105 = some f105) (N : Nat) (v : PVal) (b : Nat) (σ : Sto) (h : szV v ≤ N) (hv : OkV v) :
    tcall F O (N + 1) b 63 [.agg (encV v)] σ = some (.ret (.int .i64 ((min (sV v) 1001 : Nat) : Int)), σ) := by
  have hc := counted_t (O := O) h105 N v 0 σ.length σ h hv (by omega)
  rw [encV_def, Nat.zero_add] at hc
  generalize min (sV v) 1001 = r at hc ⊢
  have e0 : ((0 : Nat) : Int) = 0 := rfl
  rw [e0] at hc
  refine tcall_pure h63 ?_
  simp [x63, encV_def, hc]
end Go.Xe.YtalckpkiplhbcaaGreatDoor
end
section
namespace Go.Xe.YtalckpkiplhbcaaGreatDoor
open Go Go.Xe Go.Xt
set_option linter.unusedVariables false
set_option linter.unusedSimpArgs false
variable {F : FuncId → Option TFun} {O : FuncId → List TV → Option TV}
theorem size61_t (h61 : F 61 = some f61) : ∀ (N : Nat) (v : PVal) (b : Nat) (σ : Sto), szV v ≤ N → OkV v →
    tcall F O N b 61 [.agg (encV v)] σ = some (.ret (.int .i64 ((min (sV v) 1001 : Nat) : Int)), σ)
  | 0, v, b, σ, h, _ => by rw [szV_def] at h; omega
  | N + 1, v, b, σ, h, hv => by
    have ih := size61_t h61 N
    have hs := szV_def v
    have hk := szVs_len v.list
    have hd := sV_def v
    suffices hh : ∃ e' σ', tcall F O (N + 1) b 61 [.agg (encV v)] σ = some (e', σ') ∧ ∃ r : Nat, e' = .ret (.int .i64 (r : Int)) ∧ σ' = σ ∧ r = min (sV v) 1001 by
      obtain ⟨e', σ', q1, r', rfl, rfl, rfl⟩ := hh
      exact q1
    refine tcall_of h61 ?_
    simp [x61, encV_def]
    obtain ⟨I, hI⟩ : ∃ I : Nat → TAct → Sto → Prop, I = (fun j a σ' => a.df = [] ∧ σ' = σ ∧ ∃ acc : Nat, min (acc + sVs (v.list.drop j)) 1001 = min (sV v) 1001 ∧ acc ≤ 1000 ∧ a.tm.get 3 = some (.int .i64 (acc : Int)) ∧ a.tm.get 7 = some (.sl .fz (v.list.map encV)) ∧ a.tm.get 8 = some (.int .i64 (v.list.length : Int)) ∧ a.tm.get 9 = some (.int .i64 j)) := ⟨_, rfl⟩
    obtain ⟨R, hR⟩ : ∃ R : TEx → TAct → Sto → Prop, R = (fun ex a σ' => ex = .exit 0 ∧ a.df = [] ∧ σ' = σ ∧ a.tm.get 3 = some (.int .i64 ((min (sV v) 1001 : Nat) : Int))) := ⟨_, rfl⟩
    refine tw_loop I v.list.length R ?_ ?_ ?_ ?_ ?_
    · rw [hI]
      exact ⟨rfl, rfl, 1, by rw [List.drop_zero]; omega, by omega, by simp, by simp, by simp, by simp⟩
    · omega
    · rw [hI]
      rintro j ⟨tm, df, clk⟩ σ' hj ⟨rfl, rfl, acc, hacc, hle, g3, g7, g8, g9⟩
      rw [← hI]
      have hw := wrapJ hj hv.len
      have hdr : sVs (v.list.drop j) = sV v.list[j] + sVs (v.list.drop (j + 1)) := by rw [List.drop_eq_getElem_cons hj]; rfl
      have hcc := ih v.list[j] σ'.length σ' (by have := szVs_mem _ _ (List.getElem_mem hj); omega) (hv.sub _ (List.getElem_mem hj))
      rw [encV_def] at hcc
      generalize hr : min (sV v.list[j]) 1001 = r at hcc
      have hwa : IntKind.i64.wrap ((acc : Int) + (r : Int)) = ((acc + r : Nat) : Int) := by rw [wrap_in] <;> omega
      obtain ⟨m, hm⟩ : ∃ m, m = acc + r := ⟨_, rfl⟩
      rw [← hm] at hwa
      have hin : intsT [.int .i64 (m : Int), .int .i64 1001] = some [(.i64, (m : Int)), (.i64, 1001)] := rfl
      by_cases h1 : (1001 : Int) < (m : Int)
      · simp [g3, g7, g8, g9, hj, hcc, hw, hwa, encV_def, hin, ltInt_eq, h1]
        rw [hR]
        refine ⟨rfl, rfl, rfl, ?_⟩
        have : min (sV v) 1001 = 1001 := by omega
        simp [this]
      · by_cases ha : (1000 : Int) < (m : Int)
        · simp [g3, g7, g8, g9, hj, hcc, hw, hwa, encV_def, hin, ltInt_eq, h1, ha]
          rw [hR]
          refine ⟨rfl, rfl, rfl, ?_⟩
          have : min (sV v) 1001 = m := by omega
          simp [this]
        · simp [g3, g7, g8, g9, hj, hcc, hw, hwa, encV_def, hin, ltInt_eq, h1, ha]
          rw [hI]
          exact ⟨rfl, rfl, m, by omega, by omega, by simp, by simp [g7], by simp [g8], by simp⟩
    · rw [hI]
      rintro ⟨tm, df, clk⟩ σ' ⟨rfl, rfl, acc, hacc, hle, g3, g7, g8, g9⟩
      rw [List.drop_of_length_le (Nat.le_refl _)] at hacc
      have e0 : sVs ([] : List PVal) = 0 := rfl
      rw [e0] at hacc
      simp [g3, g7, g8, g9]
      rw [hR]
      exact ⟨rfl, rfl, rfl, by simp [g3]; omega⟩
    · rw [hR]
      rintro ex ⟨tm, df, clk⟩ σ' ⟨rfl, rfl, rfl, g1⟩
      simp [g1]
end Go.Xe.YtalckpkiplhbcaaGreatDoor
end
section
namespace Go.Xe.YtalckpkiplhbcaaGreatDoor
open Go Go.Xe Go.Xt
set_option linter.unusedVariables false
set_option linter.unusedSimpArgs false
variable {F : FuncId → Option TFun} {O : FuncId → List TV → Option TV}
theorem eqTV (hF : F 32 = some f32) (G N : Nat) (S : QTyp → PVal → Bool) (b : Nat) (σ : Sto) (l : List QTyp) (m : List PVal) (md : Bool) (hmd : md = true → l = []) (hl : l.length ≤ maxLen) (hm : m.length ≤ maxLen) (hn : l.length < N)
    (hc : ∀ x ∈ l, ∀ y ∈ m, ∀ b, tcall F O N b G [.agg (encQ x), .agg (encV y)] σ = some (.ret (.bool (S x y)), σ)) :
    tcall F O (N + 1) b 32 [.sl (mdOf md) (l.map encQ), .sl .fz (m.map encV), .func G [] []] σ = some (.ret (.bool (all2 S l m)), σ) := by
  refine tcall_pure hF ?_
  by_cases hlm : (l.length : Int) = (m.length : Int)
  case neg =>
    have hne : l.length ≠ m.length := by omega
    cases md <;> simp [x32, mdOf, hlm, hne, all2_ne hne]
  have hlm' : l.length = m.length := by omega
  cases md with
  | true =>
    have hl0 := hmd rfl
    subst hl0
    have hm0 : m = [] := List.eq_nil_of_length_eq_zero (by simpa using hlm'.symm)
    subst hm0
    simp [x32, mdOf]
    refine tw_loop (I := fun j a σ' => a.df = [] ∧ σ' = σ ∧ a.tm.get 16 = some (.int .i64 0) ∧ a.tm.get 17 = some (.int .i64 j)) 0
      (R := fun ex a σ' => ex = .exit 0 ∧ a.df = [] ∧ σ' = σ) ?_ ?_ ?_ ?_ ?_
    · simp
    · omega
    · rintro j ⟨tm, df, clk⟩ σ' hj
      omega
    · rintro ⟨tm, df, clk⟩ σ' ⟨rfl, rfl, g5, g7⟩
      simp at g7
      simp [g5, g7]
    · rintro ex ⟨tm, df, clk⟩ σ' ⟨rfl, rfl, rfl⟩
      simp [all2]
  | false =>
    simp [x32, mdOf, hlm']
    obtain ⟨I, hI⟩ : ∃ I : Nat → TAct → Sto → Prop, I = (fun j a σ' => a.df = [] ∧ σ' = σ ∧ all2 S (l.drop j) (m.drop j) = all2 S l m ∧ a.tm.get 1 = some (.sl .fz (m.map encV)) ∧ a.tm.get 2 = some (.func G [] []) ∧ a.tm.get 15 = some (.sl .fz (l.map encQ)) ∧ a.tm.get 16 = some (.int .i64 (m.length : Int)) ∧ a.tm.get 17 = some (.int .i64 j)) := ⟨_, rfl⟩
    obtain ⟨R, hR⟩ : ∃ R : TEx → TAct → Sto → Prop, R = (fun ex a σ' => a.df = [] ∧ σ' = σ ∧ (ex = .exit 0 ∧ all2 S l m = true ∨ ex = .ret ∧ all2 S l m = false ∧ a.tm.get 6 = some (.bool false))) := ⟨_, rfl⟩
    refine tw_loop I m.length R ?_ ?_ ?_ ?_ ?_
    · rw [hI]
      simp
    · omega
    · rw [hI]
      rintro j ⟨tm, df, clk⟩ σ' hj ⟨rfl, rfl, hd, h1, h2, h15, h16, h17⟩
      rw [← hI]
      have hjl : j < l.length := by omega
      have hw := wrapJ hj hm
      rw [all2_step hjl hj] at hd
      have hcc := hc l[j] (List.getElem_mem hjl) m[j] (List.getElem_mem hj) σ'.length
      rw [encV_def] at hcc
      cases hs : S l[j] m[j] with
      | true =>
        rw [hs] at hd hcc
        cases hmj : (l[j]).nl <;>
        · rw [encQ_def, hmj] at hcc
          simp only [mdOf] at hcc
          simp [h1, h2, h15, h16, h17, hj, hjl, hcc, hw, encQ_def, encV_def, hmj, mdOf]
          rw [hI]
          simpa [h1, h2, h15, h16] using hd
      | false =>
        rw [hs] at hd hcc
        cases hmj : (l[j]).nl <;>
        · rw [encQ_def, hmj] at hcc
          simp only [mdOf] at hcc
          simp [h1, h2, h15, h16, h17, hj, hjl, hcc, hw, encQ_def, encV_def, hmj, mdOf]
          rw [hR]
          simpa using hd.symm
    · rw [hI]
      rintro ⟨tm, df, clk⟩ σ' ⟨rfl, rfl, hd, h1, h2, h15, h16, h17⟩
      rw [all2_end (by omega) (by omega)] at hd
      simp [h1, h2, h15, h16, h17]
      rw [hR]
      exact ⟨rfl, rfl, .inl ⟨rfl, hd.symm⟩⟩
    · rw [hR]
      rintro ex ⟨tm, df, clk⟩ σ' ⟨rfl, rfl, ⟨rfl, h⟩ | ⟨rfl, h, h6⟩⟩
      · simp [h]
      · simp [h, h6]
end Go.Xe.YtalckpkiplhbcaaGreatDoor
end
section
namespace Go.Xe.YtalckpkiplhbcaaGreatDoor
open Go Go.Xe Go.Xt
set_option linter.unusedVariables false
set_option linter.unusedSimpArgs false
variable {F : FuncId → Option TFun} {O : FuncId → List TV → Option TV}
mutual
def hasV : PVal → QTyp → Bool
  | .mk k n l, t => decide (k = t.kind) && (if t.kind = 1 then decide (n = 0 ∨ n = 1) && decide (l.length = 0) else if t.kind = 2 then decide (-2147483648 ≤ n ∧ n ≤ 2147483647) && decide (l.length = 0)
      else if t.kind = 3 then decide (n = 0) && hasVs l t.list else decide (n = 0) && (decide (l.length ≤ 32) && hasAll l t.list))
def hasVs : List PVal → List QTyp → Bool
  | [], [] => true
  | a :: l, b :: m => hasV a b && hasVs l m
  | _, _ => false
def hasAll : List PVal → List QTyp → Bool
  | [], _ => true
  | a :: l, ts => (match ts with | x :: _ => hasV a x | [] => false) && hasAll l ts
end
theorem hasVs_eq : ∀ (l : List PVal) (m : List QTyp), hasVs l m = all2 (fun t v => hasV v t) m l
  | [], [] => rfl
  | [], _ :: _ => rfl
  | _ :: _, [] => rfl
  | a :: l, b :: m => by simp only [hasVs, all2, hasVs_eq l m]
theorem hasAll_eq (x : QTyp) (r : List QTyp) : ∀ (l : List PVal), hasAll l (x :: r) = l.all (fun v => hasV v x)
  | [] => rfl
  | a :: l => by simp only [hasAll, List.all_cons, hasAll_eq x r l]
theorem hasV_def (v : PVal) (t : QTyp) : hasV v t = (decide (v.kind = t.kind) && (if t.kind = 1 then decide (v.n = 0 ∨ v.n = 1) && decide (v.list.length = 0) else if t.kind = 2 then decide (-2147483648 ≤ v.n ∧ v.n ≤ 2147483647) && decide (v.list.length = 0)
      else if t.kind = 3 then decide (v.n = 0) && hasVs v.list t.list else decide (v.n = 0) && (decide (v.list.length ≤ 32) && hasAll v.list t.list))) := by
  cases v; simp only [hasV, PVal.kind, PVal.n, PVal.list]; rfl
def Gd (t : QTyp) : Prop := (t.kind = 1 ∨ t.kind = 2) ∨ ∃ n, rightT n t = true
theorem Gd.sub {t : QTyp} (h : Gd t) (k : t.kind = 3 ∨ t.kind = 4) : ∀ x ∈ t.list, Gd x := by
  rcases h with h | ⟨n, h⟩
  · omega
  · cases n with
    | zero => simp [rightT] at h
    | succ n =>
      unfold rightT at h
      rw [if_neg (by omega)] at h
      intro x hx
      refine .inr ⟨n, ?_⟩
      split at h
      · simp only [Bool.and_eq_true] at h
        exact List.all_eq_true.1 h.2 x hx
      · split at h
        · simp only [Bool.and_eq_true] at h
          exact List.all_eq_true.1 h.2 x hx
        · cases h
theorem Gd.len {t : QTyp} (h : Gd t) (k1 : t.kind ≠ 1) (k2 : t.kind ≠ 2) : t.kind = 3 ∧ 2 ≤ t.list.length ∨ t.kind = 4 ∧ ∃ x, t.list = [x] := by
  rcases h with h | ⟨n, h⟩
  · omega
  · cases n with
    | zero => simp [rightT] at h
    | succ n =>
      unfold rightT at h
      rw [if_neg (by omega)] at h
      split at h
      · rename_i k3
        simp only [Bool.and_eq_true, decide_eq_true_eq] at h
        exact .inl ⟨k3, h.1.1⟩
      · split at h
        · rename_i k4
          simp only [Bool.and_eq_true, decide_eq_true_eq] at h
          exact .inr ⟨k4, by
            match t.list, h.1 with
            | [x], _ => exact ⟨x, rfl⟩⟩
        · cases h
theorem has1_t (h104 : F 104 = some f104) (N : Nat) (v : PVal) (kd : Int) (x : QTyp) (r : List QTyp) (b k ver : Nat) (σ : Sto) (hk : σ.at k = some ⟨ver, .cells [.int .i64 kd, .sl .fz ((x :: r).map encQ)] 65⟩)
    (ih : ∀ b, tcall F O N b 60 [.agg (encQ x), .agg (encV v)] σ = some (.ret (.bool (hasV v x)), σ)) :
    tcall F O (N + 1) b 104 [.agg (encV v), .ptr k 0] σ = some (.ret (.bool (!(hasV v x))), σ) := by
  have hc := ih σ.length
  rw [encV_def] at hc
  refine tcall_pure h104 ?_
  generalize hasV v x = hv at hc ⊢
  cases hm : x.nl <;> (rw [encQ_def, hm] at hc; simp only [mdOf] at hc; simp only [List.map_cons, encQ_def x, hm, mdOf] at hk; simp [x104, encV_def, hk, hc])
end Go.Xe.YtalckpkiplhbcaaGreatDoor
end
section
namespace Go.Xe.YtalckpkiplhbcaaGreatDoor
open Go Go.Xe Go.Xt
set_option linter.unusedVariables false
set_option linter.unusedSimpArgs false
variable {F : FuncId → Option TFun} {O : FuncId → List TV → Option TV}
structure HFits (F : FuncId → Option TFun) : Prop where
  h60 : F 60 = some f60
  h104 : F 104 = some f104
  h103 : F 103 = some f103
  h157 : F 157 = some f157
  h32 : F 32 = some f32
set_option maxHeartbeats 1000000 in
theorem has_t (V : HFits F) : ∀ (N : Nat) (v : PVal) (t : QTyp) (b : Nat) (σ : Sto), szV v ≤ N → szQ t ≤ N → OkV v → OkQ t → Gd t →
    tcall F O N b 60 [.agg (encQ t), .agg (encV v)] σ = some (.ret (.bool (hasV v t)), σ)
  | 0, v, t, b, σ, h, _, _, _, _ => by rw [szV_def] at h; omega
  | 1, v, t, b, σ, h, _, _, _, _ => by rw [szV_def] at h; omega
  | 2, v, t, b, σ, h, _, _, _, _ => by rw [szV_def] at h; omega
  | 3, v, t, b, σ, h, _, _, _, _ => by rw [szV_def] at h; omega
  | N + 4, v, t, b, σ, h, hq, hv, ht, hg => by
    have hs := szV_def v
    have hk := szVs_len v.list
    have hs2 := szQ_def t
    have hk2 := szQs_len t.list
    refine tcall_pure V.h60 ?_
    rw [hasV_def]
    by_cases hkd : v.kind = t.kind
    case neg => cases hm : t.nl <;> simp [x60, encQ_def, encV_def, hm, mdOf, hkd, at_push]
    have hkd' : decide (v.kind = t.kind) = true := decide_eq_true hkd
    rw [hkd', Bool.true_and]
    by_cases k1 : t.kind = 1
    · rw [if_pos k1]
      have kv : v.kind = 1 := by omega
      by_cases n0 : v.n = 0
      · cases hm : t.nl <;> simp [x60, encQ_def, encV_def, hm, mdOf, k1, kv, at_push, n0]
      by_cases n1 : v.n = 1
      · cases hm : t.nl <;> simp [x60, encQ_def, encV_def, hm, mdOf, k1, kv, at_push, n1]
      cases hm : t.nl <;> simp [x60, encQ_def, encV_def, hm, mdOf, k1, kv, at_push, n0, n1]
    rw [if_neg k1]
    by_cases k2 : t.kind = 2
    · rw [if_pos k2]
      have kv : v.kind = 2 := by omega
      by_cases n0 : -2147483648 ≤ v.n
      · by_cases n1 : v.n ≤ 2147483647
        · cases hm : t.nl <;> simp [x60, encQ_def, encV_def, hm, mdOf, k2, kv, at_push, n0, n1]
        · cases hm : t.nl <;> simp [x60, encQ_def, encV_def, hm, mdOf, k2, kv, at_push, n0, n1]
      · cases hm : t.nl <;> simp [x60, encQ_def, encV_def, hm, mdOf, k2, kv, at_push, n0]
    rw [if_neg k2]
    have hnl : t.nl = false := by
      cases hm : t.nl with
      | false => rfl
      | true =>
        rcases hg.len k1 k2 with ⟨_, h3⟩ | ⟨_, x, h4⟩
        · rw [ht.nl hm] at h3; simp at h3
        · rw [ht.nl hm] at h4; cases h4
    rcases hg.len k1 k2 with ⟨k3, h3⟩ | ⟨k4, x, h4⟩
    · rw [if_pos k3, hasVs_eq]
      have kv : v.kind = 3 := by omega
      by_cases n0 : v.n = 0
      · have hc : ∀ σ1 b, tcall F O (N + 3) b 32 [.sl .fz (t.list.map encQ), .sl .fz (v.list.map encV), .func 60 [] []] σ1 = some (.ret (.bool (all2 (fun t v => hasV v t) t.list v.list)), σ1) := fun σ1 b =>
          eqTV (O := O) V.h32 60 (N + 2) (fun t v => hasV v t) b σ1 t.list v.list false (fun e => by cases e) ht.len hv.len (by omega) (fun x hx y hy b => has_t V (N + 2) y x b σ1 (by have := szVs_mem _ _ hy; omega) (by have := szQs_mem _ _ hx; omega) (hv.sub y hy) (ht.sub x hx) (hg.sub (.inl k3) x hx))
        simp [x60, encQ_def, encV_def, hnl, mdOf, k3, kv, at_push, n0, hc]
      · simp [x60, encQ_def, encV_def, hnl, mdOf, k3, kv, at_push, n0]
    · have k3 : t.kind ≠ 3 := by omega
      rw [if_neg k3, h4, hasAll_eq]
      have kv : v.kind = 4 := by omega
      by_cases n0 : v.n = 0
      case neg => simp [x60, encQ_def, encV_def, hnl, mdOf, k4, kv, at_push, n0]
      by_cases l32 : (v.list.length : Int) ≤ 32
      case neg =>
        have l32' : ¬ v.list.length ≤ 32 := by omega
        simp [x60, encQ_def, encV_def, hnl, mdOf, k4, kv, at_push, n0, l32, l32']
      have l32' : v.list.length ≤ 32 := by omega
      have hxm : x ∈ t.list := by rw [h4]; simp
      have hp := at_push σ ⟨0, .cells [.int .i64 t.kind, .sl .fz ([x].map encQ)] 65⟩
      have hc := anyV (O := O) V.h103 V.h157 104 [.ptr σ.length 0] (N + 1) (fun y => !(hasV y x)) σ.length _ v.list hv.len (by omega) (fun y hy b => has1_t V.h104 N y t.kind x [] b σ.length 0 _ hp (fun b => has_t V N y x b _ (by have := szVs_mem _ _ hy; omega) (by have := szQs_mem _ _ hxm; omega) (hv.sub y hy) (ht.sub x hxm) (hg.sub (.inr k4) x hxm)))
      have hall : (!(v.list.any fun y => !(hasV y x))) = v.list.all (fun y => hasV y x) := by
        generalize v.list = l
        induction l with
        | nil => rfl
        | cons a l ih => rw [List.any_cons, List.all_cons, ← ih]; cases hasV a x <;> simp
      generalize (v.list.any fun y => !(hasV y x)) = w at hc hall
      rw [k4] at hc hp
      simp only [List.map_cons, List.map_nil] at hc hp
      simp [x60, encQ_def t, encV_def, hnl, mdOf, k4, kv, h4, hp, n0, l32, l32', hc, ← hall]
end Go.Xe.YtalckpkiplhbcaaGreatDoor
end
section
namespace Go.Xe.YtalckpkiplhbcaaGreatDoor
open Go Go.Xe Go.Xt
set_option linter.unusedVariables false
set_option linter.unusedSimpArgs false
variable {F : FuncId → Option TFun} {O : FuncId → List TV → Option TV}
set_option maxHeartbeats 1000000 in
theorem of_t (h62 : F 62 = some f62) : ∀ (N : Nat) (v : PVal) (t : QTyp) (b : Nat) (σ : Sto), szV v ≤ N → szQ t ≤ N → OkV v → OkQ t → Gd t →
    tcall F O N b 62 [.agg (encQ t), .agg (encV v)] σ = some (.ret (.bool (hasV v t)), σ)
  | 0, v, t, b, σ, h, _, _, _, _ => by rw [szV_def] at h; omega
  | N + 1, v, t, b, σ, h, hq, hv, ht, hg => by
    have ih : ∀ (x : PVal) (u : QTyp) (b : Nat) (σ : Sto), szV x ≤ N → szQ u ≤ N → OkV x → OkQ u → Gd u → tcall F O N b 62 [.agg (encQ u), .agg (encV x)] σ = some (.ret (.bool (hasV x u)), σ) := of_t h62 N
    have hs := szV_def v
    have hk := szVs_len v.list
    have hs2 := szQ_def t
    refine tcall_pure h62 ?_
    have hvd := hasV_def v t
    by_cases hkd : v.kind = t.kind
    case neg => rw [hvd]; cases hm : t.nl <;> simp [x62, undT, encQ_def, encV_def, hm, mdOf, hkd]
    have hkd' : decide (v.kind = t.kind) = true := decide_eq_true hkd
    rw [hkd', Bool.true_and] at hvd
    rw [hvd]
    by_cases k1 : t.kind = 1
    · rw [if_pos k1]
      have kv : v.kind = 1 := by omega
      by_cases l0 : (v.list.length : Int) = 0
      case neg =>
        have l0' : v.list.length ≠ 0 := by omega
        cases hm : t.nl <;> simp [x62, undT, encQ_def, encV_def, hm, mdOf, k1, kv, l0, l0']
      have l0' : v.list.length = 0 := by omega
      by_cases n0 : v.n = 0
      · cases hm : t.nl <;> simp [x62, undT, encQ_def, encV_def, hm, mdOf, k1, kv, n0, l0']
      by_cases n1 : v.n = 1
      · cases hm : t.nl <;> simp [x62, undT, encQ_def, encV_def, hm, mdOf, k1, kv, n1, l0']
      cases hm : t.nl <;> simp [x62, undT, encQ_def, encV_def, hm, mdOf, k1, kv, n0, n1, l0']
    rw [if_neg k1]
    by_cases k2 : t.kind = 2
    · rw [if_pos k2]
      have kv : v.kind = 2 := by omega
      by_cases l0 : (v.list.length : Int) = 0
      case neg =>
        have l0' : v.list.length ≠ 0 := by omega
        cases hm : t.nl <;> simp [x62, undT, encQ_def, encV_def, hm, mdOf, k2, kv, l0, l0']
      have l0' : v.list.length = 0 := by omega
      by_cases n0 : -2147483648 ≤ v.n
      · by_cases n1 : v.n ≤ 2147483647
        · cases hm : t.nl <;> simp [x62, undT, encQ_def, encV_def, hm, mdOf, k2, kv, n0, n1, l0']
        · cases hm : t.nl <;> simp [x62, undT, encQ_def, encV_def, hm, mdOf, k2, kv, n0, n1, l0']
      · cases hm : t.nl <;> simp [x62, undT, encQ_def, encV_def, hm, mdOf, k2, kv, n0, l0']
    rw [if_neg k2]
    have hnl : t.nl = false := by
      cases hm : t.nl with
      | false => rfl
      | true =>
        rcases hg.len k1 k2 with ⟨_, h3⟩ | ⟨_, x, h4⟩
        · rw [ht.nl hm] at h3; simp at h3
        · rw [ht.nl hm] at h4; cases h4
    rcases hg.len k1 k2 with ⟨k3, h3⟩ | ⟨k4, x0, h0⟩
    · rw [if_pos k3, hasVs_eq]
      have hk34 : t.kind = 3 ∨ t.kind = 4 := .inl k3
      have kv : v.kind = 3 := by omega
      by_cases n0 : v.n = 0
      case neg => simp [x62, undT, encQ_def, encV_def, hnl, mdOf, k3, kv, n0]
      by_cases hlm : (v.list.length : Int) = (t.list.length : Int)
      case neg =>
        have hne : t.list.length ≠ v.list.length := by omega
        have hne' : v.list.length ≠ t.list.length := by omega
        simp [x62, undT, encQ_def, encV_def, hnl, mdOf, k3, kv, n0, hlm, hne', all2_ne hne]
      have hlm' : v.list.length = t.list.length := by omega
      obtain ⟨x0, r0, h0⟩ : ∃ x r, t.list = x :: r := by
        match t.list, h3 with
        | x :: r, _ => exact ⟨x, r, rfl⟩
      simp [x62, undT, encQ_def, encV_def, hnl, mdOf, k3, kv, n0, hlm']
      obtain ⟨I, hI⟩ : ∃ I : Nat → TAct → Sto → Prop, I = (fun j a σ' => a.df = [] ∧ σ' = σ ∧ all2 (fun t v => hasV v t) (t.list.drop j) (v.list.drop j) = all2 (fun t v => hasV v t) t.list v.list ∧ a.tm.get 2 = some (.bx 0 (encQ t) 65) ∧ a.tm.get 3 = some (.bx 2 (encV v) 26) ∧ a.tm.get 5 = some (.int .i64 (v.list.length : Int)) ∧ a.tm.get 6 = some (.int .i64 j)) := ⟨_, rfl⟩
      obtain ⟨R, hR⟩ : ∃ R : TEx → TAct → Sto → Prop, R = (fun ex a σ' => a.df = [] ∧ σ' = σ ∧ (ex = .exit 1 ∧ all2 (fun t v => hasV v t) t.list v.list = true ∨ ex = .ret ∧ all2 (fun t v => hasV v t) t.list v.list = false ∧ a.tm.get 4 = some (.bool false))) := ⟨_, rfl⟩
      refine tw_loop I v.list.length R ?_ ?_ ?_ ?_ ?_
      · rw [hI]
        exact ⟨rfl, rfl, by simp, by simp [encQ_def, hnl, mdOf, k3], by simp [encV_def, kv, n0], by simp [hlm'], by simp⟩
      · omega
      · rw [hI]
        rintro j ⟨tm, df, clk⟩ σ' hj ⟨rfl, rfl, hd, g2, g3, g5, g6⟩
        rw [← hI]
        have hw := wrapJ hj hv.len
        rw [all2_step (f := fun t v => hasV v t) (show j < t.list.length by omega) hj] at hd
        have hcm : (t.list[j]'(by omega)) ∈ t.list := List.getElem_mem _
        have hcc := ih v.list[j] (t.list[j]'(by omega)) σ'.length σ' (by have := szVs_mem _ _ (List.getElem_mem hj); omega) (by have := szQs_mem _ _ hcm; omega) (hv.sub _ (List.getElem_mem hj)) (ht.sub _ hcm) (hg.sub hk34 _ hcm)
        rw [encV_def] at hcc
        rw [encQ_def, hnl] at g2
        rw [encV_def] at g3
        simp only [mdOf] at g2
        have e0 : (t.list.map encQ)[0]? = some (encQ x0) := by rw [h0]; rfl
        have e0' : (t.list.map encQ)[0]'(by rw [h0]; simp) = encQ x0 := by simp [h0]
        have hpos : 0 < t.list.length := by rw [h0]; simp
        cases hs : hasV v.list[j] (t.list[j]'(by omega)) with
        | true =>
          rw [hs] at hd hcc
          cases hm0 : x0.nl <;> cases hmj : ((t.list[j]'(by omega))).nl <;> first
          | (exfalso; rw [hm0] at hmj; cases hmj; done)
          | (rw [encQ_def, hmj] at hcc
             simp only [mdOf] at hcc
             simp [g2, g3, g5, g6, hj, hpos, e0, e0', hcc, hw, encQ_def, encV_def, hm0, hmj, mdOf, k3, (show j < t.list.length by omega)]
             rw [hI]
             exact ⟨rfl, rfl, by simpa using hd, by simp [g2, encQ_def, hnl, mdOf], by simp [g3, encV_def], by simp [g5], by simp⟩)
        | false =>
          rw [hs] at hd hcc
          cases hm0 : x0.nl <;> cases hmj : ((t.list[j]'(by omega))).nl <;> first
          | (exfalso; rw [hm0] at hmj; cases hmj; done)
          | (rw [encQ_def, hmj] at hcc
             simp only [mdOf] at hcc
             simp [g2, g3, g5, g6, hj, hpos, e0, e0', hcc, hw, encQ_def, encV_def, hm0, hmj, mdOf, k3, (show j < t.list.length by omega)]
             rw [hR]
             exact ⟨rfl, rfl, .inr ⟨rfl, by rw [← hd, Bool.false_and], by simp⟩⟩)
      · rw [hI]
        rintro ⟨tm, df, clk⟩ σ' ⟨rfl, rfl, hd, g2, g3, g5, g6⟩
        rw [all2_end (by omega) (by omega)] at hd
        simp [g5, g6]
        rw [hR]
        exact ⟨rfl, rfl, .inl ⟨rfl, hd.symm⟩⟩
      · rw [hR]
        rintro ex ⟨tm, df, clk⟩ σ' ⟨rfl, rfl, ⟨rfl, h⟩ | ⟨rfl, h, h4⟩⟩
        · simp [h]
        · simp [h, h4]
    · have k3 : t.kind ≠ 3 := by omega
      have hk34 : t.kind = 3 ∨ t.kind = 4 := .inr k4
      rw [if_neg k3]
      have hall : hasAll v.list t.list = v.list.all (fun y => hasV y x0) := by rw [h0, hasAll_eq]
      rw [hall]
      have kv : v.kind = 4 := by omega
      by_cases n0 : v.n = 0
      case neg => simp [x62, undT, encQ_def, encV_def, hnl, mdOf, k4, kv, n0]
      by_cases l32 : (32 : Int) < (v.list.length : Int)
      · have l32' : ¬ v.list.length ≤ 32 := by omega
        simp [x62, undT, encQ_def, encV_def, hnl, mdOf, k4, kv, n0, l32, l32']
      have l32' : v.list.length ≤ 32 := by omega
      simp [x62, undT, encQ_def, encV_def, hnl, mdOf, k4, kv, n0, l32, l32']
      obtain ⟨I, hI⟩ : ∃ I : Nat → TAct → Sto → Prop, I = (fun j a σ' => a.df = [] ∧ σ' = σ ∧ (v.list.drop j).all (fun y => hasV y x0) = v.list.all (fun y => hasV y x0) ∧ a.tm.get 2 = some (.bx 0 (encQ t) 65) ∧ a.tm.get 3 = some (.bx 2 (encV v) 26) ∧ a.tm.get 5 = some (.int .i64 (v.list.length : Int)) ∧ a.tm.get 6 = some (.int .i64 j)) := ⟨_, rfl⟩
      obtain ⟨R, hR⟩ : ∃ R : TEx → TAct → Sto → Prop, R = (fun ex a σ' => a.df = [] ∧ σ' = σ ∧ (ex = .exit 1 ∧ v.list.all (fun y => hasV y x0) = true ∨ ex = .ret ∧ v.list.all (fun y => hasV y x0) = false ∧ a.tm.get 4 = some (.bool false))) := ⟨_, rfl⟩
      refine tw_loop I v.list.length R ?_ ?_ ?_ ?_ ?_
      · rw [hI]
        exact ⟨rfl, rfl, by simp, by simp [encQ_def, hnl, mdOf, k4], by simp [encV_def, kv, n0], by simp [n0], by simp⟩
      · omega
      · rw [hI]
        rintro j ⟨tm, df, clk⟩ σ' hj ⟨rfl, rfl, hd, g2, g3, g5, g6⟩
        rw [← hI]
        have hw := wrapJ hj hv.len
        rw [all_step hj] at hd
        have hcm : x0 ∈ t.list := by rw [h0]; simp
        have hcc := ih v.list[j] x0 σ'.length σ' (by have := szVs_mem _ _ (List.getElem_mem hj); omega) (by have := szQs_mem _ _ hcm; omega) (hv.sub _ (List.getElem_mem hj)) (ht.sub _ hcm) (hg.sub hk34 _ hcm)
        rw [encV_def] at hcc
        rw [encQ_def, hnl] at g2
        rw [encV_def] at g3
        simp only [mdOf] at g2
        have e0 : (t.list.map encQ)[0]? = some (encQ x0) := by rw [h0]; rfl
        have e0' : (t.list.map encQ)[0]'(by rw [h0]; simp) = encQ x0 := by simp [h0]
        have hpos : 0 < t.list.length := by rw [h0]; simp
        cases hs : hasV v.list[j] x0 with
        | true =>
          rw [hs] at hd hcc
          cases hm0 : x0.nl <;> cases hmj : (x0).nl <;> first
          | (exfalso; rw [hm0] at hmj; cases hmj; done)
          | (rw [encQ_def, hmj] at hcc
             simp only [mdOf] at hcc
             simp [g2, g3, g5, g6, hj, hpos, e0, e0', hcc, hw, encQ_def, encV_def, hm0, hmj, mdOf, k4]
             rw [hI]
             exact ⟨rfl, rfl, by simpa using hd, by simp [g2, encQ_def, hnl, mdOf], by simp [g3, encV_def], by simp [g5], by simp⟩)
        | false =>
          rw [hs] at hd hcc
          cases hm0 : x0.nl <;> cases hmj : (x0).nl <;> first
          | (exfalso; rw [hm0] at hmj; cases hmj; done)
          | (rw [encQ_def, hmj] at hcc
             simp only [mdOf] at hcc
             simp [g2, g3, g5, g6, hj, hpos, e0, e0', hcc, hw, encQ_def, encV_def, hm0, hmj, mdOf, k4]
             rw [hR]
             exact ⟨rfl, rfl, .inr ⟨rfl, by rw [← hd, Bool.false_and], by simp⟩⟩)
      · rw [hI]
        rintro ⟨tm, df, clk⟩ σ' ⟨rfl, rfl, hd, g2, g3, g5, g6⟩
        rw [List.drop_of_length_le (Nat.le_refl _)] at hd
        simp [g5, g6]
        rw [hR]
        exact ⟨rfl, rfl, .inl ⟨rfl, hd.symm⟩⟩
      · rw [hR]
        rintro ex ⟨tm, df, clk⟩ σ' ⟨rfl, rfl, ⟨rfl, h⟩ | ⟨rfl, h, h4⟩⟩
        · simp [h]
        · simp [h, h4]
end Go.Xe.YtalckpkiplhbcaaGreatDoor
end
section
namespace Go.Xe.YtalckpkiplhbcaaGreatDoor
open Go Go.Xe Go.Xt
set_option linter.unusedVariables false
set_option linter.unusedSimpArgs false
variable {F : FuncId → Option TFun} {O : FuncId → List TV → Option TV}
def fitV (t : QTyp) (v : PVal) : Bool := rightT 40 t && (hasV v t && decide (min (sV v) 1001 ≤ 1000))
theorem has33_t (hF : F 33 = some f33) (V : HFits F) (h28 : F 28 = some f28) (h56 : F 56 = some f56) (h96 : F 96 = some f96) (h95 : F 95 = some f95) (h149 : F 149 = some f149) (h61 : F 61 = some f61) (N : Nat) (v : PVal) (t : QTyp) (b : Nat) (σ : Sto) (h : szV v ≤ N) (hq : szQ t ≤ N) (hv : OkV v) (ht : OkQ t) :
    tcall F O (N + 2) b 33 [.agg (encQ t), .agg (encV v)] σ = some (.ret (.bool (fitV t v)), σ) := by
  have h1 := typeRight_t (O := O) h28 h56 h96 h95 h149 N t σ.length σ hq ht
  refine tcall_pure hF ?_
  unfold fitV
  cases hr : rightT 40 t with
  | false =>
    rw [hr] at h1
    cases hm : t.nl <;> (rw [encQ_def, hm] at h1; simp only [mdOf] at h1; simp [x33, encQ_def, encV_def, hm, mdOf, h1])
  | true =>
    rw [hr] at h1
    have h2 := has_t (O := O) V (N + 1) v t σ.length σ (by omega) (by omega) hv ht (.inr ⟨40, hr⟩)
    have h3 := size61_t (O := O) h61 (N + 1) v σ.length σ (by omega) hv
    rw [encV_def] at h2 h3
    cases hh : hasV v t with
    | false =>
      rw [hh] at h2
      cases hm : t.nl <;> (rw [encQ_def, hm] at h1 h2; simp only [mdOf] at h1 h2; simp [x33, encQ_def, encV_def, hm, mdOf, h1, h2])
    | true =>
      rw [hh] at h2
      generalize min (sV v) 1001 = r at h3 ⊢
      by_cases hr2 : (r : Int) ≤ 1000
      · have hr3 : r ≤ 1000 := by omega
        cases hm : t.nl <;> (rw [encQ_def, hm] at h1 h2; simp only [mdOf] at h1 h2; simp [x33, encQ_def, encV_def, hm, mdOf, h1, h2, h3, hr2, hr3])
      · have hr3 : ¬ r ≤ 1000 := by omega
        cases hm : t.nl <;> (rw [encQ_def, hm] at h1 h2; simp only [mdOf] at h1 h2; simp [x33, encQ_def, encV_def, hm, mdOf, h1, h2, h3, hr2, hr3])
theorem has34_t (hF : F 34 = some f34) (h30 : F 30 = some f30) (h58 : F 58 = some f58) (h62 : F 62 = some f62) (h63 : F 63 = some f63) (h105 : F 105 = some f105) (N : Nat) (v : PVal) (t : QTyp) (b : Nat) (σ : Sto) (h : szV v ≤ N) (hq : szQ t ≤ N) (hv : OkV v) (ht : OkQ t) :
    tcall F O (N + 2) b 34 [.agg (encQ t), .agg (encV v)] σ = some (.ret (.bool (fitV t v)), σ) := by
  have h1 := refTypeRight_t (O := O) h30 h58 N t σ.length σ hq ht
  refine tcall_pure hF ?_
  unfold fitV
  cases hr : rightT 40 t with
  | false =>
    rw [hr] at h1
    cases hm : t.nl <;> (rw [encQ_def, hm] at h1; simp only [mdOf] at h1; simp [x34, encQ_def, encV_def, hm, mdOf, h1])
  | true =>
    rw [hr] at h1
    have h2 := of_t (O := O) h62 (N + 1) v t σ.length σ (by omega) (by omega) hv ht (.inr ⟨40, hr⟩)
    have h3 := refSize_t (O := O) h63 h105 N v σ.length σ h hv
    rw [encV_def] at h2 h3
    cases hh : hasV v t with
    | false =>
      rw [hh] at h2
      cases hm : t.nl <;> (rw [encQ_def, hm] at h1 h2; simp only [mdOf] at h1 h2; simp [x34, encQ_def, encV_def, hm, mdOf, h1, h2])
    | true =>
      rw [hh] at h2
      generalize min (sV v) 1001 = r at h3 ⊢
      by_cases hr2 : (r : Int) ≤ 1000
      · have hr3 : r ≤ 1000 := by omega
        cases hm : t.nl <;> (rw [encQ_def, hm] at h1 h2; simp only [mdOf] at h1 h2; simp [x34, encQ_def, encV_def, hm, mdOf, h1, h2, h3, hr2, hr3])
      · have hr3 : ¬ r ≤ 1000 := by omega
        cases hm : t.nl <;> (rw [encQ_def, hm] at h1 h2; simp only [mdOf] at h1 h2; simp [x34, encQ_def, encV_def, hm, mdOf, h1, h2, h3, hr2, hr3])
end Go.Xe.YtalckpkiplhbcaaGreatDoor
end
section
namespace Go.Xe.YtalckpkiplhbcaaGreatDoor
open Go Go.Xe Go.Xt
set_option linter.unusedVariables false
set_option linter.unusedSimpArgs false
variable {F : FuncId → Option TFun} {O : FuncId → List TV → Option TV}
theorem encT_emb (l : List PTyp) : l.map encT = (l.map embT).map encQ := by
  rw [List.map_map]
  exact List.map_congr_left fun t _ => (encQ_emb t).symm
mutual
theorem szQ_emb : ∀ t, szQ (embT t) = szT t
  | .mk k l => by simp only [embT, szQ, szT, szQs_emb l]
theorem szQs_emb : ∀ l, szQs (embTs l) = szTs l
  | [] => rfl
  | t :: l => by simp only [embTs, szQs, szTs, szQ_emb t, szQs_emb l]
end
theorem fit11_t (hF : F 11 = some f11) (h32 : F 32 = some f32) (N : Nat) (c : PCore) (ins : List PVal) (b : Nat) (σ : Sto) (hc : OkC c) (hl : ins.length ≤ maxLen) (hi : ∀ v ∈ ins, OkV v) (hn : c.types.length < N + 2)
    (h33 : ∀ x ∈ c.types.map embT, ∀ y ∈ ins, ∀ b, tcall F O (N + 2) b 33 [.agg (encQ x), .agg (encV y)] σ = some (.ret (.bool (fitV x y)), σ)) :
    tcall F O (N + 4) b 11 [.agg (encC c), .sl .fz (ins.map encV)] σ = some (.ret (.bool (all2 fitV (c.types.map embT) ins)), σ) := by
  have h := eqTV (O := O) h32 33 (N + 2) fitV σ.length σ (c.types.map embT) ins false (fun e => by cases e) (by simpa using hc.tlen) hl (by simpa using hn) h33
  rw [← encT_emb] at h
  simp only [mdOf] at h
  refine tcall_pure hF ?_
  simp [x11, encC_def, h]
theorem fit12_t (hF : F 12 = some f12) (N : Nat) (c : PCore) (ins : List PVal) (b : Nat) (σ : Sto) (hc : OkC c) (hl : ins.length ≤ maxLen) (hi : ∀ v ∈ ins, OkV v) (hn : ins.length < N)
    (h34 : ∀ x ∈ c.types.map embT, ∀ y ∈ ins, ∀ b, tcall F O N b 34 [.agg (encQ x), .agg (encV y)] σ = some (.ret (.bool (fitV x y)), σ)) :
    tcall F O (N + 1) b 12 [.agg (encC c), .sl .fz (ins.map encV)] σ = some (.ret (.bool (all2 fitV (c.types.map embT) ins)), σ) := by
  refine tcall_pure hF ?_
  by_cases hlm : (ins.length : Int) = (c.types.length : Int)
  case neg =>
    have hne : (c.types.map embT).length ≠ ins.length := by rw [List.length_map]; omega
    have hne' : ins.length ≠ c.types.length := by omega
    simp [x12, encC_def, hlm, hne', all2_ne hne]
  have hlm' : ins.length = c.types.length := by omega
  simp [x12, encC_def, hlm']
  obtain ⟨I, hI⟩ : ∃ I : Nat → TAct → Sto → Prop, I = (fun j a' σ' => a'.df = [] ∧ σ' = σ ∧ all2 fitV ((c.types.map embT).drop j) (ins.drop j) = all2 fitV (c.types.map embT) ins ∧ a'.tm.get 1 = some (.sl .fz (ins.map encV)) ∧ a'.tm.get 2 = some (.bx 0 (encC c) 34) ∧ a'.tm.get 5 = some (.int .i64 j)) := ⟨_, rfl⟩
  obtain ⟨R, hR⟩ : ∃ R : TEx → TAct → Sto → Prop, R = (fun ex a' σ' => a'.df = [] ∧ σ' = σ ∧ (ex = .exit 0 ∧ all2 fitV (c.types.map embT) ins = true ∨ ex = .ret ∧ all2 fitV (c.types.map embT) ins = false ∧ a'.tm.get 4 = some (.bool false))) := ⟨_, rfl⟩
  refine tw_loop I ins.length R ?_ ?_ ?_ ?_ ?_
  · rw [hI]
    simp [encC_def]
  · omega
  · rw [hI]
    rintro j ⟨tm, df, clk⟩ σ' hj ⟨rfl, rfl, hd, h1, h2, h5⟩
    rw [← hI]
    have hjt : j < c.types.length := by omega
    have hjl : j < (c.types.map embT).length := by rw [List.length_map]; omega
    have hw := wrapJ hj hl
    rw [all2_step hjl hj] at hd
    have hcc := h34 _ (List.getElem_mem hjl) _ (List.getElem_mem hj) σ'.length
    have ee : (c.types.map embT)[j] = embT c.types[j] := by simp
    rw [ee] at hd hcc
    rw [encQ_emb, encT_def, encV_def] at hcc
    rw [encC_def] at h2
    cases hs : fitV (embT c.types[j]) ins[j] with
    | true =>
      rw [hs] at hd hcc
      simp [h1, h2, h5, hj, hjt, hcc, hw, encT_def, encV_def]
      rw [hI]
      exact ⟨rfl, rfl, by simpa using hd, by simp [h1], by simp [h2, encC_def], by simp⟩
    | false =>
      rw [hs] at hd hcc
      simp [h1, h2, h5, hj, hjt, hcc, hw, encT_def, encV_def]
      rw [hR]
      exact ⟨rfl, rfl, .inr ⟨rfl, by rw [← hd, Bool.false_and], by simp⟩⟩
  · rw [hI]
    rintro ⟨tm, df, clk⟩ σ' ⟨rfl, rfl, hd, h1, h2, h5⟩
    rw [all2_end (by rw [List.length_map]; omega) (Nat.le_refl _)] at hd
    simp [h1, h2, h5]
    rw [hR]
    exact ⟨rfl, rfl, .inl ⟨rfl, hd.symm⟩⟩
  · rw [hR]
    rintro ex ⟨tm, df, clk⟩ σ' ⟨rfl, rfl, ⟨rfl, h⟩ | ⟨rfl, h, h4⟩⟩
    · simp [h]
    · simp [h, h4]
end Go.Xe.YtalckpkiplhbcaaGreatDoor
end
section
namespace Go.Xe.YtalckpkiplhbcaaGreatDoor
open Go Go.Xe Go.Xt
set_option linter.unusedVariables false
set_option linter.unusedSimpArgs false
def mkQ (k : Int) (l : List QTyp) : QTyp := .mk k false l
mutual
def joinQ : QTyp → QTyp → Option QTyp
  | .mk k nl l, .mk k' nl' l' => if k = 0 then some (mkQ k' l') else if k' = 0 then some (mkQ k l) else if k = k' ∧ l.length = l'.length then (joinQs l l').map (mkQ k) else none
def joinQs : List QTyp → List QTyp → Option (List QTyp)
  | a :: l, b :: m => match joinQ a b with
    | some x => (joinQs l m).map (x :: ·)
    | none => none
  | _, _ => some []
end
mutual
def nestC : QTyp → Nat
  | .mk k _ l => if k = 0 then 1 else nestCs l + 1
def nestCs : List QTyp → Nat
  | [] => 0
  | t :: l => max (nestC t) (nestCs l)
end
mutual
def closedQ : QTyp → QTyp
  | .mk k _ l => if k = 0 then mkQ 1 [] else mkQ k (closedQs l)
def closedQs : List QTyp → List QTyp
  | [] => []
  | t :: l => closedQ t :: closedQs l
end
def mapS (f : PVal → Option QTyp) : List PVal → Option (List QTyp)
  | [] => some []
  | x :: l => match f x with
    | some t => (mapS f l).map (t :: ·)
    | none => none
def foldS (f : PVal → Option QTyp) (acc : QTyp) : List PVal → Option QTyp
  | [] => some acc
  | x :: l => match f x with
    | some t => match joinQ acc t with
      | some a => foldS f a l
      | none => none
    | none => none
def shapeV : Nat → PVal → Option QTyp
  | 0, _ => none
  | n + 1, v => if v.kind = 1 ∨ v.kind = 2 then (if hasV v (mkQ v.kind []) = true then some (mkQ v.kind []) else none)
    else if v.kind = 3 ∧ v.n = 0 ∧ 2 ≤ v.list.length ∧ v.list.length ≤ 4 then (mapS (shapeV n) v.list).map (mkQ 3)
    else if v.kind = 4 ∧ v.n = 0 ∧ v.list.length ≤ 32 then (foldS (shapeV n) (.mk 0 true []) v.list).map (fun a => mkQ 4 [a])
    else none
def openV : Nat → PVal → Option QTyp
  | 0, _ => none
  | n + 1, v => if v.kind = 1 ∨ v.kind = 2 then (if hasV v (mkQ v.kind []) = true then some (mkQ v.kind []) else none)
    else if v.kind = 3 ∧ v.n = 0 ∧ 2 ≤ v.list.length ∧ v.list.length ≤ 4 then (mapS (openV n) v.list).map (mkQ 3)
    else if v.kind = 4 ∧ v.n = 0 ∧ v.list.length ≤ 32 ∧ n ≠ 0 then (foldS (openV n) (.mk 0 true []) v.list).map (fun a => mkQ 4 [a])
    else none
theorem nestC_pos (t : QTyp) : 1 ≤ nestC t := by
  cases t with
  | mk k b l => unfold nestC; split <;> omega
theorem nestC_mkQ {k : Int} (hk : k ≠ 0) (l : List QTyp) : nestC (mkQ k l) = nestCs l + 1 := by
  unfold mkQ nestC; rw [if_neg hk]
theorem nestC_top (k : Int) (b : Bool) (l : List QTyp) : nestC (mkQ k l) = nestC (.mk k b l) := by unfold mkQ nestC; rfl
mutual
theorem nest_join : ∀ (a b x : QTyp), joinQ a b = some x → nestC x = max (nestC a) (nestC b)
  | .mk k nl l, .mk k' nl' l', x, h => by
    unfold joinQ at h
    by_cases h0 : k = 0
    · rw [if_pos h0] at h; cases h
      rw [nestC_top k' nl' l']
      have := nestC_pos (.mk k' nl' l')
      have e : nestC (.mk k nl l) = 1 := by unfold nestC; rw [if_pos h0]
      omega
    rw [if_neg h0] at h
    by_cases h1 : k' = 0
    · rw [if_pos h1] at h; cases h
      rw [nestC_top k nl l]
      have := nestC_pos (.mk k nl l)
      have e : nestC (.mk k' nl' l') = 1 := by unfold nestC; rw [if_pos h1]
      omega
    rw [if_neg h1] at h
    split at h
    · rename_i hh
      obtain ⟨y, hy, rfl⟩ := Option.map_eq_some_iff.1 h
      have := nest_joins l l' y hh.2 hy
      have e1 : nestC (.mk k nl l) = nestCs l + 1 := by unfold nestC; rw [if_neg h0]
      have e2 : nestC (.mk k' nl' l') = nestCs l' + 1 := by unfold nestC; rw [if_neg h1]
      rw [nestC_mkQ h0, e1, e2, this]; omega
    · cases h
theorem nest_joins : ∀ (l m y : List QTyp), l.length = m.length → joinQs l m = some y → nestCs y = max (nestCs l) (nestCs m)
  | [], [], y, _, h => by simp only [joinQs] at h; cases h; rfl
  | [], _ :: _, y, hl, h => by simp at hl
  | _ :: _, [], y, hl, h => by simp at hl
  | a :: l, b :: m, y, hl, h => by
    simp only [joinQs] at h
    split at h
    · rename_i x hx
      obtain ⟨z, hz, rfl⟩ := Option.map_eq_some_iff.1 h
      have h1 := nest_join a b x hx
      have h2 := nest_joins l m z (by simpa using hl) hz
      simp only [nestCs, h1, h2]; omega
    · cases h
end
end Go.Xe.YtalckpkiplhbcaaGreatDoor
end
section
namespace Go.Xe.YtalckpkiplhbcaaGreatDoor
open Go Go.Xe Go.Xt
set_option linter.unusedVariables false
set_option linter.unusedSimpArgs false
def Cut (n : Nat) (f g : PVal → Option QTyp) : Prop := ∀ v, (f v = none → g v = none) ∧ ∀ t, f v = some t → (nestC t ≤ n → g v = some t) ∧ (¬ nestC t ≤ n → g v = none)
theorem mapS_cut {n : Nat} {f g : PVal → Option QTyp} (h : Cut n f g) : ∀ l, (mapS f l = none → mapS g l = none) ∧ ∀ ts, mapS f l = some ts → (nestCs ts ≤ n → mapS g l = some ts) ∧ (¬ nestCs ts ≤ n → mapS g l = none)
  | [] => ⟨fun e => (by cases e), fun ts e => by (cases e); exact ⟨fun _ => rfl, fun e => absurd (Nat.zero_le _) e⟩⟩
  | x :: l => by
    obtain ⟨i1, i2⟩ := mapS_cut h l
    obtain ⟨x1, x2⟩ := h x
    cases hf : f x with
    | none =>
      have hg := x1 hf
      refine ⟨fun _ => by simp only [mapS, hg], fun ts e => ?_⟩
      simp only [mapS, hf] at e; cases e
    | some t =>
      obtain ⟨x3, x4⟩ := x2 t hf
      cases hm : mapS f l with
      | none =>
        have hg := i1 hm
        refine ⟨fun _ => ?_, fun ts e => ?_⟩
        · simp only [mapS]
          cases g x with
          | none => rfl
          | some y => simp only [hg, Option.map_none]
        · simp only [mapS, hf, hm, Option.map_none] at e; cases e
      | some ts' =>
        obtain ⟨i3, i4⟩ := i2 ts' hm
        refine ⟨fun e => (by simp only [mapS, hf, hm, Option.map_some] at e; cases e), fun ts e => ?_⟩
        simp only [mapS, hf, hm, Option.map_some] at e
        cases e
        refine ⟨fun hn => ?_, fun hn => ?_⟩
        · simp only [nestCs, Nat.max_le] at hn
          simp only [mapS, x3 hn.1, i3 hn.2, Option.map_some]
        · simp only [nestCs, Nat.max_le] at hn
          by_cases h1 : nestC t ≤ n
          · have h2 : ¬ nestCs ts' ≤ n := fun e => hn ⟨h1, e⟩
            simp only [mapS, x3 h1, i4 h2, Option.map_none]
          · simp only [mapS, x4 h1]
theorem foldS_ge {f : PVal → Option QTyp} : ∀ (l : List PVal) (acc a : QTyp), foldS f acc l = some a → nestC acc ≤ nestC a
  | [], acc, a, h => by simp only [foldS] at h; cases h; exact Nat.le_refl _
  | x :: l, acc, a, h => by
    simp only [foldS] at h
    split at h
    · rename_i t ht
      split at h
      · rename_i a' ha'
        have := nest_join _ _ _ ha'
        have := foldS_ge l a' a h
        omega
      · cases h
    · cases h
theorem foldS_cut {n : Nat} {f g : PVal → Option QTyp} (h : Cut n f g) : ∀ (l : List PVal) (acc : QTyp), nestC acc ≤ n → (foldS f acc l = none → foldS g acc l = none) ∧ ∀ a, foldS f acc l = some a → (nestC a ≤ n → foldS g acc l = some a) ∧ (¬ nestC a ≤ n → foldS g acc l = none)
  | [], acc, ha => ⟨fun e => (by cases e), fun a e => by simp only [foldS] at e; (cases e); exact ⟨fun _ => rfl, fun e => absurd ha e⟩⟩
  | x :: l, acc, ha => by
    obtain ⟨x1, x2⟩ := h x
    cases hf : f x with
    | none =>
      have hg := x1 hf
      refine ⟨fun _ => by simp only [foldS, hg], fun ts e => ?_⟩
      simp only [foldS, hf] at e; cases e
    | some t =>
      obtain ⟨x3, x4⟩ := x2 t hf
      by_cases h1 : nestC t ≤ n
      · have hg := x3 h1
        simp only [foldS, hf, hg]
        cases hj : joinQ acc t with
        | none => exact ⟨fun _ => rfl, fun a e => by cases e⟩
        | some a' =>
          have := nest_join _ _ _ hj
          exact foldS_cut h l a' (by omega)
      · have hg := x4 h1
        simp only [foldS, hf, hg]
        refine ⟨fun _ => trivial, fun a e => ⟨fun hn => ?_, fun _ => trivial⟩⟩
        split at e
        · rename_i a' hj
          have := nest_join _ _ _ hj
          have := foldS_ge l a' a e
          omega
        · cases e
theorem open_cut : ∀ n, Cut n (shapeV n) (openV n)
  | 0, v => ⟨fun _ => rfl, fun t e => by simp only [shapeV] at e; cases e⟩
  | n + 1, v => by
    have ih := open_cut n
    unfold shapeV openV
    by_cases k12 : v.kind = 1 ∨ v.kind = 2
    · simp only [if_pos k12]
      refine ⟨fun e => e, fun t e => ⟨fun _ => e, fun hn => ?_⟩⟩
      split at e
      · cases e
        rw [nestC_mkQ (by omega)] at hn
        simp [nestCs] at hn
      · cases e
    simp only [if_neg k12]
    by_cases k3 : v.kind = 3 ∧ v.n = 0 ∧ 2 ≤ v.list.length ∧ v.list.length ≤ 4
    · simp only [if_pos k3]
      obtain ⟨m1, m2⟩ := mapS_cut ih v.list
      cases hm : mapS (shapeV n) v.list with
      | none => rw [m1 hm]; exact ⟨fun _ => rfl, fun t e => by cases e⟩
      | some ts =>
        obtain ⟨m3, m4⟩ := m2 ts hm
        refine ⟨fun e => (by cases e), fun t e => ?_⟩
        simp only [Option.map_some] at e
        cases e
        rw [nestC_mkQ (by omega)]
        exact ⟨fun hn => by rw [m3 (by omega)]; rfl, fun hn => by rw [m4 (by omega)]; rfl⟩
    simp only [if_neg k3]
    by_cases k4 : v.kind = 4 ∧ v.n = 0 ∧ v.list.length ≤ 32
    · simp only [if_pos k4]
      by_cases n0 : n = 0
      · subst n0
        rw [if_neg (fun e => e.2.2.2 rfl)]
        refine ⟨fun _ => rfl, fun t e => ⟨fun hn => ?_, fun _ => rfl⟩⟩
        obtain ⟨a, ha, rfl⟩ := Option.map_eq_some_iff.1 e
        rw [nestC_mkQ (by omega)] at hn
        have := nestC_pos a
        simp only [nestCs] at hn
        omega
      · rw [if_pos ⟨k4.1, k4.2.1, k4.2.2, n0⟩]
        obtain ⟨m1, m2⟩ := foldS_cut ih v.list (.mk 0 true []) (by have e : nestC (.mk 0 true []) = 1 := rfl; omega)
        cases hm : foldS (shapeV n) (.mk 0 true []) v.list with
        | none => rw [m1 hm]; exact ⟨fun _ => rfl, fun t e => by cases e⟩
        | some a =>
          obtain ⟨m3, m4⟩ := m2 a hm
          refine ⟨fun e => (by cases e), fun t e => ?_⟩
          simp only [Option.map_some] at e
          cases e
          rw [nestC_mkQ (by omega)]
          have h1 := nestC_pos a
          have e2 : nestCs [a] = nestC a := by simp only [nestCs]; omega
          rw [e2]
          exact ⟨fun hn => by rw [m3 (by omega)]; rfl, fun hn => by rw [m4 (by omega)]; rfl⟩
    · have k4' : ¬ (v.kind = 4 ∧ v.n = 0 ∧ v.list.length ≤ 32 ∧ n ≠ 0) := fun e => k4 ⟨e.1, e.2.1, e.2.2.1⟩
      simp only [if_neg k4, if_neg k4']
      exact ⟨fun _ => trivial, fun t e => by cases e⟩
end Go.Xe.YtalckpkiplhbcaaGreatDoor
end
section
namespace Go.Xe.YtalckpkiplhbcaaGreatDoor
open Go Go.Xe Go.Xt
set_option linter.unusedVariables false
set_option linter.unusedSimpArgs false
mutual
def wfQ : QTyp → Bool
  | .mk k _ l => decide (k = 0) || (decide ((k = 1 ∨ k = 2) ∧ l.length = 0 ∨ k = 3 ∧ 2 ≤ l.length ∧ l.length ≤ 4 ∨ k = 4 ∧ l.length = 1) && wfQs l)
def wfQs : List QTyp → Bool
  | [] => true
  | t :: l => wfQ t && wfQs l
end
theorem closedQs_eq : ∀ l, closedQs l = l.map closedQ
  | [] => rfl
  | t :: l => by simp only [closedQs, List.map_cons, closedQs_eq l]
mutual
theorem right_closed : ∀ (t : QTyp) (m : Nat), wfQ t = true → rightT m (closedQ t) = decide (nestC t ≤ m)
  | .mk k b l, m, h => by
    have hn := nestC_pos (.mk k b l)
    cases m with
    | zero =>
      have : ¬ nestC (.mk k b l) ≤ 0 := by omega
      simp [rightT, this]
    | succ m =>
      have ihl := rights_closed l m
      unfold closedQ nestC
      by_cases k0 : k = 0
      · simp only [if_pos k0]
        have : (1 : Nat) ≤ m + 1 := by omega
        simp [rightT, mkQ, QTyp.kind, QTyp.list, this]
      simp only [if_neg k0]
      unfold wfQ at h
      simp only [decide_eq_false k0, Bool.false_or, Bool.and_eq_true, decide_eq_true_eq] at h
      obtain ⟨hc, hw⟩ := h
      have ih := ihl hw
      have hlen : (closedQs l).length = l.length := by rw [closedQs_eq, List.length_map]
      have e : decide (nestCs l + 1 ≤ m + 1) = decide (nestCs l ≤ m) := decide_eq_decide.2 ⟨fun h => by omega, fun h => by omega⟩
      rw [e, ← ih]
      have k1 : (mkQ k (closedQs l)).kind = k := rfl
      have k2 : (mkQ k (closedQs l)).list = closedQs l := rfl
      unfold rightT
      rw [k1, k2, hlen]
      rcases hc with ⟨hk, hl⟩ | ⟨hk, h2, h4⟩ | ⟨hk, h1⟩
      · have : closedQs l = [] := List.eq_nil_of_length_eq_zero (by omega)
        rw [if_pos hk, this, hl]; rfl
      · rw [if_neg (by omega), if_pos hk, decide_eq_true ⟨h2, h4⟩, Bool.true_and]
      · rw [if_neg (by omega), if_neg (by omega), if_pos hk, decide_eq_true h1, Bool.true_and]
theorem rights_closed : ∀ (l : List QTyp) (m : Nat), wfQs l = true → (closedQs l).all (rightT m) = decide (nestCs l ≤ m)
  | [], m, _ => by simp [closedQs, nestCs]
  | t :: l, m, h => by
    unfold wfQs at h
    rw [Bool.and_eq_true] at h
    simp only [closedQs, List.all_cons, right_closed t m h.1, rights_closed l m h.2, nestCs]
    by_cases h1 : nestC t ≤ m <;> by_cases h2 : nestCs l ≤ m <;> simp [h1, h2, Nat.max_le]
end
end Go.Xe.YtalckpkiplhbcaaGreatDoor
end
section
namespace Go.Xe.YtalckpkiplhbcaaGreatDoor
open Go Go.Xe Go.Xt
set_option linter.unusedVariables false
set_option linter.unusedSimpArgs false
theorem wfQ_mkQ {k : Int} {l : List QTyp} (h : (k = 1 ∨ k = 2) ∧ l.length = 0 ∨ k = 3 ∧ 2 ≤ l.length ∧ l.length ≤ 4 ∨ k = 4 ∧ l.length = 1) (hw : wfQs l = true) : wfQ (mkQ k l) = true := by
  unfold mkQ wfQ
  rw [decide_eq_true h, hw]; simp
theorem wfQ_top (k : Int) (b : Bool) (l : List QTyp) : wfQ (mkQ k l) = wfQ (.mk k b l) := by unfold mkQ wfQ; rfl
mutual
theorem wf_join : ∀ (a b x : QTyp), joinQ a b = some x → wfQ a = true → wfQ b = true → wfQ x = true
  | .mk k nl l, .mk k' nl' l', x, h, ha, hb => by
    unfold joinQ at h
    by_cases h0 : k = 0
    · rw [if_pos h0] at h; cases h; rw [wfQ_top k' nl' l']; exact hb
    rw [if_neg h0] at h
    by_cases h1 : k' = 0
    · rw [if_pos h1] at h; cases h; rw [wfQ_top k nl l]; exact ha
    rw [if_neg h1] at h
    split at h
    · rename_i hh
      obtain ⟨y, hy, rfl⟩ := Option.map_eq_some_iff.1 h
      unfold wfQ at ha hb
      simp only [decide_eq_false h0, decide_eq_false h1, Bool.false_or, Bool.and_eq_true, decide_eq_true_eq] at ha hb
      obtain ⟨w1, w2⟩ := wf_joins l l' y hh.2 hy ha.2 hb.2
      refine wfQ_mkQ ?_ w1
      rw [w2]; exact ha.1
    · cases h
theorem wf_joins : ∀ (l m y : List QTyp), l.length = m.length → joinQs l m = some y → wfQs l = true → wfQs m = true → wfQs y = true ∧ y.length = l.length
  | [], [], y, _, h, _, _ => by simp only [joinQs] at h; cases h; exact ⟨rfl, rfl⟩
  | [], _ :: _, y, hl, h, _, _ => by simp at hl
  | _ :: _, [], y, hl, h, _, _ => by simp at hl
  | a :: l, b :: m, y, hl, h, ha, hb => by
    simp only [joinQs] at h
    unfold wfQs at ha hb
    rw [Bool.and_eq_true] at ha hb
    split at h
    · rename_i x hx
      obtain ⟨z, hz, rfl⟩ := Option.map_eq_some_iff.1 h
      have h1 := wf_join a b x hx ha.1 hb.1
      obtain ⟨h2, h3⟩ := wf_joins l m z (by simpa using hl) hz ha.2 hb.2
      exact ⟨by unfold wfQs; rw [h1, h2]; rfl, by simp [h3]⟩
    · cases h
end
theorem wf_mapS {f : PVal → Option QTyp} (hf : ∀ v t, f v = some t → wfQ t = true) : ∀ (l : List PVal) (ts : List QTyp), mapS f l = some ts → wfQs ts = true ∧ ts.length = l.length
  | [], ts, h => by simp only [mapS] at h; cases h; exact ⟨rfl, rfl⟩
  | x :: l, ts, h => by
    simp only [mapS] at h
    split at h
    · rename_i t ht
      obtain ⟨z, hz, rfl⟩ := Option.map_eq_some_iff.1 h
      obtain ⟨h2, h3⟩ := wf_mapS hf l z hz
      exact ⟨by unfold wfQs; rw [hf x t ht, h2]; rfl, by simp [h3]⟩
    · cases h
theorem wf_foldS {f : PVal → Option QTyp} (hf : ∀ v t, f v = some t → wfQ t = true) : ∀ (l : List PVal) (acc a : QTyp), wfQ acc = true → foldS f acc l = some a → wfQ a = true
  | [], acc, a, ha, h => by simp only [foldS] at h; cases h; exact ha
  | x :: l, acc, a, ha, h => by
    simp only [foldS] at h
    split at h
    · rename_i t ht
      split at h
      · rename_i a' ha'
        exact wf_foldS hf l a' a (wf_join _ _ _ ha' ha (hf x t ht)) h
      · cases h
    · cases h
theorem wf_shape : ∀ (n : Nat) (v : PVal) (t : QTyp), shapeV n v = some t → wfQ t = true
  | 0, v, t, h => by simp only [shapeV] at h; cases h
  | n + 1, v, t, h => by
    have ih := wf_shape n
    unfold shapeV at h
    by_cases k12 : v.kind = 1 ∨ v.kind = 2
    · rw [if_pos k12] at h
      split at h
      · cases h; exact wfQ_mkQ (.inl ⟨k12, rfl⟩) rfl
      · cases h
    rw [if_neg k12] at h
    split at h
    · rename_i k3
      obtain ⟨ts, hm, rfl⟩ := Option.map_eq_some_iff.1 h
      obtain ⟨h1, h2⟩ := wf_mapS ih v.list ts hm
      exact wfQ_mkQ (.inr (.inl ⟨rfl, by omega, by omega⟩)) h1
    · split at h
      · obtain ⟨a, hm, rfl⟩ := Option.map_eq_some_iff.1 h
        have h1 := wf_foldS ih v.list _ a rfl hm
        exact wfQ_mkQ (.inr (.inr ⟨rfl, rfl⟩)) (by unfold wfQs; rw [h1]; rfl)
      · cases h
theorem right_law (v : PVal) : (match shapeV 40 v with | some t => rightT 40 (closedQ t) | none => false) = (openV 40 v).isSome := by
  obtain ⟨h1, h2⟩ := open_cut 40 v
  cases hs : shapeV 40 v with
  | none => simp [h1 hs]
  | some t =>
    obtain ⟨h3, h4⟩ := h2 t hs
    simp only [right_closed t 40 (wf_shape 40 v t hs)]
    by_cases hn : nestC t ≤ 40
    · simp [hn, h3 hn]
    · simp [hn, h4 hn]
end Go.Xe.YtalckpkiplhbcaaGreatDoor
end
section
namespace Go.Xe.YtalckpkiplhbcaaGreatDoor
open Go Go.Xe Go.Xt
set_option linter.unusedVariables false
set_option linter.unusedSimpArgs false
variable {F : FuncId → Option TFun} {O : FuncId → List TV → Option TV}
theorem closedQ_def (t : QTyp) : closedQ t = if t.kind = 0 then mkQ 1 [] else mkQ t.kind (t.list.map closedQ) := by
  cases t; simp only [closedQ, QTyp.kind, QTyp.list, closedQs_eq]; rfl
mutual
theorem below_Q (n : Nat) : ∀ t, below.belows n (encQ t) = true
  | .mk k b l => by cases b <;> simp [encQ, mdOf, below, below.belows, belowss_Q n l]
theorem belowss_Q (n : Nat) : ∀ l, below.belowss n (encQs l) = true
  | [] => by simp [encQs, below.belowss]
  | t :: l => by simp [encQs, below.belowss, below_Q n t, belowss_Q n l]
end
theorem wfQs_mem : ∀ (l : List QTyp), wfQs l = true → ∀ x ∈ l, wfQ x = true
  | [], _, x, hx => by cases hx
  | a :: l, h, x, hx => by
    unfold wfQs at h
    rw [Bool.and_eq_true] at h
    rcases List.mem_cons.1 hx with rfl | hx
    · exact h.1
    · exact wfQs_mem l h.2 x hx
theorem wfQ_sub {t : QTyp} (h : wfQ t = true) (k0 : t.kind ≠ 0) : t.list.length ≤ 4 ∧ ∀ x ∈ t.list, wfQ x = true := by
  cases t with
  | mk k b l =>
    have k0 : k ≠ 0 := k0
    unfold wfQ at h
    simp only [decide_eq_false k0, Bool.false_or, Bool.and_eq_true, decide_eq_true_eq] at h
    exact ⟨by show l.length ≤ 4; omega, wfQs_mem l h.2⟩
theorem closed_t (h151 : F 151 = some f151) : ∀ (N : Nat) (t : QTyp) (b : Nat) (σ : Sto), szQ t ≤ N → OkQ t → wfQ t = true →
    tcall F O N b 151 [.agg (encQ t)] σ = some (.ret (.agg (encQ (closedQ t))), σ)
  | 0, t, b, σ, h, _, _ => by rw [szQ_def] at h; omega
  | N + 1, t, b, σ, h, ht, hwf => by
    have ih := closed_t h151 N
    have hs := szQ_def t
    have hk := szQs_len t.list
    refine tcall_pure h151 ?_
    rw [closedQ_def]
    by_cases k0 : t.kind = 0
    · rw [if_pos k0]
      have e1 : encQ (mkQ 1 []) = [.int .i64 1, .sl .fz []] := by rw [encQ_def]; rfl
      rw [e1]
      cases hm : t.nl <;> simp [x151, encQ_def, hm, mdOf, k0]
    rw [if_neg k0]
    obtain ⟨h4, hsub⟩ := wfQ_sub hwf k0
    have e2 : encQ (mkQ t.kind (t.list.map closedQ)) = [.int .i64 t.kind, .sl .fz ((t.list.map closedQ).map encQ)] := by rw [encQ_def]; rfl
    rw [e2]
    cases hm : t.nl with
    | true =>
      have hnil := ht.nl hm
      simp [x151, encQ_def t, hm, mdOf, k0, hnil]
      refine tw_loop (I := fun j a σ' => a.df = [] ∧ σ' = σ ∧ a.tm.get 2 = some (.bx 2 [.int .i64 0, .sl .nl []] 65) ∧ a.tm.get 3 = some (.bx 3 [.int .i64 t.kind, .sl .nl []] 65) ∧ a.tm.get 15 = some (.int .i64 0) ∧ a.tm.get 16 = some (.int .i64 j)) 0
        (R := fun ex a σ' => ex = .exit 0 ∧ a.df = [] ∧ σ' = σ ∧ a.tm.get 2 = some (.bx 2 [.int .i64 0, .sl .nl []] 65) ∧ a.tm.get 3 = some (.bx 3 [.int .i64 t.kind, .sl .nl []] 65)) ?_ ?_ ?_ ?_ ?_
      · simp
      · omega
      · rintro j ⟨tm, df, clk⟩ σ' hj
        omega
      · rintro ⟨tm, df, clk⟩ σ' ⟨rfl, rfl, g2, g3, g5, g7⟩
        simp at g7
        simp [g2, g3, g5, g7]
      · rintro ex ⟨tm, df, clk⟩ σ' ⟨rfl, rfl, rfl, g2, g3⟩
        simp [g2, g3]
    | false =>
      simp [x151, encQ_def t, hm, mdOf, k0]
      obtain ⟨I, hI⟩ : ∃ I : Nat → TAct → Sto → Prop, I = (fun j a σ' => a.df = [] ∧ σ' = σ ∧ ∃ lst, Bld 65 2 (((tk t.list j).map closedQ).map encQ) lst ∧ a.tm.get 2 = some (.bx 2 [.int .i64 0, .sl .nl []] 65) ∧ a.tm.get 3 = some (.bx 3 [.int .i64 t.kind, lst] 65) ∧ a.tm.get 14 = some (.sl .fz (t.list.map encQ)) ∧ a.tm.get 15 = some (.int .i64 (t.list.length : Int)) ∧ a.tm.get 16 = some (.int .i64 j)) := ⟨_, rfl⟩
      obtain ⟨R, hR⟩ : ∃ R : TEx → TAct → Sto → Prop, R = (fun ex a σ' => ex = .exit 0 ∧ a.df = [] ∧ σ' = σ ∧ ∃ lst, Bld 65 2 ((t.list.map closedQ).map encQ) lst ∧ a.tm.get 2 = some (.bx 2 [.int .i64 0, .sl .nl []] 65) ∧ a.tm.get 3 = some (.bx 3 [.int .i64 t.kind, lst] 65)) := ⟨_, rfl⟩
      refine tw_loop I t.list.length R ?_ ?_ ?_ ?_ ?_
      · rw [hI]
        exact ⟨rfl, rfl, _, by rw [tk_zero]; exact .nl, by simp, by simp, by simp, by simp, by simp⟩
      · omega
      · rw [hI]
        rintro j ⟨tm, df, clk⟩ σ' hj ⟨rfl, rfl, lst, hb, g2, g3, g14, g15, g16⟩
        rw [← hI]
        have hw := wrapJ hj ht.len
        have hcc := ih t.list[j] σ'.length σ' (by have := szQs_mem _ _ (List.getElem_mem hj); omega) (ht.sub _ (List.getElem_mem hj)) (hsub _ (List.getElem_mem hj))
        have e3 : encQ (closedQ t.list[j]) = [.int .i64 (closedQ t.list[j]).kind, .sl (mdOf (closedQ t.list[j]).nl) ((closedQ t.list[j]).list.map encQ)] := encQ_def _
        have e4 : (closedQ t.list[j]).nl = false := by rw [closedQ_def]; split <;> rfl
        rw [e4] at e3
        simp only [mdOf] at e3
        rw [e3] at hcc
        have hsucc : ((tk t.list (j + 1)).map closedQ).map encQ = ((tk t.list j).map closedQ).map encQ ++ [encQ (closedQ t.list[j])] := by rw [tk_succ hj]; simp
        rw [e3] at hsucc
        have hd1 : (((tk t.list j).map closedQ).map encQ).length ≤ 1073741823 := by rw [List.length_map, List.length_map, tk_len (by omega)]; omega
        have hd2 : ((((tk t.list j).map closedQ).map encQ).all fun c => decide (c.length = 2)) = true := by
          rw [List.all_eq_true]; intro c hc; obtain ⟨q, _, rfl⟩ := List.mem_map.1 hc; rw [encQ_def]; rfl
        generalize ((tk t.list j).map closedQ).map encQ = done at hb hsucc hd1 hd2
        rcases hb.inv with ⟨rfl, rfl⟩ | rfl
        · cases hmj : (t.list[j]).nl <;>
          · rw [encQ_def, hmj] at hcc
            simp only [mdOf] at hcc
            simp [g2, g3, g14, g15, g16, hj, hcc, hw, encQ_def t.list[j], hmj, mdOf]
            rw [hI]
            exact ⟨rfl, rfl, _, by rw [hsucc]; exact .own _, by simp [g2], by simp, by simp [g14], by simp [g15], by simp⟩
        · cases hmj : (t.list[j]).nl <;>
          · rw [encQ_def, hmj] at hcc
            simp only [mdOf] at hcc
            simp [g2, g3, g14, g15, g16, hj, hcc, hw, hd1, hd2, encQ_def t.list[j], hmj, mdOf]
            rw [hI]
            exact ⟨rfl, rfl, _, by rw [hsucc]; exact .own _, by simp [g2], by simp, by simp [g14], by simp [g15], by simp⟩
      · rw [hI]
        rintro ⟨tm, df, clk⟩ σ' ⟨rfl, rfl, lst, hb, g2, g3, g14, g15, g16⟩
        rw [tk_all] at hb
        simp [g2, g3, g15, g16]
        rw [hR]
        exact ⟨rfl, rfl, rfl, lst, hb, by simp [g2], by simp [g3]⟩
      · rw [hR]
        rintro ex ⟨tm, df, clk⟩ σ' ⟨rfl, rfl, rfl, lst, hb, g2, g3⟩
        have hbl : below.belowss σ'.length ((t.list.map closedQ).map encQ) = true := by rw [← encQs_eq]; exact belowss_Q _ _
        have e5 : (t.list.map closedQ).map encQ = t.list.map (fun x => encQ (closedQ x)) := by rw [List.map_map]; rfl
        rw [e5] at hb hbl
        generalize t.list.map (fun x => encQ (closedQ x)) = done at hb hbl ⊢
        rcases hb.inv with ⟨rfl, rfl⟩ | rfl
        · simp [g2, g3]
        · simp [g2, g3, hbl]
end Go.Xe.YtalckpkiplhbcaaGreatDoor
end
section
namespace Go.Xe.YtalckpkiplhbcaaGreatDoor
open Go Go.Xe Go.Xt
set_option linter.unusedVariables false
set_option linter.unusedSimpArgs false
variable {F : FuncId → Option TFun} {O : FuncId → List TV → Option TV}
theorem joinQ_def (a b : QTyp) : joinQ a b = if a.kind = 0 then some (mkQ b.kind b.list) else if b.kind = 0 then some (mkQ a.kind a.list) else if a.kind = b.kind ∧ a.list.length = b.list.length then (joinQs a.list b.list).map (mkQ a.kind) else none := by
  cases a; cases b; simp only [joinQ, QTyp.kind, QTyp.list]; rfl
mutual
def fzQ : QTyp → Bool
  | .mk k b l => (!b || decide (k = 0)) && fzQs l
def fzQs : List QTyp → Bool
  | [] => true
  | t :: l => fzQ t && fzQs l
end
theorem fzQs_mem : ∀ (l : List QTyp), fzQs l = true → ∀ x ∈ l, fzQ x = true
  | [], _, x, hx => by cases hx
  | a :: l, h, x, hx => by
    unfold fzQs at h
    rw [Bool.and_eq_true] at h
    rcases List.mem_cons.1 hx with rfl | hx
    · exact h.1
    · exact fzQs_mem l h.2 x hx
theorem fzQ_nl {t : QTyp} (h : fzQ t = true) (k0 : t.kind ≠ 0) : t.nl = false := by
  cases t with
  | mk k b l =>
    have k0 : k ≠ 0 := k0
    unfold fzQ at h
    rw [Bool.and_eq_true, decide_eq_false k0, Bool.or_false] at h
    have := h.1
    cases b
    · rfl
    · cases this
theorem fzQ_sub {t : QTyp} (h : fzQ t = true) : ∀ x ∈ t.list, fzQ x = true := by
  cases t with
  | mk k b l => unfold fzQ at h; rw [Bool.and_eq_true] at h; exact fzQs_mem l h.2
theorem joinQs_step {l m : List QTyp} {j : Nat} (hj : j < l.length) (hj' : j < m.length) : joinQs (l.drop j) (m.drop j) = match joinQ l[j] m[j] with
    | some x => (joinQs (l.drop (j + 1)) (m.drop (j + 1))).map (x :: ·)
    | none => none := by
  rw [List.drop_eq_getElem_cons hj, List.drop_eq_getElem_cons hj']; simp only [joinQs] <;> (cases joinQ l[j] m[j] <;> rfl)
theorem joinQs_end {l m : List QTyp} {j : Nat} (hj : l.length ≤ j) : joinQs (l.drop j) (m.drop j) = some [] := by
  rw [List.drop_of_length_le hj]; unfold joinQs; rfl
def Gives (call : Option (TEnd × Sto)) (σ : Sto) (o : Option QTyp) : Prop :=
  ∃ q : QTyp, q.nl = false ∧ call = some (.ret (.tuple [.agg (encQ q), .bool o.isSome]), σ) ∧ ∀ x, o = some x → q = x
theorem gives_some {call : Option (TEnd × Sto)} {σ : Sto} {x : QTyp} (h : x.nl = false) (hc : call = some (.ret (.tuple [.agg (encQ x), .bool true]), σ)) : Gives call σ (some x) :=
  ⟨x, h, hc, fun y hy => by cases hy; rfl⟩
theorem gives_none {call : Option (TEnd × Sto)} {σ : Sto} {x : QTyp} (h : x.nl = false) (hc : call = some (.ret (.tuple [.agg (encQ x), .bool false]), σ)) : Gives call σ none :=
  ⟨x, h, hc, fun y hy => by cases hy⟩
theorem below_eQs (n : Nat) (l : List QTyp) : below.belowss n (l.map encQ) = true := by rw [← encQs_eq]; exact belowss_Q n l
@[simp] theorem mkQ_kind (k : Int) (l : List QTyp) : (mkQ k l).kind = k := rfl
@[simp] theorem mkQ_nl (k : Int) (l : List QTyp) : (mkQ k l).nl = false := rfl
@[simp] theorem mkQ_list (k : Int) (l : List QTyp) : (mkQ k l).list = l := rfl
theorem eq0 : encQ (mkQ 0 []) = [.int .i64 0, .sl .fz []] := by rw [encQ_def]; rfl
set_option maxHeartbeats 4000000 in
theorem join_t (hF : F 178 = some f178) : ∀ (N : Nat) (a c : QTyp) (b : Nat) (σ : Sto), szQ a ≤ N → szQ c ≤ N → OkQ a → OkQ c → wfQ a = true → fzQ a = true → fzQ c = true →
    Gives (tcall F O N b 178 [.agg (encQ a), .agg (encQ c)] σ) σ (joinQ a c)
  | 0, a, c, b, σ, h, _, _, _, _, _, _ => by rw [szQ_def] at h; omega
  | N + 1, a, c, b, σ, h, h', ha, hc, hwf, hfa, hfc => by
    have ih := join_t hF N
    have hs := szQ_def a
    have hs' := szQ_def c
    have hk := szQs_len a.list
    rw [joinQ_def]
    by_cases k0 : a.kind = 0
    · rw [if_pos k0]
      refine gives_some rfl (tcall_pure hF ?_)
      have hcn := hc.nl
      cases hna : a.nl <;> cases hnc : c.nl <;> rw [hnc] at hcn <;> simp at hcn <;> simp [x178, undT, encQ_def, hna, hnc, mdOf, k0, below_eQs, eq0, hcn]
    rw [if_neg k0]
    have hna := fzQ_nl hfa k0
    by_cases c0 : c.kind = 0
    · rw [if_pos c0]
      refine gives_some rfl (tcall_pure hF ?_)
      cases hnc : c.nl <;> simp [x178, undT, encQ_def, hna, hnc, mdOf, k0, c0, below_eQs, eq0]
    rw [if_neg c0]
    have hnc := fzQ_nl hfc c0
    by_cases hkk : a.kind = c.kind
    case neg =>
      rw [if_neg (fun h => hkk h.1)]
      refine gives_none (x := a) hna (tcall_pure hF ?_)
      simp [x178, undT, encQ_def, hna, hnc, mdOf, k0, c0, hkk, below_eQs, eq0]
    by_cases hll : a.list.length = c.list.length
    case neg =>
      rw [if_neg (fun h => hll h.2)]
      have hll' : ¬ (a.list.length : Int) = (c.list.length : Int) := by omega
      refine gives_none (x := a) hna (tcall_pure hF ?_)
      simp [x178, undT, encQ_def, hna, hnc, mdOf, k0, c0, hkk, hll', below_eQs, eq0]
    rw [if_pos ⟨hkk, hll⟩]
    have c0' : c.kind ≠ 0 := c0
    suffices ∃ e σ', tcall F O (N + 1) b 178 [.agg (encQ a), .agg (encQ c)] σ = some (e, σ') ∧ Gives (some (e, σ')) σ ((joinQs a.list c.list).map (mkQ a.kind)) by
      obtain ⟨e, σ', h1, h2⟩ := this
      rw [h1]; exact h2
    refine tcall_of hF ?_
    simp [x178, undT, encQ_def, hna, hnc, mdOf, k0, c0, hkk, hll, below_eQs, eq0]
    have hca : c.kind = a.kind := hkk.symm
    obtain ⟨I, hI⟩ : ∃ I : Nat → TAct → Sto → Prop, I = (fun j a' σ' => a'.df = [] ∧ σ' = σ ∧ ∃ done lst, joinQs a.list c.list = (joinQs (a.list.drop j) (c.list.drop j)).map (done ++ ·) ∧ done.length = j ∧ Bld 65 2 (done.map encQ) lst ∧ a'.tm.get 2 = some (.bx 0 (encQ a) 65) ∧ a'.tm.get 3 = some (.bx 2 (encQ c) 65) ∧ a'.tm.get 4 = some (.bx 4 [.int .i64 0, .sl .nl []] 65) ∧ a'.tm.get 6 = some (.bx 5 [.int .i64 c.kind, lst] 65) ∧ a'.tm.get 42 = some (.int .i64 j) ∧ a'.tm.get 41 = some (.int .i64 (c.list.length : Int))) := ⟨_, rfl⟩
    obtain ⟨R, hR⟩ : ∃ R : TEx → TAct → Sto → Prop, R = (fun ex a' σ' => a'.df = [] ∧ σ' = σ ∧ (ex = .exit 1 ∧ (∃ done lst, joinQs a.list c.list = some done ∧ Bld 65 2 (done.map encQ) lst ∧ a'.tm.get 4 = some (.bx 4 [.int .i64 0, .sl .nl []] 65) ∧ a'.tm.get 6 = some (.bx 5 [.int .i64 c.kind, lst] 65)) ∨ ex = .ret ∧ joinQs a.list c.list = none ∧ a'.tm.get 4 = some (.bx 4 (encQ a) 65) ∧ a'.tm.get 5 = some (.bool false))) := ⟨_, rfl⟩
    refine tw_loop I a.list.length R ?_ ?_ ?_ ?_ ?_
    · rw [hI]
      exact ⟨rfl, rfl, [], _, by rw [List.drop_zero, List.drop_zero]; cases joinQs a.list c.list <;> simp, rfl, .nl, by simp [encQ_def, hna, mdOf, hkk], by simp [encQ_def, hnc, mdOf], by simp, by simp, by simp, by simp⟩
    · omega
    · rw [hI]
      rintro j ⟨tm, df, clk⟩ σ' hj ⟨rfl, rfl, done, lst, hd, hdl, hb, g2, g3, g4, g6, gc, gl⟩
      rw [← hI]
      have hw := wrapJ hj ha.len
      have hj' : j < c.list.length := by omega
      obtain ⟨h4, hsub⟩ := wfQ_sub hwf k0
      obtain ⟨q, hqn, hq, hqx⟩ := ih a.list[j] c.list[j] σ'.length σ' (by have := szQs_mem _ _ (List.getElem_mem hj); omega) (by have := szQs_mem _ _ (List.getElem_mem hj'); omega) (ha.sub _ (List.getElem_mem hj)) (hc.sub _ (List.getElem_mem hj')) (hsub _ (List.getElem_mem hj)) (fzQ_sub hfa _ (List.getElem_mem hj)) (fzQ_sub hfc _ (List.getElem_mem hj'))
      have eq' : encQ q = [.int .i64 q.kind, .sl .fz (q.list.map encQ)] := by rw [encQ_def, hqn]; rfl
      rw [encQ_def a.list[j], encQ_def c.list[j], eq'] at hq
      rw [encQ_def a, hna] at g2
      rw [encQ_def c, hnc] at g3
      simp only [mdOf] at hq g2 g3
      rw [joinQs_step hj hj'] at hd
      cases hjo : joinQ a.list[j] c.list[j] with
      | none =>
        rw [hjo] at hd hq
        simp at hd hq
        cases hnj : (a.list[j]).nl <;> cases hnj' : (c.list[j]).nl <;>
        simp only [hnj, hnj'] at hq <;>
        simp [g2, g3, g4, g6, gc, gl, hj, hj', hq, hw, encQ_def a.list[j], encQ_def c.list[j], hnj, hnj', mdOf] <;>
        rw [hR] <;>
        exact ⟨rfl, rfl, .inr ⟨rfl, hd, by simp [encQ_def, hna, mdOf, hkk], by simp⟩⟩
      | some x =>
        rw [hjo] at hd hq
        have hxq := hqx x hjo
        subst hxq
        simp at hq
        have hd1 : (done.map encQ).length ≤ 1073741823 := by rw [List.length_map]; omega
        have hd2 : ((done.map encQ).all fun c => decide (c.length = 2)) = true := by
          rw [List.all_eq_true]; intro c hc; obtain ⟨q, _, rfl⟩ := List.mem_map.1 hc; rw [encQ_def]; rfl
        have hd' : joinQs a.list c.list = (joinQs (a.list.drop (j + 1)) (c.list.drop (j + 1))).map ((done ++ [q]) ++ ·) := by
          rw [hd]; cases joinQs (a.list.drop (j + 1)) (c.list.drop (j + 1)) <;> simp
        have hsucc : (done ++ [q]).map encQ = done.map encQ ++ [[.int .i64 q.kind, .sl .fz (q.list.map encQ)]] := by rw [List.map_append, ← eq']; rfl
        have hlen : (done ++ [q]).length = j + 1 := by simp [hdl]
        generalize hdn : done.map encQ = dn at hb hsucc hd1 hd2
        rcases hb.inv with ⟨rfl, rfl⟩ | rfl
        · cases hnj : (a.list[j]).nl <;> cases hnj' : (c.list[j]).nl <;>
          simp only [hnj, hnj'] at hq <;>
          simp [g2, g3, g4, g6, gc, gl, hj, hj', hq, hw, encQ_def a.list[j], encQ_def c.list[j], hnj, hnj', mdOf] <;>
          rw [hI] <;>
          exact ⟨rfl, rfl, done ++ [q], _, hd', hlen, by rw [hsucc]; exact .own _, by simp [g2, encQ_def, hna, mdOf], by simp [g3, encQ_def, hnc, mdOf], by simp [g4], by simp, by simp, by simp [gl]⟩
        · cases hnj : (a.list[j]).nl <;> cases hnj' : (c.list[j]).nl <;>
          simp only [hnj, hnj'] at hq <;>
          simp [g2, g3, g4, g6, gc, gl, hj, hj', hq, hw, hd1, hd2, encQ_def a.list[j], encQ_def c.list[j], hnj, hnj', mdOf] <;>
          rw [hI] <;>
          exact ⟨rfl, rfl, done ++ [q], _, hd', hlen, by rw [hsucc]; exact .own _, by simp [g2, encQ_def, hna, mdOf], by simp [g3, encQ_def, hnc, mdOf], by simp [g4], by simp, by simp, by simp [gl]⟩
    · rw [hI]
      rintro ⟨tm, df, clk⟩ σ' ⟨rfl, rfl, done, lst, hd, hdl, hb, g2, g3, g4, g6, gc, gl⟩
      rw [joinQs_end (by omega)] at hd
      have e0 : done ++ [] = done := List.append_nil _
      simp [g2, g3, gc, gl, hll, encQ_def, hna, mdOf]
      rw [hR]
      exact ⟨rfl, rfl, .inl ⟨rfl, done, lst, by rw [hd]; simp, hb, by simp [g4], by simp [g6]⟩⟩
    · rw [hR]
      rintro ex ⟨tm, df, clk⟩ σ' ⟨rfl, rfl, ⟨rfl, done, lst, hd, hb, g4, g6⟩ | ⟨rfl, hd, g4, g5⟩⟩
      · rw [hd]
        have hbl := below_eQs σ'.length done
        rcases hb.inv with ⟨hn, rfl⟩ | rfl
        · have hn' : done = [] := List.map_eq_nil_iff.1 hn
          subst hn'
          simp [g4, g6]
          exact gives_some (x := mkQ c.kind []) rfl (by rw [encQ_def]; rfl)
        · simp [g4, g6, hbl]
          exact gives_some (x := mkQ c.kind done) rfl (by rw [encQ_def]; rfl)
      · rw [hd]
        simp [g4, g5, below_Q, encQ_def a, hna, mdOf, below_eQs, eq0]
        exact gives_none (x := a) hna (by simp [encQ_def a, hna, mdOf])
set_option maxHeartbeats 4000000 in
theorem meet_t (hF : F 190 = some f190) : ∀ (N : Nat) (a c : QTyp) (b : Nat) (σ : Sto), szQ a ≤ N → szQ c ≤ N → OkQ a → OkQ c → wfQ a = true → fzQ a = true → fzQ c = true →
    Gives (tcall F O N b 190 [.agg (encQ a), .agg (encQ c)] σ) σ (joinQ a c)
  | 0, a, c, b, σ, h, _, _, _, _, _, _ => by rw [szQ_def] at h; omega
  | N + 1, a, c, b, σ, h, h', ha, hc, hwf, hfa, hfc => by
    have ih := meet_t hF N
    have hs := szQ_def a
    have hs' := szQ_def c
    have hk := szQs_len a.list
    rw [joinQ_def]
    by_cases k0 : a.kind = 0
    · rw [if_pos k0]
      refine gives_some rfl (tcall_pure hF ?_)
      have hcn := hc.nl
      cases hna : a.nl <;> cases hnc : c.nl <;> rw [hnc] at hcn <;> simp at hcn <;> simp [x190, undT, encQ_def, hna, hnc, mdOf, k0, below_eQs, eq0, hcn]
    rw [if_neg k0]
    have hna := fzQ_nl hfa k0
    by_cases c0 : c.kind = 0
    · rw [if_pos c0]
      refine gives_some rfl (tcall_pure hF ?_)
      cases hnc : c.nl <;> simp [x190, undT, encQ_def, hna, hnc, mdOf, k0, c0, below_eQs, eq0]
    rw [if_neg c0]
    have hnc := fzQ_nl hfc c0
    by_cases hkk : a.kind = c.kind
    case neg =>
      rw [if_neg (fun h => hkk h.1)]
      refine gives_none (x := (mkQ 0 [])) rfl (tcall_pure hF ?_)
      simp [x190, undT, encQ_def, hna, hnc, mdOf, k0, c0, hkk, below_eQs, eq0]
    by_cases hll : a.list.length = c.list.length
    case neg =>
      rw [if_neg (fun h => hll h.2)]
      have hll' : ¬ (a.list.length : Int) = (c.list.length : Int) := by omega
      refine gives_none (x := (mkQ 0 [])) rfl (tcall_pure hF ?_)
      simp [x190, undT, encQ_def, hna, hnc, mdOf, k0, c0, hkk, hll', below_eQs, eq0]
    rw [if_pos ⟨hkk, hll⟩]
    have c0' : c.kind ≠ 0 := c0
    suffices ∃ e σ', tcall F O (N + 1) b 190 [.agg (encQ a), .agg (encQ c)] σ = some (e, σ') ∧ Gives (some (e, σ')) σ ((joinQs a.list c.list).map (mkQ a.kind)) by
      obtain ⟨e, σ', h1, h2⟩ := this
      rw [h1]; exact h2
    refine tcall_of hF ?_
    simp [x190, undT, encQ_def, hna, hnc, mdOf, k0, c0, hkk, hll, below_eQs, eq0]
    have hca : c.kind = a.kind := hkk.symm
    obtain ⟨I, hI⟩ : ∃ I : Nat → TAct → Sto → Prop, I = (fun j a' σ' => a'.df = [] ∧ σ' = σ ∧ ∃ done lst, joinQs a.list c.list = (joinQs (a.list.drop j) (c.list.drop j)).map (done ++ ·) ∧ done.length = j ∧ Bld 65 2 (done.map encQ) lst ∧ a'.tm.get 2 = some (.bx 0 (encQ a) 65) ∧ a'.tm.get 3 = some (.bx 2 (encQ c) 65) ∧ a'.tm.get 4 = some (.bx 4 [.int .i64 0, .sl .nl []] 65) ∧ a'.tm.get 6 = some (.bx 5 [.int .i64 c.kind, lst] 65) ∧ a'.tm.get 7 = some (.int .i64 j) ∧ True) := ⟨_, rfl⟩
    obtain ⟨R, hR⟩ : ∃ R : TEx → TAct → Sto → Prop, R = (fun ex a' σ' => a'.df = [] ∧ σ' = σ ∧ (ex = .exit 0 ∧ (∃ done lst, joinQs a.list c.list = some done ∧ Bld 65 2 (done.map encQ) lst ∧ a'.tm.get 4 = some (.bx 4 [.int .i64 0, .sl .nl []] 65) ∧ a'.tm.get 6 = some (.bx 5 [.int .i64 c.kind, lst] 65)) ∨ ex = .ret ∧ joinQs a.list c.list = none ∧ a'.tm.get 4 = some (.bx 4 [TV.int .i64 0, TV.sl .nl []] 65) ∧ a'.tm.get 5 = some (.bool false))) := ⟨_, rfl⟩
    refine tw_loop I a.list.length R ?_ ?_ ?_ ?_ ?_
    · rw [hI]
      exact ⟨rfl, rfl, [], _, by rw [List.drop_zero, List.drop_zero]; cases joinQs a.list c.list <;> simp, rfl, .nl, by simp [encQ_def, hna, mdOf, hkk], by simp [encQ_def, hnc, mdOf], by simp, by simp, by simp, by simp⟩
    · omega
    · rw [hI]
      rintro j ⟨tm, df, clk⟩ σ' hj ⟨rfl, rfl, done, lst, hd, hdl, hb, g2, g3, g4, g6, gc, gl⟩
      rw [← hI]
      have hw := wrapJ hj ha.len
      have hj' : j < c.list.length := by omega
      obtain ⟨h4, hsub⟩ := wfQ_sub hwf k0
      obtain ⟨q, hqn, hq, hqx⟩ := ih a.list[j] c.list[j] σ'.length σ' (by have := szQs_mem _ _ (List.getElem_mem hj); omega) (by have := szQs_mem _ _ (List.getElem_mem hj'); omega) (ha.sub _ (List.getElem_mem hj)) (hc.sub _ (List.getElem_mem hj')) (hsub _ (List.getElem_mem hj)) (fzQ_sub hfa _ (List.getElem_mem hj)) (fzQ_sub hfc _ (List.getElem_mem hj'))
      have eq' : encQ q = [.int .i64 q.kind, .sl .fz (q.list.map encQ)] := by rw [encQ_def, hqn]; rfl
      rw [encQ_def a.list[j], encQ_def c.list[j], eq'] at hq
      rw [encQ_def a, hna] at g2
      rw [encQ_def c, hnc] at g3
      simp only [mdOf] at hq g2 g3
      rw [joinQs_step hj hj'] at hd
      cases hjo : joinQ a.list[j] c.list[j] with
      | none =>
        rw [hjo] at hd hq
        simp at hd hq
        cases hnj : (a.list[j]).nl <;> cases hnj' : (c.list[j]).nl <;>
        simp only [hnj, hnj'] at hq <;>
        simp [g2, g3, g4, g6, gc, gl, hj, hj', hq, hw, encQ_def a.list[j], encQ_def c.list[j], hnj, hnj', mdOf] <;>
        rw [hR] <;>
        exact ⟨rfl, rfl, .inr ⟨rfl, hd, by simp [encQ_def, hna, mdOf, hkk], by simp⟩⟩
      | some x =>
        rw [hjo] at hd hq
        have hxq := hqx x hjo
        subst hxq
        simp at hq
        have hd1 : (done.map encQ).length ≤ 1073741823 := by rw [List.length_map]; omega
        have hd2 : ((done.map encQ).all fun c => decide (c.length = 2)) = true := by
          rw [List.all_eq_true]; intro c hc; obtain ⟨q, _, rfl⟩ := List.mem_map.1 hc; rw [encQ_def]; rfl
        have hd' : joinQs a.list c.list = (joinQs (a.list.drop (j + 1)) (c.list.drop (j + 1))).map ((done ++ [q]) ++ ·) := by
          rw [hd]; cases joinQs (a.list.drop (j + 1)) (c.list.drop (j + 1)) <;> simp
        have hsucc : (done ++ [q]).map encQ = done.map encQ ++ [[.int .i64 q.kind, .sl .fz (q.list.map encQ)]] := by rw [List.map_append, ← eq']; rfl
        have hlen : (done ++ [q]).length = j + 1 := by simp [hdl]
        generalize hdn : done.map encQ = dn at hb hsucc hd1 hd2
        rcases hb.inv with ⟨rfl, rfl⟩ | rfl
        · cases hnj : (a.list[j]).nl <;> cases hnj' : (c.list[j]).nl <;>
          simp only [hnj, hnj'] at hq <;>
          simp [g2, g3, g4, g6, gc, gl, hj, hj', hq, hw, encQ_def a.list[j], encQ_def c.list[j], hnj, hnj', mdOf] <;>
          rw [hI] <;>
          exact ⟨rfl, rfl, done ++ [q], _, hd', hlen, by rw [hsucc]; exact .own _, by simp [g2, encQ_def, hna, mdOf], by simp [g3, encQ_def, hnc, mdOf], by simp [g4], by simp, by simp, by simp [gl]⟩
        · cases hnj : (a.list[j]).nl <;> cases hnj' : (c.list[j]).nl <;>
          simp only [hnj, hnj'] at hq <;>
          simp [g2, g3, g4, g6, gc, gl, hj, hj', hq, hw, hd1, hd2, encQ_def a.list[j], encQ_def c.list[j], hnj, hnj', mdOf] <;>
          rw [hI] <;>
          exact ⟨rfl, rfl, done ++ [q], _, hd', hlen, by rw [hsucc]; exact .own _, by simp [g2, encQ_def, hna, mdOf], by simp [g3, encQ_def, hnc, mdOf], by simp [g4], by simp, by simp, by simp [gl]⟩
    · rw [hI]
      rintro ⟨tm, df, clk⟩ σ' ⟨rfl, rfl, done, lst, hd, hdl, hb, g2, g3, g4, g6, gc, gl⟩
      rw [joinQs_end (by omega)] at hd
      have e0 : done ++ [] = done := List.append_nil _
      simp [g2, g3, gc, gl, hll, encQ_def, hna, mdOf]
      rw [hR]
      exact ⟨rfl, rfl, .inl ⟨rfl, done, lst, by rw [hd]; simp, hb, by simp [g4], by simp [g6]⟩⟩
    · rw [hR]
      rintro ex ⟨tm, df, clk⟩ σ' ⟨rfl, rfl, ⟨rfl, done, lst, hd, hb, g4, g6⟩ | ⟨rfl, hd, g4, g5⟩⟩
      · rw [hd]
        have hbl := below_eQs σ'.length done
        rcases hb.inv with ⟨hn, rfl⟩ | rfl
        · have hn' : done = [] := List.map_eq_nil_iff.1 hn
          subst hn'
          simp [g4, g6]
          exact gives_some (x := mkQ c.kind []) rfl (by rw [encQ_def]; rfl)
        · simp [g4, g6, hbl]
          exact gives_some (x := mkQ c.kind done) rfl (by rw [encQ_def]; rfl)
      · rw [hd]
        simp [g4, g5, below_Q, eq0, hna, mdOf, below_eQs, eq0]
        exact gives_none (x := (mkQ 0 [])) rfl (by simp [eq0, hna, mdOf])
end Go.Xe.YtalckpkiplhbcaaGreatDoor
end
section
namespace Go.Xe.YtalckpkiplhbcaaGreatDoor
open Go Go.Xe Go.Xt
set_option linter.unusedVariables false
set_option linter.unusedSimpArgs false
mutual
def nfQ : QTyp → Bool
  | .mk k b l => (!b || decide (k = 0 ∧ l.length = 0)) && (decide (0 ≤ k ∧ k ≤ 4 ∧ l.length ≤ 4) && nfQs l)
def nfQs : List QTyp → Bool
  | [] => true
  | t :: l => nfQ t && nfQs l
end
theorem nfQs_mem : ∀ (l : List QTyp), nfQs l = true → ∀ x ∈ l, nfQ x = true
  | [], _, x, hx => by cases hx
  | a :: l, h, x, hx => by
    unfold nfQs at h
    rw [Bool.and_eq_true] at h
    rcases List.mem_cons.1 hx with rfl | hx
    · exact h.1
    · exact nfQs_mem l h.2 x hx
theorem nfQ_mkQ {k : Int} {l : List QTyp} (h : 0 ≤ k ∧ k ≤ 4 ∧ l.length ≤ 4) (hw : nfQs l = true) : nfQ (mkQ k l) = true := by
  unfold mkQ nfQ
  rw [decide_eq_true h, hw]; rfl
theorem ok_nf : ∀ (n : Nat) (t : QTyp), szQ t ≤ n → nfQ t = true → OkQ t
  | 0, t, h, _ => by rw [szQ_def] at h; omega
  | n + 1, .mk k b l, h, hw => by
    rw [szQ_def] at h
    unfold nfQ at hw
    simp only [Bool.and_eq_true, decide_eq_true_eq] at hw
    obtain ⟨hb, hk, hl⟩ := hw
    have h4 : (4 : Nat) ≤ maxLen := by decide
    refine .mk ⟨by omega, by omega⟩ (fun e => ?_) (by omega) fun x hx => ?_
    case refine_1 =>
      subst e; simp only [Bool.not_true, Bool.false_or, decide_eq_true_eq] at hb; exact List.length_eq_zero_iff.1 hb.2
    have := szQs_mem _ _ hx
    simp only [QTyp.list] at h
    exact ok_nf n x (by omega) (nfQs_mem l hl x hx)
theorem ofNf {t : QTyp} (h : nfQ t = true) : OkQ t := ok_nf _ t (Nat.le_refl _) h
mutual
theorem fz_nf : ∀ t, nfQ t = true → fzQ t = true
  | .mk k b l, h => by
    unfold nfQ at h
    simp only [Bool.and_eq_true] at h
    unfold fzQ
    rw [fz_nfs l h.2.2, Bool.and_true]
    have := h.1
    cases b
    · rfl
    · simp only [Bool.not_true, Bool.false_or, decide_eq_true_eq] at this ⊢
      exact this.1
theorem fz_nfs : ∀ l, nfQs l = true → fzQs l = true
  | [], _ => rfl
  | t :: l, h => by
    unfold nfQs at h
    simp only [Bool.and_eq_true] at h
    unfold fzQs
    rw [fz_nf t h.1, fz_nfs l h.2]; rfl
end
theorem nfQ_top {k : Int} {b : Bool} {l : List QTyp} (h : nfQ (.mk k b l) = true) : nfQ (mkQ k l) = true := by
  unfold nfQ at h
  simp only [Bool.and_eq_true, decide_eq_true_eq] at h
  exact nfQ_mkQ h.2.1 h.2.2
theorem szQ_top (k : Int) (b : Bool) (l : List QTyp) : szQ (mkQ k l) = szQ (.mk k b l) := by unfold mkQ szQ; rfl
mutual
theorem nf_join : ∀ (a b x : QTyp), joinQ a b = some x → nfQ a = true → nfQ b = true → nfQ x = true ∧ szQ x ≤ szQ a + szQ b
  | .mk k nl l, .mk k' nl' l', x, h, ha, hb => by
    unfold joinQ at h
    by_cases h0 : k = 0
    · rw [if_pos h0] at h; cases h; exact ⟨nfQ_top hb, by rw [szQ_top k' nl' l']; omega⟩
    rw [if_neg h0] at h
    by_cases h1 : k' = 0
    · rw [if_pos h1] at h; cases h; exact ⟨nfQ_top ha, by rw [szQ_top k nl l]; omega⟩
    rw [if_neg h1] at h
    split at h
    · rename_i hh
      obtain ⟨y, hy, rfl⟩ := Option.map_eq_some_iff.1 h
      unfold nfQ at ha hb
      simp only [Bool.and_eq_true, decide_eq_true_eq] at ha hb
      obtain ⟨w1, w2, w3⟩ := nf_joins l l' y hh.2 hy ha.2.2 hb.2.2
      refine ⟨nfQ_mkQ (by omega) w1, ?_⟩
      rw [szQ_def, szQ_def, szQ_def]; simp only [QTyp.list, mkQ]; omega
    · cases h
theorem nf_joins : ∀ (l m y : List QTyp), l.length = m.length → joinQs l m = some y → nfQs l = true → nfQs m = true → nfQs y = true ∧ y.length = l.length ∧ szQs y ≤ szQs l + szQs m
  | [], [], y, _, h, _, _ => by simp only [joinQs] at h; cases h; exact ⟨rfl, rfl, Nat.zero_le _⟩
  | [], _ :: _, y, hl, h, _, _ => by simp at hl
  | _ :: _, [], y, hl, h, _, _ => by simp at hl
  | a :: l, b :: m, y, hl, h, ha, hb => by
    simp only [joinQs] at h
    unfold nfQs at ha hb
    rw [Bool.and_eq_true] at ha hb
    split at h
    · rename_i x hx
      obtain ⟨z, hz, rfl⟩ := Option.map_eq_some_iff.1 h
      have h1 := nf_join a b x hx ha.1 hb.1
      obtain ⟨h2, h3, h4⟩ := nf_joins l m z (by simpa using hl) hz ha.2 hb.2
      exact ⟨by unfold nfQs; rw [h1.1, h2]; rfl, by simp [h3], by have := h1.2; simp only [szQs]; omega⟩
    · cases h
end
def Nf (v : PVal) (t : QTyp) : Prop := wfQ t = true ∧ nfQ t = true ∧ szQ t ≤ 3 * szV v
theorem nf_mapS {f : PVal → Option QTyp} (hf : ∀ v t, f v = some t → Nf v t) : ∀ (l : List PVal) (ts : List QTyp), mapS f l = some ts → nfQs ts = true ∧ ts.length = l.length ∧ szQs ts ≤ 3 * szVs l
  | [], ts, h => by simp only [mapS] at h; cases h; exact ⟨rfl, rfl, Nat.zero_le _⟩
  | x :: l, ts, h => by
    simp only [mapS] at h
    split at h
    · rename_i t ht
      obtain ⟨z, hz, rfl⟩ := Option.map_eq_some_iff.1 h
      obtain ⟨h2, h3, h4⟩ := nf_mapS hf l z hz
      obtain ⟨h5, h6, h7⟩ := hf x t ht
      exact ⟨by unfold nfQs; rw [h6, h2]; rfl, by simp [h3], by simp only [szQs, szVs]; omega⟩
    · cases h
theorem nf_foldS {f : PVal → Option QTyp} (hf : ∀ v t, f v = some t → Nf v t) : ∀ (l : List PVal) (acc a : QTyp), nfQ acc = true → foldS f acc l = some a → nfQ a = true ∧ szQ a ≤ szQ acc + 3 * szVs l
  | [], acc, a, ha, h => by simp only [foldS] at h; cases h; exact ⟨ha, by omega⟩
  | x :: l, acc, a, ha, h => by
    simp only [foldS] at h
    split at h
    · rename_i t ht
      split at h
      · rename_i a' ha'
        obtain ⟨h5, h6, h7⟩ := hf x t ht
        obtain ⟨h8, h9⟩ := nf_join _ _ _ ha' ha h6
        obtain ⟨h1, h2⟩ := nf_foldS hf l a' a h8 h
        exact ⟨h1, by simp only [szVs]; omega⟩
      · cases h
    · cases h
theorem nf_tuple {f : PVal → Option QTyp} (hf : ∀ v t, f v = some t → Nf v t) {v : PVal} {t : QTyp} (hl : v.list.length ≤ 4) (h : (mapS f v.list).map (mkQ 3) = some t) : nfQ t = true ∧ szQ t ≤ 3 * szV v := by
  obtain ⟨ts, hm, rfl⟩ := Option.map_eq_some_iff.1 h
  obtain ⟨h1, h2, h3⟩ := nf_mapS hf v.list ts hm
  have := szV_def v
  exact ⟨nfQ_mkQ (by omega) h1, by rw [szQ_def]; simp only [mkQ_list]; omega⟩
theorem nf_list {f : PVal → Option QTyp} (hf : ∀ v t, f v = some t → Nf v t) {v : PVal} {t : QTyp} (h : (foldS f (.mk 0 true []) v.list).map (fun a => mkQ 4 [a]) = some t) : nfQ t = true ∧ szQ t ≤ 3 * szV v := by
  obtain ⟨a, hm, rfl⟩ := Option.map_eq_some_iff.1 h
  obtain ⟨h1, h2⟩ := nf_foldS hf v.list _ a rfl hm
  have := szV_def v
  have e : szQ (.mk 0 true []) = 4 := by rw [szQ_def]; rfl
  refine ⟨nfQ_mkQ ⟨by omega, by omega, by simp⟩ (by unfold nfQs; rw [h1]; rfl), ?_⟩
  rw [szQ_def]; simp only [mkQ_list, szQs]; omega
theorem nf_leaf {k : Int} (v : PVal) (h : k = 1 ∨ k = 2) : nfQ (mkQ k []) = true ∧ szQ (mkQ k []) ≤ 3 * szV v := by
  have := szV_def v
  exact ⟨nfQ_mkQ ⟨by omega, by omega, by simp⟩ rfl, by rw [szQ_def]; simp only [mkQ_list, szQs]; omega⟩
theorem nf_shape : ∀ (n : Nat) (v : PVal) (t : QTyp), shapeV n v = some t → Nf v t
  | 0, v, t, h => by simp only [shapeV] at h; cases h
  | n + 1, v, t, h => by
    have ih := nf_shape n
    have hw := wf_shape _ _ _ h
    unfold shapeV at h
    by_cases k12 : v.kind = 1 ∨ v.kind = 2
    · rw [if_pos k12] at h
      split at h
      · cases h; exact ⟨hw, nf_leaf v k12⟩
      · cases h
    rw [if_neg k12] at h
    split at h
    · rename_i k3
      exact ⟨hw, nf_tuple ih k3.2.2.2 h⟩
    · split at h
      · exact ⟨hw, nf_list ih h⟩
      · cases h
theorem nf_open (n : Nat) (v : PVal) (t : QTyp) (h : openV n v = some t) : Nf v t := by
  obtain ⟨h1, h2⟩ := open_cut n v
  cases hs : shapeV n v with
  | none => rw [h1 hs] at h; cases h
  | some u =>
    obtain ⟨h3, h4⟩ := h2 u hs
    by_cases hn : nestC u ≤ n
    · rw [h3 hn] at h; cases h; exact nf_shape n v _ hs
    · rw [h4 hn] at h; cases h
theorem mapS_step {f : PVal → Option QTyp} {l : List PVal} {j : Nat} (hj : j < l.length) : mapS f (l.drop j) = match f l[j] with
    | some x => (mapS f (l.drop (j + 1))).map (x :: ·)
    | none => none := by
  rw [List.drop_eq_getElem_cons hj]; simp only [mapS] <;> (cases f l[j] <;> rfl)
theorem mapS_end {f : PVal → Option QTyp} {l : List PVal} {j : Nat} (hj : l.length ≤ j) : mapS f (l.drop j) = some [] := by
  rw [List.drop_of_length_le hj]; rfl
theorem foldS_step {f : PVal → Option QTyp} {acc : QTyp} {l : List PVal} {j : Nat} (hj : j < l.length) : foldS f acc (l.drop j) = match f l[j] with
    | some x => match joinQ acc x with
      | some a => foldS f a (l.drop (j + 1))
      | none => none
    | none => none := by
  rw [List.drop_eq_getElem_cons hj]; simp only [foldS] <;> (cases f l[j] with
  | none => rfl
  | some x => cases joinQ acc x <;> rfl)
theorem foldS_end {f : PVal → Option QTyp} {acc : QTyp} {l : List PVal} {j : Nat} (hj : l.length ≤ j) : foldS f acc (l.drop j) = some acc := by
  rw [List.drop_of_length_le hj]; rfl
theorem szVs_drop {l : List PVal} {j : Nat} (hj : j < l.length) : szVs (l.drop j) = szV l[j] + 1 + szVs (l.drop (j + 1)) := by
  rw [List.drop_eq_getElem_cons hj]; simp only [szVs]
end Go.Xe.YtalckpkiplhbcaaGreatDoor
end
section
namespace Go.Xe.YtalckpkiplhbcaaGreatDoor
open Go Go.Xe Go.Xt
set_option linter.unusedVariables false
set_option linter.unusedSimpArgs false
variable {F : FuncId → Option TFun} {O : FuncId → List TV → Option TV}
structure SFits (F : FuncId → Option TFun) : Prop where
  has : HFits F
  h150 : F 150 = some f150
  h178 : F 178 = some f178
theorem gives_of {call : Option (TEnd × Sto)} {σ : Sto} {o : Option QTyp} (h : ∃ e σ', call = some (e, σ') ∧ Gives (some (e, σ')) σ o) : Gives call σ o := by
  obtain ⟨e, σ', h1, h2⟩ := h
  rw [h1]; exact h2
theorem hasV_leaf (v : PVal) {k : Int} (h : k = 1 ∨ k = 2) : hasV v (.mk k true []) = hasV v (mkQ k []) := by
  rw [hasV_def, hasV_def]; simp only [QTyp.kind, mkQ_kind]
  rcases h with rfl | rfl <;> rfl
set_option maxHeartbeats 2000000 in
theorem shape_t (V : SFits F) : ∀ (N : Nat) (v : PVal) (n : Nat) (left : Int) (b : Nat) (σ : Sto), 3 * szV v ≤ N → OkV v → left = n → n ≤ 40 →
    Gives (tcall F O N b 150 [.agg (encV v), .int .i64 left] σ) σ (shapeV n v)
  | 0, v, n, left, b, σ, h, _, _, _ => by rw [szV_def] at h; omega
  | N + 1, v, n, left, b, σ, h, hv, hl, hn => by
    have hs := szV_def v
    have hk := szVs_len v.list
    cases n with
    | zero =>
      have hlt : left < 1 := by omega
      refine gives_none (x := mkQ v.kind []) rfl (tcall_pure V.h150 ?_)
      simp [x150, undT, encQ_def, encV_def, mdOf, hlt]
    | succ n =>
    have hlt : ¬ left < 1 := by omega
    have hsub : IntKind.i64.wrap (left - 1) = (n : Int) := by rw [wrap_in] <;> omega
    have ih := fun (x : PVal) (b : Nat) (σ : Sto) (h : 3 * szV x ≤ N) (hx : OkV x) => shape_t V N x n (n : Int) b σ h hx rfl (by omega)
    unfold shapeV
    by_cases k12 : v.kind = 1 ∨ v.kind = 2
    · rw [if_pos k12]
      have hc := has_t (O := O) V.has N v (.mk v.kind true []) σ.length σ (by omega) (by rw [szQ_def]; simp only [QTyp.list, szQs]; omega) hv (.mk hv.kind (fun _ => rfl) (Nat.zero_le _) (fun _ h => by cases h)) (.inl k12)
      rw [hasV_leaf v k12, encV_def, encQ_def] at hc
      simp only [QTyp.kind, QTyp.nl, QTyp.list, mdOf, List.map_nil] at hc
      cases hh : hasV v (mkQ v.kind []) with
      | true =>
        rw [hh] at hc
        refine gives_some rfl (tcall_pure V.h150 ?_)
        rcases k12 with k1 | k1 <;> rw [k1] at hc <;> simp [x150, undT, encQ_def, encV_def, mdOf, hlt, k1, hc]
      | false =>
        rw [hh] at hc
        refine gives_none (x := mkQ v.kind []) rfl (tcall_pure V.h150 ?_)
        rcases k12 with k1 | k1 <;> rw [k1] at hc <;> simp [x150, undT, encQ_def, encV_def, mdOf, hlt, k1, hc]
    rw [if_neg k12]
    have k1 : v.kind ≠ 1 := fun h => k12 (.inl h)
    have k2 : v.kind ≠ 2 := fun h => k12 (.inr h)
    by_cases c3 : v.kind = 3 ∧ v.n = 0 ∧ 2 ≤ v.list.length ∧ v.list.length ≤ 4
    · rw [if_pos c3]
      obtain ⟨k3, n0, l2, l4⟩ := c3
      have l2' : (2 : Int) ≤ (v.list.length : Int) := by omega
      have l4' : (v.list.length : Int) ≤ 4 := by omega
      refine gives_of (tcall_of V.h150 ?_)
      simp [x150, undT, encQ_def, encV_def, mdOf, hlt, k3, n0, l2, l4, l2', l4']
      obtain ⟨f, hf⟩ : ∃ f, f = shapeV n := ⟨_, rfl⟩
      rw [← hf] at ih ⊢
      obtain ⟨I, hI⟩ : ∃ I : Nat → TAct → Sto → Prop, I = (fun j a' σ' => a'.df = [] ∧ σ' = σ ∧ ∃ done lst, mapS f v.list = (mapS f (v.list.drop j)).map (done ++ ·) ∧ done.length = j ∧ Bld 65 2 (done.map encQ) lst ∧ a'.tm.get 1 = some (.int .i64 left) ∧ a'.tm.get 4 = some (.bx 2 [.int .i64 0, .sl .nl []] 65) ∧ a'.tm.get 6 = some (.bx 3 [.int .i64 3, lst] 65) ∧ a'.tm.get 58 = some (.sl .fz (v.list.map encV)) ∧ a'.tm.get 59 = some (.int .i64 (v.list.length : Int)) ∧ a'.tm.get 60 = some (.int .i64 j)) := ⟨_, rfl⟩
      obtain ⟨R, hR⟩ : ∃ R : TEx → TAct → Sto → Prop, R = (fun ex a' σ' => a'.df = [] ∧ σ' = σ ∧ (ex = .exit 1 ∧ (∃ done lst, mapS f v.list = some done ∧ Bld 65 2 (done.map encQ) lst ∧ a'.tm.get 4 = some (.bx 2 [.int .i64 0, .sl .nl []] 65) ∧ a'.tm.get 6 = some (.bx 3 [.int .i64 3, lst] 65)) ∨ ex = .ret ∧ mapS f v.list = none ∧ (∃ q, a'.tm.get 4 = some (.bx 2 (encQ (.mk 3 q [])) 65) ∨ ∃ done, a'.tm.get 4 = some (.bx 2 (encQ (mkQ 3 done)) 65)) ∧ a'.tm.get 5 = some (.bool false))) := ⟨_, rfl⟩
      refine tw_loop I v.list.length R ?_ ?_ ?_ ?_ ?_
      · rw [hI]
        exact ⟨rfl, rfl, [], _, by rw [List.drop_zero]; cases mapS f v.list <;> simp, rfl, .nl, by simp, by simp, by simp, by simp, by simp, by simp⟩
      · omega
      · rw [hI]
        rintro j ⟨tm, df, clk⟩ σ' hj ⟨rfl, rfl, done, lst, hd, hdl, hb, g1, g4, g6, g58, g59, g60⟩
        rw [← hI]
        have hw := wrapJ hj hv.len
        obtain ⟨q, hqn, hq, hqx⟩ := ih v.list[j] σ'.length σ' (by have := szVs_mem _ _ (List.getElem_mem hj); omega) (hv.sub _ (List.getElem_mem hj))
        have eq' : encQ q = [.int .i64 q.kind, .sl .fz (q.list.map encQ)] := by rw [encQ_def, hqn]; rfl
        rw [encV_def v.list[j], eq'] at hq
        rw [mapS_step hj] at hd
        cases hjo : f v.list[j] with
        | none =>
          rw [hjo] at hd hq
          simp at hd hq
          generalize hdn : done.map encQ = dn at hb
          rcases hb.inv with ⟨rfl, rfl⟩ | rfl
          · simp [g1, g4, g6, g58, g59, g60, hj, hq, hw, hsub, encV_def v.list[j]]
            rw [hR]
            exact ⟨rfl, rfl, .inr ⟨rfl, hd, ⟨true, .inl (by simp [encQ_def, QTyp.kind, QTyp.nl, QTyp.list, mdOf])⟩, by simp⟩⟩
          · simp [g1, g4, g6, g58, g59, g60, hj, hq, hw, hsub, encV_def v.list[j]]
            rw [hR]
            exact ⟨rfl, rfl, .inr ⟨rfl, hd, ⟨true, .inr ⟨done, by simp [encQ_def (mkQ 3 done), mdOf, hdn]⟩⟩, by simp⟩⟩
        | some x =>
          rw [hjo] at hd hq
          have hxq := hqx x hjo
          subst hxq
          simp at hq
          have hd1 : (done.map encQ).length ≤ 1073741823 := by rw [List.length_map]; omega
          have hd2 : ((done.map encQ).all fun c => decide (c.length = 2)) = true := by
            rw [List.all_eq_true]; intro c hc; obtain ⟨q, _, rfl⟩ := List.mem_map.1 hc; rw [encQ_def]; rfl
          have hd' : mapS f v.list = (mapS f (v.list.drop (j + 1))).map ((done ++ [q]) ++ ·) := by
            rw [hd]; cases mapS f (v.list.drop (j + 1)) <;> simp
          have hsucc : (done ++ [q]).map encQ = done.map encQ ++ [[.int .i64 q.kind, .sl .fz (q.list.map encQ)]] := by rw [List.map_append, ← eq']; rfl
          have hlen : (done ++ [q]).length = j + 1 := by simp [hdl]
          generalize hdn : done.map encQ = dn at hb hsucc hd1 hd2
          rcases hb.inv with ⟨rfl, rfl⟩ | rfl
          · simp [g1, g4, g6, g58, g59, g60, hj, hq, hw, hsub, encV_def v.list[j]]
            rw [hI]
            exact ⟨rfl, rfl, done ++ [q], _, hd', hlen, by rw [hsucc]; exact .own _, by simp [g1], by simp [g4], by simp, by simp [g58], by simp [g59], by simp⟩
          · simp [g1, g4, g6, g58, g59, g60, hj, hq, hw, hsub, hd1, hd2, encV_def v.list[j]]
            rw [hI]
            exact ⟨rfl, rfl, done ++ [q], _, hd', hlen, by rw [hsucc]; exact .own _, by simp [g1], by simp [g4], by simp, by simp [g58], by simp [g59], by simp⟩
      · rw [hI]
        rintro ⟨tm, df, clk⟩ σ' ⟨rfl, rfl, done, lst, hd, hdl, hb, g1, g4, g6, g58, g59, g60⟩
        rw [mapS_end (by omega)] at hd
        simp [g59, g60]
        rw [hR]
        exact ⟨rfl, rfl, .inl ⟨rfl, done, lst, by rw [hd]; simp, hb, by simp [g4], by simp [g6]⟩⟩
      · rw [hR]
        rintro ex ⟨tm, df, clk⟩ σ' ⟨rfl, rfl, ⟨rfl, done, lst, hd, hb, g4, g6⟩ | ⟨rfl, hd, g4, g5⟩⟩
        · rw [hd]
          have hbl := below_eQs σ'.length done
          rcases hb.inv with ⟨hn, rfl⟩ | rfl
          · have hn' : done = [] := List.map_eq_nil_iff.1 hn
            subst hn'
            simp [g4, g6]
            exact gives_some (x := mkQ 3 []) rfl (by rw [encQ_def]; rfl)
          · simp [g4, g6, hbl]
            exact gives_some (x := mkQ 3 done) rfl (by rw [encQ_def]; rfl)
        · rw [hd]
          rcases g4 with ⟨q, g4 | ⟨done, g4⟩⟩
          · cases q <;>
            · simp only [encQ, encQs, mdOf] at g4
              simp [g4, g5]
              exact gives_none (x := mkQ 3 []) rfl (by rw [encQ_def]; rfl)
          · have hbl := below_eQs σ'.length done
            rw [encQ_def] at g4
            simp only [mkQ_kind, mkQ_nl, mkQ_list, mdOf] at g4
            simp [g4, g5, hbl]
            exact gives_none (x := mkQ 3 done) rfl (by rw [encQ_def]; rfl)
    rw [if_neg c3]
    by_cases c4 : v.kind = 4 ∧ v.n = 0 ∧ v.list.length ≤ 32
    · rw [if_pos c4]
      obtain ⟨k4, n0, l32⟩ := c4
      have l32' : (v.list.length : Int) ≤ 32 := by omega
      refine gives_of (tcall_of V.h150 ?_)
      simp [x150, undT, encQ_def, encV_def, mdOf, hlt, k4, n0, l32, l32']
      obtain ⟨f, hf⟩ : ∃ f, f = shapeV n := ⟨_, rfl⟩
      have hnf := nf_shape n
      rw [← hf] at ih hnf ⊢
      obtain ⟨I, hI⟩ : ∃ I : Nat → TAct → Sto → Prop, I = (fun j a' σ' => a'.df = [] ∧ σ' = σ ∧ ∃ acc, foldS f (.mk 0 true []) v.list = foldS f acc (v.list.drop j) ∧ wfQ acc = true ∧ nfQ acc = true ∧ szQ acc + 3 * szVs (v.list.drop j) ≤ 4 + 3 * szVs v.list ∧ a'.tm.get 1 = some (.int .i64 left) ∧ a'.tm.get 4 = some (.bx 2 [.int .i64 0, .sl .nl []] 65) ∧ a'.tm.get 6 = some (.bx 3 [.int .i64 4, .sl .nl []] 65) ∧ a'.tm.get 11 = some (.bx 6 [.int .i64 acc.kind, .sl (mdOf acc.nl) (acc.list.map encQ)] 65) ∧ a'.tm.get 98 = some (.sl .fz (v.list.map encV)) ∧ a'.tm.get 99 = some (.int .i64 (v.list.length : Int)) ∧ a'.tm.get 100 = some (.int .i64 j)) := ⟨_, rfl⟩
      obtain ⟨R, hR⟩ : ∃ R : TEx → TAct → Sto → Prop, R = (fun ex a' σ' => a'.df = [] ∧ σ' = σ ∧ (ex = .exit 3 ∧ (∃ acc, foldS f (.mk 0 true []) v.list = some acc ∧ a'.tm.get 4 = some (.bx 2 [.int .i64 0, .sl .nl []] 65) ∧ a'.tm.get 6 = some (.bx 3 [.int .i64 4, .sl .nl []] 65) ∧ a'.tm.get 11 = some (.bx 6 [.int .i64 acc.kind, .sl (mdOf acc.nl) (acc.list.map encQ)] 65)) ∨ ex = .ret ∧ foldS f (.mk 0 true []) v.list = none ∧ a'.tm.get 4 = some (.bx 2 [.int .i64 4, .sl .nl []] 65) ∧ a'.tm.get 5 = some (.bool false))) := ⟨_, rfl⟩
      refine tw_loop I v.list.length R ?_ ?_ ?_ ?_ ?_
      · rw [hI]
        exact ⟨rfl, rfl, .mk 0 true [], by rw [List.drop_zero], rfl, rfl, by rw [List.drop_zero, szQ_def]; simp [szQs, QTyp.list], by simp, by simp, by simp, by simp [QTyp.kind, QTyp.nl, QTyp.list, mdOf], by simp, by simp, by simp⟩
      · omega
      · rw [hI]
        rintro j ⟨tm, df, clk⟩ σ' hj ⟨rfl, rfl, acc, hd, hwf, hacc, hsz, g1, g4, g6, g11, g98, g99, g100⟩
        rw [← hI]
        have hw := wrapJ hj hv.len
        have hsd := szVs_drop hj
        have hp := szV_def v.list[j]
        obtain ⟨q, hqn, hq, hqx⟩ := ih v.list[j] σ'.length σ' (by have := szVs_mem _ _ (List.getElem_mem hj); omega) (hv.sub _ (List.getElem_mem hj))
        have eq' : encQ q = [.int .i64 q.kind, .sl .fz (q.list.map encQ)] := by rw [encQ_def, hqn]; rfl
        rw [encV_def v.list[j], eq'] at hq
        rw [foldS_step hj] at hd
        cases hjo : f v.list[j] with
        | none =>
          rw [hjo] at hd hq
          simp at hd hq
          simp [g1, g4, g6, g98, g99, g100, hj, hq, hw, hsub, encV_def v.list[j]]
          rw [hR]
          exact ⟨rfl, rfl, .inr ⟨rfl, hd, by simp, by simp⟩⟩
        | some x =>
          rw [hjo] at hd hq
          have hxq := hqx x hjo
          subst hxq
          simp at hq hd
          obtain ⟨hq1, hq2, hq3⟩ := hnf _ _ hjo
          have hjc : Gives (tcall F O N σ'.length 178 [.agg [.int .i64 acc.kind, .sl (mdOf acc.nl) (acc.list.map encQ)], .agg (encQ q)] σ') σ' (joinQ acc q) := by
            have := join_t (O := O) V.h178 N acc q σ'.length σ' (by omega) (by omega) (ofNf hacc) (ofNf hq2) hwf (fz_nf _ hacc) (fz_nf _ hq2)
            rw [encQ_def acc] at this
            exact this
          obtain ⟨r, hrn, hr, hrx⟩ := hjc
          have er' : encQ r = [.int .i64 r.kind, .sl .fz (r.list.map encQ)] := by rw [encQ_def, hrn]; rfl
          rw [eq', er'] at hr
          cases hjq : joinQ acc q with
          | none =>
            rw [hjq] at hr hd
            simp at hr hd
            cases hmd : acc.nl <;>
            · simp only [hmd, mdOf] at g11 hr
              simp [g1, g4, g6, g11, g98, g99, g100, hj, hq, hr, hw, hsub, encV_def v.list[j]]
              rw [hR]
              exact ⟨rfl, rfl, .inr ⟨rfl, hd, by simp, by simp⟩⟩
          | some y =>
            rw [hjq] at hr hd
            have hxr := hrx y hjq
            subst hxr
            simp at hr hd
            obtain ⟨hr1, hr2⟩ := nf_join _ _ _ hjq hacc hq2
            have hr3 := wf_join _ _ _ hjq hwf hq1
            cases hmd : acc.nl <;>
            · simp only [hmd, mdOf] at g11 hr
              simp [g1, g4, g6, g11, g98, g99, g100, hj, hq, hr, hw, hsub, encV_def v.list[j]]
              rw [hI]
              exact ⟨rfl, rfl, r, hd, hr3, hr1, by omega, by simp [g1], by simp [g4], by simp [g6], by simp [hrn, mdOf], by simp [g98], by simp [g99], by simp⟩
      · rw [hI]
        rintro ⟨tm, df, clk⟩ σ' ⟨rfl, rfl, acc, hd, hwf, hacc, hsz, g1, g4, g6, g11, g98, g99, g100⟩
        rw [foldS_end (by omega)] at hd
        simp [g99, g100]
        rw [hR]
        exact ⟨rfl, rfl, .inl ⟨rfl, acc, hd, by simp [g4], by simp [g6], by simp [g11]⟩⟩
      · rw [hR]
        rintro ex ⟨tm, df, clk⟩ σ' ⟨rfl, rfl, ⟨rfl, acc, hd, g4, g6, g11⟩ | ⟨rfl, hd, g4, g5⟩⟩
        · rw [hd]
          have hbl := below_eQs σ'.length acc.list
          cases hmd : acc.nl <;>
          · simp only [hmd, mdOf] at g11
            simp [g4, g6, g11, hbl]
            exact gives_some (x := mkQ 4 [acc]) rfl (by rw [encQ_def]; simp [encQ_def acc, hmd, mdOf])
        · rw [hd]
          simp [g4, g5]
          exact gives_none (x := mkQ 4 []) rfl (by rw [encQ_def]; rfl)
    rw [if_neg c4]
    refine gives_none (x := mkQ v.kind []) rfl (tcall_pure V.h150 ?_)
    by_cases k3 : v.kind = 3
    · by_cases n0 : v.n = 0
      · by_cases l2 : 2 ≤ v.list.length
        · have l4 : ¬ v.list.length ≤ 4 := fun h => c3 ⟨k3, n0, l2, h⟩
          have l4' : ¬ (v.list.length : Int) ≤ 4 := by omega
          have l2' : (2 : Int) ≤ (v.list.length : Int) := by omega
          simp [x150, undT, encQ_def, encV_def, mdOf, hlt, k3, n0, l2, l4, l2', l4']
        · have l2' : ¬ (2 : Int) ≤ (v.list.length : Int) := by omega
          simp [x150, undT, encQ_def, encV_def, mdOf, hlt, k3, n0, l2, l2']
      · simp [x150, undT, encQ_def, encV_def, mdOf, hlt, k3, n0]
    by_cases k4 : v.kind = 4
    · by_cases n0 : v.n = 0
      · have l4 : ¬ v.list.length ≤ 32 := fun h => c4 ⟨k4, n0, h⟩
        have l4' : ¬ (v.list.length : Int) ≤ 32 := by omega
        simp [x150, undT, encQ_def, encV_def, mdOf, hlt, k4, n0, l4, l4']
      · simp [x150, undT, encQ_def, encV_def, mdOf, hlt, k4, n0]
    simp [x150, undT, encQ_def, encV_def, mdOf, hlt, k1, k2, k3, k4]
end Go.Xe.YtalckpkiplhbcaaGreatDoor
end
section
namespace Go.Xe.YtalckpkiplhbcaaGreatDoor
open Go Go.Xe Go.Xt
set_option linter.unusedVariables false
set_option linter.unusedSimpArgs false
variable {F : FuncId → Option TFun} {O : FuncId → List TV → Option TV}
structure PFits (F : FuncId → Option TFun) : Prop where
  h62 : F 62 = some f62
  h179 : F 179 = some f179
  h190 : F 190 = some f190
set_option maxHeartbeats 4000000 in
theorem open_t (V : PFits F) : ∀ (N : Nat) (v : PVal) (n : Nat) (deep : Int) (b : Nat) (σ : Sto), 3 * szV v ≤ N → szV v ≤ 100000 → OkV v → deep = 41 - (n : Int) → n ≤ 40 →
    Gives (tcall F O N b 179 [.agg (encV v), .int .i64 deep] σ) σ (openV n v)
  | 0, v, n, deep, b, σ, h, _, _, _, _ => by rw [szV_def] at h; omega
  | N + 1, v, n, deep, b, σ, h, hbig, hv, hl, hn => by
    have hs := szV_def v
    have hk := szVs_len v.list
    cases n with
    | zero =>
      have hlt : (40 : Int) < deep := by omega
      refine gives_none (x := mkQ 0 []) rfl (tcall_pure V.h179 ?_)
      simp [x179, undT, encQ_def, encV_def, mdOf, hlt]
    | succ n =>
    have hlt : ¬ (40 : Int) < deep := by omega
    have hsub : IntKind.i64.wrap (deep + 1) = 41 - (n : Int) := by rw [wrap_in] <;> omega
    have ih := fun (x : PVal) (b : Nat) (σ : Sto) (h : 3 * szV x ≤ N) (hg : szV x ≤ 100000) (hx : OkV x) => open_t V N x n (41 - (n : Int)) b σ h hg hx rfl (by omega)
    unfold openV
    by_cases k12 : v.kind = 1 ∨ v.kind = 2
    · rw [if_pos k12]
      have hc := of_t (O := O) V.h62 N v (.mk v.kind true []) σ.length σ (by omega) (by rw [szQ_def]; simp only [QTyp.list, szQs]; omega) hv (.mk hv.kind (fun _ => rfl) (Nat.zero_le _) (fun _ h => by cases h)) (.inl k12)
      rw [hasV_leaf v k12, encV_def, encQ_def] at hc
      simp only [QTyp.kind, QTyp.nl, QTyp.list, mdOf, List.map_nil] at hc
      cases hh : hasV v (mkQ v.kind []) with
      | true =>
        rw [hh] at hc
        refine gives_some rfl (tcall_pure V.h179 ?_)
        rcases k12 with k1 | k1 <;> rw [k1] at hc <;> simp [x179, undT, encQ_def, encV_def, mdOf, hlt, k1, hc]
      | false =>
        rw [hh] at hc
        refine gives_none (x := mkQ v.kind []) rfl (tcall_pure V.h179 ?_)
        rcases k12 with k1 | k1 <;> rw [k1] at hc <;> simp [x179, undT, encQ_def, encV_def, mdOf, hlt, k1, hc]
    rw [if_neg k12]
    have k1 : v.kind ≠ 1 := fun h => k12 (.inl h)
    have k2 : v.kind ≠ 2 := fun h => k12 (.inr h)
    by_cases k3 : v.kind = 3
    · refine gives_of (tcall_of V.h179 ?_)
      have k4 : ¬ v.kind = 4 := by omega
      simp [x179, undT, encQ_def, encV_def, mdOf, hlt, k3]
      have hcond : openV (n + 1) v = if v.n = 0 ∧ 2 ≤ v.list.length ∧ v.list.length ≤ 4 then (mapS (openV n) v.list).map (mkQ 3) else none := by
        unfold openV; rw [if_neg k12]; simp [k3, k4]
      obtain ⟨G, hG⟩ : ∃ G : Option QTyp, G = if v.n = 0 ∧ 2 ≤ v.list.length ∧ v.list.length ≤ 4 then (mapS (openV n) v.list).map (mkQ 3) else none := ⟨_, rfl⟩
      rw [← hG]
      obtain ⟨f, hf⟩ : ∃ f, f = openV n := ⟨_, rfl⟩
      rw [← hf] at ih hG
      obtain ⟨I, hI⟩ : ∃ I : Nat → TAct → Sto → Prop, I = (fun j a' σ' => a'.df = [] ∧ σ' = σ ∧ ∃ done lst, mapS f v.list = (mapS f (v.list.drop j)).map (done ++ ·) ∧ done.length = j ∧ Bld 65 2 (done.map encQ) lst ∧ a'.tm.get 1 = some (.int .i64 deep) ∧ a'.tm.get 2 = some (.bx 0 (encV v) 26) ∧ a'.tm.get 4 = some (.bx 2 [.int .i64 0, .sl .nl []] 65) ∧ a'.tm.get 7 = some (.bx 3 [.int .i64 3, lst] 65) ∧ a'.tm.get 8 = some (.int .i64 j)) := ⟨_, rfl⟩
      obtain ⟨R, hR⟩ : ∃ R : TEx → TAct → Sto → Prop, R = (fun ex a' σ' => a'.df = [] ∧ σ' = σ ∧ (ex = .exit 1 ∧ (∃ done lst, mapS f v.list = some done ∧ Bld 65 2 (done.map encQ) lst ∧ a'.tm.get 2 = some (.bx 0 (encV v) 26) ∧ a'.tm.get 4 = some (.bx 2 [.int .i64 0, .sl .nl []] 65) ∧ a'.tm.get 7 = some (.bx 3 [.int .i64 3, lst] 65)) ∨ ex = .ret ∧ mapS f v.list = none ∧ a'.tm.get 4 = some (.bx 2 [.int .i64 0, .sl .nl []] 65) ∧ a'.tm.get 5 = some (.bool false))) := ⟨_, rfl⟩
      refine tw_loop I v.list.length R ?_ ?_ ?_ ?_ ?_
      · rw [hI]
        exact ⟨rfl, rfl, [], _, by rw [List.drop_zero]; cases mapS f v.list <;> simp, rfl, .nl, by simp, by simp [encV_def, k3], by simp, by simp, by simp⟩
      · omega
      · rw [hI]
        rintro j ⟨tm, df, clk⟩ σ' hj ⟨rfl, rfl, done, lst, hd, hdl, hb, g1, g2, g4, g7, g8⟩
        rw [← hI]
        have hw := wrapJ hj hv.len
        obtain ⟨q, hqn, hq, hqx⟩ := ih v.list[j] σ'.length σ' (by have := szVs_mem _ _ (List.getElem_mem hj); omega) (by have := szVs_mem _ _ (List.getElem_mem hj); omega) (hv.sub _ (List.getElem_mem hj))
        have eq' : encQ q = [.int .i64 q.kind, .sl .fz (q.list.map encQ)] := by rw [encQ_def, hqn]; rfl
        rw [encV_def v.list[j], eq'] at hq
        rw [mapS_step hj] at hd
        rw [encV_def] at g2
        cases hjo : f v.list[j] with
        | none =>
          rw [hjo] at hd hq
          simp at hd hq
          generalize hdn : done.map encQ = dn at hb
          rcases hb.inv with ⟨rfl, rfl⟩ | rfl <;>
          · simp [g1, g2, g4, g7, g8, hj, hq, hw, hsub, encV_def v.list[j]]
            rw [hR]
            exact ⟨rfl, rfl, .inr ⟨rfl, hd, by simp, by simp⟩⟩
        | some x =>
          rw [hjo] at hd hq
          have hxq := hqx x hjo
          subst hxq
          simp at hq
          have hd1 : (done.map encQ).length ≤ 1073741823 := by rw [List.length_map]; omega
          have hd2 : ((done.map encQ).all fun c => decide (c.length = 2)) = true := by
            rw [List.all_eq_true]; intro c hc; obtain ⟨q, _, rfl⟩ := List.mem_map.1 hc; rw [encQ_def]; rfl
          have hd' : mapS f v.list = (mapS f (v.list.drop (j + 1))).map ((done ++ [q]) ++ ·) := by
            rw [hd]; cases mapS f (v.list.drop (j + 1)) <;> simp
          have hsucc : (done ++ [q]).map encQ = done.map encQ ++ [[.int .i64 q.kind, .sl .fz (q.list.map encQ)]] := by rw [List.map_append, ← eq']; rfl
          have hlen : (done ++ [q]).length = j + 1 := by simp [hdl]
          generalize hdn : done.map encQ = dn at hb hsucc hd1 hd2
          rcases hb.inv with ⟨rfl, rfl⟩ | rfl
          · simp [g1, g2, g4, g7, g8, hj, hq, hw, hsub, encV_def v.list[j]]
            rw [hI]
            exact ⟨rfl, rfl, done ++ [q], _, hd', hlen, by rw [hsucc]; exact .own _, by simp [g1], by simp [g2, encV_def v], by simp [g4], by simp, by simp⟩
          · simp [g1, g2, g4, g7, g8, hj, hq, hw, hsub, hd1, hd2, encV_def v.list[j]]
            rw [hI]
            exact ⟨rfl, rfl, done ++ [q], _, hd', hlen, by rw [hsucc]; exact .own _, by simp [g1], by simp [g2, encV_def v], by simp [g4], by simp, by simp⟩
      · rw [hI]
        rintro ⟨tm, df, clk⟩ σ' ⟨rfl, rfl, done, lst, hd, hdl, hb, g1, g2, g4, g7, g8⟩
        rw [mapS_end (by omega)] at hd
        have g2' := g2
        rw [encV_def] at g2
        simp [g2, g8]
        rw [hR]
        exact ⟨rfl, rfl, .inl ⟨rfl, done, lst, by rw [hd]; simp, hb, by simp [g2, encV_def v], by simp [g4], by simp [g7]⟩⟩
      · rw [hR]
        rintro ex ⟨tm, df, clk⟩ σ' ⟨rfl, rfl, ⟨rfl, done, lst, hd, hb, g2, g4, g7⟩ | ⟨rfl, hd, g4, g5⟩⟩
        · rw [hd] at hG
          rw [hG]
          have hbl := below_eQs σ'.length done
          have e0 : encQ (mkQ 3 done) = [.int .i64 3, .sl .fz (done.map encQ)] := by rw [encQ_def]; rfl
          rw [encV_def] at g2
          have hdone : encQ (mkQ 3 done) = [.int .i64 3, .sl .fz (done.map encQ)] := by rw [encQ_def]; rfl
          have fin : ∀ bb : Bool, Gives (some (TEnd.ret (.tuple [.agg [.int .i64 3, .sl .fz (done.map encQ)], .bool bb]), σ')) σ' (if bb = true then some (mkQ 3 done) else none) := by
            intro bb
            rw [← hdone]
            cases bb
            · exact gives_none rfl rfl
            · exact gives_some rfl rfl
          by_cases n0 : v.n = 0
          case neg =>
            rw [if_neg (fun e => n0 e.1)]
            have fin' := fin false
            generalize hdn : done.map encQ = dn at hb hbl fin'
            rcases hb.inv with ⟨rfl, rfl⟩ | rfl <;>
            · simp [g2, g4, g7, n0, hbl, undT]
              exact fin'
          by_cases l2 : 2 ≤ v.list.length
          case neg =>
            have l2' : ¬ (2 : Int) ≤ (v.list.length : Int) := by omega
            rw [if_neg (fun e => l2 e.2.1)]
            have fin' := fin false
            generalize hdn : done.map encQ = dn at hb hbl fin'
            rcases hb.inv with ⟨rfl, rfl⟩ | rfl <;>
            · simp [g2, g4, g7, n0, l2, l2', hbl, undT]
              exact fin'
          have l2' : (2 : Int) ≤ (v.list.length : Int) := by omega
          by_cases l4 : v.list.length ≤ 4
          case neg =>
            have l4' : ¬ (v.list.length : Int) ≤ 4 := by omega
            rw [if_neg (fun e => l4 e.2.2)]
            have fin' := fin false
            generalize hdn : done.map encQ = dn at hb hbl fin'
            rcases hb.inv with ⟨rfl, rfl⟩ | rfl <;>
            · simp [g2, g4, g7, n0, l2, l2', l4, l4', hbl, undT]
              exact fin'
          have l4' : (v.list.length : Int) ≤ 4 := by omega
          rw [if_pos ⟨n0, l2, l4⟩]
          have fin' := fin true
          simp only [Option.map_some]
          generalize hdn : done.map encQ = dn at hb hbl fin'
          rcases hb.inv with ⟨rfl, rfl⟩ | rfl <;>
          · simp [g2, g4, g7, n0, l2, l2', l4, l4', hbl, undT]
            exact fin'
        · have hG' : G = none := by rw [hG, hd]; split <;> rfl
          rw [hG']
          simp [g4, g5]
          exact gives_none (x := mkQ 0 []) rfl (by rw [encQ_def]; rfl)
    have c3 : ¬ (v.kind = 3 ∧ v.n = 0 ∧ 2 ≤ v.list.length ∧ v.list.length ≤ 4) := fun e => k3 e.1
    rw [if_neg c3]
    by_cases k4 : v.kind = 4
    case neg =>
      rw [if_neg (fun e => k4 e.1)]
      refine gives_none (x := mkQ 0 []) rfl (tcall_pure V.h179 ?_)
      simp [x179, undT, encQ_def, encV_def, mdOf, hlt, k1, k2, k3, k4]
    by_cases n0 : v.n = 0
    case neg =>
      rw [if_neg (fun e => n0 e.2.1)]
      refine gives_none (x := mkQ 0 []) rfl (tcall_pure V.h179 ?_)
      simp [x179, undT, encQ_def, encV_def, mdOf, hlt, k4, n0]
    by_cases l32 : v.list.length ≤ 32
    case neg =>
      have l32' : (32 : Int) < (v.list.length : Int) := by omega
      rw [if_neg (fun e => l32 e.2.2.1)]
      refine gives_none (x := mkQ 0 []) rfl (tcall_pure V.h179 ?_)
      simp [x179, undT, encQ_def, encV_def, mdOf, hlt, k4, n0, l32, l32']
    have l32' : ¬ (32 : Int) < (v.list.length : Int) := by omega
    by_cases nn : n = 0
    · have hd40 : deep = 40 := by omega
      rw [if_neg (fun e => e.2.2.2 nn)]
      refine gives_none (x := mkQ 0 []) rfl (tcall_pure V.h179 ?_)
      simp [x179, undT, encQ_def, encV_def, mdOf, hlt, k4, n0, l32, l32', hd40]
    have hd40 : ¬ deep = 40 := by omega
    rw [if_pos ⟨k4, n0, l32, nn⟩]
    refine gives_of (tcall_of V.h179 ?_)
    simp [x179, undT, encQ_def, encV_def, mdOf, hlt, k4, n0, l32, l32', hd40]
    obtain ⟨f, hf⟩ : ∃ f, f = openV n := ⟨_, rfl⟩
    have hnf := nf_open n
    rw [← hf] at ih hnf ⊢
    obtain ⟨I, hI⟩ : ∃ I : Nat → TAct → Sto → Prop, I = (fun j a' σ' => a'.df = [] ∧ σ' = σ ∧ ∃ acc, foldS f (.mk 0 true []) v.list = foldS f acc (v.list.drop j) ∧ wfQ acc = true ∧ nfQ acc = true ∧ szQ acc + 3 * szVs (v.list.drop j) ≤ 4 + 3 * szVs v.list ∧ a'.tm.get 1 = some (.int .i64 deep) ∧ a'.tm.get 2 = some (.bx 0 (encV v) 26) ∧ a'.tm.get 4 = some (.bx 2 [.int .i64 0, .sl .nl []] 65) ∧ a'.tm.get 11 = some (.bx 3 [.int .i64 acc.kind, .sl (mdOf acc.nl) (acc.list.map encQ)] 65) ∧ a'.tm.get 12 = some (.int .i64 j)) := ⟨_, rfl⟩
    obtain ⟨R, hR⟩ : ∃ R : TEx → TAct → Sto → Prop, R = (fun ex a' σ' => a'.df = [] ∧ σ' = σ ∧ (ex = .exit 3 ∧ (∃ acc, foldS f (.mk 0 true []) v.list = some acc ∧ a'.tm.get 2 = some (.bx 0 (encV v) 26) ∧ a'.tm.get 4 = some (.bx 2 [.int .i64 0, .sl .nl []] 65) ∧ a'.tm.get 11 = some (.bx 3 [.int .i64 acc.kind, .sl (mdOf acc.nl) (acc.list.map encQ)] 65)) ∨ ex = .ret ∧ foldS f (.mk 0 true []) v.list = none ∧ a'.tm.get 4 = some (.bx 2 [.int .i64 0, .sl .nl []] 65) ∧ a'.tm.get 5 = some (.bool false))) := ⟨_, rfl⟩
    refine tw_loop I v.list.length R ?_ ?_ ?_ ?_ ?_
    · rw [hI]
      exact ⟨rfl, rfl, .mk 0 true [], by rw [List.drop_zero], rfl, rfl, by rw [List.drop_zero, szQ_def]; simp [szQs, QTyp.list], by simp, by simp [encV_def, k4, n0], by simp, by simp [QTyp.kind, QTyp.nl, QTyp.list, mdOf], by simp⟩
    · omega
    · rw [hI]
      rintro j ⟨tm, df, clk⟩ σ' hj ⟨rfl, rfl, acc, hd, hwf, hacc, hsz, g1, g2, g4, g11, g12⟩
      rw [← hI]
      have hw := wrapJ hj hv.len
      have hsd := szVs_drop hj
      have hp := szV_def v.list[j]
      obtain ⟨q, hqn, hq, hqx⟩ := ih v.list[j] σ'.length σ' (by have := szVs_mem _ _ (List.getElem_mem hj); omega) (by have := szVs_mem _ _ (List.getElem_mem hj); omega) (hv.sub _ (List.getElem_mem hj))
      have eq' : encQ q = [.int .i64 q.kind, .sl .fz (q.list.map encQ)] := by rw [encQ_def, hqn]; rfl
      rw [encV_def v.list[j], eq'] at hq
      rw [foldS_step hj] at hd
      rw [encV_def] at g2
      cases hjo : f v.list[j] with
      | none =>
        rw [hjo] at hd hq
        simp at hd hq
        simp [g1, g2, g4, g11, g12, hj, hq, hw, hsub, encV_def v.list[j]]
        rw [hR]
        exact ⟨rfl, rfl, .inr ⟨rfl, hd, by simp, by simp⟩⟩
      | some x =>
        rw [hjo] at hd hq
        have hxq := hqx x hjo
        subst hxq
        simp at hq hd
        obtain ⟨hq1, hq2, hq3⟩ := hnf _ _ hjo
        have hjc : Gives (tcall F O N σ'.length 190 [.agg [.int .i64 acc.kind, .sl (mdOf acc.nl) (acc.list.map encQ)], .agg (encQ q)] σ') σ' (joinQ acc q) := by
          have := meet_t (O := O) V.h190 N acc q σ'.length σ' (by omega) (by omega) (ofNf hacc) (ofNf hq2) hwf (fz_nf _ hacc) (fz_nf _ hq2)
          rw [encQ_def acc] at this
          exact this
        obtain ⟨r, hrn, hr, hrx⟩ := hjc
        have er' : encQ r = [.int .i64 r.kind, .sl .fz (r.list.map encQ)] := by rw [encQ_def, hrn]; rfl
        rw [eq', er'] at hr
        cases hjq : joinQ acc q with
        | none =>
          rw [hjq] at hr hd
          simp at hr hd
          cases hmd : acc.nl <;>
          · simp only [hmd, mdOf] at g11 hr
            simp [g1, g2, g4, g11, g12, hj, hq, hr, hw, hsub, encV_def v.list[j]]
            rw [hR]
            exact ⟨rfl, rfl, .inr ⟨rfl, hd, by simp, by simp⟩⟩
        | some y =>
          rw [hjq] at hr hd
          have hxr := hrx y hjq
          subst hxr
          simp at hr hd
          obtain ⟨hr1, hr2⟩ := nf_join _ _ _ hjq hacc hq2
          have hr3 := wf_join _ _ _ hjq hwf hq1
          cases hmd : acc.nl <;>
          · simp only [hmd, mdOf] at g11 hr
            simp [g1, g2, g4, g11, g12, hj, hq, hr, hw, hsub, encV_def v.list[j]]
            rw [hI]
            exact ⟨rfl, rfl, r, hd, hr3, hr1, by omega, by simp [g1], by simp [g2, encV_def v], by simp [g4], by simp [hrn, mdOf], by simp⟩
    · rw [hI]
      rintro ⟨tm, df, clk⟩ σ' ⟨rfl, rfl, acc, hd, hwf, hacc, hsz, g1, g2, g4, g11, g12⟩
      rw [foldS_end (by omega)] at hd
      have g2' := g2
      rw [encV_def] at g2
      simp [g2, g12]
      rw [hR]
      exact ⟨rfl, rfl, .inl ⟨rfl, acc, hd, by simp [g2, encV_def v], by simp [g4], by simp [g11]⟩⟩
    · rw [hR]
      rintro ex ⟨tm, df, clk⟩ σ' ⟨rfl, rfl, ⟨rfl, acc, hd, g2, g4, g11⟩ | ⟨rfl, hd, g4, g5⟩⟩
      · rw [hd]
        have hbl := below_eQs σ'.length acc.list
        rw [encV_def, k4] at g2
        cases hmd : acc.nl <;>
        · simp only [hmd, mdOf] at g11
          simp [g2, g4, g11, hbl]
          exact gives_some (x := mkQ 4 [acc]) rfl (by rw [encQ_def]; simp [encQ_def acc, hmd, mdOf])
      · rw [hd]
        simp [g4, g5]
        exact gives_none (x := mkQ 0 []) rfl (by rw [encQ_def]; rfl)
end Go.Xe.YtalckpkiplhbcaaGreatDoor
end
section
namespace Go.Xe.YtalckpkiplhbcaaGreatDoor
open Go Go.Xe Go.Xt
set_option linter.unusedVariables false
set_option linter.unusedSimpArgs false
variable {F : FuncId → Option TFun} {O : FuncId → List TV → Option TV}
mutual
theorem nf_closed : ∀ t : QTyp, nfQ t = true → nfQ (closedQ t) = true ∧ szQ (closedQ t) ≤ szQ t
  | .mk k b l, h => by
    unfold nfQ at h
    simp only [Bool.and_eq_true, decide_eq_true_eq] at h
    unfold closedQ
    split
    · exact ⟨rfl, by rw [szQ_def, szQ_def]; simp only [mkQ_list, szQs]; omega⟩
    · obtain ⟨h1, h2, h3⟩ := nf_closeds l h.2.2
      exact ⟨nfQ_mkQ (by omega) h1, by rw [szQ_def, szQ_def]; simp only [mkQ, QTyp.list]; omega⟩
theorem nf_closeds : ∀ l : List QTyp, nfQs l = true → nfQs (closedQs l) = true ∧ (closedQs l).length = l.length ∧ szQs (closedQs l) ≤ szQs l
  | [], _ => ⟨rfl, rfl, Nat.le_refl _⟩
  | t :: l, h => by
    unfold nfQs at h
    rw [Bool.and_eq_true] at h
    obtain ⟨a1, a2⟩ := nf_closed t h.1
    obtain ⟨b1, b2, b3⟩ := nf_closeds l h.2
    unfold closedQs
    exact ⟨by unfold nfQs; rw [a1, b1]; rfl, by simp [b2], by simp only [szQs]; omega⟩
end
structure VFits (F : FuncId → Option TFun) : Prop where
  s : SFits F
  p : PFits F
  h98 : F 98 = some f98
  h153 : F 153 = some f153
  h151 : F 151 = some f151
  h28 : F 28 = some f28
  h56 : F 56 = some f56
  h96 : F 96 = some f96
  h95 : F 95 = some f95
  h149 : F 149 = some f149
  h61 : F 61 = some f61
  h63 : F 63 = some f63
  h105 : F 105 = some f105
def rightV (v : PVal) : Bool := (openV 40 v).isSome && decide (sV v ≤ 1000)
theorem szV_sV : (∀ v, szV v + 1 = 5 * sV v) ∧ ∀ l, szVs l = 5 * sVs l := by
  have h : ∀ n, (∀ v, szV v ≤ n → szV v + 1 = 5 * sV v) ∧ ∀ l, szVs l ≤ n → szVs l = 5 * sVs l := by
    intro n
    induction n with
    | zero =>
      refine ⟨fun v h => (by rw [szV_def] at h; omega), fun l h => ?_⟩
      cases l with
      | nil => rfl
      | cons x l => simp only [szVs] at h; omega
    | succ n ih =>
      have h1 : ∀ v, szV v ≤ n + 1 → szV v + 1 = 5 * sV v := fun v h => by
        rw [szV_def] at h ⊢
        have := ih.2 v.list (by omega)
        rw [sV_def]; omega
      refine ⟨h1, fun l => ?_⟩
      induction l with
      | nil => exact fun _ => rfl
      | cons x l il =>
        intro h
        simp only [szVs, sVs] at h ⊢
        have := h1 x (by omega)
        have := il (by omega)
        omega
  exact ⟨fun v => (h _).1 v (Nat.le_refl _), fun l => (h _).2 l (Nat.le_refl _)⟩
theorem right98 (V : VFits F) (N : Nat) (v : PVal) (b : Nat) (σ : Sto) (h : 3 * szV v ≤ N) (hv : OkV v) :
    tcall F O (N + 3) b 98 [.agg (encV v)] σ = some (.ret (.bool (rightV v)), σ) := by
  obtain ⟨q, hqn, hq, hqx⟩ := shape_t (O := O) V.s (N + 2) v 40 40 σ.length σ (by omega) hv rfl (Nat.le_refl _)
  have hsz := size61_t (O := O) V.h61 (N + 2) v σ.length σ (by omega) hv
  have hl := right_law v
  have eq' : encQ q = [.int .i64 q.kind, .sl .fz (q.list.map encQ)] := by rw [encQ_def, hqn]; rfl
  rw [encV_def, eq'] at hq
  rw [encV_def] at hsz
  refine tcall_pure V.h98 ?_
  unfold rightV
  rw [← hl]
  cases hs : shapeV 40 v with
  | none =>
    rw [hs] at hq
    simp at hq
    simp [x98, encV_def, hq, undT]
  | some x =>
    rw [hs] at hq
    have hxq := hqx x hs
    subst hxq
    simp at hq
    obtain ⟨hq1, hq2, hq3⟩ := nf_shape 40 v _ hs
    obtain ⟨hc1, hc2⟩ := nf_closed q hq2
    have hcl := closed_t (O := O) V.h151 (N + 2) q σ.length σ (by omega) (ofNf hq2) hq1
    have hcn : (closedQ q).nl = false := by rw [closedQ_def]; split <;> rfl
    have ec : encQ (closedQ q) = [.int .i64 (closedQ q).kind, .sl .fz ((closedQ q).list.map encQ)] := by rw [encQ_def, hcn]; rfl
    have htr := typeRight_t (O := O) V.h28 V.h56 V.h96 V.h95 V.h149 (N + 1) (closedQ q) σ.length σ (by omega) (ofNf hc1)
    rw [eq', ec] at hcl
    rw [ec] at htr
    simp only []
    cases hrt : rightT 40 (closedQ q) with
    | false => rw [hrt] at htr; simp [x98, encV_def, hq, hcl, htr, undT]
    | true =>
      rw [hrt] at htr
      by_cases hle : sV v ≤ 1000
      · have e1 : min (sV v) 1001 = sV v := by omega
        rw [e1] at hsz
        have hle' : (sV v : Int) ≤ 1000 := by omega
        simp [x98, encV_def, hq, hcl, htr, hsz, hle, hle', undT]
      · have e1 : min (sV v) 1001 = 1001 := by omega
        rw [e1] at hsz
        simp [x98, encV_def, hq, hcl, htr, hsz, hle, undT]
theorem right153 (V : VFits F) (N : Nat) (v : PVal) (b : Nat) (σ : Sto) (h : 3 * szV v ≤ N) (hv : OkV v) :
    tcall F O (N + 3) b 153 [.agg (encV v)] σ = some (.ret (.bool (rightV v)), σ) := by
  have hsz := refSize_t (O := O) V.h63 V.h105 (N + 1) v σ.length σ (by omega) hv
  rw [encV_def] at hsz
  refine tcall_pure V.h153 ?_
  unfold rightV
  by_cases hle : sV v ≤ 1000
  · have e1 : min (sV v) 1001 = sV v := by omega
    rw [e1] at hsz
    have hle' : ¬ (1000 : Int) < (sV v : Int) := by omega
    have hzz := szV_sV.1 v
    obtain ⟨q, hqn, hq, hqx⟩ := open_t (O := O) V.p (N + 2) v 40 1 σ.length σ (by omega) (by omega) hv rfl (Nat.le_refl _)
    have eq' : encQ q = [.int .i64 q.kind, .sl .fz (q.list.map encQ)] := by rw [encQ_def, hqn]; rfl
    rw [encV_def, eq'] at hq
    cases ho : (openV 40 v).isSome <;> (rw [ho] at hq; simp [x153, encV_def, hsz, hq, hle, hle'])
  · have e1 : min (sV v) 1001 = 1001 := by omega
    rw [e1] at hsz
    simp [x153, encV_def, hsz, hle]
end Go.Xe.YtalckpkiplhbcaaGreatDoor
end
section
namespace Go.Xe.YtalckpkiplhbcaaGreatDoor
open Go Go.Xe Go.Xt
set_option linter.unusedVariables false
set_option linter.unusedSimpArgs false
variable {F : FuncId → Option TFun} {O : FuncId → List TV → Option TV}
theorem idx_int {n : Int} {len : Nat} (h0 : 0 ≤ n) (h1 : n < (len : Int)) : ∃ i : Nat, n = (i : Int) ∧ i < len := ⟨n.toNat, by omega, by omega⟩
def oddsB (l : List Int) : Bool := decide (∀ x ∈ l, 1 ≤ x ∧ x ≤ 1000)
def kidsI (c : PCore) (t : PTerm) : Int :=
  if t.kind = 1 ∨ t.kind = 2 then 0
  else if t.kind = 3 then (if h : 0 ≤ t.n ∧ t.n < (c.funs.length : Int) then (c.funs[t.n.toNat]'(by omega)).params else -2)
  else if t.kind = 4 then min (max (t.kids.length : Int) 2) 4
  else if t.kind = 5 then min (t.kids.length : Int) 32
  else if t.kind = 6 then (if t.n < 1 ∨ 13 < t.n then -2 else if 12 ≤ t.n then 1 else 2)
  else if t.kind = 7 ∨ t.kind = 10 then 2
  else if t.kind = 8 ∨ t.kind = 9 then 3
  else if t.kind = 11 then 1
  else if t.kind = 12 then min (max (t.odds.length : Int) 1) 64
  else -2
def lookC (c : PCore) (slots : Int) : List TV := encC c ++ [.int .i64 slots]
theorem kids_t (h97 : F 97 = some f97) (N : Nat) (c : PCore) (t : PTerm) (ver k : Nat) (slots : Int) (b : Nat) (σ : Sto) (hk : σ.at k = some ⟨ver, .cells (lookC c slots) 69⟩) :
    tcall F O (N + 1) b 97 [.ptr k 0, .agg (encTm t)] σ = some (.ret (.int .i64 (kidsI c t)), σ) := by
  refine tcall_pure h97 ?_
  unfold lookC at hk
  rw [encC_def] at hk
  simp only [List.cons_append, List.nil_append] at hk
  unfold kidsI
  by_cases k1 : t.kind = 1
  · simp [x97, undT, encTm_def, k1]
  by_cases k2 : t.kind = 2
  · simp [x97, undT, encTm_def, k2]
  rw [if_neg (fun e => e.elim k1 k2)]
  by_cases k3 : t.kind = 3
  · rw [if_pos k3]
    by_cases h0 : 0 ≤ t.n
    case neg =>
      have h0' : t.n < 0 := by omega
      rw [dif_neg (fun e => h0 e.1)]
      simp [x97, undT, encTm_def, k3, h0', hk]
    have h0' : ¬ t.n < 0 := by omega
    by_cases h1 : t.n < (c.funs.length : Int)
    case neg =>
      have h1' : (c.funs.length : Int) ≤ t.n := by omega
      rw [dif_neg (fun e => h1 e.2)]
      simp [x97, undT, encTm_def, k3, h0', h1', hk]
    rw [dif_pos ⟨h0, h1⟩]
    obtain ⟨i, hi, hil⟩ := idx_int h0 h1
    have h1' : ¬ c.funs.length ≤ i := by omega
    have h0i : ¬ (i : Int) < 0 := by omega
    simp only [hi, Int.toNat_natCast]
    simp [x97, undT, encTm_def, k3, hi, h0i, h1', hil, hk, encBd_def c.funs[i]]
  rw [if_neg k3]
  by_cases k4 : t.kind = 4
  · rw [if_pos k4]
    simp [x97, undT, encTm_def, k4, hk, ltInt_eq, intsT]
    by_cases h1 : (t.kids.length : Int) < 2
    · have h2 : ¬ (4 : Int) < 2 := by omega
      simp only [decide_eq_true h1, decide_eq_false h2]; omega
    · by_cases h2 : (4 : Int) < (t.kids.length : Int)
      · simp only [decide_eq_false h1, decide_eq_true h2]; omega
      · simp only [decide_eq_false h1, decide_eq_false h2]; omega
  rw [if_neg k4]
  by_cases k5 : t.kind = 5
  · rw [if_pos k5]
    simp [x97, undT, encTm_def, k5, hk, ltInt_eq, intsT]
    by_cases h2 : (32 : Int) < (t.kids.length : Int)
    · simp only [decide_eq_true h2]; omega
    · simp only [decide_eq_false h2]; omega
  rw [if_neg k5]
  by_cases k6 : t.kind = 6
  · rw [if_pos k6]
    by_cases h1 : t.n < 1
    · rw [if_pos (.inl h1)]
      simp [x97, undT, encTm_def, k6, hk, h1]
    by_cases h2 : 13 < t.n
    · rw [if_pos (.inr h2)]
      simp [x97, undT, encTm_def, k6, hk, h1, h2]
    rw [if_neg (by omega)]
    by_cases h3 : 12 ≤ t.n
    · rw [if_pos h3]
      simp [x97, undT, encTm_def, k6, hk, h1, h2, h3]
    · rw [if_neg h3]
      simp [x97, undT, encTm_def, k6, hk, h1, h2, h3]
  rw [if_neg k6]
  by_cases k7 : t.kind = 7
  · simp [x97, undT, encTm_def, k7, hk]
  by_cases k10 : t.kind = 10
  · simp [x97, undT, encTm_def, k10, hk]
  rw [if_neg (fun e => e.elim k7 k10)]
  by_cases k8 : t.kind = 8
  · simp [x97, undT, encTm_def, k8, hk]
  by_cases k9 : t.kind = 9
  · simp [x97, undT, encTm_def, k9, hk]
  rw [if_neg (fun e => e.elim k8 k9)]
  by_cases k11 : t.kind = 11
  · simp [x97, undT, encTm_def, k11, hk]
  rw [if_neg k11]
  by_cases k12 : t.kind = 12
  · rw [if_pos k12]
    simp [x97, undT, encTm_def, k12, hk, ltInt_eq, intsT]
    by_cases h1 : (t.odds.length : Int) < 1
    · have h2 : ¬ (64 : Int) < 1 := by omega
      simp only [decide_eq_true h1, decide_eq_false h2]; omega
    · by_cases h2 : (64 : Int) < (t.odds.length : Int)
      · simp only [decide_eq_false h1, decide_eq_true h2]; omega
      · simp only [decide_eq_false h1, decide_eq_false h2]; omega
  rw [if_neg k12]
  simp [x97, undT, encTm_def, k1, k2, k3, k4, k5, k6, k7, k8, k9, k10, k11, k12, hk]
theorem arm_t (h100 : F 100 = some f100) (N : Nat) (x : Int) (b : Nat) (σ : Sto) : tcall F O (N + 1) b 100 [.int .i64 x] σ = some (.ret (.bool (decide (x < 1 ∨ 1000 < x))), σ) := by
  refine tcall_pure h100 ?_
  by_cases h1 : x < 1
  · simp [x100, undT, h1]
  by_cases h2 : 1000 < x
  · simp [x100, undT, h1, h2]
  · simp [x100, undT, h1, h2]
theorem anyI_i (hF : F 152 = some f152) (h100 : F 100 = some f100) (N : Nat) (b : Nat) (σ : Sto) (l : List Int) (hl : l.length ≤ maxLen) (hn : l.length < N) :
    ∃ r : Int, tcall F O (N + 1) b 152 [.sl .fz (l.map encI), .func 100 [] []] σ = some (.ret (.int .i64 r), σ) ∧ decide (0 ≤ r) = l.any (fun x => decide (x < 1 ∨ 1000 < x)) := by
  suffices hh : ∃ e' σ', tcall F O (N + 1) b 152 [.sl .fz (l.map encI), .func 100 [] []] σ = some (e', σ') ∧ ∃ r : Int, e' = .ret (.int .i64 r) ∧ σ' = σ ∧ decide (0 ≤ r) = l.any (fun x => decide (x < 1 ∨ 1000 < x)) by
    obtain ⟨e', σ', q1, r, rfl, rfl, q2⟩ := hh
    exact ⟨r, q1, q2⟩
  refine tcall_of hF ?_
  simp [x152]
  obtain ⟨S, hS⟩ : ∃ S : Int → Bool, S = (fun x => decide (x < 1 ∨ 1000 < x)) := ⟨_, rfl⟩
  have hS2 : (fun x : Int => decide (x < 1) || decide (1000 < x)) = S := by rw [hS]; funext x; simp
  simp only [hS2]
  obtain ⟨I, hI⟩ : ∃ I : Nat → TAct → Sto → Prop, I = (fun j a σ' => a.df = [] ∧ σ' = σ ∧ (l.drop j).any S = l.any S ∧ a.tm.get 0 = some (.sl .fz (l.map encI)) ∧ a.tm.get 1 = some (.func 100 [] []) ∧ a.tm.get 7 = some (.int .i64 (l.length : Int)) ∧ a.tm.get 8 = some (.int .i64 j)) := ⟨_, rfl⟩
  obtain ⟨R, hR⟩ : ∃ R : TEx → TAct → Sto → Prop, R = (fun ex a σ' => a.df = [] ∧ σ' = σ ∧ (ex = .exit 0 ∧ l.any S = false ∨ ex = .ret ∧ l.any S = true ∧ ∃ r : Int, 0 ≤ r ∧ a.tm.get 4 = some (.int .i64 r))) := ⟨_, rfl⟩
  refine tw_loop I l.length R ?_ ?_ ?_ ?_ ?_
  · rw [hI]
    simp
  · omega
  · rw [hI]
    rintro j ⟨tm, df, clk⟩ σ' hj ⟨rfl, rfl, hd, h0, h1, h7, h8⟩
    rw [← hI]
    have hw := wrapJ hj hl
    rw [any_step hj] at hd
    cases N with
    | zero => omega
    | succ N =>
    have hcc := arm_t (O := O) h100 N l[j] σ'.length σ'
    have hSj : decide (l[j] < 1 ∨ 1000 < l[j]) = S l[j] := by rw [hS]
    rw [hSj] at hcc
    cases hs : S l[j] with
    | true =>
      rw [hs] at hd hcc
      simp [h0, h1, h7, h8, hj, hcc, hw, encI]
      rw [hR]
      exact ⟨rfl, rfl, .inr ⟨rfl, by simpa using hd.symm, j, by omega, by simp⟩⟩
    | false =>
      rw [hs] at hd hcc
      simp [h0, h1, h7, h8, hj, hcc, hw, encI]
      rw [hI]
      simpa [h0, h1, h7] using hd
  · rw [hI]
    rintro ⟨tm, df, clk⟩ σ' ⟨rfl, rfl, hd, h0, h1, h7, h8⟩
    rw [List.drop_of_length_le (Nat.le_refl _)] at hd
    simp [h0, h1, h7, h8]
    rw [hR]
    exact ⟨rfl, rfl, .inl ⟨rfl, hd.symm⟩⟩
  · rw [hR]
    rintro ex ⟨tm, df, clk⟩ σ' ⟨rfl, rfl, ⟨rfl, h⟩ | ⟨rfl, h, r, hr, h4⟩⟩
    · simp [h]
    · simp [h, h4, hr]
theorem any_odds (l : List Int) : l.any (fun x => decide (x < 1 ∨ 1000 < x)) = !oddsB l := by
  unfold oddsB
  induction l with
  | nil => rfl
  | cons a l ih =>
    rw [List.any_cons, ih]
    by_cases h : 1 ≤ a ∧ a ≤ 1000
    · have e : ¬ (a < 1 ∨ 1000 < a) := by omega
      rw [decide_eq_false e, Bool.false_or]
      simp [h]
    · have e : a < 1 ∨ 1000 < a := by omega
      have e2 : ¬ ∀ x ∈ a :: l, 1 ≤ x ∧ x ≤ 1000 := fun hh => h (hh a (by simp))
      rw [decide_eq_true e, decide_eq_false e2]; rfl
theorem anyI (hF : F 99 = some f99) (hI : F 152 = some f152) (h100 : F 100 = some f100) (N : Nat) (b : Nat) (σ : Sto) (l : List Int) (hl : l.length ≤ maxLen) (hn : l.length < N) :
    tcall F O (N + 2) b 99 [.sl .fz (l.map encI), .func 100 [] []] σ = some (.ret (.bool (!oddsB l)), σ) := by
  obtain ⟨r, hq, hr⟩ := anyI_i (O := O) hI h100 N σ.length σ l hl hn
  rw [any_odds] at hr
  refine tcall_pure hF ?_
  simp [x99, hq]
  exact hr
@[simp] def a101k : Ann := fun d => if d = 2 then 1 else if d = 5 then 3 else 0
def f101k : TFun := ⟨x101, a101k, true⟩
@[simp] theorem f101k_an : f101k.an = a101k := rfl
@[simp] theorem f101k_body : f101k.fn.body = x101.body := rfl
@[simp] theorem f101k_keep : f101k.keep = true := rfl
@[simp] theorem f101k_res : f101k.fn.results = [.tmp 2] := rfl
def bcells (l : List Bool) : List TV := l.map TV.bool
theorem at_app {σ : Sto} {k : Nat} (τ : Sto) (h : k < σ.length) : Sto.at (σ ++ τ) k = σ.at k := by
  simp only [Sto.at, List.getElem?_append_left h]
theorem chop_bcells (l : List Bool) : chop 1 l.length (bcells l) = l.map encB := by
  induction l with
  | nil => rfl
  | cons x l ih => simp only [bcells, List.map_cons, List.length_cons, chop] at ih ⊢; simp [ih, encB]
theorem flat_bcells (l : List Bool) : (l.map encB).flatten = bcells l := by
  induction l with
  | nil => rfl
  | cons x l ih => simp only [List.map_cons, List.flatten_cons, ih]; rfl
theorem clone_t (h101 : F 101 = some f101k) (N : Nat) (k ver cap : Nat) (l : List Bool) (b : Nat) (σ : Sto) (hk : σ.at k = some ⟨ver, .cells (bcells l) 4⟩) (hl : l ≠ []) (hl2 : l.length ≤ 1000) :
    ∃ cp, tcall F O (N + 1) b 101 [.ref k 0 1 l.length cap] σ = some (.ret (.ref (σ.length + 1) 0 1 l.length cp), σ ++ [some ⟨0, .cells [] 4⟩, some ⟨0, .cells (bcells l) 4⟩]) := by
  suffices hh : ∃ e' σ', tcall F O (N + 1) b 101 [.ref k 0 1 l.length cap] σ = some (e', σ') ∧ ∃ cp, e' = .ret (.ref (σ.length + 1) 0 1 l.length cp) ∧ σ' = σ ++ [some ⟨0, .cells [] 4⟩, some ⟨0, .cells (bcells l) 4⟩] by
    obtain ⟨e', σ', q1, cp, rfl, rfl⟩ := hh
    exact ⟨cp, q1⟩
  refine tcall_of h101 ?_
  have h1 := at_app (σ := σ) [some ⟨0, .cells [] 4⟩] (Sto.lt hk)
  rw [hk] at h1
  have h2 : (l.map encB).isEmpty = false := by cases l <;> simp_all
  have h3 : ((l.map encB).all fun c => decide (c.length = 1)) = true := by
    rw [List.all_eq_true]; intro c hc; obtain ⟨q, _, rfl⟩ := List.mem_map.1 hc; rfl
  have h4 : 0 < l.length := by cases l <;> simp_all
  have h5 : l.length ≤ 1073741824 := by omega
  have h6 : (bcells l).length = l.length := by simp [bcells]
  have h7 : ((bcells l).take l.length).any isOwn = false := by
    rw [← h6, List.take_length]; unfold bcells; rw [List.any_eq_false]; intro x hx; obtain ⟨q, _, rfl⟩ := List.mem_map.1 hx; simp [isOwn]
  have h8 := chop_bcells l
  have h9 := flat_bcells l
  have hp := at_push σ ⟨0, .cells [] 4⟩
  generalize hb : bcells l = bl at *
  simp [x101, hk, h1, h2, h3, h4, h5, h6, h7, h8, h9, hp]
end Go.Xe.YtalckpkiplhbcaaGreatDoor
end
section
namespace Go.Xe.YtalckpkiplhbcaaGreatDoor
open Go Go.Xe Go.Xt
set_option linter.unusedVariables false
set_option linter.unusedSimpArgs false
variable {F : FuncId → Option TFun} {O : FuncId → List TV → Option TV}
def tl57 : XCode := .seq (.seq (.region [⟨some 171, .addr 7 (.tmp 5), none⟩, ⟨some 172, .load1 (.tmp 171), none⟩, ⟨some 173, .lenSlice (.tmp 172), none⟩, ⟨some 174, .move (.const (.int .i64 0)), none⟩]) (.block 3 (.loop (.seq (.region [⟨some 175, .bin .lss (.tmp 174) (.tmp 173), none⟩]) (.seq (.cond (.tmp 175) .skip (.exit 3)) (.seq (.block 4 (.seq (.region [⟨some 176, .move (.tmp 174), none⟩, ⟨some 177, .indexAddr 8 (.tmp 172) (.tmp 174), none⟩, ⟨some 178, .loadN 8 (.tmp 177), none⟩, ⟨some 14, .alloc 30 [(.int .i64 0), (.int .i64 0), (.int .i64 0), (.int .i64 0), (.int .i64 0), (.slice none 0 0), (.slice none 0 0), (.slice none 0 0)], none⟩, ⟨some 13, .move (.tmp 176), none⟩, ⟨none, .store 8 (.tmp 14) (.tmp 178), none⟩]) (.seq (.region [⟨some 179, .move (.tmp 2), none⟩, ⟨some 15, .move (.tmp 179), none⟩]) (.seq (.seq (.region [⟨some 180, .move (.tmp 13), none⟩, ⟨some 181, .addr 7 (.tmp 5), none⟩, ⟨some 182, .load1 (.tmp 181), none⟩, ⟨some 183, .lenSlice (.tmp 182), none⟩, ⟨some 184, .bin .sub (.tmp 183) (.const (.int .i64 1)), none⟩, ⟨some 185, .bin .eql (.tmp 180) (.tmp 184), none⟩]) (.cond (.tmp 185) (.region [⟨some 186, .move (.tmp 9), none⟩, ⟨some 15, .move (.tmp 186), none⟩]) .skip)) (.seq (.region [⟨some 187, .move (.tmp 0), none⟩, ⟨some 188, .loadN 8 (.tmp 14), none⟩, ⟨some 189, .move (.tmp 15), none⟩, ⟨some 190, .move (.tmp 3), none⟩, ⟨some 191, .bin .sub (.tmp 190) (.const (.int .i64 1)), none⟩, ⟨some 192, .call 57 [(.tmp 187), (.tmp 188), (.tmp 189), (.tmp 191)], none⟩, ⟨some 193, .un .not (.tmp 192), none⟩]) (.cond (.tmp 193) (.seq (.region [⟨some 8, .move (.const (.bool false)), none⟩]) .ret) .skip)))))) (.region [⟨some 194, .bin .add (.tmp 174) (.const (.int .i64 1)), none⟩, ⟨some 174, .move (.tmp 194), none⟩]))))))) (.seq (.region [⟨some 8, .move (.const (.bool true)), none⟩]) .ret)
def mn57 : XCode := .seq (.seq (.region [⟨some 139, .move (.tmp 11), none⟩, ⟨some 140, .bin .gtr (.tmp 139) (.const (.int .i64 0)), none⟩]) (.cond (.tmp 140) (.seq (.seq (.region [⟨some 141, .move (.tmp 10), none⟩, ⟨some 142, .bin .lss (.tmp 141) (.const (.int .i64 0)), none⟩, ⟨some 143, .move (.tmp 142), none⟩, ⟨some 144, .move (.tmp 10), (some (143, false))⟩, ⟨some 145, .move (.tmp 0), (some (143, false))⟩, ⟨some 146, .nilCheck (.tmp 145), (some (143, false))⟩, ⟨some 147, .addr 13 (.tmp 146), (some (143, false))⟩, ⟨some 148, .load1 (.tmp 147), (some (143, false))⟩, ⟨some 149, .move (.tmp 11), (some (143, false))⟩, ⟨some 150, .bin .sub (.tmp 148) (.tmp 149), (some (143, false))⟩, ⟨some 151, .bin .gtr (.tmp 144) (.tmp 150), (some (143, false))⟩, ⟨some 152, .pick (.tmp 143) (.const (.bool true)) (.tmp 151), none⟩]) (.cond (.tmp 152) (.seq (.region [⟨some 8, .move (.const (.bool false)), none⟩]) .ret) .skip)) (.seq (.region [⟨some 153, .move (.tmp 2), none⟩, ⟨some 154, .call 101 [(.tmp 153)], none⟩, ⟨some 9, .move (.tmp 154), none⟩]) (.seq (.region [⟨some 155, .move (.tmp 11), none⟩, ⟨some 156, .move (.const (.int .i64 0)), none⟩]) (.block 1 (.loop (.seq (.region [⟨some 157, .bin .lss (.tmp 156) (.tmp 155), none⟩]) (.seq (.cond (.tmp 157) .skip (.exit 1)) (.seq (.block 2 (.seq (.region [⟨some 158, .move (.tmp 156), none⟩, ⟨some 12, .move (.tmp 158), none⟩]) (.seq (.seq (.region [⟨some 159, .move (.tmp 2), none⟩, ⟨some 160, .move (.tmp 10), none⟩, ⟨some 161, .move (.tmp 12), none⟩, ⟨some 162, .bin .add (.tmp 160) (.tmp 161), none⟩, ⟨some 163, .indexAddr 1 (.tmp 159) (.tmp 162), none⟩, ⟨some 164, .load1 (.tmp 163), none⟩]) (.cond (.tmp 164) (.seq (.region [⟨some 8, .move (.const (.bool false)), none⟩]) .ret) .skip)) (.region [⟨some 165, .move (.tmp 9), none⟩, ⟨some 166, .move (.tmp 10), none⟩, ⟨some 167, .move (.tmp 12), none⟩, ⟨some 168, .bin .add (.tmp 166) (.tmp 167), none⟩, ⟨some 169, .indexAddr 1 (.tmp 165) (.tmp 168), none⟩, ⟨none, .store 1 (.tmp 169) (.const (.bool true)), none⟩])))) (.region [⟨some 170, .bin .add (.tmp 156) (.const (.int .i64 1)), none⟩, ⟨some 156, .move (.tmp 170), none⟩]))))))))) .skip)) tl57
theorem x57_cut : x57 = ⟨195, [.tmp 8], .seq (.region [⟨some 5, .box 30 (.tmp 1), none⟩, ⟨some 8, .move (.const (.bool false)), none⟩]) (.seq (.seq (.regionD [⟨some 16, .move (.tmp 3), none⟩, ⟨some 17, .bin .lss (.tmp 16) (.const (.int .i64 1)), none⟩, ⟨some 18, .move (.tmp 17), none⟩, ⟨some 19, .move (.tmp 0), (some (18, false))⟩, ⟨some 20, .loadN 8 (.tmp 5), (some (18, false))⟩, ⟨some 21, .call 97 [(.tmp 19), (.tmp 20)], (some (18, false))⟩, ⟨some 22, .addr 7 (.tmp 5), (some (18, false))⟩, ⟨some 23, .load1 (.tmp 22), (some (18, false))⟩, ⟨some 24, .lenSlice (.tmp 23), (some (18, false))⟩, ⟨some 25, .bin .neq (.tmp 21) (.tmp 24), (some (18, false))⟩, ⟨some 26, .pick (.tmp 18) (.const (.bool true)) (.tmp 25), none⟩] [(5, 7)]) (.cond (.tmp 26) (.seq (.region [⟨some 8, .move (.const (.bool false)), none⟩]) .ret) .skip)) (.seq (.region [⟨some 27, .move (.tmp 2), none⟩, ⟨some 9, .move (.tmp 27), none⟩, ⟨some 10, .move (.const (.int .i64 0)), none⟩, ⟨some 11, .move (.const (.int .i64 0)), none⟩]) (.seq (.seq (.region [⟨some 28, .addr 0 (.tmp 5), none⟩, ⟨some 29, .load1 (.tmp 28), none⟩]) (.block 0 (.seq (.region [⟨some 31, .bin .eql (.tmp 29) (.const (.int .i64 1)), none⟩, ⟨some 30, .move (.tmp 31), none⟩]) (.cond (.tmp 30) (.seq (.region [⟨some 32, .addr 3 (.tmp 5), none⟩, ⟨some 33, .loadN 3 (.tmp 32), none⟩, ⟨some 34, .call 98 [(.tmp 33)], none⟩, ⟨some 8, .move (.tmp 34), none⟩]) .ret) (.seq (.region [⟨some 36, .bin .eql (.tmp 29) (.const (.int .i64 2)), none⟩, ⟨some 35, .move (.tmp 36), none⟩]) (.cond (.tmp 35) (.seq (.regionD [⟨some 37, .addr 1 (.tmp 5), none⟩, ⟨some 38, .load1 (.tmp 37), none⟩, ⟨some 39, .bin .geq (.tmp 38) (.const (.int .i64 0)), none⟩, ⟨some 40, .move (.tmp 39), none⟩, ⟨some 41, .addr 1 (.tmp 5), (some (40, true))⟩, ⟨some 42, .load1 (.tmp 41), (some (40, true))⟩, ⟨some 43, .move (.tmp 0), (some (40, true))⟩, ⟨some 44, .nilCheck (.tmp 43), (some (40, true))⟩, ⟨some 45, .addr 13 (.tmp 44), (some (40, true))⟩, ⟨some 46, .load1 (.tmp 45), (some (40, true))⟩, ⟨some 47, .bin .lss (.tmp 42) (.tmp 46), (some (40, true))⟩, ⟨some 48, .pick (.tmp 40) (.tmp 47) (.const (.bool false)), none⟩, ⟨some 49, .move (.tmp 48), none⟩, ⟨some 50, .move (.tmp 2), (some (49, true))⟩, ⟨some 51, .addr 1 (.tmp 5), (some (49, true))⟩, ⟨some 52, .load1 (.tmp 51), (some (49, true))⟩, ⟨some 53, .indexAddr 1 (.tmp 50) (.tmp 52), (some (49, true))⟩, ⟨some 54, .load1 (.tmp 53), (some (49, true))⟩, ⟨some 55, .pick (.tmp 49) (.tmp 54) (.const (.bool false)), none⟩, ⟨some 8, .move (.tmp 55), none⟩] []) .ret) (.seq (.region [⟨some 57, .bin .eql (.tmp 29) (.const (.int .i64 7)), none⟩, ⟨some 56, .move (.tmp 57), none⟩]) (.cond (.tmp 56) (.seq (.regionD [⟨some 58, .addr 1 (.tmp 5), none⟩, ⟨some 59, .load1 (.tmp 58), none⟩, ⟨some 60, .addr 2 (.tmp 5), none⟩, ⟨some 61, .load1 (.tmp 60), none⟩, ⟨some 10, .move (.tmp 59), none⟩, ⟨some 11, .move (.tmp 61), none⟩] []) (.seq (.region [⟨some 62, .move (.tmp 11), none⟩, ⟨some 63, .bin .lss (.tmp 62) (.const (.int .i64 1)), none⟩, ⟨some 64, .move (.tmp 63), none⟩, ⟨some 65, .move (.tmp 11), (some (64, false))⟩, ⟨some 66, .bin .gtr (.tmp 65) (.const (.int .i64 4)), (some (64, false))⟩, ⟨some 67, .pick (.tmp 64) (.const (.bool true)) (.tmp 66), none⟩]) (.cond (.tmp 67) (.seq (.region [⟨some 8, .move (.const (.bool false)), none⟩]) .ret) .skip))) (.seq (.region [⟨some 69, .bin .eql (.tmp 29) (.const (.int .i64 9)), none⟩, ⟨some 68, .move (.tmp 69), none⟩]) (.cond (.tmp 68) (.region [⟨some 70, .addr 1 (.tmp 5), none⟩, ⟨some 71, .load1 (.tmp 70), none⟩, ⟨some 10, .move (.tmp 71), none⟩, ⟨some 11, .move (.const (.int .i64 2)), none⟩]) (.seq (.region [⟨some 73, .bin .eql (.tmp 29) (.const (.int .i64 11)), none⟩, ⟨some 72, .move (.tmp 73), none⟩]) (.cond (.tmp 72) (.seq (.regionD [⟨some 74, .addr 6 (.tmp 5), none⟩, ⟨some 75, .load1 (.tmp 74), none⟩, ⟨some 76, .lenSlice (.tmp 75), none⟩, ⟨some 77, .bin .neq (.tmp 76) (.const (.int .i64 2)), none⟩, ⟨some 78, .move (.tmp 77), none⟩, ⟨some 79, .addr 6 (.tmp 5), (some (78, false))⟩, ⟨some 80, .load1 (.tmp 79), (some (78, false))⟩, ⟨some 81, .indexAddr 1 (.tmp 80) (.const (.int .i64 0)), (some (78, false))⟩, ⟨some 82, .load1 (.tmp 81), (some (78, false))⟩, ⟨some 83, .bin .lss (.tmp 82) (.const (.int .i64 0)), (some (78, false))⟩, ⟨some 84, .pick (.tmp 78) (.const (.bool true)) (.tmp 83), none⟩, ⟨some 85, .move (.tmp 84), none⟩, ⟨some 86, .addr 6 (.tmp 5), (some (85, false))⟩, ⟨some 87, .load1 (.tmp 86), (some (85, false))⟩, ⟨some 88, .indexAddr 1 (.tmp 87) (.const (.int .i64 0)), (some (85, false))⟩, ⟨some 89, .load1 (.tmp 88), (some (85, false))⟩, ⟨some 90, .addr 6 (.tmp 5), (some (85, false))⟩, ⟨some 91, .load1 (.tmp 90), (some (85, false))⟩, ⟨some 92, .indexAddr 1 (.tmp 91) (.const (.int .i64 1)), (some (85, false))⟩, ⟨some 93, .load1 (.tmp 92), (some (85, false))⟩, ⟨some 94, .bin .gtr (.tmp 89) (.tmp 93), (some (85, false))⟩, ⟨some 95, .pick (.tmp 85) (.const (.bool true)) (.tmp 94), none⟩, ⟨some 96, .move (.tmp 95), none⟩, ⟨some 97, .addr 6 (.tmp 5), (some (96, false))⟩, ⟨some 98, .load1 (.tmp 97), (some (96, false))⟩, ⟨some 99, .indexAddr 1 (.tmp 98) (.const (.int .i64 1)), (some (96, false))⟩, ⟨some 100, .load1 (.tmp 99), (some (96, false))⟩, ⟨some 101, .bin .lss (.tmp 100) (.const (.int .i64 1)), (some (96, false))⟩, ⟨some 102, .pick (.tmp 96) (.const (.bool true)) (.tmp 101), none⟩, ⟨some 103, .move (.tmp 102), none⟩, ⟨some 104, .addr 6 (.tmp 5), (some (103, false))⟩, ⟨some 105, .load1 (.tmp 104), (some (103, false))⟩, ⟨some 106, .indexAddr 1 (.tmp 105) (.const (.int .i64 1)), (some (103, false))⟩, ⟨some 107, .load1 (.tmp 106), (some (103, false))⟩, ⟨some 108, .bin .gtr (.tmp 107) (.const (.int .i64 1000)), (some (103, false))⟩, ⟨some 109, .pick (.tmp 103) (.const (.bool true)) (.tmp 108), none⟩] []) (.cond (.tmp 109) (.seq (.region [⟨some 8, .move (.const (.bool false)), none⟩]) .ret) .skip)) (.seq (.region [⟨some 111, .bin .eql (.tmp 29) (.const (.int .i64 12)), none⟩, ⟨some 110, .move (.tmp 111), none⟩]) (.cond (.tmp 110) (.seq (.regionD [⟨some 112, .addr 6 (.tmp 5), none⟩, ⟨some 113, .load1 (.tmp 112), none⟩, ⟨some 114, .lenSlice (.tmp 113), none⟩, ⟨some 115, .addr 7 (.tmp 5), none⟩, ⟨some 116, .load1 (.tmp 115), none⟩, ⟨some 117, .lenSlice (.tmp 116), none⟩, ⟨some 118, .bin .neq (.tmp 114) (.tmp 117), none⟩, ⟨some 119, .move (.tmp 118), none⟩, ⟨some 120, .addr 1 (.tmp 5), (some (119, false))⟩, ⟨some 121, .load1 (.tmp 120), (some (119, false))⟩, ⟨some 122, .bin .lss (.tmp 121) (.const (.int .i64 0)), (some (119, false))⟩, ⟨some 123, .pick (.tmp 119) (.const (.bool true)) (.tmp 122), none⟩, ⟨some 124, .move (.tmp 123), none⟩, ⟨some 125, .addr 1 (.tmp 5), (some (124, false))⟩, ⟨some 126, .load1 (.tmp 125), (some (124, false))⟩, ⟨some 127, .move (.tmp 0), (some (124, false))⟩, ⟨some 128, .nilCheck (.tmp 127), (some (124, false))⟩, ⟨some 129, .addr 0 (.tmp 128), (some (124, false))⟩, ⟨some 130, .addr 12 (.tmp 129), (some (124, false))⟩, ⟨some 131, .load1 (.tmp 130), (some (124, false))⟩, ⟨some 132, .bin .geq (.tmp 126) (.tmp 131), (some (124, false))⟩, ⟨some 133, .pick (.tmp 124) (.const (.bool true)) (.tmp 132), none⟩, ⟨some 134, .move (.tmp 133), none⟩, ⟨some 135, .addr 6 (.tmp 5), (some (134, false))⟩, ⟨some 136, .load1 (.tmp 135), (some (134, false))⟩, ⟨some 137, .call 99 [(.tmp 136), (.func 100)], (some (134, false))⟩, ⟨some 138, .pick (.tmp 134) (.const (.bool true)) (.tmp 137), none⟩] []) (.cond (.tmp 138) (.seq (.region [⟨some 8, .move (.const (.bool false)), none⟩]) .ret) .skip)) .skip)))))))))))))) mn57)))⟩ := rfl
def rightKids (f : List Bool → PTerm → Bool) (bd inner : List Bool) : List PTerm → Bool
  | [] => true
  | k :: r => f (if r.length = 0 then inner else bd) k && rightKids f bd inner r
theorem rightKids_step {f : List Bool → PTerm → Bool} {bd inner : List Bool} {l : List PTerm} {j : Nat} (hj : j < l.length) : rightKids f bd inner (l.drop j) = (f (if j + 1 = l.length then inner else bd) l[j] && rightKids f bd inner (l.drop (j + 1))) := by
  rw [List.drop_eq_getElem_cons hj]
  simp only [rightKids, List.length_drop]
  have e : (l.length - (j + 1) = 0) = (j + 1 = l.length) := by apply propext; omega
  simp only [e]
theorem at_take {σ σ' : Sto} (h : σ'.take σ.length = σ) {k : Nat} {o : TObj} (hk : σ.at k = some o) : σ'.at k = some o := by
  have hl := Sto.lt hk
  rw [← hk]
  have e : σ[k]? = σ'[k]? := by
    conv => lhs; rw [← h]
    rw [List.getElem?_take_of_lt hl]
  simp only [Sto.at, e]
set_option maxHeartbeats 1000000 in
theorem tail_v (N : Nat) (R : List Bool → PTerm → Bool) (t : PTerm) (ht : OkTm t) (bd inner : List Bool) (left : Int) (hl1 : 1 ≤ left) (hl2 : left ≤ 200) (p kb ki : Nat) (cap cap' : Nat) (look : TObj) (vb vi : Nat) (σ0 : Sto)
    (hp : σ0.at p = some look) (hb : σ0.at kb = some ⟨vb, .cells (bcells bd) 4⟩) (hN : t.kids.length < N) (hbl : bd.length = inner.length)
    (ih : ∀ x ∈ t.kids, ∀ (bd' : List Bool) (kb' cap' ver b : Nat) (σ : Sto), σ.at p = some look → σ.at kb' = some ⟨ver, .cells (bcells bd') 4⟩ → bd'.length = bd.length →
      tcall F O N b 57 [.ptr p 0, .agg (encTm x), .ref kb' 0 1 bd'.length cap', .int .i64 (left - 1)] σ = some (.ret (.bool (R bd' x)), σ))
    (a : TAct) (σ : Sto) (hdf : a.df = []) (g0 : a.tm.get 0 = some (.ptr p 0)) (g2 : a.tm.get 2 = some (.ref kb 0 1 bd.length cap)) (g3 : a.tm.get 3 = some (.int .i64 left)) (g5 : a.tm.get 5 = some (.bx 0 (encTm t) 30))
    (g9 : a.tm.get 9 = some (.ref ki 0 1 inner.length cap')) (htk : σ.take σ0.length = σ0) (hi : σ.at ki = some ⟨vi, .cells (bcells inner) 4⟩) :
    Tw a57 σ0.length (tcall F O N) N (Fin f57 σ0.length fun e σ' => e = .ret (.bool (rightKids R bd inner t.kids)) ∧ σ' = σ0) [] (tcode a57 σ0.length (tcall F O N) N tl57 a σ) := by
  obtain ⟨tm, df, clk⟩ := a
  simp only at hdf g0 g2 g3 g5 g9
  subst hdf
  have hsub : IntKind.i64.wrap (left - 1) = left - 1 := by rw [wrap_in] <;> omega
  have g5' := g5
  rw [encTm_def] at g5
  simp [tl57, g0, g2, g3, g5, g9]
  obtain ⟨I, hI⟩ : ∃ I : Nat → TAct → Sto → Prop, I = (fun j a' σ' => a'.df = [] ∧ σ' = σ ∧ rightKids R bd inner (t.kids.drop j) = rightKids R bd inner t.kids ∧ a'.tm.get 0 = some (.ptr p 0) ∧ a'.tm.get 2 = some (.ref kb 0 1 bd.length cap) ∧ a'.tm.get 3 = some (.int .i64 left) ∧ a'.tm.get 5 = some (.bx 0 (encTm t) 30) ∧ a'.tm.get 9 = some (.ref ki 0 1 inner.length cap') ∧ a'.tm.get 172 = some (.sl .fz (t.kids.map encTm)) ∧ a'.tm.get 173 = some (.int .i64 (t.kids.length : Int)) ∧ a'.tm.get 174 = some (.int .i64 j)) := ⟨_, rfl⟩
  obtain ⟨Q, hQ⟩ : ∃ R' : TEx → TAct → Sto → Prop, R' = (fun ex a' σ' => a'.df = [] ∧ σ' = σ ∧ (ex = .exit 3 ∧ rightKids R bd inner t.kids = true ∨ ex = .ret ∧ rightKids R bd inner t.kids = false ∧ a'.tm.get 8 = some (.bool false))) := ⟨_, rfl⟩
  refine tw_loop I t.kids.length Q ?_ hN ?_ ?_ ?_
  · rw [hI]
    exact ⟨rfl, rfl, by rw [List.drop_zero], by simp [g0], by simp [g2], by simp [g3], by simp [g5'], by simp [g9], by simp, by simp, by simp⟩
  · rw [hI]
    rintro j ⟨tm, df, clk⟩ σ' hj ⟨rfl, rfl, hd, g0, g2, g3, g5, g9, g172, g173, g174⟩
    rw [← hI]
    have hw := wrapJ hj ht.len
    rw [rightKids_step hj] at hd
    have g5' := g5
    rw [encTm_def] at g5
    have hws : IntKind.i64.wrap ((t.kids.length : Int) - 1) = (t.kids.length : Int) - 1 := by rw [wrap_in] <;> (have := ht.len; unfold maxLen at this; omega)
    by_cases hlast : j + 1 = t.kids.length
    · have hcc := ih t.kids[j] (List.getElem_mem hj) inner ki cap' vi σ0.length σ' (at_take htk hp) hi hbl.symm
      rw [encTm_def] at hcc
      have hlast' : ((j : Int) = (t.kids.length : Int) - 1) = True := eq_true (by omega)
      rw [if_pos hlast] at hd
      cases hr : R inner t.kids[j] with
      | true =>
        rw [hr] at hd hcc
        simp [g0, g2, g3, g5, g9, g172, g173, g174, hj, hw, hws, hsub, hcc, hlast', encTm_def t.kids[j]]
        rw [hI]
        exact ⟨rfl, rfl, by simpa using hd, by simp [g0], by simp [g2], by simp [g3], by simp [g5'], by simp [g9], by simp [g172], by simp [g173], by simp⟩
      | false =>
        rw [hr] at hd hcc
        simp [g0, g2, g3, g5, g9, g172, g173, g174, hj, hw, hws, hsub, hcc, hlast', encTm_def t.kids[j]]
        rw [hQ]
        exact ⟨rfl, rfl, .inr ⟨rfl, by simpa using hd.symm, by simp⟩⟩
    · have hcc := ih t.kids[j] (List.getElem_mem hj) bd kb cap vb σ0.length σ' (at_take htk hp) (at_take htk hb) rfl
      rw [encTm_def] at hcc
      have hlast' : ¬ (j : Int) = (t.kids.length : Int) - 1 := by omega
      rw [if_neg hlast] at hd
      cases hr : R bd t.kids[j] with
      | true =>
        rw [hr] at hd hcc
        simp [g0, g2, g3, g5, g9, g172, g173, g174, hj, hw, hws, hsub, hcc, hlast', encTm_def t.kids[j]]
        rw [hI]
        exact ⟨rfl, rfl, by simpa using hd, by simp [g0], by simp [g2], by simp [g3], by simp [g5'], by simp [g9], by simp [g172], by simp [g173], by simp⟩
      | false =>
        rw [hr] at hd hcc
        simp [g0, g2, g3, g5, g9, g172, g173, g174, hj, hw, hws, hsub, hcc, hlast', encTm_def t.kids[j]]
        rw [hQ]
        exact ⟨rfl, rfl, .inr ⟨rfl, by simpa using hd.symm, by simp⟩⟩
  · rw [hI]
    rintro ⟨tm, df, clk⟩ σ' ⟨rfl, rfl, hd, g0, g2, g3, g5, g9, g172, g173, g174⟩
    rw [List.drop_of_length_le (Nat.le_refl _)] at hd
    simp [g173, g174]
    rw [hQ]
    exact ⟨rfl, rfl, .inl ⟨rfl, by rw [← hd]; rfl⟩⟩
  · rw [hQ]
    rintro ex ⟨tm, df, clk⟩ σ' ⟨rfl, rfl, ⟨rfl, h⟩ | ⟨rfl, h, g8⟩⟩
    · simp [h, htk]
    · simp [h, g8, htk]
end Go.Xe.YtalckpkiplhbcaaGreatDoor
end
section
namespace Go.Xe.YtalckpkiplhbcaaGreatDoor
open Go Go.Xe Go.Xt
set_option linter.unusedVariables false
set_option linter.unusedSimpArgs false
variable {F : FuncId → Option TFun} {O : FuncId → List TV → Option TV}
def anyB (bd : List Bool) (f : Nat) : Nat → Bool
  | 0 => false
  | n + 1 => (bd[f]? == some true) || anyB bd (f + 1) n
def setB (bd : List Bool) (f : Nat) (v : Bool) : Nat → List Bool
  | 0 => bd
  | n + 1 => (setB bd f v n).set (f + n) v
@[simp] theorem setB_len (bd : List Bool) (f : Nat) (v : Bool) : ∀ n, (setB bd f v n).length = bd.length
  | 0 => rfl
  | n + 1 => by simp [setB, setB_len bd f v n]
theorem take_set_ge {α : Type} {l : List α} {i n : Nat} {x : α} (h : n ≤ i) : (l.set i x).take n = l.take n := by
  rw [List.take_set, List.set_eq_of_length_le (by simp; omega)]
theorem put_bcells (l : List Bool) (o : Nat) (v : Bool) (h : o < l.length) : putAt (bcells l) o [.bool v] = bcells (l.set o v) := by
  unfold putAt bcells
  rw [List.map_set]
  simp only [List.length_cons, List.length_nil]
  rw [List.set_eq_take_append_cons_drop, if_pos (by simpa using h)]
  simp
theorem get_bcells {l : List Bool} {o : Nat} (h : o < l.length) : (bcells l)[o]? = some (.bool l[o]) := by
  unfold bcells; simp [h]
set_option maxHeartbeats 2000000 in
theorem many_v (h101 : F 101 = some f101k) (N : Nat) (R : List Bool → PTerm → Bool) (t : PTerm) (ht : OkTm t) (bd : List Bool) (left : Int) (hl1 : 1 ≤ left) (hl2 : left ≤ 200) (p kb : Nat) (cap : Nat) (c : PCore) (vl vb : Nat) (σ0 : Sto)
    (hp : σ0.at p = some ⟨vl, .cells (lookC c (bd.length : Int)) 69⟩) (hb : σ0.at kb = some ⟨vb, .cells (bcells bd) 4⟩) (hN : t.kids.length < N) (hbl : bd.length ≤ 1000)
    (ih : ∀ x ∈ t.kids, ∀ (bd' : List Bool) (kb' cap' ver b : Nat) (σ : Sto), σ.at p = some ⟨vl, .cells (lookC c (bd.length : Int)) 69⟩ → σ.at kb' = some ⟨ver, .cells (bcells bd') 4⟩ → bd'.length = bd.length →
      tcall F O N b 57 [.ptr p 0, .agg (encTm x), .ref kb' 0 1 bd'.length cap', .int .i64 (left - 1)] σ = some (.ret (.bool (R bd' x)), σ))
    (fr : Int) (n : Nat) (hn : n ≤ 4) (hfr : I64 fr) (hn4 : 5 ≤ N)
    (a : TAct) (hdf : a.df = []) (g0 : a.tm.get 0 = some (.ptr p 0)) (g2 : a.tm.get 2 = some (.ref kb 0 1 bd.length cap)) (g3 : a.tm.get 3 = some (.int .i64 left)) (g5 : a.tm.get 5 = some (.bx 0 (encTm t) 30))
    (g9 : a.tm.get 9 = some (.ref kb 0 1 bd.length cap)) (g10 : a.tm.get 10 = some (.int .i64 fr)) (g11 : a.tm.get 11 = some (.int .i64 (n : Int))) :
    Tw a57 σ0.length (tcall F O N) N (Fin f57 σ0.length fun e σ' => e = .ret (.bool (if n = 0 then rightKids R bd bd t.kids else (decide (0 ≤ fr ∧ fr ≤ (bd.length : Int) - n) && !anyB bd fr.toNat n) && rightKids R bd (setB bd fr.toNat true n) t.kids)) ∧ σ' = σ0) [] (tcode a57 σ0.length (tcall F O N) N mn57 a σ0) := by
  by_cases n0 : n = 0
  · subst n0
    obtain ⟨tm, df, clk⟩ := a
    simp only at hdf g0 g2 g3 g5 g9 g10 g11
    subst hdf
    simp only [if_pos]
    simp [mn57, g11]
    exact tail_v N R t ht bd bd left hl1 hl2 p kb kb cap cap _ vb vb σ0 hp hb hN rfl ih _ _ rfl (by simp [g0]) (by simp [g2]) (by simp [g3]) (by simp [g5]) (by simp [g9]) (by simp) hb
  rw [if_neg n0]
  obtain ⟨tm, df, clk⟩ := a
  simp only at hdf g0 g2 g3 g5 g9 g10 g11
  subst hdf
  have hn1 : (0 : Int) < (n : Int) := by omega
  have hn1' : 0 < n := by omega
  have hlk := hp
  unfold lookC at hlk
  rw [encC_def] at hlk
  simp only [List.cons_append, List.nil_append] at hlk
  have hws : IntKind.i64.wrap ((bd.length : Int) - n) = (bd.length : Int) - n := by rw [wrap_in] <;> omega
  by_cases f0 : 0 ≤ fr
  case neg =>
    have f0' : fr < 0 := by omega
    rw [decide_eq_false (fun e => f0 e.1)]
    simp [mn57, g0, g2, g3, g9, g10, g11, hn1, hn1', f0', undT]
  have f0' : ¬ fr < 0 := by omega
  by_cases f1 : fr ≤ (bd.length : Int) - n
  case neg =>
    have f1' : (bd.length : Int) - n < fr := by omega
    rw [decide_eq_false (fun e => f1 e.2)]
    simp [mn57, g0, g2, g3, g9, g10, g11, hn1, hn1', f0', f1', hlk, hws, undT]
  have f1' : ¬ (bd.length : Int) - n < fr := by omega
  rw [decide_eq_true ⟨f0, f1⟩, Bool.true_and]
  obtain ⟨f, hf⟩ : ∃ f : Nat, fr = (f : Int) := ⟨fr.toNat, by omega⟩
  subst hf
  rw [Int.toNat_natCast]
  have hne : bd ≠ [] := by rintro rfl; simp at f1; omega
  cases N with
  | zero => omega
  | succ M =>
  obtain ⟨cp, hcl⟩ := clone_t (O := O) h101 M kb vb cap bd σ0.length σ0 hb hne hbl
  simp [mn57, g0, g2, g3, g9, g10, g11, hn1, hn1', f0', f1', hlk, hws, hcl, undT]
  obtain ⟨I, hI⟩ : ∃ I : Nat → TAct → Sto → Prop, I = (fun j a' σ' => a'.df = [] ∧ σ'.take σ0.length = σ0 ∧ (∃ ver, σ'.at (σ0.length + 1) = some ⟨ver, .cells (bcells (setB bd f true j)) 4⟩) ∧ anyB bd (f + j) (n - j) = anyB bd f n ∧ a'.tm.get 0 = some (.ptr p 0) ∧ a'.tm.get 2 = some (.ref kb 0 1 bd.length cap) ∧ a'.tm.get 3 = some (.int .i64 left) ∧ a'.tm.get 5 = some (.bx 0 (encTm t) 30) ∧ a'.tm.get 9 = some (.ref (σ0.length + 1) 0 1 bd.length cp) ∧ a'.tm.get 10 = some (.int .i64 (f : Int)) ∧ a'.tm.get 155 = some (.int .i64 (n : Int)) ∧ a'.tm.get 156 = some (.int .i64 j)) := ⟨_, rfl⟩
  obtain ⟨Q, hQ⟩ : ∃ R' : TEx → TAct → Sto → Prop, R' = (fun ex a' σ' => a'.df = [] ∧ σ'.take σ0.length = σ0 ∧ (ex = .exit 1 ∧ anyB bd f n = false ∧ (∃ ver, σ'.at (σ0.length + 1) = some ⟨ver, .cells (bcells (setB bd f true n)) 4⟩) ∧ a'.tm.get 0 = some (.ptr p 0) ∧ a'.tm.get 2 = some (.ref kb 0 1 bd.length cap) ∧ a'.tm.get 3 = some (.int .i64 left) ∧ a'.tm.get 5 = some (.bx 0 (encTm t) 30) ∧ a'.tm.get 9 = some (.ref (σ0.length + 1) 0 1 bd.length cp) ∨ ex = .ret ∧ anyB bd f n = true ∧ a'.tm.get 8 = some (.bool false))) := ⟨_, rfl⟩
  refine tw_loop I n Q ?_ (by omega) ?_ ?_ ?_
  · rw [hI]
    exact ⟨rfl, by simp, ⟨0, by simp [Sto.at, setB]⟩, by rw [Nat.add_zero, Nat.sub_zero], by simp [g0], by simp [g2], by simp [g3], by simp [g5], by simp, by simp [g10], by simp, by simp⟩
  · rw [hI]
    rintro j ⟨tm, df, clk⟩ σ' hj ⟨rfl, htk, ⟨ver, hv⟩, hd, g0, g2, g3, g5, g9, g10, g155, g156⟩
    rw [← hI]
    have hj' : (j : Int) < (n : Int) := by omega
    have hw : IntKind.i64.wrap ((j : Int) + 1) = ((j + 1 : Nat) : Int) := by rw [wrap_in] <;> omega
    obtain ⟨m, hm⟩ : ∃ m, m = f + j := ⟨_, rfl⟩
    have hwf : IntKind.i64.wrap ((f : Int) + (j : Int)) = (m : Int) := by rw [wrap_in] <;> omega
    have hfj : m < bd.length := by omega
    have e1 : n - j = (n - (j + 1)) + 1 := by omega
    rw [e1] at hd
    simp only [anyB] at hd
    rw [← hm] at hd
    rw [List.getElem?_eq_getElem hfj] at hd
    have hfj2 : m + 1 ≤ bd.length := by omega
    have hbt := at_take htk hb
    have hgb := get_bcells hfj
    have hfl : m < (setB bd f true j).length := by simpa using hfj
    have hpb := put_bcells (setB bd f true j) m true hfl
    have hle : (bcells (setB bd f true j)).length = bd.length := by simp [bcells]
    have hle2 : (bcells bd).length = bd.length := by simp [bcells]
    generalize hbv : bd[m] = bv at hd hgb
    generalize hB1 : bcells bd = B1 at hbt hgb hle2
    generalize hB2 : bcells (setB bd f true j) = B2 at hv hpb hle
    cases bv with
    | true =>
      simp at hd
      simp [g0, g2, g3, g5, g9, g10, g155, g156, hj, hj', hw, hwf, hfj, hbt, hgb]
      rw [hQ]
      exact ⟨rfl, htk, .inr ⟨rfl, hd, by simp⟩⟩
    | false =>
      simp at hd
      simp [g0, g2, g3, g5, g9, g10, g155, g156, hj, hj', hw, hwf, hfj, hbt, hgb, hv, hle, hfj2]
      rw [hI]
      refine ⟨rfl, by rw [take_set_ge (by omega)]; exact htk, ⟨ver + 1, ?_⟩, by rw [← hd, show f + (j + 1) = m + 1 by omega], by simp [g0], by simp [g2], by simp [g3], by simp [g5], by simp [g9], by simp [g10], by simp [g155], by simp⟩
      simp only [setB]
      rw [← hm, ← hpb]
      have hlt := Sto.lt hv
      simp [Sto.at, hlt]
  · rw [hI]
    rintro ⟨tm, df, clk⟩ σ' ⟨rfl, htk, hv, hd, g0, g2, g3, g5, g9, g10, g155, g156⟩
    rw [Nat.sub_self] at hd
    simp [g155, g156]
    rw [hQ]
    exact ⟨rfl, htk, .inl ⟨rfl, hd.symm, hv, by simp [g0], by simp [g2], by simp [g3], by simp [g5], by simp [g9]⟩⟩
  · rw [hQ]
    rintro ex ⟨tm, df, clk⟩ σ' ⟨rfl, htk, ⟨rfl, hd, ⟨ver, hv⟩, g0, g2, g3, g5, g9⟩ | ⟨rfl, hd, g8⟩⟩
    · rw [hd]
      simp
      exact tail_v (M + 1) R t ht bd (setB bd f true n) left hl1 hl2 p kb (σ0.length + 1) cap cp _ vb ver σ0 hp hb hN (by simp) ih _ _ rfl (by simp [g0]) (by simp [g2]) (by simp [g3]) (by simp [g5]) (by simp [g9]) htk hv
    · rw [hd]
      simp [g8, htk]
end Go.Xe.YtalckpkiplhbcaaGreatDoor
end
section
namespace Go.Xe.YtalckpkiplhbcaaGreatDoor
open Go Go.Xe Go.Xt
set_option linter.unusedVariables false
set_option linter.unusedSimpArgs false
variable {F : FuncId → Option TFun} {O : FuncId → List TV → Option TV}
def odds2 (l : List Int) : Bool := match l with
  | [x, y] => decide (0 ≤ x ∧ x ≤ y ∧ 1 ≤ y ∧ y ≤ 1000)
  | _ => false
def freeB (bd : List Bool) (fr : Int) (n : Nat) : Bool := decide (0 ≤ fr ∧ fr ≤ (bd.length : Int) - n) && !anyB bd fr.toNat n
def headX (c : PCore) (bd : List Bool) (t : PTerm) : Bool :=
  if t.kind = 1 then rightV t.val
  else if t.kind = 2 then decide (0 ≤ t.n) && (bd[t.n.toNat]? == some true)
  else if t.kind = 7 then decide (1 ≤ t.m ∧ t.m ≤ 4) && freeB bd t.n t.m.toNat
  else if t.kind = 9 then freeB bd t.n 2
  else if t.kind = 11 then odds2 t.odds
  else if t.kind = 12 then decide (t.odds.length = t.kids.length) && (decide (0 ≤ t.n ∧ t.n < c.sites) && oddsB t.odds)
  else true
def headB (c : PCore) (bd : List Bool) (t : PTerm) : Bool := decide (kidsI c t = (t.kids.length : Int)) && headX c bd t
def bindN (t : PTerm) : Nat := if t.kind = 9 then 2 else if t.kind = 7 then t.m.toNat else 0
def rightTm (c : PCore) : Nat → List Bool → PTerm → Bool
  | 0, _, _ => false
  | left + 1, bd, t => headB c bd t && rightKids (rightTm c left) bd (setB bd t.n.toNat true (bindN t)) t.kids
structure TFits (F : FuncId → Option TFun) : Prop where
  v : VFits F
  h57 : F 57 = some f57
  h97 : F 97 = some f97
  h99 : F 99 = some f99
  h152 : F 152 = some f152
  h100 : F 100 = some f100
  h101 : F 101 = some f101k
theorem rightv_t (V : TFits F) (c : PCore) : ∀ (N : Nat) (t : PTerm) (left : Nat) (bd : List Bool) (b p kb vl vb cap : Nat) (σ : Sto), 3 * szTm t ≤ N → OkTm t → left ≤ 200 →
    σ.at p = some ⟨vl, .cells (lookC c (bd.length : Int)) 69⟩ → σ.at kb = some ⟨vb, .cells (bcells bd) 4⟩ → bd.length ≤ 1000 →
    tcall F O N b 57 [.ptr p 0, .agg (encTm t), .ref kb 0 1 bd.length cap, .int .i64 (left : Int)] σ = some (.ret (.bool (rightTm c left bd t)), σ)
  | 0, t, left, bd, b, p, kb, vl, vb, cap, σ, h, _, _, _, _, _ => by rw [szTm_def] at h; omega
  | N + 1, t, left, bd, b, p, kb, vl, vb, cap, σ, h, ht, hleft, hp, hb, hbl => by
    have hs := szTm_def t
    have hvs := szV_def t.val
    have hks := szTms_len t.kids
    obtain ⟨M, hM⟩ : ∃ M, N = M + 4 := ⟨N - 4, by omega⟩
    refine tcall_pure V.h57 ?_
    cases left with
    | zero =>
      unfold rightTm
      simp [x57, undT, encTm_def]
    | succ left =>
    have hl1 : ¬ ((left : Int) + 1 < 1) := by omega
    have hkd := kids_t (O := O) V.h97 (M + 3) c t vl p (bd.length : Int) σ.length σ hp
    rw [← hM] at hkd
    have htd := encTm_def t
    rw [htd] at hkd
    have hlk := hp
    unfold lookC at hlk
    rw [encC_def] at hlk
    simp only [List.cons_append, List.nil_append] at hlk
    unfold rightTm headB
    obtain ⟨R, hR⟩ : ∃ R, R = rightTm c left := ⟨_, rfl⟩
    have ih : ∀ x ∈ t.kids, ∀ (bd' : List Bool) (kb' cap' ver b : Nat) (σ' : Sto), σ'.at p = some ⟨vl, .cells (lookC c (bd.length : Int)) 69⟩ → σ'.at kb' = some ⟨ver, .cells (bcells bd') 4⟩ → bd'.length = bd.length →
        tcall F O N b 57 [.ptr p 0, .agg (encTm x), .ref kb' 0 1 bd'.length cap', .int .i64 (((left + 1 : Nat) : Int) - 1)] σ' = some (.ret (.bool (R bd' x)), σ') := by
      intro x hx bd' kb' cap' ver b σ' h1 h2 h3
      have := szTms_mem _ _ hx
      rw [show (((left + 1 : Nat) : Int) - 1) = (left : Int) by omega, hR]
      exact rightv_t V c N x left bd' b p kb' vl ver cap' σ' (by omega) (ht.sub x hx) (by omega) (by rw [h3]; exact h1) h2 (by omega)
    rw [← hR]
    have main := fun (fr : Int) (n : Nat) (hn : n ≤ 4) (hfr : I64 fr) (a : TAct) => many_v (O := O) V.h101 N R t ht bd ((left + 1 : Nat) : Int) (by omega) (by omega) p kb cap c vl vb σ hp hb (by omega) hbl ih fr n hn hfr (by omega) a
    by_cases hkl : kidsI c t = (t.kids.length : Int)
    case neg =>
      rw [decide_eq_false hkl]
      simp [x57_cut, undT, htd, hl1, hkd, hkl]
    rw [decide_eq_true hkl, Bool.true_and]
    rw [hkl] at hkd
    obtain ⟨Z, hZ⟩ : ∃ Z, Z = (headX c bd t && rightKids R bd (setB bd t.n.toNat true (bindN t)) t.kids) := ⟨_, rfl⟩
    rw [← hZ]
    unfold headX bindN at hZ
    by_cases k1 : t.kind = 1
    · have hkk : t.kids = [] := by
        unfold kidsI at hkl; rw [if_pos (.inl k1)] at hkl; exact List.length_eq_zero_iff.1 (by omega)
      have hr := right98 (O := O) V.v (M + 1) t.val σ.length σ (by omega) ht.val
      rw [show M + 1 + 3 = N by omega, encV_def] at hr
      rw [if_pos k1, hkk] at hZ
      simp only [rightKids, Bool.and_true] at hZ
      rw [← hZ] at hr
      rw [k1] at hkd
      simp [x57_cut, undT, htd, hl1, hkd, k1, hr]
    rw [if_neg k1] at hZ
    by_cases k2 : t.kind = 2
    · have hkk : t.kids = [] := by
        unfold kidsI at hkl; rw [if_pos (.inr k2)] at hkl; exact List.length_eq_zero_iff.1 (by omega)
      rw [if_pos k2, hkk] at hZ
      simp only [rightKids, Bool.and_true] at hZ
      rw [k2] at hkd
      by_cases h0 : 0 ≤ t.n
      case neg =>
        rw [decide_eq_false h0, Bool.false_and] at hZ
        simp [x57_cut, undT, htd, hl1, hkd, k2, h0, hZ]
      rw [decide_eq_true h0, Bool.true_and] at hZ
      by_cases h1 : t.n < (bd.length : Int)
      case neg =>
        have e : bd[t.n.toNat]? = none := List.getElem?_eq_none (by omega)
        rw [e] at hZ
        have hZ' : Z = false := by rw [hZ]; rfl
        simp [x57_cut, undT, htd, hl1, hkd, k2, h0, h1, hlk, hZ']
      obtain ⟨i, hi, hil⟩ := idx_int h0 h1
      have hgb := get_bcells hil
      have hle : (bcells bd).length = bd.length := by simp [bcells]
      have h0' : (0 : Int) ≤ (i : Int) := by omega
      rw [hi, Int.toNat_natCast, List.getElem?_eq_getElem hil] at hZ
      have hZ' : bd[i] = Z := by rw [hZ]; cases bd[i] <;> rfl
      rw [hZ'] at hgb
      rw [hi] at hkd
      generalize bcells bd = B at hb hgb hle
      simp [x57_cut, undT, htd, hl1, hkd, k2, hi, h0', hil, hlk, hb, hgb]
    rw [if_neg k2] at hZ
    by_cases k7 : t.kind = 7
    · have k9 : ¬ t.kind = 9 := by omega
      rw [if_pos k7, if_neg k9, if_pos k7] at hZ
      rw [k7] at hkd
      by_cases h1 : t.m < 1
      · rw [decide_eq_false (by omega), Bool.false_and, Bool.false_and] at hZ
        simp [x57_cut, undT, htd, hl1, hkd, k7, h1, hZ]
      by_cases h2 : 4 < t.m
      · rw [decide_eq_false (by omega), Bool.false_and, Bool.false_and] at hZ
        simp [x57_cut, undT, htd, hl1, hkd, k7, h1, h2, hZ]
      rw [decide_eq_true (by omega), Bool.true_and] at hZ
      simp [x57_cut, undT, htd, hl1, hkd, k7, h1, h2]
      have hz : Z = (if t.m.toNat = 0 then rightKids R bd bd t.kids else (decide (0 ≤ t.n ∧ t.n ≤ (bd.length : Int) - (t.m.toNat : Int)) && !anyB bd t.n.toNat t.m.toNat) && rightKids R bd (setB bd t.n.toNat true t.m.toNat) t.kids) := by
        rw [if_neg (by omega), hZ]; rfl
      rw [hz]
      refine main t.n t.m.toNat (by omega) ht.n _ rfl ?_ ?_ ?_ ?_ ?_ ?_ ?_
      all_goals first | (simp [htd, k7]; done) | (simp [htd, k7]; omega)
    rw [if_neg k7] at hZ
    by_cases k9 : t.kind = 9
    · rw [if_pos k9, if_pos k9] at hZ
      rw [k9] at hkd
      simp [x57_cut, undT, htd, hl1, hkd, k9]
      have hz : Z = (if 2 = 0 then rightKids R bd bd t.kids else (decide (0 ≤ t.n ∧ t.n ≤ (bd.length : Int) - ((2 : Nat) : Int)) && !anyB bd t.n.toNat 2) && rightKids R bd (setB bd t.n.toNat true 2) t.kids) := by
        rw [if_neg (by omega), hZ]; rfl
      rw [hz]
      refine main t.n 2 (by omega) ht.n _ rfl ?_ ?_ ?_ ?_ ?_ ?_ ?_
      all_goals first | (simp [htd, k9]; done) | (simp [htd, k9]; omega)
    rw [if_neg k9, if_neg k9, if_neg k7] at hZ
    simp only [setB] at hZ
    have plain := main 0 0 (by omega) (by unfold I64; omega)
    rw [if_pos rfl] at plain
    by_cases k11 : t.kind = 11
    · rw [if_pos k11] at hZ
      rw [k11] at hkd
      by_cases hlen : t.odds.length = 2
      case neg =>
        have hZ' : Z = false := by
          rw [hZ]; unfold odds2; split
          · rename_i x y he; rw [he] at hlen; exact absurd rfl hlen
          · rfl
        have hlen' : ¬ (t.odds.length : Int) = 2 := by omega
        simp [x57_cut, undT, htd, hl1, hkd, k11, hlen, hlen', hZ']
      obtain ⟨x, y, hxy⟩ := len2 hlen
      rw [hxy] at hZ hkd htd
      simp only [odds2] at hZ
      simp only [List.map_cons, List.map_nil, encI] at htd hkd
      by_cases h1 : x < 0
      · rw [decide_eq_false (by omega), Bool.false_and] at hZ
        simp [x57_cut, undT, htd, hl1, hkd, k11, h1, hZ]
      by_cases h2 : y < x
      · rw [decide_eq_false (by omega), Bool.false_and] at hZ
        simp [x57_cut, undT, htd, hl1, hkd, k11, h1, h2, hZ]
      by_cases h3 : y < 1
      · rw [decide_eq_false (by omega), Bool.false_and] at hZ
        simp [x57_cut, undT, htd, hl1, hkd, k11, h1, h2, h3, hZ]
      by_cases h4 : 1000 < y
      · rw [decide_eq_false (by omega), Bool.false_and] at hZ
        simp [x57_cut, undT, htd, hl1, hkd, k11, h1, h2, h3, h4, hZ]
      rw [decide_eq_true (by omega), Bool.true_and] at hZ
      rw [← hZ] at plain
      simp [x57_cut, undT, htd, hl1, hkd, k11, h1, h2, h3, h4]
      refine plain _ rfl ?_ ?_ ?_ ?_ ?_ ?_ ?_
      all_goals simp [htd, k11]
    rw [if_neg k11] at hZ
    by_cases k12 : t.kind = 12
    · rw [if_pos k12] at hZ
      rw [k12] at hkd
      have hany := anyI (O := O) V.h99 V.h152 V.h100 (M + 2) σ.length σ t.odds ht.olen (by omega)
      rw [show M + 2 + 2 = N by omega] at hany
      by_cases h1 : t.odds.length = t.kids.length
      case neg =>
        have h1' : ¬ (t.odds.length : Int) = (t.kids.length : Int) := by omega
        rw [decide_eq_false h1, Bool.false_and, Bool.false_and] at hZ
        simp [x57_cut, undT, htd, hl1, hkd, k12, h1, h1', hZ]
      rw [decide_eq_true h1, Bool.true_and] at hZ
      by_cases h2 : t.n < 0
      · rw [decide_eq_false (by omega), Bool.false_and, Bool.false_and] at hZ
        simp [x57_cut, undT, htd, hl1, hkd, k12, h1, h2, hZ]
      by_cases h3 : c.sites ≤ t.n
      · rw [decide_eq_false (by omega), Bool.false_and, Bool.false_and] at hZ
        simp [x57_cut, undT, htd, hl1, hkd, k12, h1, h2, h3, hlk, hZ]
      rw [decide_eq_true (by omega), Bool.true_and] at hZ
      cases ho : oddsB t.odds with
      | false =>
        rw [ho] at hany hZ
        simp [x57_cut, undT, htd, hl1, hkd, k12, h1, h2, h3, hlk, hany, hZ]
      | true =>
        rw [ho] at hany hZ
        rw [Bool.true_and] at hZ
        rw [← hZ] at plain
        simp [x57_cut, undT, htd, hl1, hkd, k12, h1, h2, h3, hlk, hany]
        refine plain _ rfl ?_ ?_ ?_ ?_ ?_ ?_ ?_
        all_goals simp [htd, k12]
    rw [if_neg k12, Bool.true_and] at hZ
    rw [← hZ] at plain
    simp [x57_cut, undT, htd, hl1, hkd, k1, k2, k7, k9, k11, k12]
    refine plain _ rfl ?_ ?_ ?_ ?_ ?_ ?_ ?_
    all_goals simp [htd]
end Go.Xe.YtalckpkiplhbcaaGreatDoor
end
section
namespace Go.Xe.YtalckpkiplhbcaaGreatDoor
open Go Go.Xe Go.Xt
set_option linter.unusedVariables false
set_option linter.unusedSimpArgs false
variable {F : FuncId → Option TFun} {O : FuncId → List TV → Option TV}
def judgeC (c : PCore) (kb cap : Nat) (bd : List Bool) : List TV := encC c ++ [.int .i64 (bd.length : Int), .ref kb 0 1 bd.length cap]
theorem odds_t (h155 : F 155 = some f155) (N : Nat) (l : List Int) (b : Nat) (σ : Sto) : tcall F O (N + 1) b 155 [.sl .fz (l.map encI)] σ = some (.ret (.bool (odds2 l)), σ) := by
  refine tcall_pure h155 ?_
  by_cases hlen : l.length = 2
  case neg =>
    have hZ' : odds2 l = false := by
      unfold odds2; split
      · rename_i x y; exact absurd rfl hlen
      · rfl
    have hlen' : ¬ (l.length : Int) = 2 := by omega
    simp [x155, undT, hlen, hlen', hZ']
  obtain ⟨x, y, rfl⟩ := len2 hlen
  simp only [odds2]
  by_cases h1 : 0 ≤ x
  case neg => rw [decide_eq_false (by omega)]; simp [x155, undT, encI, h1]
  by_cases h2 : x ≤ y
  case neg => rw [decide_eq_false (by omega)]; simp [x155, undT, encI, h1, h2]
  by_cases h3 : 1 ≤ y
  case neg => rw [decide_eq_false (by omega)]; simp [x155, undT, encI, h1, h2, h3]
  by_cases h4 : y ≤ 1000
  case neg => rw [decide_eq_false (by omega)]; simp [x155, undT, encI, h1, h2, h3, h4]
  rw [decide_eq_true (by omega)]; simp [x155, undT, encI, h1, h2, h3, h4]
theorem oddsB_step {l : List Int} {j : Nat} (hj : j < l.length) : oddsB (l.drop j) = (decide (1 ≤ l[j] ∧ l[j] ≤ 1000) && oddsB (l.drop (j + 1))) := by
  rw [List.drop_eq_getElem_cons hj]
  unfold oddsB
  simp only [List.mem_cons, forall_eq_or_imp, Bool.decide_and]
theorem arms_t (h156 : F 156 = some f156) (N : Nat) (l : List Int) (hl : l.length ≤ maxLen) (hN : l.length < N) (b : Nat) (σ : Sto) :
    tcall F O (N + 1) b 156 [.sl .fz (l.map encI)] σ = some (.ret (.bool (oddsB l && decide (1 ≤ l.length ∧ l.length ≤ 64))), σ) := by
  refine tcall_pure h156 ?_
  obtain ⟨Z, hZ⟩ : ∃ Z, Z = (oddsB l && decide (1 ≤ l.length ∧ l.length ≤ 64)) := ⟨_, rfl⟩
  rw [← hZ]
  simp [x156]
  obtain ⟨I, hI⟩ : ∃ I : Nat → TAct → Sto → Prop, I = (fun j a σ' => a.df = [] ∧ σ' = σ ∧ oddsB (l.drop j) = oddsB l ∧ a.tm.get 0 = some (.sl .fz (l.map encI)) ∧ a.tm.get 3 = some (.int .i64 j)) := ⟨_, rfl⟩
  obtain ⟨R, hR⟩ : ∃ R : TEx → TAct → Sto → Prop, R = (fun ex a σ' => a.df = [] ∧ σ' = σ ∧ (ex = .exit 0 ∧ oddsB l = true ∧ a.tm.get 0 = some (.sl .fz (l.map encI)) ∨ ex = .ret ∧ oddsB l = false ∧ a.tm.get 2 = some (.bool false))) := ⟨_, rfl⟩
  refine tw_loop I l.length R ?_ hN ?_ ?_ ?_
  · rw [hI]
    simp
  · rw [hI]
    rintro j ⟨tm, df, clk⟩ σ' hj ⟨rfl, rfl, hd, h0, h3⟩
    rw [← hI]
    have hw := wrapJ hj hl
    rw [oddsB_step hj] at hd
    by_cases h1 : l[j] < 1
    · rw [decide_eq_false (by omega), Bool.false_and] at hd
      simp [h0, h3, hj, hw, encI, h1, undT]
      rw [hR]
      exact ⟨rfl, rfl, .inr ⟨rfl, hd.symm, by simp⟩⟩
    by_cases h2 : 1000 < l[j]
    · rw [decide_eq_false (by omega), Bool.false_and] at hd
      simp [h0, h3, hj, hw, encI, h1, h2, undT]
      rw [hR]
      exact ⟨rfl, rfl, .inr ⟨rfl, hd.symm, by simp⟩⟩
    rw [decide_eq_true (by omega), Bool.true_and] at hd
    simp [h0, h3, hj, hw, encI, h1, h2, undT]
    rw [hI]
    exact ⟨rfl, rfl, hd, by simp [h0], by simp⟩
  · rw [hI]
    rintro ⟨tm, df, clk⟩ σ' ⟨rfl, rfl, hd, h0, h3⟩
    rw [List.drop_of_length_le (Nat.le_refl _)] at hd
    simp [h0, h3]
    rw [hR]
    exact ⟨rfl, rfl, .inl ⟨rfl, by rw [← hd]; rfl, by simp [h0]⟩⟩
  · rw [hR]
    rintro ex ⟨tm, df, clk⟩ σ' ⟨rfl, rfl, ⟨rfl, h, h0⟩ | ⟨rfl, h, h2⟩⟩
    · rw [h, Bool.true_and] at hZ
      by_cases h1 : 1 ≤ l.length
      · have h1' : (1 : Int) ≤ (l.length : Int) := by omega
        by_cases h2 : l.length ≤ 64
        · have h2' : (l.length : Int) ≤ 64 := by omega
          rw [decide_eq_true (by omega)] at hZ
          simp [h0, h1, h1', h2, h2', hZ]
        · have h2' : ¬ (l.length : Int) ≤ 64 := by omega
          rw [decide_eq_false (by omega)] at hZ
          simp [h0, h1, h1', h2, h2', hZ]
      · have h1' : ¬ (1 : Int) ≤ (l.length : Int) := by omega
        rw [decide_eq_false (by omega)] at hZ
        simp [h0, h1, h1', hZ, undT]
    · rw [h, Bool.false_and] at hZ
      simp [h2, hZ]
def bindI (t : PTerm) : Int := if t.kind = 9 then 2 else if t.kind ≠ 7 ∨ t.m < 0 then 0 else if 4 < t.m then 4 else t.m
theorem binds_t (h45 : F 45 = some f45) (N : Nat) (t : PTerm) (b : Nat) (σ : Sto) : tcall F O (N + 1) b 45 [.agg (encTm t)] σ = some (.ret (.int .i64 (bindI t)), σ) := by
  refine tcall_pure h45 ?_
  unfold bindI
  by_cases k9 : t.kind = 9
  · rw [if_pos k9]; simp [x45, undT, encTm_def, k9]
  rw [if_neg k9]
  by_cases k7 : t.kind = 7
  case neg => rw [if_pos (.inl k7)]; simp [x45, undT, encTm_def, k9, k7]
  by_cases h1 : t.m < 0
  · rw [if_pos (.inr h1)]; simp [x45, undT, encTm_def, k7, h1]
  rw [if_neg (by omega)]
  by_cases h2 : 4 < t.m
  · rw [if_pos h2]; simp [x45, undT, encTm_def, k7, h1, h2]
  · rw [if_neg h2]; simp [x45, undT, encTm_def, k7, h1, h2]
theorem free_t (h154 : F 154 = some f154) (N : Nat) (c : PCore) (bd : List Bool) (p kb vl vb cap : Nat) (fr : Int) (hfr : I64 fr) (n : Nat) (hn : n ≤ 4) (hN : n < N) (hbl : bd.length ≤ 1000) (b : Nat) (σ : Sto)
    (hp : σ.at p = some ⟨vl, .cells (judgeC c kb cap bd) 107⟩) (hb : σ.at kb = some ⟨vb, .cells (bcells bd) 4⟩) :
    tcall F O (N + 1) b 154 [.ptr p 0, .int .i64 fr, .int .i64 (n : Int)] σ = some (.ret (.bool (freeB bd fr n)), σ) := by
  refine tcall_pure h154 ?_
  unfold judgeC at hp
  rw [encC_def] at hp
  simp only [List.cons_append, List.nil_append] at hp
  obtain ⟨Z, hZ⟩ : ∃ Z, Z = freeB bd fr n := ⟨_, rfl⟩
  rw [← hZ]
  unfold freeB at hZ
  have hws : IntKind.i64.wrap ((bd.length : Int) - n) = (bd.length : Int) - n := by rw [wrap_in] <;> omega
  by_cases f0 : 0 ≤ fr
  case neg =>
    have f0' : fr < 0 := by omega
    rw [decide_eq_false (fun e => f0 e.1), Bool.false_and] at hZ
    simp [x154, undT, f0', hZ]
  have f0' : ¬ fr < 0 := by omega
  by_cases f1 : fr ≤ (bd.length : Int) - n
  case neg =>
    have f1' : (bd.length : Int) - n < fr := by omega
    rw [decide_eq_false (fun e => f1 e.2), Bool.false_and] at hZ
    simp [x154, undT, f0', f1', hp, hws, hZ]
  have f1' : ¬ (bd.length : Int) - n < fr := by omega
  rw [decide_eq_true ⟨f0, f1⟩, Bool.true_and] at hZ
  obtain ⟨f, hf⟩ : ∃ f : Nat, fr = (f : Int) := ⟨fr.toNat, by omega⟩
  subst hf
  rw [Int.toNat_natCast] at hZ
  obtain ⟨mx, hmx⟩ : ∃ mx, mx = f + n := ⟨_, rfl⟩
  have hwe : IntKind.i64.wrap ((f : Int) + n) = (mx : Int) := by rw [wrap_in] <;> omega
  simp [x154, undT, f0', f1', hp, hws]
  obtain ⟨I, hI⟩ : ∃ I : Nat → TAct → Sto → Prop, I = (fun j a' σ' => a'.df = [] ∧ σ' = σ ∧ anyB bd (f + j) (n - j) = anyB bd f n ∧ a'.tm.get 0 = some (.ptr p 0) ∧ a'.tm.get 1 = some (.int .i64 (f : Int)) ∧ a'.tm.get 2 = some (.int .i64 (n : Int)) ∧ ∃ m, m = f + j ∧ a'.tm.get 7 = some (.int .i64 (m : Int))) := ⟨_, rfl⟩
  obtain ⟨Q, hQ⟩ : ∃ R' : TEx → TAct → Sto → Prop, R' = (fun ex a' σ' => a'.df = [] ∧ σ' = σ ∧ (ex = .exit 0 ∧ anyB bd f n = false ∨ ex = .ret ∧ anyB bd f n = true ∧ a'.tm.get 6 = some (.bool false))) := ⟨_, rfl⟩
  refine tw_loop I n Q ?_ hN ?_ ?_ ?_
  · rw [hI]
    exact ⟨rfl, rfl, by rw [Nat.add_zero, Nat.sub_zero], by simp, by simp, by simp, f, rfl, by simp⟩
  · rw [hI]
    rintro j ⟨tm, df, clk⟩ σ' hj ⟨rfl, rfl, hd, g0, g1, g2, m, hm, g7⟩
    rw [← hI]
    have hmm : m < mx := by omega
    have hw : IntKind.i64.wrap ((m : Int) + 1) = ((m + 1 : Nat) : Int) := by rw [wrap_in] <;> omega
    have hfj : m < bd.length := by omega
    have e1 : n - j = (n - (j + 1)) + 1 := by omega
    rw [e1] at hd
    simp only [anyB] at hd
    rw [← hm, List.getElem?_eq_getElem hfj] at hd
    have hgb := get_bcells hfj
    have hle : (bcells bd).length = bd.length := by simp [bcells]
    generalize hbv : bd[m] = bv at hd hgb
    generalize bcells bd = B at hb hgb hle
    cases bv with
    | true =>
      simp at hd
      simp [g0, g1, g2, g7, hmm, hw, hwe, hfj, hp, hb, hgb]
      rw [hQ]
      exact ⟨rfl, rfl, .inr ⟨rfl, hd, by simp⟩⟩
    | false =>
      simp at hd
      simp [g0, g1, g2, g7, hmm, hw, hwe, hfj, hp, hb, hgb]
      rw [hI]
      exact ⟨rfl, rfl, by rw [← hd, show f + (j + 1) = m + 1 by omega], by simp [g0], by simp [g1], by simp [g2], m + 1, by omega, by simp⟩
  · rw [hI]
    rintro ⟨tm, df, clk⟩ σ' ⟨rfl, rfl, hd, g0, g1, g2, m, hm, g7⟩
    rw [Nat.sub_self] at hd
    have hmm : m = mx := by omega
    simp [g1, g2, g7, hwe, hmm]
    rw [hQ]
    exact ⟨rfl, rfl, .inl ⟨rfl, hd.symm⟩⟩
  · rw [hQ]
    rintro ex ⟨tm, df, clk⟩ σ' ⟨rfl, rfl, ⟨rfl, hd⟩ | ⟨rfl, hd, g6⟩⟩
    · rw [hd] at hZ
      simp [hZ]
    · rw [hd] at hZ
      simp [g6, hZ]
end Go.Xe.YtalckpkiplhbcaaGreatDoor
end
