/-
  A part of the proof: it is imported by YtlgknghehgmodaaGreatDoorTop. Nothing here is a claim of its own.
-/
import Derived.Test.YtlgknghehgmodaaGreatDoorE4
import Derived.SizedLaws
set_option linter.unusedVariables false
set_option linter.unusedSimpArgs false
set_option linter.unusedSectionVars false
set_option maxRecDepth 100000
namespace Go.Xe.YtlgknghehgmodaaGreatDoor
section
open Go Go.Xe Go.Xt
@[simp] def C0B:Ann:=fun d=>if d=2 then 1 else if d=4 then 1 else if d=5 then 1 else if d=7 then 1 else if d=12 then 1 else if d=17 then 2 else if d=19 then 2 else if d=25 then 1 else if d=28 then 2 else if d=30 then 2 else if d=32 then 1 else if d=37 then 1 else if d=47 then 1 else if d=53 then 1 else 0
def f1006:TFun:=⟨x1006,C0B,false,false⟩
@[simp] theorem C5e:f1006.an=C0B:=rfl
@[simp] theorem C1B:f1006.fn.body=x1006.body:=rfl
@[simp] theorem C1C:f1006.keep=false:=rfl
@[simp] theorem C37:f1006.fn.results=[.tmp 2]:=rfl
@[simp] def C0C:Ann:=fun d=>if d=2 then 1 else if d=4 then 2 else if d=5 then 1 else if d=9 then 1 else if d=15 then 1 else if d=20 then 1 else if d=24 then 2 else if d=27 then 2 else 0
def f1009:TFun:=⟨x1009,C0C,false,false⟩
@[simp] theorem C5f:f1009.an=C0C:=rfl
@[simp] theorem C1D:f1009.fn.body=x1009.body:=rfl
@[simp] theorem C1E:f1009.keep=false:=rfl
@[simp] theorem C38:f1009.fn.results=[.tmp 2]:=rfl
@[simp] def C0D:Ann:=fun d=>if d=4 then 1 else if d=7 then 2 else 0
def f1011:TFun:=⟨x1011,C0D,false,false⟩
@[simp] theorem C5g:f1011.an=C0D:=rfl
@[simp] theorem C1F:f1011.fn.body=x1011.body:=rfl
@[simp] theorem C1G:f1011.keep=false:=rfl
@[simp] theorem C39:f1011.fn.results=[.tmp 4]:=rfl
@[simp] def C0E:Ann:=fun d=>if d=5 then 1 else if d=6 then 1 else if d=9 then 2 else if d=13 then 2 else if d=18 then 2 else if d=19 then 2 else 0
def f1012:TFun:=⟨x1012,C0E,false,false⟩
@[simp] theorem C5h:f1012.an=C0E:=rfl
@[simp] theorem C1H:f1012.fn.body=x1012.body:=rfl
@[simp] theorem C1I:f1012.keep=false:=rfl
@[simp] theorem C3a:f1012.fn.results=[.tmp 4]:=rfl
@[simp] def a6:Ann:=fun d=>if d=4 then 1 else if d=5 then 1 else if d=6 then 1 else if d=11 then 1 else if d=17 then 1 else if d=18 then 2 else if d=20 then 2 else if d=27 then 2 else if d=29 then 2 else if d=34 then 1 else if d=35 then 2 else if d=36 then 2 else if d=39 then 2 else if d=47 then 2 else if d=48 then 2 else if d=50 then 2 else if d=51 then 2 else 0
def f6:TFun:=⟨x6,a6,false,false⟩
@[simp] theorem C9N:f6.an=a6:=rfl
@[simp] theorem C7F:f6.fn.body=x6.body:=rfl
@[simp] theorem C7G:f6.keep=false:=rfl
@[simp] theorem C8Y:f6.fn.results=[.tmp 4]:=rfl
@[simp] def A9k:Ann:=fun d=>if d=4 then 1 else if d=5 then 1 else if d=6 then 1 else if d=7 then 1 else if d=8 then 1 else if d=10 then 1 else if d=11 then 1 else if d=24 then 3 else if d=25 then 2 else if d=27 then 1 else if d=29 then 1 else if d=31 then 1 else if d=33 then 1 else if d=34 then 1 else if d=36 then 1 else if d=37 then 2 else if d=41 then 2 else if d=47 then 2 else if d=49 then 1 else if d=51 then 1 else if d=55 then 1 else if d=58 then 1 else if d=61 then 2 else if d=62 then 2 else if d=68 then 1 else if d=74 then 1 else if d=78 then 2 else if d=79 then 2 else if d=85 then 1 else 0
def f1017:TFun:=⟨x1017,A9k,false,false⟩
@[simp] theorem C5i:f1017.an=A9k:=rfl
@[simp] theorem C1J:f1017.fn.body=x1017.body:=rfl
@[simp] theorem C1K:f1017.keep=false:=rfl
@[simp] theorem C3b:f1017.fn.results=[.cellN 2 13,.tmp 3]:=rfl
@[simp] def C0F:Ann:=fun d=>if d=2 then 1 else if d=3 then 1 else if d=4 then 1 else if d=5 then 1 else if d=13 then 1 else if d=15 then 1 else if d=17 then 1 else if d=18 then 1 else if d=20 then 1 else if d=21 then 1 else if d=25 then 1 else 0
def f1021:TFun:=⟨x1021,C0F,false,false⟩
@[simp] theorem C5j:f1021.an=C0F:=rfl
@[simp] theorem C1L:f1021.fn.body=x1021.body:=rfl
@[simp] theorem C1M:f1021.keep=false:=rfl
@[simp] theorem C3c:f1021.fn.results=[.tmp 2]:=rfl
@[simp] def a9:Ann:=fun d=>if d=2 then 1 else if d=5 then 1 else if d=12 then 1 else if d=18 then 1 else if d=20 then 2 else if d=23 then 1 else if d=25 then 2 else if d=28 then 1 else if d=31 then 2 else if d=38 then 2 else if d=40 then 1 else if d=50 then 3 else if d=52 then 2 else if d=54 then 1 else if d=58 then 2 else if d=63 then 2 else 0
def f9:TFun:=⟨x9,a9,false,false⟩
@[simp] theorem C9O:f9.an=a9:=rfl
@[simp] theorem C7H:f9.fn.body=x9.body:=rfl
@[simp] theorem C7I:f9.keep=false:=rfl
@[simp] theorem C8Z:f9.fn.results=[.tmp 2]:=rfl
@[simp] def a13:Ann:=fun d=>if d=4 then 1 else if d=6 then 2 else if d=8 then 2 else if d=10 then 1 else if d=12 then 2 else if d=14 then 2 else if d=17 then 1 else if d=24 then 1 else if d=26 then 2 else if d=28 then 2 else 0
def f13:TFun:=⟨x13,a13,false,false⟩
@[simp] theorem C90:f13.an=a13:=rfl
@[simp] theorem C5k:f13.fn.body=x13.body:=rfl
@[simp] theorem C5l:f13.keep=false:=rfl
@[simp] theorem C7J:f13.fn.results=[.tmp 4]:=rfl
@[simp] def C0G:Ann:=fun d=>if d=2 then 1 else if d=3 then 1 else if d=4 then 1 else if d=13 then 2 else if d=18 then 2 else if d=20 then 2 else if d=29 then 1 else 0
def f1028:TFun:=⟨x1028,C0G,false,false⟩
@[simp] theorem C5m:f1028.an=C0G:=rfl
@[simp] theorem C1N:f1028.fn.body=x1028.body:=rfl
@[simp] theorem C1O:f1028.keep=false:=rfl
@[simp] theorem C3d:f1028.fn.results=[.tmp 2]:=rfl
@[simp] def a24:Ann:=fun d=>if d=1 then 1 else if d=6 then 1 else if d=7 then 1 else if d=8 then 2 else if d=14 then 2 else if d=20 then 2 else if d=22 then 2 else if d=27 then 1 else if d=28 then 2 else if d=29 then 2 else if d=32 then 2 else if d=39 then 2 else if d=40 then 2 else if d=42 then 1 else 0
def f24:TFun:=⟨x24,a24,false,false⟩
@[simp] theorem C91:f24.an=a24:=rfl
@[simp] theorem C5n:f24.fn.body=x24.body:=rfl
@[simp] theorem C5o:f24.keep=false:=rfl
@[simp] theorem C7K:f24.fn.results=[.tmp 6]:=rfl
@[simp] def C0H:Ann:=fun d=>if d=2 then 1 else if d=7 then 1 else if d=11 then 2 else if d=15 then 2 else if d=18 then 1 else if d=22 then 2 else 0
def f1031:TFun:=⟨x1031,C0H,false,false⟩
@[simp] theorem C5p:f1031.an=C0H:=rfl
@[simp] theorem C1P:f1031.fn.body=x1031.body:=rfl
@[simp] theorem C1Q:f1031.keep=false:=rfl
@[simp] theorem C3e:f1031.fn.results=[.tmp 2]:=rfl
@[simp] def a66:Ann:=fun d=>if d=4 then 1 else if d=5 then 2 else if d=6 then 2 else 0
def f66:TFun:=⟨x66,a66,false,false⟩
@[simp] theorem C92:f66.an=a66:=rfl
@[simp] theorem C5q:f66.fn.body=x66.body:=rfl
@[simp] theorem C5r:f66.keep=false:=rfl
@[simp] theorem C7L:f66.fn.results=[.tmp 4]:=rfl
@[simp] def C0I:Ann:=fun d=>if d=4 then 1 else if d=5 then 2 else if d=6 then 2 else 0
def f1033:TFun:=⟨x1033,C0I,false,false⟩
@[simp] theorem C5s:f1033.an=C0I:=rfl
@[simp] theorem C1R:f1033.fn.body=x1033.body:=rfl
@[simp] theorem C1S:f1033.keep=false:=rfl
@[simp] theorem C3f:f1033.fn.results=[.tmp 4]:=rfl
@[simp] def C0J:Ann:=fun d=>if d=2 then 1 else 0
def f1034:TFun:=⟨x1034,C0J,false,false⟩
@[simp] theorem C5t:f1034.an=C0J:=rfl
@[simp] theorem C1T:f1034.fn.body=x1034.body:=rfl
@[simp] theorem C1U:f1034.keep=false:=rfl
@[simp] theorem C3g:f1034.fn.results=[.tmp 2]:=rfl
@[simp] def a19:Ann:=fun d=>if d=2 then 1 else if d=3 then 3 else if d=6 then 2 else if d=8 then 2 else 0
def f19:TFun:=⟨x19,a19,true,false⟩
@[simp] theorem C93:f19.an=a19:=rfl
@[simp] theorem C5u:f19.fn.body=x19.body:=rfl
@[simp] theorem C5v:f19.keep=true:=rfl
@[simp] theorem C7M:f19.fn.results=[.tmp 2]:=rfl
@[simp] def a20:Ann:=fun d=>if d=2 then 1 else if d=3 then 1 else if d=4 then 1 else if d=5 then 1 else if d=6 then 1 else if d=7 then 1 else if d=9 then 2 else if d=11 then 2 else if d=13 then 2 else if d=15 then 2 else if d=20 then 2 else if d=22 then 2 else if d=36 then 2 else if d=40 then 2 else if d=45 then 2 else if d=47 then 2 else if d=48 then 2 else if d=51 then 2 else if d=55 then 2 else if d=57 then 1 else 0
def f20:TFun:=⟨x20,a20,false,false⟩
@[simp] theorem C94:f20.an=a20:=rfl
@[simp] theorem C5w:f20.fn.body=x20.body:=rfl
@[simp] theorem C5x:f20.keep=false:=rfl
@[simp] theorem C7N:f20.fn.results=[.tmp 2]:=rfl
@[simp] def C0K:Ann:=fun d=>if d=3 then 1 else if d=10 then 2 else if d=15 then 2 else if d=17 then 1 else if d=21 then 1 else if d=27 then 1 else 0
def f1040:TFun:=⟨x1040,C0K,false,false⟩
@[simp] theorem C5y:f1040.an=C0K:=rfl
@[simp] theorem C1V:f1040.fn.body=x1040.body:=rfl
@[simp] theorem C1W:f1040.keep=false:=rfl
@[simp] theorem C3h:f1040.fn.results=[.cellN 2 8]:=rfl
@[simp] def A3s:Ann:=fun d=>if d=3 then 3 else if d=6 then 1 else if d=7 then 1 else if d=8 then 1 else if d=9 then 1 else if d=10 then 1 else if d=11 then 1 else if d=13 then 2 else if d=15 then 1 else if d=19 then 1 else if d=27 then 2 else if d=29 then 1 else if d=31 then 2 else if d=33 then 1 else if d=39 then 2 else if d=42 then 1 else if d=44 then 1 else if d=45 then 1 else if d=46 then 1 else if d=48 then 2 else if d=49 then 2 else if d=52 then 2 else if d=54 then 1 else if d=59 then 2 else if d=60 then 2 else if d=66 then 2 else if d=68 then 1 else if d=77 then 1 else if d=79 then 2 else if d=81 then 1 else if d=86 then 1 else if d=93 then 1 else if d=94 then 1 else if d=95 then 1 else if d=100 then 1 else if d=102 then 2 else if d=104 then 1 else if d=109 then 1 else if d=116 then 1 else if d=118 then 2 else if d=120 then 1 else if d=125 then 2 else if d=132 then 1 else if d=134 then 2 else if d=136 then 1 else if d=141 then 1 else if d=148 then 1 else if d=149 then 1 else if d=160 then 1 else 0
def f1041:TFun:=⟨x1041,A3s,false,false⟩
@[simp] theorem C5z:f1041.an=A3s:=rfl
@[simp] theorem C1X:f1041.fn.body=x1041.body:=rfl
@[simp] theorem C1Y:f1041.keep=false:=rfl
@[simp] theorem C3i:f1041.fn.results=[.cellN 2 8]:=rfl
@[simp] def a23:Ann:=fun d=>if d=4 then 1 else if d=5 then 1 else if d=6 then 1 else if d=7 then 2 else if d=11 then 2 else if d=17 then 2 else if d=18 then 2 else if d=20 then 2 else if d=21 then 2 else 0
def f23:TFun:=⟨x23,a23,false,false⟩
@[simp] theorem C95:f23.an=a23:=rfl
@[simp] theorem C5A:f23.fn.body=x23.body:=rfl
@[simp] theorem C5B:f23.keep=false:=rfl
@[simp] theorem C7O:f23.fn.results=[.tmp 4]:=rfl
@[simp] def B50:Ann:=fun d=>if d=9 then 2 else if d=11 then 1 else if d=20 then 1 else 0
def f1047:TFun:=⟨x1047,B50,false,false⟩
@[simp] theorem C5C:f1047.an=B50:=rfl
@[simp] theorem C1Z:f1047.fn.body=x1047.body:=rfl
@[simp] theorem C20:f1047.keep=false:=rfl
@[simp] theorem C3j:f1047.fn.results=[.cellN 2 13]:=rfl
@[simp] def A5T:Ann:=fun d=>if d=2 then 1 else if d=3 then 1 else if d=5 then 1 else if d=7 then 1 else if d=8 then 1 else if d=9 then 1 else if d=13 then 3 else if d=17 then 2 else if d=21 then 2 else if d=23 then 1 else if d=25 then 1 else if d=29 then 1 else if d=31 then 2 else if d=36 then 3 else if d=39 then 2 else if d=41 then 2 else if d=43 then 1 else if d=45 then 1 else if d=47 then 1 else if d=48 then 1 else if d=49 then 1 else if d=53 then 2 else if d=61 then 1 else 0
def f1048:TFun:=⟨x1048,A5T,false,false⟩
@[simp] theorem C5D:f1048.an=A5T:=rfl
@[simp] theorem C21:f1048.fn.body=x1048.body:=rfl
@[simp] theorem C22:f1048.keep=false:=rfl
@[simp] theorem C3k:f1048.fn.results=[.tmp 2]:=rfl
@[simp] def B51:Ann:=fun d=>if d=2 then 1 else if d=5 then 3 else 0
def f1049:TFun:=⟨x1049,B51,true,true⟩
@[simp] theorem C5E:f1049.an=B51:=rfl
@[simp] theorem C23:f1049.fn.body=x1049.body:=rfl
@[simp] theorem C24:f1049.keep=true:=rfl
@[simp] theorem C3l:f1049.fn.results=[.tmp 2]:=rfl
@[simp] def B52:Ann:=fun d=>if d=2 then 1 else if d=7 then 1 else if d=8 then 1 else if d=13 then 2 else if d=15 then 1 else if d=23 then 2 else if d=26 then 2 else if d=28 then 1 else if d=30 then 2 else if d=33 then 2 else if d=35 then 1 else if d=39 then 1 else if d=41 then 2 else if d=42 then 2 else if d=46 then 1 else if d=51 then 1 else if d=54 then 1 else 0
def f1050:TFun:=⟨x1050,B52,false,false⟩
@[simp] theorem C5F:f1050.an=B52:=rfl
@[simp] theorem C25:f1050.fn.body=x1050.body:=rfl
@[simp] theorem C26:f1050.keep=false:=rfl
@[simp] theorem C3m:f1050.fn.results=[.cellN 6 8,.tmp 7]:=rfl
@[simp] def A9l:Ann:=fun d=>if d=7 then 2 else if d=13 then 2 else if d=16 then 2 else if d=18 then 1 else if d=23 then 1 else 0
def f1051:TFun:=⟨x1051,A9l,false,false⟩
@[simp] theorem C5G:f1051.an=A9l:=rfl
@[simp] theorem C27:f1051.fn.body=x1051.body:=rfl
@[simp] theorem C29:f1051.keep=false:=rfl
@[simp] theorem C3n:f1051.fn.results=[.cellN 2 13]:=rfl
@[simp] def a28:Ann:=fun d=>if d=2 then 1 else 0
def f28:TFun:=⟨x28,a28,false,false⟩
@[simp] theorem C96:f28.an=a28:=rfl
@[simp] theorem C5H:f28.fn.body=x28.body:=rfl
@[simp] theorem C5I:f28.keep=false:=rfl
@[simp] theorem C7P:f28.fn.results=[.tmp 2]:=rfl
@[simp] def a29:Ann:=fun d=>if d=4 then 1 else if d=5 then 1 else if d=6 then 1 else if d=8 then 2 else if d=10 then 1 else if d=12 then 2 else if d=15 then 1 else if d=17 then 2 else if d=19 then 2 else if d=22 then 1 else if d=24 then 2 else if d=28 then 2 else if d=29 then 3 else if d=31 then 2 else if d=32 then 1 else if d=34 then 1 else if d=36 then 1 else if d=39 then 2 else if d=41 then 2 else if d=44 then 2 else if d=47 then 2 else 0
def f29:TFun:=⟨x29,a29,false,false⟩
@[simp] theorem C97:f29.an=a29:=rfl
@[simp] theorem C5J:f29.fn.body=x29.body:=rfl
@[simp] theorem C5K:f29.keep=false:=rfl
@[simp] theorem C7Q:f29.fn.results=[.tmp 4]:=rfl
@[simp] def a35:Ann:=fun d=>if d=7 then 1 else if d=15 then 2 else if d=17 then 1 else if d=19 then 1 else if d=23 then 1 else if d=26 then 2 else 0
def f35:TFun:=⟨x35,a35,false,false⟩
@[simp] theorem C98:f35.an=a35:=rfl
@[simp] theorem C5L:f35.fn.body=x35.body:=rfl
@[simp] theorem C5M:f35.keep=false:=rfl
@[simp] theorem C7R:f35.fn.results=[.tmp 6]:=rfl
@[simp] def a36:Ann:=fun d=>if d=4 then 1 else if d=6 then 2 else if d=8 then 2 else if d=10 then 1 else if d=12 then 2 else if d=14 then 2 else 0
def f36:TFun:=⟨x36,a36,false,false⟩
@[simp] theorem C99:f36.an=a36:=rfl
@[simp] theorem C5N:f36.fn.body=x36.body:=rfl
@[simp] theorem C5O:f36.keep=false:=rfl
@[simp] theorem C7S:f36.fn.results=[.tmp 4]:=rfl
@[simp] def a37:Ann:=fun d=>if d=7 then 1 else if d=15 then 2 else if d=17 then 1 else if d=19 then 1 else if d=23 then 1 else if d=26 then 2 else 0
def f37:TFun:=⟨x37,a37,false,false⟩
@[simp] theorem C9a:f37.an=a37:=rfl
@[simp] theorem C5P:f37.fn.body=x37.body:=rfl
@[simp] theorem C5Q:f37.keep=false:=rfl
@[simp] theorem C7T:f37.fn.results=[.tmp 6]:=rfl
@[simp] def a38:Ann:=fun d=>if d=4 then 1 else if d=6 then 2 else if d=8 then 2 else if d=10 then 1 else if d=12 then 2 else if d=14 then 2 else if d=17 then 1 else 0
def f38:TFun:=⟨x38,a38,false,false⟩
@[simp] theorem C9b:f38.an=a38:=rfl
@[simp] theorem C5R:f38.fn.body=x38.body:=rfl
@[simp] theorem C5S:f38.keep=false:=rfl
@[simp] theorem C7U:f38.fn.results=[.tmp 4]:=rfl
@[simp] def a21:Ann:=fun d=>if d=2 then 1 else if d=3 then 1 else if d=7 then 2 else if d=9 then 1 else if d=13 then 2 else if d=18 then 1 else 0
def f21:TFun:=⟨x21,a21,false,false⟩
@[simp] theorem C9c:f21.an=a21:=rfl
@[simp] theorem C5T:f21.fn.body=x21.body:=rfl
@[simp] theorem C5U:f21.keep=false:=rfl
@[simp] theorem C7V:f21.fn.results=[.tmp 2]:=rfl
@[simp] def a7:Ann:=fun d=>if d=4 then 1 else if d=5 then 1 else if d=6 then 1 else if d=7 then 2 else if d=11 then 2 else if d=17 then 2 else if d=18 then 2 else if d=20 then 2 else if d=21 then 2 else 0
def f7:TFun:=⟨x7,a7,false,false⟩
@[simp] theorem C9X:f7.an=a7:=rfl
@[simp] theorem C7W:f7.fn.body=x7.body:=rfl
@[simp] theorem C7X:f7.keep=false:=rfl
@[simp] theorem C9d:f7.fn.results=[.tmp 4]:=rfl
@[simp] def C5V:Ann:=fun d=>if d=4 then 1 else if d=5 then 1 else if d=8 then 1 else if d=10 then 1 else if d=11 then 2 else if d=15 then 2 else if d=17 then 1 else 0
def f111:TFun:=⟨x111,C5V,false,false⟩
@[simp] theorem C7Y:f111.an=C5V:=rfl
@[simp] theorem C3o:f111.fn.body=x111.body:=rfl
@[simp] theorem C3p:f111.keep=false:=rfl
@[simp] theorem C5W:f111.fn.results=[.tmp 4]:=rfl
@[simp] def C0L:Ann:=fun d=>if d=4 then 1 else if d=5 then 1 else if d=8 then 1 else if d=10 then 1 else if d=11 then 2 else if d=17 then 1 else 0
def f1073:TFun:=⟨x1073,C0L,false,false⟩
@[simp] theorem C5X:f1073.an=C0L:=rfl
@[simp] theorem C2a:f1073.fn.body=x1073.body:=rfl
@[simp] theorem C2b:f1073.keep=false:=rfl
@[simp] theorem C3q:f1073.fn.results=[.tmp 4]:=rfl
@[simp] def a41:Ann:=fun d=>if d=6 then 1 else if d=7 then 1 else if d=9 then 1 else if d=10 then 1 else if d=12 then 2 else if d=14 then 1 else if d=15 then 2 else if d=17 then 2 else if d=21 then 2 else if d=22 then 2 else if d=24 then 1 else if d=26 then 2 else if d=28 then 3 else if d=31 then 2 else if d=32 then 1 else if d=35 then 2 else if d=38 then 1 else if d=41 then 2 else if d=43 then 1 else if d=45 then 1 else if d=48 then 1 else if d=49 then 2 else if d=51 then 1 else if d=52 then 1 else if d=59 then 2 else if d=61 then 2 else if d=62 then 1 else if d=64 then 1 else if d=66 then 2 else if d=67 then 2 else if d=70 then 2 else if d=72 then 1 else if d=74 then 2 else if d=75 then 2 else if d=81 then 2 else if d=82 then 2 else 0
def f41:TFun:=⟨x41,a41,true,false⟩
@[simp] theorem C9e:f41.an=a41:=rfl
@[simp] theorem C5Y:f41.fn.body=x41.body:=rfl
@[simp] theorem C5Z:f41.keep=true:=rfl
@[simp] theorem C7Z:f41.fn.results=[]:=rfl
@[simp] def a44:Ann:=fun d=>if d=4 then 1 else if d=5 then 1 else if d=7 then 1 else if d=8 then 2 else if d=12 then 2 else if d=14 then 2 else if d=16 then 1 else if d=17 then 2 else if d=21 then 2 else if d=24 then 2 else if d=28 then 2 else if d=30 then 1 else if d=31 then 1 else if d=34 then 1 else if d=38 then 2 else if d=41 then 2 else if d=43 then 1 else if d=44 then 1 else if d=47 then 1 else 0
def f44:TFun:=⟨x44,a44,false,false⟩
@[simp] theorem C9f:f44.an=a44:=rfl
@[simp] theorem C60:f44.fn.body=x44.body:=rfl
@[simp] theorem C61:f44.keep=false:=rfl
@[simp] theorem C80:f44.fn.results=[.tmp 4]:=rfl
@[simp] def a45:Ann:=fun d=>if d=2 then 1 else if d=3 then 1 else if d=5 then 2 else if d=7 then 1 else if d=9 then 2 else if d=11 then 1 else if d=13 then 2 else if d=16 then 1 else if d=18 then 2 else if d=21 then 1 else 0
def f45:TFun:=⟨x45,a45,false,false⟩
@[simp] theorem C9g:f45.an=a45:=rfl
@[simp] theorem C62:f45.fn.body=x45.body:=rfl
@[simp] theorem C63:f45.keep=false:=rfl
@[simp] theorem C81:f45.fn.results=[.tmp 2]:=rfl
@[simp] def a46:Ann:=fun d=>if d=7 then 1 else if d=8 then 2 else if d=9 then 2 else if d=11 then 2 else if d=13 then 2 else if d=14 then 2 else if d=17 then 2 else if d=18 then 2 else if d=20 then 2 else 0
def f46:TFun:=⟨x46,a46,false,false⟩
@[simp] theorem C9h:f46.an=a46:=rfl
@[simp] theorem C64:f46.fn.body=x46.body:=rfl
@[simp] theorem C65:f46.keep=false:=rfl
@[simp] theorem C82:f46.fn.results=[.tmp 6]:=rfl
@[simp] def C0M:Ann:=fun d=>if d=4 then 2 else 0
def f1080:TFun:=⟨x1080,C0M,false,false⟩
@[simp] theorem C66:f1080.an=C0M:=rfl
@[simp] theorem C2c:f1080.fn.body=x1080.body:=rfl
@[simp] theorem C2d:f1080.keep=false:=rfl
@[simp] theorem C3r:f1080.fn.results=[.cellN 2 3]:=rfl
@[simp] def a67:Ann:=fun d=>if d=2 then 1 else if d=5 then 3 else 0
def f67:TFun:=⟨x67,a67,true,true⟩
@[simp] theorem C9i:f67.an=a67:=rfl
@[simp] theorem C67:f67.fn.body=x67.body:=rfl
@[simp] theorem C68:f67.keep=true:=rfl
@[simp] theorem C83:f67.fn.results=[.tmp 2]:=rfl
@[simp] def C0N:Ann:=fun d=>if d=2 then 1 else if d=3 then 1 else if d=6 then 2 else if d=9 then 2 else 0
def f1082:TFun:=⟨x1082,C0N,false,false⟩
@[simp] theorem C69:f1082.an=C0N:=rfl
@[simp] theorem C2e:f1082.fn.body=x1082.body:=rfl
@[simp] theorem C2f:f1082.keep=false:=rfl
@[simp] theorem C3s:f1082.fn.results=[.tmp 2,.tmp 3]:=rfl
@[simp] def C0O:Ann:=fun d=>if d=3 then 1 else 0
def f1083:TFun:=⟨x1083,C0O,false,false⟩
@[simp] theorem C6a:f1083.an=C0O:=rfl
@[simp] theorem C2g:f1083.fn.body=x1083.body:=rfl
@[simp] theorem C2h:f1083.keep=false:=rfl
@[simp] theorem C3t:f1083.fn.results=[.tmp 3]:=rfl
@[simp] def C0P:Ann:=fun d=>if d=4 then 1 else if d=6 then 2 else if d=8 then 2 else if d=10 then 1 else if d=12 then 2 else if d=14 then 2 else if d=17 then 1 else if d=19 then 2 else if d=21 then 2 else if d=24 then 1 else if d=31 then 1 else if d=33 then 2 else if d=35 then 2 else if d=38 then 1 else if d=40 then 2 else if d=42 then 2 else 0
def f1084:TFun:=⟨x1084,C0P,false,false⟩
@[simp] theorem C6b:f1084.an=C0P:=rfl
@[simp] theorem C2i:f1084.fn.body=x1084.body:=rfl
@[simp] theorem C2j:f1084.keep=false:=rfl
@[simp] theorem C3u:f1084.fn.results=[.tmp 4]:=rfl
@[simp] def a109:Ann:=fun d=>if d=4 then 1 else 0
def f109:TFun:=⟨x109,a109,false,false⟩
@[simp] theorem C84:f109.an=a109:=rfl
@[simp] theorem C3v:f109.fn.body=x109.body:=rfl
@[simp] theorem C3w:f109.keep=false:=rfl
@[simp] theorem C6c:f109.fn.results=[.tmp 4]:=rfl
@[simp] def C6d:Ann:=fun d=>if d=5 then 1 else if d=11 then 2 else if d=15 then 2 else if d=20 then 2 else if d=24 then 2 else 0
def f110:TFun:=⟨x110,C6d,false,false⟩
@[simp] theorem C85:f110.an=C6d:=rfl
@[simp] theorem C3x:f110.fn.body=x110.body:=rfl
@[simp] theorem C3y:f110.keep=false:=rfl
@[simp] theorem C6e:f110.fn.results=[.tmp 4]:=rfl
@[simp] def a47:Ann:=fun d=>if d=1 then 1 else if d=6 then 1 else if d=7 then 1 else if d=8 then 2 else if d=10 then 2 else if d=15 then 1 else if d=16 then 2 else if d=17 then 2 else if d=20 then 2 else if d=27 then 2 else if d=28 then 2 else if d=30 then 1 else 0
def f47:TFun:=⟨x47,a47,false,false⟩
@[simp] theorem C9j:f47.an=a47:=rfl
@[simp] theorem C6f:f47.fn.body=x47.body:=rfl
@[simp] theorem C6g:f47.keep=false:=rfl
@[simp] theorem C86:f47.fn.results=[.tmp 6]:=rfl
@[simp] def B53:Ann:=fun d=>if d=7 then 2 else if d=14 then 2 else if d=16 then 1 else if d=21 then 2 else 0
def f1088:TFun:=⟨x1088,B53,false,false⟩
@[simp] theorem C6h:f1088.an=B53:=rfl
@[simp] theorem C2k:f1088.fn.body=x1088.body:=rfl
@[simp] theorem C2l:f1088.keep=false:=rfl
@[simp] theorem C3z:f1088.fn.results=[]:=rfl
@[simp] def C0Q:Ann:=fun d=>if d=2 then 1 else if d=3 then 1 else if d=6 then 2 else if d=8 then 1 else if d=12 then 1 else if d=14 then 2 else if d=16 then 2 else if d=22 then 1 else 0
def f1089:TFun:=⟨x1089,C0Q,false,false⟩
@[simp] theorem C6i:f1089.an=C0Q:=rfl
@[simp] theorem C2m:f1089.fn.body=x1089.body:=rfl
@[simp] theorem C2n:f1089.keep=false:=rfl
@[simp] theorem C3A:f1089.fn.results=[.tmp 2]:=rfl
@[simp] def C0R:Ann:=fun d=>0
def f1090:TFun:=⟨x1090,C0R,false,false⟩
@[simp] theorem C6j:f1090.an=C0R:=rfl
@[simp] theorem C2o:f1090.fn.body=x1090.body:=rfl
@[simp] theorem C2p:f1090.keep=false:=rfl
@[simp] theorem C3B:f1090.fn.results=[.cellN 2 10]:=rfl
@[simp] def a56:Ann:=fun d=>if d=3 then 3 else if d=4 then 1 else if d=5 then 2 else if d=8 then 2 else if d=9 then 1 else if d=16 then 1 else if d=22 then 1 else if d=28 then 1 else if d=35 then 2 else 0
def f56:TFun:=⟨x56,a56,false,false⟩
@[simp] theorem C9k:f56.an=a56:=rfl
@[simp] theorem C6k:f56.fn.body=x56.body:=rfl
@[simp] theorem C6l:f56.keep=false:=rfl
@[simp] theorem C87:f56.fn.results=[.tmp 4]:=rfl
@[simp] def a57:Ann:=fun d=>if d=8 then 1 else if d=9 then 1 else if d=10 then 1 else if d=11 then 1 else if d=12 then 1 else if d=13 then 1 else if d=15 then 1 else if d=16 then 2 else if d=18 then 1 else if d=19 then 2 else if d=27 then 1 else if d=29 then 2 else if d=30 then 1 else if d=35 then 1 else if d=38 then 2 else if d=40 then 1 else if d=42 then 2 else if d=43 then 2 else if d=46 then 2 else if d=49 then 1 else if d=54 then 2 else if d=56 then 1 else if d=59 then 1 else if d=61 then 1 else if d=62 then 2 else if d=64 then 1 else if d=65 then 2 else if d=68 then 1 else if d=71 then 1 else if d=72 then 1 else if d=78 then 1 else if d=82 then 2 else if d=85 then 1 else if d=89 then 2 else if d=93 then 2 else if d=96 then 1 else if d=100 then 2 else if d=103 then 1 else if d=107 then 2 else if d=110 then 1 else if d=119 then 1 else if d=121 then 2 else if d=124 then 1 else if d=126 then 2 else if d=127 then 2 else if d=131 then 2 else if d=134 then 1 else if d=136 then 2 else if d=139 then 2 else if d=141 then 2 else if d=143 then 1 else if d=144 then 2 else if d=145 then 2 else if d=148 then 2 else if d=149 then 2 else if d=153 then 2 else if d=155 then 2 else if d=156 then 1 else if d=158 then 1 else if d=160 then 2 else if d=161 then 2 else if d=166 then 2 else if d=167 then 2 else if d=172 then 2 else if d=174 then 1 else if d=176 then 1 else if d=179 then 1 else if d=180 then 1 else if d=186 then 1 else if d=187 then 2 else if d=189 then 2 else if d=190 then 2 else 0
def f57:TFun:=⟨x57,a57,false,false⟩
@[simp] theorem C9l:f57.an=a57:=rfl
@[simp] theorem C6m:f57.fn.body=x57.body:=rfl
@[simp] theorem C6n:f57.keep=false:=rfl
@[simp] theorem C88:f57.fn.results=[.tmp 8]:=rfl
@[simp] def a64:Ann:=fun d=>if d=4 then 1 else if d=6 then 2 else if d=8 then 2 else if d=10 then 1 else if d=12 then 2 else if d=14 then 2 else if d=17 then 1 else if d=19 then 2 else if d=21 then 2 else if d=24 then 1 else if d=31 then 1 else if d=33 then 2 else if d=35 then 2 else if d=38 then 1 else if d=40 then 2 else if d=42 then 2 else 0
def f64:TFun:=⟨x64,a64,false,false⟩
@[simp] theorem C9m:f64.an=a64:=rfl
@[simp] theorem C6o:f64.fn.body=x64.body:=rfl
@[simp] theorem C6p:f64.keep=false:=rfl
@[simp] theorem C89:f64.fn.results=[.tmp 4]:=rfl
@[simp] def a25:Ann:=fun d=>if d=1 then 1 else if d=6 then 1 else if d=7 then 1 else if d=8 then 2 else if d=10 then 2 else if d=15 then 1 else if d=16 then 2 else if d=17 then 2 else if d=20 then 2 else if d=27 then 2 else if d=28 then 2 else if d=30 then 1 else 0
def f25:TFun:=⟨x25,a25,false,false⟩
@[simp] theorem C9n:f25.an=a25:=rfl
@[simp] theorem C6q:f25.fn.body=x25.body:=rfl
@[simp] theorem C6r:f25.keep=false:=rfl
@[simp] theorem C8a:f25.fn.results=[.tmp 6]:=rfl
@[simp] def C0S:Ann:=fun d=>if d=2 then 1 else if d=3 then 1 else if d=6 then 2 else if d=8 then 1 else if d=12 then 1 else if d=18 then 1 else 0
def f1111:TFun:=⟨x1111,C0S,false,false⟩
@[simp] theorem C6s:f1111.an=C0S:=rfl
@[simp] theorem C2q:f1111.fn.body=x1111.body:=rfl
@[simp] theorem C2r:f1111.keep=false:=rfl
@[simp] theorem C3D:f1111.fn.results=[.tmp 2]:=rfl
@[simp] def C6t:Ann:=fun d=>if d=4 then 1 else 0
def f106:TFun:=⟨x106,C6t,false,false⟩
@[simp] theorem C8b:f106.an=C6t:=rfl
@[simp] theorem C3E:f106.fn.body=x106.body:=rfl
@[simp] theorem C3F:f106.keep=false:=rfl
@[simp] theorem C6u:f106.fn.results=[.tmp 4]:=rfl
@[simp] def a107:Ann:=fun d=>if d=5 then 1 else if d=13 then 1 else if d=15 then 1 else if d=19 then 2 else if d=23 then 2 else 0
def f107:TFun:=⟨x107,a107,false,false⟩
@[simp] theorem C8c:f107.an=a107:=rfl
@[simp] theorem C3G:f107.fn.body=x107.body:=rfl
@[simp] theorem C3H:f107.keep=false:=rfl
@[simp] theorem C6v:f107.fn.results=[.tmp 4]:=rfl
@[simp] def C6w:Ann:=fun d=>if d=7 then 1 else if d=15 then 2 else if d=17 then 1 else if d=19 then 1 else if d=23 then 1 else if d=26 then 2 else 0
def f108:TFun:=⟨x108,C6w,false,false⟩
@[simp] theorem C8d:f108.an=C6w:=rfl
@[simp] theorem C3I:f108.fn.body=x108.body:=rfl
@[simp] theorem C3J:f108.keep=false:=rfl
@[simp] theorem C6x:f108.fn.results=[.tmp 6]:=rfl
@[simp] def a159:Ann:=fun d=>if d=4 then 1 else if d=5 then 1 else if d=6 then 1 else if d=8 then 2 else if d=10 then 2 else if d=12 then 2 else if d=15 then 2 else if d=17 then 2 else if d=19 then 2 else if d=21 then 1 else if d=22 then 2 else if d=28 then 1 else if d=29 then 2 else if d=35 then 2 else if d=48 then 2 else if d=57 then 1 else 0
def f159:TFun:=⟨x159,a159,false,false⟩
@[simp] theorem C8e:f159.an=a159:=rfl
@[simp] theorem C3K:f159.fn.body=x159.body:=rfl
@[simp] theorem C3L:f159.keep=false:=rfl
@[simp] theorem C6y:f159.fn.results=[.tmp 4]:=rfl
@[simp] def a95:Ann:=fun d=>if d=4 then 1 else if d=5 then 2 else if d=6 then 2 else 0
def f95:TFun:=⟨x95,a95,false,false⟩
@[simp] theorem C9o:f95.an=a95:=rfl
@[simp] theorem C6z:f95.fn.body=x95.body:=rfl
@[simp] theorem C6A:f95.keep=false:=rfl
@[simp] theorem C8f:f95.fn.results=[.tmp 4]:=rfl
@[simp] def a96:Ann:=fun d=>if d=3 then 1 else if d=5 then 2 else 0
def f96:TFun:=⟨x96,a96,false,false⟩
@[simp] theorem C9p:f96.an=a96:=rfl
@[simp] theorem C6B:f96.fn.body=x96.body:=rfl
@[simp] theorem C6C:f96.keep=false:=rfl
@[simp] theorem C8g:f96.fn.results=[.tmp 3]:=rfl
@[simp] def a97:Ann:=fun d=>if d=4 then 1 else if d=6 then 2 else if d=7 then 1 else if d=10 then 1 else if d=13 then 2 else if d=15 then 1 else if d=17 then 2 else if d=18 then 2 else if d=26 then 2 else if d=35 then 1 else if d=36 then 1 else if d=43 then 1 else if d=49 then 1 else if d=51 then 1 else if d=53 then 2 else if d=55 then 1 else if d=57 then 2 else if d=60 then 1 else if d=62 then 2 else if d=64 then 1 else if d=67 then 1 else if d=70 then 1 else if d=72 then 1 else 0
def f97:TFun:=⟨x97,a97,false,false⟩
@[simp] theorem C9q:f97.an=a97:=rfl
@[simp] theorem C6D:f97.fn.body=x97.body:=rfl
@[simp] theorem C6E:f97.keep=false:=rfl
@[simp] theorem C8h:f97.fn.results=[.tmp 4]:=rfl
@[simp] def a98:Ann:=fun d=>if d=2 then 1 else if d=4 then 1 else if d=5 then 1 else if d=10 then 1 else if d=11 then 1 else if d=16 then 1 else 0
def f98:TFun:=⟨x98,a98,false,false⟩
@[simp] theorem C9r:f98.an=a98:=rfl
@[simp] theorem C6F:f98.fn.body=x98.body:=rfl
@[simp] theorem C6G:f98.keep=false:=rfl
@[simp] theorem C8i:f98.fn.results=[.tmp 2]:=rfl
@[simp] def a99:Ann:=fun d=>if d=4 then 1 else if d=5 then 2 else if d=6 then 2 else 0
def f99:TFun:=⟨x99,a99,false,false⟩
@[simp] theorem C9s:f99.an=a99:=rfl
@[simp] theorem C6H:f99.fn.body=x99.body:=rfl
@[simp] theorem C6I:f99.keep=false:=rfl
@[simp] theorem C8j:f99.fn.results=[.tmp 4]:=rfl
@[simp] def C6J:Ann:=fun d=>if d=2 then 1 else if d=3 then 2 else if d=5 then 1 else if d=6 then 2 else 0
def f100:TFun:=⟨x100,C6J,false,false⟩
@[simp] theorem C8k:f100.an=C6J:=rfl
@[simp] theorem C3M:f100.fn.body=x100.body:=rfl
@[simp] theorem C3N:f100.keep=false:=rfl
@[simp] theorem C6K:f100.fn.results=[.tmp 2]:=rfl
@[simp] def C6L:Ann:=fun d=>if d=2 then 1 else 0
def f101:TFun:=⟨x101,C6L,false,false⟩
@[simp] theorem C8l:f101.an=C6L:=rfl
@[simp] theorem C3O:f101.fn.body=x101.body:=rfl
@[simp] theorem C3P:f101.keep=false:=rfl
@[simp] theorem C6M:f101.fn.results=[.tmp 2]:=rfl
@[simp] def C6N:Ann:=fun d=>if d=4 then 1 else if d=5 then 1 else if d=7 then 2 else if d=9 then 2 else if d=11 then 2 else if d=14 then 2 else if d=16 then 2 else if d=18 then 2 else if d=21 then 2 else if d=23 then 2 else if d=25 then 1 else 0
def f158:TFun:=⟨x158,C6N,false,false⟩
@[simp] theorem C8m:f158.an=C6N:=rfl
@[simp] theorem C3Q:f158.fn.body=x158.body:=rfl
@[simp] theorem C3R:f158.keep=false:=rfl
@[simp] theorem C6O:f158.fn.results=[.tmp 4]:=rfl
@[simp] def a182:Ann:=fun d=>if d=5 then 1 else if d=6 then 2 else if d=7 then 2 else if d=9 then 1 else if d=10 then 2 else if d=11 then 2 else 0
def f182:TFun:=⟨x182,a182,false,false⟩
@[simp] theorem C8n:f182.an=a182:=rfl
@[simp] theorem C3S:f182.fn.body=x182.body:=rfl
@[simp] theorem C3T:f182.keep=false:=rfl
@[simp] theorem C6P:f182.fn.results=[.tmp 4]:=rfl
@[simp] def C6Q:Ann:=fun d=>if d=4 then 1 else if d=5 then 1 else if d=8 then 1 else if d=10 then 1 else if d=11 then 2 else if d=17 then 1 else 0
def f149:TFun:=⟨x149,C6Q,false,false⟩
@[simp] theorem C8o:f149.an=C6Q:=rfl
@[simp] theorem C3U:f149.fn.body=x149.body:=rfl
@[simp] theorem C3V:f149.keep=false:=rfl
@[simp] theorem C6R:f149.fn.results=[.tmp 4]:=rfl
@[simp] def C6S:Ann:=fun d=>if d=5 then 1 else if d=10 then 1 else if d=15 then 1 else if d=17 then 2 else if d=19 then 1 else if d=20 then 2 else if d=23 then 1 else if d=25 then 2 else if d=27 then 1 else if d=29 then 2 else if d=36 then 1 else if d=38 then 2 else if d=40 then 1 else if d=42 then 2 else if d=45 then 1 else if d=51 then 1 else if d=58 then 2 else if d=60 then 1 else if d=64 then 1 else if d=66 then 2 else if d=71 then 1 else if d=75 then 1 else if d=82 then 1 else if d=84 then 2 else if d=86 then 1 else if d=88 then 2 else if d=91 then 1 else if d=98 then 2 else if d=100 then 1 else if d=104 then 1 else if d=106 then 2 else if d=112 then 1 else if d=118 then 2 else 0
def f150:TFun:=⟨x150,C6S,false,false⟩
@[simp] theorem C8p:f150.an=C6S:=rfl
@[simp] theorem C3W:f150.fn.body=x150.body:=rfl
@[simp] theorem C3X:f150.keep=false:=rfl
@[simp] theorem C6T:f150.fn.results=[.cellN 4 2,.tmp 5]:=rfl
@[simp] def C6U:Ann:=fun d=>if d=7 then 2 else if d=11 then 2 else if d=14 then 2 else if d=16 then 1 else if d=21 then 1 else 0
def f151:TFun:=⟨x151,C6U,false,false⟩
@[simp] theorem C8q:f151.an=C6U:=rfl
@[simp] theorem C3Y:f151.fn.body=x151.body:=rfl
@[simp] theorem C3Z:f151.keep=false:=rfl
@[simp] theorem C6V:f151.fn.results=[.cellN 2 2]:=rfl
@[simp] def a61:Ann:=fun d=>if d=2 then 1 else if d=3 then 1 else if d=7 then 2 else if d=9 then 1 else if d=13 then 2 else if d=18 then 2 else if d=21 then 1 else 0
def f61:TFun:=⟨x61,a61,false,false⟩
@[simp] theorem C9t:f61.an=a61:=rfl
@[simp] theorem C6W:f61.fn.body=x61.body:=rfl
@[simp] theorem C6X:f61.keep=false:=rfl
@[simp] theorem C8r:f61.fn.results=[.tmp 2]:=rfl
@[simp] def a152:Ann:=fun d=>if d=4 then 1 else if d=5 then 1 else if d=8 then 1 else if d=10 then 1 else if d=11 then 2 else if d=15 then 2 else if d=17 then 1 else 0
def f152:TFun:=⟨x152,a152,false,false⟩
@[simp] theorem C8s:f152.an=a152:=rfl
@[simp] theorem C40:f152.fn.body=x152.body:=rfl
@[simp] theorem C41:f152.keep=false:=rfl
@[simp] theorem C6Y:f152.fn.results=[.tmp 4]:=rfl
@[simp] def C6Z:Ann:=fun d=>if d=2 then 1 else if d=3 then 2 else if d=4 then 2 else 0
def f165:TFun:=⟨x165,C6Z,false,false⟩
@[simp] theorem C8t:f165.an=C6Z:=rfl
@[simp] theorem C42:f165.fn.body=x165.body:=rfl
@[simp] theorem C43:f165.keep=false:=rfl
@[simp] theorem C70:f165.fn.results=[.tmp 2]:=rfl
@[simp] def C71:Ann:=fun d=>if d=5 then 1 else if d=6 then 1 else if d=7 then 2 else if d=9 then 2 else if d=11 then 1 else if d=14 then 2 else if d=15 then 2 else if d=17 then 2 else if d=18 then 2 else 0
def f180:TFun:=⟨x180,C71,false,false⟩
@[simp] theorem C8u:f180.an=C71:=rfl
@[simp] theorem C44:f180.fn.body=x180.body:=rfl
@[simp] theorem C45:f180.keep=false:=rfl
@[simp] theorem C72:f180.fn.results=[.tmp 4]:=rfl
@[simp] def C73:Ann:=fun d=>if d=6 then 1 else if d=7 then 1 else if d=10 then 1 else if d=11 then 2 else if d=13 then 1 else if d=15 then 1 else if d=18 then 2 else if d=26 then 2 else if d=30 then 2 else if d=32 then 1 else 0
def f181:TFun:=⟨x181,C73,false,false⟩
@[simp] theorem C8v:f181.an=C73:=rfl
@[simp] theorem C46:f181.fn.body=x181.body:=rfl
@[simp] theorem C47:f181.keep=false:=rfl
@[simp] theorem C74:f181.fn.results=[.tmp 6]:=rfl
@[simp] def C75:Ann:=fun d=>if d=2 then 1 else if d=4 then 1 else if d=8 then 1 else if d=13 then 1 else 0
def f153:TFun:=⟨x153,C75,false,false⟩
@[simp] theorem C8w:f153.an=C75:=rfl
@[simp] theorem C48:f153.fn.body=x153.body:=rfl
@[simp] theorem C49:f153.keep=false:=rfl
@[simp] theorem C76:f153.fn.results=[.tmp 2]:=rfl
@[simp] def a60:Ann:=fun d=>if d=2 then 3 else if d=4 then 1 else if d=6 then 2 else if d=8 then 2 else if d=11 then 2 else if d=12 then 1 else if d=15 then 2 else if d=17 then 1 else if d=19 then 2 else if d=22 then 1 else if d=28 then 1 else if d=31 then 2 else if d=33 then 1 else if d=35 then 2 else if d=38 then 1 else if d=44 then 1 else if d=47 then 2 else if d=49 then 1 else if d=51 then 2 else if d=53 then 2 else if d=57 then 2 else if d=59 then 1 else if d=65 then 1 else if d=67 then 2 else 0
def f60:TFun:=⟨x60,a60,false,false⟩
@[simp] theorem C9u:f60.an=a60:=rfl
@[simp] theorem C77:f60.fn.body=x60.body:=rfl
@[simp] theorem C78:f60.keep=false:=rfl
@[simp] theorem C8x:f60.fn.results=[.tmp 4]:=rfl
@[simp] def C79:Ann:=fun d=>if d=7 then 1 else if d=9 then 1 else if d=10 then 1 else if d=12 then 2 else if d=15 then 1 else if d=17 then 2 else if d=20 then 1 else if d=22 then 2 else if d=24 then 2 else if d=26 then 1 else if d=37 then 2 else if d=42 then 1 else if d=44 then 1 else if d=45 then 1 else if d=59 then 1 else if d=63 then 1 else 0
def f178:TFun:=⟨x178,C79,false,false⟩
@[simp] theorem C8y:f178.an=C79:=rfl
@[simp] theorem C4a:f178.fn.body=x178.body:=rfl
@[simp] theorem C4b:f178.keep=false:=rfl
@[simp] theorem C7a:f178.fn.results=[.cellN 4 2,.tmp 5]:=rfl
@[simp] def a63:Ann:=fun d=>if d=2 then 1 else 0
def f63:TFun:=⟨x63,a63,false,false⟩
@[simp] theorem C9v:f63.an=a63:=rfl
@[simp] theorem C7b:f63.fn.body=x63.body:=rfl
@[simp] theorem C7c:f63.keep=false:=rfl
@[simp] theorem C8z:f63.fn.results=[.tmp 2]:=rfl
@[simp] def C7d:Ann:=fun d=>if d=5 then 1 else if d=8 then 1 else if d=10 then 1 else if d=12 then 1 else if d=14 then 1 else if d=15 then 2 else if d=19 then 2 else if d=20 then 1 else if d=24 then 2 else if d=30 then 1 else if d=33 then 2 else if d=35 then 2 else if d=40 then 2 else if d=42 then 1 else if d=48 then 2 else if d=53 then 1 else if d=57 then 1 else if d=64 then 2 else if d=66 then 1 else if d=72 then 1 else if d=78 then 1 else if d=81 then 2 else if d=83 then 1 else if d=89 then 1 else if d=90 then 2 else if d=95 then 2 else if d=100 then 2 else if d=102 then 1 else if d=108 then 2 else if d=114 then 1 else if d=120 then 2 else if d=124 then 2 else 0
def f179:TFun:=⟨x179,C7d,false,false⟩
@[simp] theorem C8A:f179.an=C7d:=rfl
@[simp] theorem C4c:f179.fn.body=x179.body:=rfl
@[simp] theorem C4d:f179.keep=false:=rfl
@[simp] theorem C7e:f179.fn.results=[.cellN 4 2,.tmp 5]:=rfl
@[simp] def C7f:Ann:=fun d=>if d=4 then 1 else if d=5 then 2 else if d=6 then 2 else 0
def f103:TFun:=⟨x103,C7f,false,false⟩
@[simp] theorem C8B:f103.an=C7f:=rfl
@[simp] theorem C4e:f103.fn.body=x103.body:=rfl
@[simp] theorem C4f:f103.keep=false:=rfl
@[simp] theorem C7g:f103.fn.results=[.tmp 4]:=rfl
@[simp] def C7h:Ann:=fun d=>if d=3 then 1 else 0
def f104:TFun:=⟨x104,C7h,false,false⟩
@[simp] theorem C8C:f104.an=C7h:=rfl
@[simp] theorem C4g:f104.fn.body=x104.body:=rfl
@[simp] theorem C4h:f104.keep=false:=rfl
@[simp] theorem C7i:f104.fn.results=[.tmp 3]:=rfl
@[simp] def a105:Ann:=fun d=>if d=1 then 1 else if d=4 then 1 else if d=5 then 1 else if d=6 then 2 else if d=8 then 2 else if d=13 then 1 else if d=14 then 2 else if d=17 then 2 else if d=24 then 2 else if d=26 then 1 else 0
def f105:TFun:=⟨x105,a105,false,false⟩
@[simp] theorem C8D:f105.an=a105:=rfl
@[simp] theorem C4i:f105.fn.body=x105.body:=rfl
@[simp] theorem C4j:f105.keep=false:=rfl
@[simp] theorem C7j:f105.fn.results=[.tmp 4]:=rfl
@[simp] def a62:Ann:=fun d=>if d=4 then 1 else if d=5 then 1 else if d=6 then 1 else if d=12 then 2 else if d=14 then 2 else if d=17 then 2 else if d=19 then 2 else if d=21 then 1 else if d=22 then 2 else if d=25 then 1 else if d=27 then 2 else if d=29 then 1 else if d=31 then 2 else if d=33 then 1 else if d=35 then 2 else if d=39 then 1 else if d=41 then 2 else if d=43 then 1 else if d=45 then 2 else if d=48 then 1 else if d=50 then 2 else if d=53 then 1 else if d=56 then 2 else if d=58 then 1 else if d=59 then 2 else if d=65 then 2 else if d=66 then 2 else if d=68 then 2 else if d=75 then 2 else 0
def f62:TFun:=⟨x62,a62,false,false⟩
@[simp] theorem C9w:f62.an=a62:=rfl
@[simp] theorem C7k:f62.fn.body=x62.body:=rfl
@[simp] theorem C7l:f62.keep=false:=rfl
@[simp] theorem C8E:f62.fn.results=[.tmp 4]:=rfl
@[simp] def C7m:Ann:=fun d=>if d=7 then 1 else if d=9 then 1 else if d=11 then 2 else if d=15 then 2 else if d=19 then 2 else if d=21 then 2 else if d=23 then 1 else if d=34 then 2 else if d=36 then 2 else if d=41 then 2 else if d=43 then 1 else if d=57 then 1 else if d=61 then 1 else 0
def f190:TFun:=⟨x190,C7m,false,false⟩
@[simp] theorem C8F:f190.an=C7m:=rfl
@[simp] theorem C4k:f190.fn.body=x190.body:=rfl
@[simp] theorem C4l:f190.keep=false:=rfl
@[simp] theorem C7n:f190.fn.results=[.cellN 4 2,.tmp 5]:=rfl
@[simp] def a157:Ann:=fun d=>if d=4 then 1 else if d=5 then 1 else if d=8 then 1 else if d=10 then 1 else if d=11 then 2 else if d=17 then 1 else 0
def f157:TFun:=⟨x157,a157,false,false⟩
@[simp] theorem C8G:f157.an=a157:=rfl
@[simp] theorem C4m:f157.fn.body=x157.body:=rfl
@[simp] theorem C4n:f157.keep=false:=rfl
@[simp] theorem C7o:f157.fn.results=[.tmp 4]:=rfl
end
section
open Go Go.Xe Go.Xt Go.Proofs
def x32:XFun:=⟨32,[.tmp 6],
 .seq (.region [
  ⟨(some 6),.move (.const (Go.Value.bool false)),none⟩]) (.seq (.seq (.region [
  ⟨(some 10),.move (.tmp 0),none⟩,
  ⟨(some 11),.lenSlice (.tmp 10),none⟩,
  ⟨(some 12),.move (.tmp 1),none⟩,
  ⟨(some 13),.lenSlice (.tmp 12),none⟩,
  ⟨(some 14),.bin .neq (.tmp 11) (.tmp 13),none⟩]) (.cond (.tmp 14) (.seq (.region [
  ⟨(some 6),.move (.const (Go.Value.bool false)),none⟩]) (.ret)) (.skip))) (.seq (.seq (.region [
  ⟨(some 15),.move (.tmp 0),none⟩,
  ⟨(some 16),.lenSlice (.tmp 15),none⟩,
  ⟨(some 17),.move (.const (Go.Value.int Go.IntKind.i64 0)),none⟩]) (.block 0 (.loop (.seq (.region [
  ⟨(some 18),.bin .lss (.tmp 17) (.tmp 16),none⟩]) (.seq (.cond (.tmp 18) (.skip) (.exit 0)) (.seq (.block 1 (.seq (.region [
  ⟨(some 19),.move (.tmp 17),none⟩,
  ⟨(some 20),.indexAddr 2 (.tmp 15) (.tmp 17),none⟩,
  ⟨(some 21),.loadN 2 (.tmp 20),none⟩,
  ⟨(some 8),.alloc 66 [(Go.Value.int Go.IntKind.i64 0),(Go.Value.slice none 0 0)],none⟩,
  ⟨(some 7),.move (.tmp 19),none⟩,
  ⟨none,.store 2 (.tmp 8) (.tmp 21),none⟩]) (.seq (.region [
  ⟨(some 22),.move (.tmp 1),none⟩,
  ⟨(some 23),.move (.tmp 7),none⟩,
  ⟨(some 24),.indexAddr 3 (.tmp 22) (.tmp 23),none⟩,
  ⟨(some 25),.loadN 3 (.tmp 24),none⟩,
  ⟨(some 9),.alloc 24 [(Go.Value.int Go.IntKind.i64 0),(Go.Value.int Go.IntKind.i64 0),(Go.Value.slice none 0 0)],none⟩,
  ⟨none,.store 3 (.tmp 9) (.tmp 25),none⟩]) (.seq (.region [
  ⟨(some 26),.move (.tmp 2),none⟩,
  ⟨(some 27),.loadN 2 (.tmp 8),none⟩,
  ⟨(some 28),.loadN 3 (.tmp 9),none⟩,
  ⟨(some 29),.callV (.tmp 26) [(.tmp 27),(.tmp 28)],none⟩,
  ⟨(some 30),.un .not (.tmp 29),none⟩]) (.cond (.tmp 30) (.seq (.region [
  ⟨(some 6),.move (.const (Go.Value.bool false)),none⟩]) (.ret)) (.skip)))))) (.region [
  ⟨(some 31),.bin .add (.tmp 17) (.const (Go.Value.int Go.IntKind.i64 1)),none⟩,
  ⟨(some 17),.move (.tmp 31),none⟩]))))))) (.seq (.region [
  ⟨(some 6),.move (.const (Go.Value.bool true)),none⟩]) (.ret))))⟩
theorem d32:A6 Tryz.prog M0 Tryz.f225=some x32:=by kernel_rfl
@[simp] def a32:Ann:=fun d=>if d=7 then 1 else if d=15 then 2 else if d=17 then 1 else if d=19 then 1 else if d=23 then 1 else if d=26 then 2 else 0
def f32:TFun:=⟨x32,a32,false,false⟩
@[simp] theorem C9x:f32.an=a32:=rfl
@[simp] theorem C7p:f32.fn.body=x32.body:=rfl
@[simp] theorem C7q:f32.keep=false:=rfl
@[simp] theorem C8H:f32.fn.results=[.tmp 6]:=rfl
end
end Go.Xe.YtlgknghehgmodaaGreatDoor
namespace Go.Xt
section
open Go Go.Xe
attribute [simp] Function.comp_def small Xe.ones A2m N6 W6 TAct.ev TAct.at TAct.put TAct.tick taken C0 frz frz1 frzs Tri.ofList Tri.get_set Tri.get_nil TV.cells A4p B5Y Ann.md ofV ofV.ofVs K5 T3 B0b B0c B0d B4Q C1o A4s A58
 A3D B0e B3o S4 A1N apm B5Z A77 Md.app I7 A4r A05 A1h B5X give U1 A3n putAt A2b A4q A1M A6c hiB N5 B0f A1O A19 A1i A8o M7 A6k A1P K2 A07 canon canon.canons below below.belows
 below.belowss I5 tun teq B5W A3C Pl.old T4 Pl.offX isStr
 A2u X2 A06 A6j A4t stays B7E B7D B9G kindOf B8f B8g B8h B8i B3P B3Q
 A6m B4Y C1y C8T B6k B8a B3N C8U B8b B3O B6l C1z B8c B9W B8d B6m B9X B9Y C1A B6n
 B8j B8k B8l B8m B8n B8o B8p B8q B8r B6o B6p C5c C8X C5d
def Fin (fn:TFun) (k:Nat) (P:TEnd->Sto->Prop):TEx->TAct->Sto->Prop
 |.normal,a,σ=>a.df=[]/\∃e σ',K2 a fn k σ .ret=some (e,σ')/\P e σ'
 |.ret,a,σ=>a.df=[]/\∃e σ',K2 a fn k σ .ret=some (e,σ')/\P e σ'
 |.panic v,a,σ=>a.df=[]/\∃e σ',K2 a fn k σ (.panicking v)=some (e,σ')/\P e σ'
 |.exit _,_,_=>False
theorem B3R (fn:TFun) (k:Nat) (P:TEnd->Sto->Prop) (a:TAct) (σ:Sto):Fin fn k P .normal a σ↔a.df=[]/\∃e σ',K2 a fn k σ .ret=some (e,σ')/\P e σ':=Iff.rfl
theorem B9Z (fn:TFun) (k:Nat) (P:TEnd->Sto->Prop) (a:TAct) (σ:Sto):Fin fn k P .ret a σ↔a.df=[]/\∃e σ',K2 a fn k σ .ret=some (e,σ')/\P e σ':=Iff.rfl
theorem B6q (fn:TFun) (k:Nat) (P:TEnd->Sto->Prop) (v:TV) (a:TAct) (σ:Sto):Fin fn k P (.panic v) a σ↔a.df=[]/\∃e σ',K2 a fn k σ (.panicking v)=some (e,σ')/\P e σ':=Iff.rfl
attribute [simp] B3R B9Z B6q
@[simp] theorem ex2 {α β:Type} {x:α} {y:β} {P:α->β->Prop}:(∃e s,(x=e/\y=s)/\P e s)↔P x y:=
 ⟨fun ⟨_,_,⟨h1,h2⟩,h⟩=>by subst h1;subst h2;exact h,fun h=>⟨x,y,⟨rfl,rfl⟩,h⟩⟩
theorem E4 {F:FuncId->Option TFun} {O:FuncId->List TV->Option TV} {N b:Nat} {f:FuncId} {args:List TV} {σ:Sto} {fn:TFun} (hF:F f=some fn) {P:TEnd->Sto->Prop}
  (h:Tw fn.an (T4 fn.keep b σ.length) (A2 F O N) N (Fin fn σ.length P) [] (B9 fn.an (T4 fn.keep b σ.length) (A2 F O N) N fn.fn.body (A1i args) σ)) (hp:B60 fn.clone args=false:=by rfl):
  ∃e σ',A2 F O (N+1) b f args σ=some (e,σ')/\P e σ':=by
 obtain ⟨e,a,σ1,h1,h2⟩:=h;simp only [A2,hF,hp];cases e with
 |normal=>obtain ⟨h3,e,σ',h4,h5⟩:=h2;refine ⟨e,σ',?_,h5⟩;rw [h1];simp only [h3,N7];exact h4
 |ret=>obtain ⟨h3,e,σ',h4,h5⟩:=h2;refine ⟨e,σ',?_,h5⟩;rw [h1];simp only [h3,N7];exact h4
 |panic v=>obtain ⟨h3,e,σ',h4,h5⟩:=h2;refine ⟨e,σ',?_,h5⟩;rw [h1];simp only [h3,N7];exact h4
 |exit id=>exact h2.elim
theorem A3 {F:FuncId->Option TFun} {O:FuncId->List TV->Option TV} {N b:Nat} {f:FuncId} {args:List TV} {σ:Sto} {fn:TFun} (hF:F f=some fn) {v:TV}
  (h:Tw fn.an (T4 fn.keep b σ.length) (A2 F O N) N (Fin fn σ.length fun e σ'=>e=.ret v/\σ'=σ) [] (B9 fn.an (T4 fn.keep b σ.length) (A2 F O N) N fn.fn.body (A1i args) σ)) (hp:B60 fn.clone args=false:=by rfl):
  A2 F O (N+1) b f args σ=some (.ret v,σ):=by
 obtain ⟨e,σ',h1,rfl,rfl⟩:=E4 hF h hp;exact h1
theorem B3S (b:Nat):(∀t,below.belows b (H5 t)=true)/\∀l,below.belowss b (A3o l)=true:=by
 have h:∀n,(∀t,szT t<=n->below.belows b (H5 t)=true)/\∀l,A0Z l<=n->below.belowss b (A3o l)=true:=by
  intro n
  induction n with
  |zero=>exact ⟨fun t h=>by rw [X5] at h;omega,fun l h=>by cases l<;>simp_all [A0Z,A3o,below.belowss]⟩
  |succ n ih=>
   constructor
   ·intro t h;cases t with
    |mk k l=>simp only [szT] at h;simp [H5,below.belows,below,ih.2 l (by omega)]
   ·intro l h;cases l with
    |nil=>rfl
    |cons t l=>simp only [A0Z] at h;simp [A3o,below.belowss,ih.1 t (by omega),ih.2 l (by omega)]
 exact ⟨fun t=>(h _).1 t (Nat.le_refl _),fun l=>(h _).2 l (Nat.le_refl _)⟩
theorem V9 {α:Type} (b:Nat) (f:α->List TV) (h:∀x,below.belows b (f x)=true):∀l:List α,below.belowss b (l.map f)=true
 |[]=>rfl
 |x::l=>by simp only [List.map_cons,below.belowss,h,V9 b f h l,Bool.and_self]
theorem B3T (b:Nat) (s:Int):below.belows b (encI s)=true:=rfl
theorem A7u (b:Nat) (s:Bool):below.belows b (X3 s)=true:=rfl
@[simp] theorem C9y {α:Type} (l:List α):(l.all fun _=>true)=true:=List.all_eq_true.2 fun _ _=>rfl
@[simp] theorem C9z {α:Type} (l:List α):(l.any fun _=>false)=false:=List.any_eq_false.2 fun _ _=>by simp
@[simp] theorem C00 (σ:Sto) (i:Nat) (x:Option TObj):List.take (List.length σ) (List.set σ i x)=List.set σ i x:=List.take_of_length_le (by simp)
@[simp] theorem C01 (σ τ:Sto):List.take (List.length σ) (σ++τ)=σ:=by simp
@[simp] theorem C02 {α β:Type} (f:α->β) (l:List α):List.take l.length (l.map f)=l.map f:=List.take_of_length_le (by simp)
theorem Sto.lt {σ:Sto} {k:Nat} {o:TObj} (h:σ.at k=some o):k<σ.length:=by
 unfold Sto.at at h;split at h
 ·rename_i x hx;exact (List.getElem?_eq_some_iff.1 hx).1
 ·cases h
theorem A28 {σ:Sto} {k j:Nat} {o:Option TObj} (h:k≠j):Sto.at (σ.set k o) j=σ.at j:=by simp only [Sto.at];rw [List.getElem?_set_ne h]
theorem Sto.set_same {σ:Sto} {k:Nat} {o:TObj} (h:σ.at k=some o):σ.set k (some o)=σ:=by
 have hk:=Sto.lt h;unfold Sto.at at h;split at h
 ·rename_i x hx;cases h;have:=(List.getElem?_eq_some_iff.1 hx).2;rw [<-this];simp
 ·cases h
def tk {α:Type} (l:List α) (j:Nat):List α:=l.take j
theorem C03 {α:Type} (l:List α):tk l 0=[]:=rfl
theorem C2s {α:Type} (l:List α):tk l l.length=l:=List.take_length
theorem C04 {α:Type} {l:List α} {j:Nat} (h:j<l.length):tk l (j+1)=tk l j++[l[j]]:=by unfold tk;simp
theorem C2t {α:Type} {l:List α} {j:Nat} (h:j<=l.length):(tk l j).length=j:=by unfold tk;simp;omega
inductive Bld (e s:Nat):List (List TV)->TV->Prop
 |nl:Bld e s [] (.sl .nl [])
 |own (l:List (List TV)):Bld e s l (.sl (.own e s) l)
theorem Bld.inv {e s:Nat} {l:List (List TV)} {v:TV} (h:Bld e s l v):(l=[]/\v=.sl .nl [])\/v=.sl (.own e s) l:=by
 cases h
 ·exact .inl ⟨rfl,rfl⟩
 ·exact .inr rfl
inductive PVal where
 |mk (kind n:Int) (list:List PVal)
namespace PVal
def kind:PVal->Int|.mk k _ _=>k
def n:PVal->Int|.mk _ n _=>n
def list:PVal->List PVal|.mk _ _ l=>l
end PVal
inductive PTerm where
 |mk (kind n m:Int) (val:PVal) (odds:List Int) (kids:List PTerm)
namespace PTerm
def kind:PTerm->Int|.mk k _ _ _ _ _=>k
def n:PTerm->Int|.mk _ n _ _ _ _=>n
def m:PTerm->Int|.mk _ _ m _ _ _=>m
def val:PTerm->PVal|.mk _ _ _ v _ _=>v
def odds:PTerm->List Int|.mk _ _ _ _ o _=>o
def kids:PTerm->List PTerm|.mk _ _ _ _ _ l=>l
end PTerm
structure PBody where
 params:Int
 slots:Int
 term:PTerm
structure PCore where
 types:List PTyp
 funs:List PBody
 query:PBody
 sites:Int
mutual
def E1:PVal->List TV
 |.mk k n l=>[.int .i64 k,.int .i64 n,.sl .fz (B54 l)]
def B54:List PVal->List (List TV)
 |[]=>[]
 |t::l=>E1 t::B54 l
end
theorem B24:∀l,B54 l=l.map E1
 |[]=>rfl
 |t::l=>by simp only [B54,List.map_cons,B24 l]
theorem A4 (t:PVal):E1 t=[.int .i64 t.kind,.int .i64 t.n,.sl .fz (t.list.map E1)]:=by cases t;simp only [E1,B24,PVal.kind,PVal.n,PVal.list]
mutual
def A5:PTerm->List TV
 |.mk k n m v o l=>.int .i64 k::.int .i64 n::.int .i64 m::(E1 v++[.sl .fz (o.map encI),.sl .fz (B0t l)])
def B0t:List PTerm->List (List TV)
 |[]=>[]
 |t::l=>A5 t::B0t l
end
theorem A9m:∀l,B0t l=l.map A5
 |[]=>rfl
 |t::l=>by simp only [B0t,List.map_cons,A9m l]
theorem B25 (t:PTerm):A5 t=.int .i64 t.kind::.int .i64 t.n::.int .i64 t.m::(E1 t.val++[.sl .fz (t.odds.map encI),.sl .fz (t.kids.map A5)]):=by
 cases t;simp only [A5,A9m,PTerm.kind,PTerm.n,PTerm.m,PTerm.val,PTerm.odds,PTerm.kids]
theorem A0 (t:PTerm):A5 t=[.int .i64 t.kind,.int .i64 t.n,.int .i64 t.m,.int .i64 t.val.kind,.int .i64 t.val.n,.sl .fz (t.val.list.map E1),.sl .fz (t.odds.map encI),.sl .fz (t.kids.map A5)]:=by
 grind [B25,A4]
def F5 (b:PBody):List TV:=.int .i64 b.params::.int .i64 b.slots::A5 b.term
def L8 (c:PCore):List TV:=.sl .fz (c.types.map H5)::.sl .fz (c.funs.map F5)::(F5 c.query++[.int .i64 c.sites])
theorem C9 (b:PBody):F5 b=[.int .i64 b.params,.int .i64 b.slots,.int .i64 b.term.kind,.int .i64 b.term.n,.int .i64 b.term.m,.int .i64 b.term.val.kind,.int .i64 b.term.val.n,.sl .fz (b.term.val.list.map E1),.sl .fz (b.term.odds.map encI),.sl .fz (b.term.kids.map A5)]:=by
 grind [F5,A0]
theorem A8 (c:PCore):L8 c=[.sl .fz (c.types.map H5),.sl .fz (c.funs.map F5),.int .i64 c.query.params,.int .i64 c.query.slots,.int .i64 c.query.term.kind,.int .i64 c.query.term.n,.int .i64 c.query.term.m,.int .i64 c.query.term.val.kind,.int .i64 c.query.term.val.n,
  .sl .fz (c.query.term.val.list.map E1),.sl .fz (c.query.term.odds.map encI),.sl .fz (c.query.term.kids.map A5),.int .i64 c.sites]:=by
 simp_all [L8,C9]
mutual
def szV:PVal->Nat
 |.mk _ _ l=>A37 l+4
def A37:List PVal->Nat
 |[]=>0
 |t::l=>szV t+1+A37 l
end
mutual
def E3:PTerm->Nat
 |.mk _ _ _ v o l=>A0S l+szV v+o.length+8
def A0S:List PTerm->Nat
 |[]=>0
 |t::l=>E3 t+1+A0S l
end
theorem A0T:∀l,l.length<=A37 l
 |[]=>Nat.le_refl _
 |t::l=>by simp only [A37,List.length_cons];have:=A0T l;omega
theorem O2:∀(l:List PVal) (t:PVal),t∈l->szV t+1<=A37 l
 |[],t,h=>by cases h
 |x::l,t,h=>by
  simp only [A37];rcases List.mem_cons.1 h with rfl|h
  ·omega
  ·have:=O2 l t h;omega
theorem M3:∀l,l.length<=A0S l
 |[]=>Nat.le_refl _
 |t::l=>by simp only [A0S,List.length_cons];have:=M3 l;omega
theorem D3:∀(l:List PTerm) (t:PTerm),t∈l->E3 t+1<=A0S l
 |[],t,h=>by cases h
 |x::l,t,h=>by
  simp only [A0S];rcases List.mem_cons.1 h with rfl|h
  ·omega
  ·have:=D3 l t h;omega
theorem E5 (t:PVal):szV t=A37 t.list+4:=by cases t;simp only [szV,PVal.list]
theorem B5 (t:PTerm):E3 t=A0S t.kids+szV t.val+t.odds.length+8:=by cases t;simp only [E3,PTerm.kids,PTerm.val,PTerm.odds]
inductive OkV:PVal->Prop
 |mk {k n:Int} {l:List PVal}:I64 k->I64 n->l.length<=maxLen->(∀t∈l,OkV t)->OkV (.mk k n l)
theorem OkV.kind {t:PVal} (h:OkV t):I64 t.kind:=by cases h;assumption
theorem OkV.n {t:PVal} (h:OkV t):I64 t.n:=by cases h;assumption
theorem OkV.len {t:PVal} (h:OkV t):t.list.length<=maxLen:=by cases h;assumption
theorem OkV.sub {t:PVal} (h:OkV t):∀x∈t.list,OkV x:=by cases h;assumption
inductive OkTm:PTerm->Prop
 |mk {k n m:Int} {v:PVal} {o:List Int} {l:List PTerm}:I64 k->I64 n->I64 m->OkV v->o.length<=maxLen->(∀x∈o,I64 x)->l.length<=maxLen->(∀t∈l,OkTm t)->OkTm (.mk k n m v o l)
theorem OkTm.kind {t:PTerm} (h:OkTm t):I64 t.kind:=by cases h;assumption
theorem OkTm.n {t:PTerm} (h:OkTm t):I64 t.n:=by cases h;assumption
theorem OkTm.m {t:PTerm} (h:OkTm t):I64 t.m:=by cases h;assumption
theorem OkTm.val {t:PTerm} (h:OkTm t):OkV t.val:=by cases h;assumption
theorem OkTm.olen {t:PTerm} (h:OkTm t):t.odds.length<=maxLen:=by cases h;assumption
theorem OkTm.odds {t:PTerm} (h:OkTm t):∀x∈t.odds,I64 x:=by cases h;assumption
theorem OkTm.len {t:PTerm} (h:OkTm t):t.kids.length<=maxLen:=by cases h;assumption
theorem OkTm.sub {t:PTerm} (h:OkTm t):∀x∈t.kids,OkTm x:=by cases h;assumption
structure OkBd (b:PBody):Prop where
 params:I64 b.params
 slots:I64 b.slots
 term:OkTm b.term
structure OkC (c:PCore):Prop where
 tlen:c.types.length<=maxLen
 types:∀t∈c.types,OkT t
 flen:c.funs.length<=maxLen
 funs:∀t∈c.funs,OkBd t
 query:OkBd c.query
 sites:I64 c.sites
structure ApiC (P:Program) extends ApiT P where
 val:TypeId
 vals:TypeId
 term:TypeId
 terms:TypeId
 body:TypeId
 bodies:TypeId
 core:TypeId
 hval:A8q P val 3 [(0,int,1),(1,int,1),(2,vals,1)]
 hvals:P.underlying vals=some (.slice val)
 hterm:A8q P term 8 [(0,int,1),(1,int,1),(2,int,1),(3,val,3),(6,ints,1),(7,terms,1)]
 hterms:P.underlying terms=some (.slice term)
 hbody:A8q P body 10 [(0,int,1),(1,int,1),(2,term,8)]
 hbodies:P.underlying bodies=some (.slice body)
 hcore:A8q P core 13 [(0,typs,1),(1,bodies,1),(2,body,10),(12,int,1)]
theorem C9A {α:Type} {l:List α} (h:l.length=3):∃a b c,l=[a,b,c]:=by
 match l,h with|[a,b,c],_=>exact ⟨a,b,c,rfl⟩
section
variable {P:Program} (A:ApiC P)
theorem B8s:∀(n:Nat) (l:List TV),SizeOf.sizeOf l<n->Sh P A.val l->∃t,l=E1 t/\OkV t
 |0,l,hn,h=>by omega
 |n+1,l,hn,h=>by
  obtain ⟨h1,h2⟩:=h.st A.hval;obtain ⟨a,b,c,rfl⟩:=C9A h1;obtain ⟨k,q1,w1⟩:=(h2 (0,A.int,1) (by simp)).intOf A.hint;obtain ⟨m,q2,w2⟩:=(h2 (1,A.int,1) (by simp)).intOf A.hint;obtain ⟨chs,q3,q4,q5⟩:=(h2 (2,A.vals,1) (by simp)).sliceOf A.hvals;simp at q1 q2 q3;subst q1 q2 q3
  obtain ⟨l,rfl,hm⟩:=A3K (f:=E1) (R:=OkV) chs (fun c hc=>B8s n c (by
   have:=B0s (l:=[TV.int .i64 k,TV.int .i64 m,.sl .fz chs]) hc .fz (by simp)
   omega) (q5 c hc))
  exact ⟨.mk k m l,by rw [A4];rfl,.mk (A1k w1) (A1k w2) (by simpa using q4) hm⟩
theorem B55:∀(n:Nat) (l:List TV),SizeOf.sizeOf l<n->Sh P A.term l->∃t,l=A5 t/\OkTm t
 |0,l,hn,h=>by omega
 |n+1,l,hn,h=>by
  obtain ⟨h1,h2⟩:=h.st A.hterm;obtain ⟨a0,a1,a2,a3,a4,a5,a6,a7,rfl⟩:=len8 h1;obtain ⟨k0,p0,w0⟩:=(h2 (0,A.int,1) (by simp)).intOf A.hint;obtain ⟨k1,p1,w1⟩:=(h2 (1,A.int,1) (by simp)).intOf A.hint;obtain ⟨k2,p2,w2⟩:=(h2 (2,A.int,1) (by simp)).intOf A.hint;obtain ⟨v,p3,w3⟩:=B8s A _ _ (Nat.lt_succ_self _) (h2 (3,A.val,3) (by simp));obtain ⟨c4,p4,w4,x4⟩:=(h2 (6,A.ints,1) (by simp)).sliceOf A.hints
  obtain ⟨c5,p5,w5,x5⟩:=(h2 (7,A.terms,1) (by simp)).sliceOf A.hterms;simp at p0 p1 p2 p3 p4 p5;subst p0 p1 p2 p4 p5
  obtain ⟨m4,rfl,y4⟩:=A3K (f:=encI) (R:=I64) c4 (fun c hc=>by
   obtain ⟨n,e1,e2⟩:=(x4 c hc).intOf A.hint
   exact ⟨n,e1,A1k e2⟩)
  obtain ⟨m5,rfl,y5⟩:=A3K (f:=A5) (R:=OkTm) c5 (fun c hc=>B55 n c (by
   have:=B0s hc (l:=[TV.int .i64 k0,.int .i64 k1,.int .i64 k2,a3,a4,a5,.sl .fz (m4.map encI),.sl .fz c5]) .fz (by simp)
   omega) (x5 c hc))
  refine ⟨.mk k0 k1 k2 v m4 m5,?_,.mk (A1k w0) (A1k w1) (A1k w2) w3 (by simpa using w4) y4 (by simpa using w5) y5⟩;rw [B25];simp only [PTerm.kind,PTerm.n,PTerm.m,PTerm.val,PTerm.odds,PTerm.kids,<-p3,List.cons_append,List.nil_append]
theorem B56 {l:List TV} (h:Sh P A.body l):∃t,l=F5 t/\OkBd t:=by
 obtain ⟨h1,h2⟩:=h.st A.hbody;have hl:l=l.take 1++((l.drop 1).take 1++(l.drop 2).take 8):=by
  match l,h1 with|[_,_,_,_,_,_,_,_,_,_],_=>rfl
 obtain ⟨k0,p0,w0⟩:=(h2 (0,A.int,1) (by simp)).intOf A.hint;obtain ⟨k1,p1,w1⟩:=(h2 (1,A.int,1) (by simp)).intOf A.hint;obtain ⟨t,p2,w2⟩:=B55 A _ _ (Nat.lt_succ_self _) (h2 (2,A.term,8) (by simp));refine ⟨⟨k0,k1,t⟩,?_,A1k w0,A1k w1,w2⟩;grind [F5]
theorem C05 {l:List TV} (h:Sh P A.core l):∃t,l=L8 t/\OkC t:=by
 obtain ⟨h1,h2⟩:=h.st A.hcore;have hl:l=l.take 1++((l.drop 1).take 1++((l.drop 2).take 10++(l.drop 12).take 1)):=by
  match l,h1 with|[_,_,_,_,_,_,_,_,_,_,_,_,_],_=>rfl
 obtain ⟨c0,p0,w0,x0⟩:=(h2 (0,A.typs,1) (by simp)).sliceOf A.htyps;obtain ⟨c1,p1,w1,x1⟩:=(h2 (1,A.bodies,1) (by simp)).sliceOf A.hbodies;obtain ⟨e,p2,w2⟩:=B56 A (h2 (2,A.body,10) (by simp));obtain ⟨k3,p3,w3⟩:=(h2 (12,A.int,1) (by simp)).intOf A.hint;obtain ⟨m0,rfl,hm0⟩:=A3K (f:=H5) (R:=OkT) c0 (fun c hc=>B89 A.toApiT _ _ (Nat.lt_succ_self _) (x0 c hc))
 obtain ⟨m1,rfl,hm1⟩:=A3K (f:=F5) (R:=OkBd) c1 (fun c hc=>B56 A (x1 c hc));refine ⟨⟨m0,m1,e,k3⟩,?_,by simpa using w0,hm0,by simpa using w1,hm1,w2,A1k w3⟩;grind [L8]
end
def F4 {α β:Type} (f:α->β->Bool):List α->List β->Bool
 |[],[]=>true
 |a::l,b::m=>f a b&&F4 f l m
 |_,_=>false
theorem A1c {α β:Type} {f:α->β->Bool}:∀{l:List α} {m:List β},l.length≠m.length->F4 f l m=false
 |[],[],h=>absurd rfl h
 |[],_::_,_=>rfl
 |_::_,[],_=>rfl
 |a::l,b::m,h=>by
  simp only [F4];rw [A1c (l:=l) (m:=m) (fun e=>h (by simp [e])),Bool.and_false]
theorem A0B {α β:Type} {f:α->β->Bool} {l:List α} {m:List β} {k:Nat} (h:k<l.length) (h':k<m.length):F4 f (l.drop k) (m.drop k)=(f l[k] m[k]&&F4 f (l.drop (k+1)) (m.drop (k+1))):=by
 rw [List.drop_eq_getElem_cons h,List.drop_eq_getElem_cons h'];rfl
theorem A1y {α β:Type} {f:α->β->Bool} {l:List α} {m:List β} {k:Nat} (h:l.length<=k) (h':m.length<=k):F4 f (l.drop k) (m.drop k)=true:=by
 rw [List.drop_of_length_le h,List.drop_of_length_le h'];rfl
mutual
def A3t:PTyp->PTyp->Bool
 |.mk k l,.mk k' l'=>decide (k=k')&&B0u l l'
def B0u:List PTyp->List PTyp->Bool
 |[],[]=>true
 |a::l,b::m=>A3t a b&&B0u l m
 |_,_=>false
end
mutual
def Y5:PVal->PVal->Bool
 |.mk k n l,.mk k' n' l'=>decide (k=k')&&(decide (n=n')&&B0v l l')
def B0v:List PVal->List PVal->Bool
 |[],[]=>true
 |a::l,b::m=>Y5 a b&&B0v l m
 |_,_=>false
end
mutual
def H7:PTerm->PTerm->Bool
 |.mk k n m v o l,.mk k' n' m' v' o' l'=>decide (k=k')&&(decide (n=n')&&(decide (m=m')&&(Y5 v v'&&(F4 (fun a b:Int=>decide (a=b)) o o'&&A6n l l'))))
def A6n:List PTerm->List PTerm->Bool
 |[],[]=>true
 |a::l,b::m=>H7 a b&&A6n l m
 |_,_=>false
end
theorem A9n:∀l m,B0u l m=F4 A3t l m
 |[],[]=>rfl
 |[],_::_=>rfl
 |_::_,[]=>rfl
 |a::l,b::m=>by simp only [B0u,F4,A9n l m]
theorem A9o:∀l m,B0v l m=F4 Y5 l m
 |[],[]=>rfl
 |[],_::_=>rfl
 |_::_,[]=>rfl
 |a::l,b::m=>by simp only [B0v,F4,A9o l m]
theorem A7v:∀l m,A6n l m=F4 H7 l m
 |[],[]=>rfl
 |[],_::_=>rfl
 |_::_,[]=>rfl
 |a::l,b::m=>by simp only [A6n,F4,A7v l m]
theorem A5f (a b:PTyp):A3t a b=(decide (a.kind=b.kind)&&F4 A3t a.list b.list):=by
 cases a;cases b;simp only [A3t,A9n,PTyp.kind,PTyp.list];rfl
theorem Z8 (a b:PVal):Y5 a b=(decide (a.kind=b.kind)&&(decide (a.n=b.n)&&F4 Y5 a.list b.list)):=by
 cases a;cases b;simp only [Y5,A9o,PVal.kind,PVal.n,PVal.list];rfl
theorem A0U (a b:PTerm):H7 a b=(decide (a.kind=b.kind)&&(decide (a.n=b.n)&&(decide (a.m=b.m)&&(Y5 a.val b.val&&(F4 (fun a b:Int=>decide (a=b)) a.odds b.odds&&F4 H7 a.kids b.kids))))):=by
 cases a;cases b;simp only [H7,A7v,PTerm.kind,PTerm.n,PTerm.m,PTerm.val,PTerm.odds,PTerm.kids];rfl
def A1R (a b:PBody):Bool:=decide (a.params=b.params)&&(decide (a.slots=b.slots)&&H7 a.term b.term)
def B8t (a b:PCore):Bool:=F4 A3t a.types b.types&&(F4 A1R a.funs b.funs&&(A1R a.query b.query&&decide (a.sites=b.sites)))
theorem Z9 {α:Type} {f:α->α->Bool}:∀(l:List α),(∀a∈l,f a a=true)->F4 f l l=true
 |[],_=>rfl
 |a::l,h=>by
  simp_all [F4,Z9]
theorem A7w:∀(n:Nat) (a:PTyp),szT a<=n->A3t a a=true
 |0,a,h=>by rw [X5] at h;omega
 |n+1,a,h=>by
  rw [X5] at h;rw [A5f,Z9 a.list (fun b hb=>A7w n b (by have:=X4 _ _ hb;omega))];simp
theorem A7x:∀(n:Nat) (a:PVal),szV a<=n->Y5 a a=true
 |0,a,h=>by rw [E5] at h;omega
 |n+1,a,h=>by
  rw [E5] at h;rw [Z8,Z9 a.list (fun b hb=>A7x n b (by have:=O2 _ _ hb;omega))];simp
theorem A0b:∀(n:Nat) (a:PTerm),E3 a<=n->H7 a a=true
 |0,a,h=>by rw [B5] at h;omega
 |n+1,a,h=>by
  rw [B5] at h;rw [A0U,Z9 a.kids (fun b hb=>A0b n b (by have:=D3 _ _ hb;omega)),A7x _ a.val (Nat.le_refl _),Z9 a.odds (fun b _=>by simp)];simp
theorem B3U (c:PCore):B8t c c=true:=by
 have hb:∀b:PBody,A1R b b=true:=fun b=>by simp [A1R,A0b _ b.term (Nat.le_refl _)]
 simp [B8t,hb,Z9 c.types (fun t _=>A7w _ t (Nat.le_refl _)),Z9 c.funs (fun t _=>hb t)]
inductive QTyp where
 |mk (kind:Int) (nl:Bool) (list:List QTyp)
namespace QTyp
def kind:QTyp->Int|.mk k _ _=>k
def nl:QTyp->Bool|.mk _ b _=>b
def list:QTyp->List QTyp|.mk _ _ l=>l
end QTyp
def D4 (b:Bool):Md:=match b with|true=>.nl|false=>.fz
mutual
def D5:QTyp->List TV
 |.mk k b l=>[.int .i64 k,.sl (D4 b) (A3u l)]
def A3u:List QTyp->List (List TV)
 |[]=>[]
 |t::l=>D5 t::A3u l
end
theorem A4C:∀l,A3u l=l.map D5
 |[]=>rfl
 |t::l=>by simp only [A3u,List.map_cons,A4C l]
theorem A1 (t:QTyp):D5 t=[.int .i64 t.kind,.sl (D4 t.nl) (t.list.map D5)]:=by cases t;simp only [D5,A4C,QTyp.kind,QTyp.nl,QTyp.list]
mutual
def szQ:QTyp->Nat
 |.mk _ _ l=>A0V l+4
def A0V:List QTyp->Nat
 |[]=>0
 |t::l=>szQ t+1+A0V l
end
theorem A2v:∀l,l.length<=A0V l
 |[]=>Nat.le_refl _
 |t::l=>by simp only [A0V,List.length_cons];have:=A2v l;omega
theorem A0c:∀(l:List QTyp) (t:QTyp),t∈l->szQ t+1<=A0V l
 |[],t,h=>by cases h
 |x::l,t,h=>by
  simp only [A0V];rcases List.mem_cons.1 h with rfl|h
  ·omega
  ·have:=A0c l t h;omega
theorem G3 (t:QTyp):szQ t=A0V t.list+4:=by cases t;simp only [szQ,QTyp.list]
inductive OkQ:QTyp->Prop
 |mk {k:Int} {b:Bool} {l:List QTyp}:I64 k->(b=true->l=[])->l.length<=maxLen->(∀t∈l,OkQ t)->OkQ (.mk k b l)
theorem OkQ.kind {t:QTyp} (h:OkQ t):I64 t.kind:=by cases h;assumption
theorem OkQ.nl {t:QTyp} (h:OkQ t):t.nl=true->t.list=[]:=by cases h;assumption
theorem OkQ.len {t:QTyp} (h:OkQ t):t.list.length<=maxLen:=by cases h;assumption
theorem OkQ.sub {t:QTyp} (h:OkQ t):∀x∈t.list,OkQ x:=by cases h;assumption
mutual
def A38:PTyp->QTyp
 |.mk k l=>.mk k false (A5U l)
def A5U:List PTyp->List QTyp
 |[]=>[]
 |t::l=>A38 t::A5U l
end
theorem A7y:∀l,A5U l=l.map A38
 |[]=>rfl
 |t::l=>by simp only [A5U,List.map_cons,A7y l]
mutual
theorem B26:∀t,D5 (A38 t)=H5 t
 |.mk k l=>by simp only [A38,D5,H5,D4,A9p l]
theorem A9p:∀l,A3u (A5U l)=A3o l
 |[]=>rfl
 |t::l=>by simp only [A5U,A3u,A3o,B26 t,A9p l]
end
theorem B57:∀(n:Nat) (t:PTyp),szT t<=n->OkT t->OkQ (A38 t)
 |0,t,h,_=>by rw [X5] at h;omega
 |n+1,.mk k l,h,ho=>by
  cases ho with
  |mk h1 h2 h3=>
   rw [X5] at h;simp only [A38,A7y];refine .mk h1 (fun h=>by cases h) (by simpa using h2) fun x hx=> ?_
   obtain ⟨y,hy,rfl⟩:=List.mem_map.1 hx;have:=X4 _ _ hy;simp only [PTyp.list] at h;exact B57 n y (by omega) (h3 y hy)
def E0:Nat->QTyp->Bool
 |0,_=>false
 |n+1,t=>if t.kind=1\/t.kind=2 then decide (t.list.length=0)
  else if t.kind=3 then decide (2<=t.list.length/\t.list.length<=4)&&t.list.all (E0 n)
  else if t.kind=4 then decide (t.list.length=1)&&t.list.all (E0 n)
  else false
end
end Go.Xt
namespace Go.Xe.YtlgknghehgmodaaGreatDoor
section
open Go Go.Xe Go.Xt
variable {F:FuncId->Option TFun} {O:FuncId->List TV->Option TV}
theorem F9 {j n:Nat} (h:j<n) (hn:n<=maxLen):IntKind.i64.wrap ((j:Int)+1)=((j+1:Nat):Int):=by
 unfold maxLen at hn;rw [G2]<;>omega
theorem A7z (hF:F 87=some f47):∀(N:Nat) (e:PTyp) (b:Nat) (σ:Sto) (m most:Int),szT e<=N->OkT e->
  ∃r:Int,A2 F O N b 87 [.agg (H5 e),.int .i64 m,.int .i64 most] σ=some (.ret (.int .i64 r),σ)
 |0,e,b,σ,m,most,h,_=>by rw [X5] at h;omega
 |N+1,e,b,σ,m,most,h,hb=>by
  have ih:=A7z hF N;have hk:=A0K e.list;have hs:=X5 e
  suffices hh:∃e' σ',A2 F O (N+1) b 87 [.agg (H5 e),.int .i64 m,.int .i64 most] σ=some (e',σ')/\∃r:Int,e'=.ret (.int .i64 r)/\σ'=σ by
   obtain ⟨e',σ',h1,r,rfl,rfl⟩:=hh;exact ⟨r,h1⟩
  refine E4 hF ?_;simp [x47,G5];refine B8 (I:=fun j a σ'=>a.df=[]/\σ'=σ/\∃acc:Int,a.tm.get 1=some (.int .i64 acc)/\a.tm.get 2=some (.int .i64 most)/\a.tm.get 3=some (.bx 0 (H5 e) 66)/\a.tm.get 7=some (.int .i64 j)) e.list.length
   (R:=fun ex a σ'=>ex=.exit 0/\a.df=[]/\σ'=σ/\∃acc:Int,a.tm.get 1=some (.int .i64 acc)) ?_ ?_ ?_ ?_ ?_
  ·simp [G5]
  ·omega
  ·rintro j ⟨tm,df,clk⟩ σ' hj ⟨rfl,rfl,acc,h1,h2,h3,h7⟩;have hm:=X4 e.list e.list[j] (List.getElem_mem hj);have hw:=F9 hj hb.len;obtain ⟨r,hc⟩:=ih e.list[j] σ'.length σ' acc most (by omega) (hb.sub _ (List.getElem_mem hj));rw [G5] at h3 hc
   by_cases ha:acc<=most
   ·simp [h1,h2,h3,h7,hj,ha,hc,hw,G5]
   ·simp [h1,h2,h3,h7,hj,ha]
  ·rintro ⟨tm,df,clk⟩ σ' ⟨rfl,rfl,acc,h1,h2,h3,h7⟩;rw [G5] at h3;simp [h1,h2,h3,h7]
  ·rintro ex ⟨tm,df,clk⟩ σ' ⟨rfl,rfl,rfl,acc,h1⟩;simp [h1]
theorem B3V (hF:F 46=some f23) (hS:F 87=some f47) (N:Nat) (l:List PTyp) (b:Nat) (σ:Sto) (most:Int) (h:A0Z l<N) (hl:l.length<=maxLen) (hok:∀e∈l,OkT e):
  ∃r,A2 F O (N+1) b 46 [.int .i64 most,.sl .fz (l.map H5)] σ=some (.ret (.bool r),σ):=by
 have hk:=A0K l
 suffices hh:∃e σ',A2 F O (N+1) b 46 [.int .i64 most,.sl .fz (l.map H5)] σ=some (e,σ')/\∃r,e=.ret (.bool r)/\σ'=σ by
  obtain ⟨e,σ',h1,r,rfl,rfl⟩:=hh;exact ⟨r,h1⟩
 refine E4 hF ?_;simp [x23];refine B8 (I:=fun j a σ'=>a.df=[]/\σ'=σ/\∃acc,a.tm.get 0=some (.int .i64 most)/\a.tm.get 1=some (.sl .fz (l.map H5))/\a.tm.get 5=some (.int .i64 acc)/\a.tm.get 6=some (.int .i64 j)) l.length
  (R:=fun ex a σ'=>ex=.exit 0/\a.df=[]/\σ'=σ/\∃acc,a.tm.get 0=some (.int .i64 most)/\a.tm.get 5=some (.int .i64 acc)) ?_ ?_ ?_ ?_ ?_
 ·simp
 ·omega
 ·rintro j ⟨tm,df,clk⟩ σ' hj ⟨rfl,rfl,acc,h0,h1,h5,h6⟩;have hm:=X4 l l[j] (List.getElem_mem hj);have hw:=F9 hj hl;obtain ⟨r,hc⟩:=A7z (O:=O) hS N l[j] σ'.length σ' acc most (by omega) (hok _ (List.getElem_mem hj));rw [G5] at hc;simp [h0,h1,h5,h6,hj,hc,hw,G5]
 ·rintro ⟨tm,df,clk⟩ σ' ⟨rfl,rfl,acc,h0,h1,h5,h6⟩;simp [h0,h1,h5,h6]
 ·rintro ex ⟨tm,df,clk⟩ σ' ⟨rfl,rfl,rfl,acc,h0,h5⟩;simp [h0,h5];omega
end
end Go.Xe.YtlgknghehgmodaaGreatDoor
namespace Go.Xt
section
open Go Go.Xe
inductive Sm (B:Nat):List TV->Prop
 |mk {l:List TV}:(∀md chs,TV.sl md chs∈l->chs.length<=B)->(∀md chs c,TV.sl md chs∈l->c∈chs->Sm B c)->Sm B l
theorem Sm.len {B:Nat} {l:List TV} (h:Sm B l) {md:Md} {chs:List (List TV)} (hm:TV.sl md chs∈l):chs.length<=B:=by
 cases h with
 |mk h1 h2=>exact h1 md chs hm
theorem Sm.sub {B:Nat} {l:List TV} (h:Sm B l) {md:Md} {chs:List (List TV)} {c:List TV} (hm:TV.sl md chs∈l) (hc:c∈chs):Sm B c:=by
 cases h with
 |mk h1 h2=>exact h2 md chs c hm hc
theorem Sm.append {B:Nat} {l m:List TV} (h:Sm B l) (k:Sm B m):Sm B (l++m):=by
 refine .mk (fun md chs hm=> ?_) (fun md chs c hm hc=> ?_)
 ·rcases List.mem_append.1 hm with hm|hm
  ·exact h.len hm
  ·exact k.len hm
 ·rcases List.mem_append.1 hm with hm|hm
  ·exact h.sub hm hc
  ·exact k.sub hm hc
theorem B0w {B:Nat} {v:TV} (h:∀md chs,v≠.sl md chs):Sm B [v]:=
 .mk (fun md chs hm=>absurd (List.mem_singleton.1 hm).symm (h md chs)) (fun md chs c hm hc=>absurd (List.mem_singleton.1 hm).symm (h md chs))
theorem C0T {B:Nat} {md:Md} {chs:List (List TV)} (h1:chs.length<=B) (h2:∀c,c∈chs->Sm B c):Sm B [.sl md chs]:=by
 refine .mk (fun md chs hm=> ?_) (fun md chs c hm hc=> ?_)
 ·cases List.mem_singleton.1 hm;exact h1
 ·cases List.mem_singleton.1 hm;exact h2 c hc
def B3W (P:Program) (t:TypeId):Bool:=
 match P.underlying t with
 |some (.slice e)=>Nat.blt 0 (P.bytesOf e)
 |_=>true
theorem A5V {H:Type} {P:Program} {e:TypeId} {n:Nat}:∀{l:List (DataW H)} {d:DataW H},d∈l->n∈d.weights P e->n∈DataW.weightsAll P e l
 |x::l,d,h,hn=>by
  simp only [DataW.weightsAll,List.mem_append];rcases List.mem_cons.1 h with rfl|h
  ·exact .inl hn
  ·exact .inr (A5V h hn)
section
variable {g:Hp} {μ:List Nat} {Z:Nat->Prop} {B:Nat}
theorem A5W {P:Program} {cs:List Value}:∀(fs:List Field) (o e:Nat),A2l P o fs=some e->e<=cs.length->(∀(i:Nat) (f:Field),fs[i]? =some f->∃l,RVs g μ Z l ((cs.drop f.offset).take (P.cellsOf f.type))/\Sh P f.type l/\Sm B l)->
  ∃l,RVs g μ Z l ((cs.drop o).take (e - o))/\o<=e/\l.length=e - o/\(∀(i:Nat) (f:Field),fs[i]? =some f->o<=f.offset/\Sh P f.type ((l.drop (f.offset - o)).take (P.cellsOf f.type)))/\Sm B l
 |[],o,e,ht,he,h=>by
  simp only [A2l] at ht;cases ht;exact ⟨[],by simp;exact .nil,Nat.le_refl _,by simp,fun i f e=>by simp at e,.mk (fun _ _ h=>by cases h) (fun _ _ _ h=>by cases h)⟩
 |f::fs,o,e,ht,he,h=>by
  simp only [A2l] at ht;split at ht
  ·rename_i hb;have ho:=H6 hb;obtain ⟨l0,k1,k2,k3⟩:=h 0 f rfl;obtain ⟨l,q1,q2,q3,q4,q5⟩:=A5W fs (o+P.cellsOf f.type) e ht he (fun i f' hf=>h (i+1) f' (by simpa using hf));have hl0:l0.length=P.cellsOf f.type:=by
    rw [<-k1.length,List.length_take,List.length_drop];omega
   have hsplit:(cs.drop o).take (e - o)=(cs.drop f.offset).take (P.cellsOf f.type)++(cs.drop (o+P.cellsOf f.type)).take (e - (o+P.cellsOf f.type)):=by
    rw [ho,show e - o=P.cellsOf f.type+(e - (o+P.cellsOf f.type)) by omega,List.take_add,List.drop_drop]
   refine ⟨l0++l,by rw [hsplit];exact k1.append q1,by omega,by rw [List.length_append,hl0,q3];omega,fun i f' hf=> ?_,k3.append q5⟩;cases i with
   |zero=>
    simp at hf;subst hf;refine ⟨by omega,?_⟩;rw [ho,Nat.sub_self,List.drop_zero,List.take_append_of_le_length (by omega),List.take_of_length_le (by omega)];exact k2
   |succ i=>
    obtain ⟨p1,p2⟩:=q4 i f' (by simpa using hf);refine ⟨by omega,?_⟩;have:f'.offset - o=P.cellsOf f.type+(f'.offset - (o+P.cellsOf f.type)):=by omega
    rw [this,<-hl0,List.drop_append];rw [show l0.length+(f'.offset - (o+l0.length)) - l0.length=f'.offset - (o+l0.length) by omega];have hd0:l0.drop (l0.length+(f'.offset - (o+l0.length)))=[]:=List.drop_of_length_le (by omega);rw [hd0,List.nil_append,hl0];exact p2
  ·cases ht
theorem B3X {P:Program} {T:List TypeId} (hT:T.all (Xe.plainT P T)=true) {H:Type} {t:TypeId} {cs:List Value} {d:DataW H} (hB:T.all (B3W P)=true) (r:Rdx P g t cs d):T.contains t=true->(∀n∈d.weights P t,n<=B)->∃l,RVs g μ (fun _=>True) l cs/\Sh P t l/\Sm B l:=by
 induction r with
 |bool b ht=>exact fun _ _=>⟨[.bool b],.cons (.bool b) .nil,.bool b ht,B0w (fun _ _ e=>by cases e)⟩
 |int n ht hw=>exact fun _ _=>⟨[.int _ n],.cons (.int _ n) .nil,.int n ht hw,B0w (fun _ _ e=>by cases e)⟩
 |str s ht hs=>exact fun _ _=>⟨[.str s],.cons (.str s) .nil,.str s ht hs,B0w (fun _ _ e=>by cases e)⟩
 |nil ht=>exact fun _ _=>⟨[.sl .fz []],.cons (.fz0 none 0) .nil,.slice [] ht (Nat.zero_le _) (fun c h=>by simp at h),C0T (Nat.zero_le _) (fun c h=>by simp at h)⟩
 |@slice t e id len cap ds sp C ht hl hc hm h1 h2 ih=>
  intro hc' hwt;have hp:=List.all_eq_true.1 hT t (by simpa using hc');have hb:=List.all_eq_true.1 hB t (by simpa using hc');unfold Xe.plainT at hp;unfold B3W at hb;rw [ht] at hp hb;have hb:Nat.blt 0 (P.bytesOf e)=true:=hb;rw [G0] at hb;have hb:=of_decide_eq_true hb;simp only [Bool.and_eq_true] at hp;have hlenB:len<=B:=by
   have:=hwt ((ds.length+sp.length)*P.bytesOf e) (by simp [DataW.weights,ht]);have h3:=Nat.le_mul_of_pos_right (ds.length+sp.length) hb;omega
  have hex:∀i,i<len->∃c,RVs g μ (fun _=>True) c (C i)/\Sh P e c/\Sm B c:=fun i hi=>by
   have hlt:i<ds.length:=by omega
   exact ih i ds[i] (List.getElem?_eq_getElem hlt) hp.1 fun n hn=>hwt n (by
    simp only [DataW.weights,ht,List.mem_cons,List.mem_append]
    exact .inr (.inl (A5V (List.getElem_mem hlt) hn)))
  obtain ⟨chs,k1,k2⟩:=B9V hex;have hload:∀i,i<len->∃ver vs el ro,g id=some ⟨ver,.cells vs el ro⟩/\i*P.cellsOf e+P.cellsOf e<=vs.length/\(vs.drop (i*P.cellsOf e)).take (P.cellsOf e)=C i:=fun i hi=>by
   have hlt:i<ds.length:=by omega
   obtain ⟨i',o,ver,vs,el,ro,q0,q1,q2,q3⟩:=N1 (h1 i ds[i] (List.getElem?_eq_getElem hlt));cases q0;exact ⟨ver,vs,el,ro,q1,q2,q3.symm⟩
  refine ⟨[.sl .fz chs],.cons ?_ .nil,.slice chs ht (by omega) (fun c hcm=> ?_),C0T (by omega) (fun c hcm=> ?_)⟩
  ·by_cases h0:len=0
   ·have:chs=[]:=List.eq_nil_of_length_eq_zero (by omega);subst this;subst h0;exact .fz0 _ _
   ·obtain ⟨ver,vs,el,ro,q1,q2,q3⟩:=hload (len - 1) (by omega);have hlen:len*P.cellsOf e<=vs.length:=by
     have:(len - 1)*P.cellsOf e+P.cellsOf e=len*P.cellsOf e:=by rw [<-Nat.succ_mul];congr 1;omega
     omega
    refine .fz (s:=P.cellsOf e) trivial q1 ?_ k1 (fun _=>hc) (fun h=>by unfold C4 at h;unfold maxLen at hm;omega) (by omega) ?_
    ·refine List.all_eq_true.2 fun c hcm=> ?_
     obtain ⟨i,hi⟩:=List.getElem?_of_mem hcm;have hil:i<len:=by have:=(List.getElem?_eq_some_iff.1 hi).1;omega
     have:=(k2 i c hi).1.length;obtain ⟨_,vs',_,_,p1,p2,p3⟩:=hload i hil;rw [C5];refine decide_eq_true ?_;rw [<-this,<-p3,List.length_take,List.length_drop];omega
    ·rw [<-k1];refine B21 chs 0 fun i c hi=> ?_
     have hil:i<len:=by have:=(List.getElem?_eq_some_iff.1 hi).1;omega
     obtain ⟨_,vs',_,_,p1,p2,p3⟩:=hload i hil;rw [q1] at p1;cases p1;have hr:=(k2 i c hi).1;rw [Nat.zero_add,p3];refine ⟨hr,?_⟩;rw [<-hr.length,<-p3,List.length_take,List.length_drop];omega
  ·obtain ⟨i,hi⟩:=List.getElem?_of_mem hcm;exact (k2 i c hi).2.1
  ·obtain ⟨i,hi⟩:=List.getElem?_of_mem hcm;exact (k2 i c hi).2.2
 |@struct t fs cs ds ht hl hn h2 ih=>
  intro hc' hwt;have hp:=List.all_eq_true.1 hT t (by simpa using hc');unfold Xe.plainT at hp;rw [ht] at hp;simp only [Bool.and_eq_true,List.all_eq_true] at hp;have htl:A2l P 0 fs.toList=some (P.cellsOf t):=by
   have h2:=hp.2;split at h2
   ·rename_i m hm;rw [C5] at h2;rw [hm,of_decide_eq_true h2]
   ·cases h2
  obtain ⟨l,k1,_,k3,k4,k5⟩:=A5W (B:=B) (g:=g) (μ:=μ) (Z:=fun _=>True) (P:=P) (cs:=cs) fs.toList 0 (P.cellsOf t) htl (by omega) (fun i f hf=>by
   have hi:i<ds.length:=by have:=(List.getElem?_eq_some_iff.1 hf).1;simp at this;omega
   exact ih i f ds[i] (by simpa using hf) (List.getElem?_eq_getElem hi) (hp.1 f (List.mem_of_getElem? hf)) fun n hn=>hwt n (by
    simp only [DataW.weights,ht]
    exact DataW.weights_mem_each (by rw [List.getElem?_map,hf];rfl) (List.getElem?_eq_getElem hi) n hn))
  rw [List.drop_zero,Nat.sub_zero,List.take_of_length_le (by omega)] at k1;refine ⟨l,k1,.struct l ht (by omega) (fun i f hf=> ?_),k5⟩;have:=(k4 i f (by simpa using hf)).2
  rwa [Nat.sub_zero] at this
end
end
end Go.Xt
namespace Go.Xe.YtlgknghehgmodaaGreatDoor
section
open Go Go.Xe Go.Xt
variable {F:FuncId->Option TFun} {O:FuncId->List TV->Option TV}
mutual
def cntT:PTerm->Nat
 |.mk _ _ _ _ _ ks=>F6 ks+1
def F6:List PTerm->Nat
 |[]=>0
 |t::l=>cntT t+F6 l
end
theorem L7 (t:PTerm):cntT t=F6 t.kids+1:=by cases t;simp only [cntT,PTerm.kids]
theorem A3L {l:List PTerm} {j:Nat} (hj:j<l.length):F6 (l.drop j)=cntT l[j]+F6 (l.drop (j+1)):=by
 rw [List.drop_eq_getElem_cons hj];rfl
theorem W1:∀(l:List PTerm) (t:PTerm),t∈l->cntT t<=F6 l
 |[],t,h=>by cases h
 |x::l,t,h=>by
  simp only [F6];rcases List.mem_cons.1 h with rfl|h
  ·omega
  ·have:=W1 l t h;omega
theorem C06 {B:Nat} {t:PTerm} (h:Sm B (A5 t)):t.odds.length<=B:=by
 rw [A0] at h
 simpa using h.len (md:=.fz) (chs:=t.odds.map encI) (by simp)
theorem C2u {B:Nat} {t k:PTerm} (h:Sm B (A5 t)) (hk:k∈t.kids):Sm B (A5 k):=by
 rw [A0] at h;exact h.sub (md:=.fz) (chs:=t.kids.map A5) (by simp) (List.mem_map.2 ⟨k,hk,rfl⟩)
theorem B6r (l:List Int):I5 1 (l.map encI)=true:=by simp [I5,encI]
theorem B3Y (b:Nat) (l:List Int):below.belowss b (l.map encI)=true:=V9 b encI (B3T b) l
attribute [simp] B6r B3Y
theorem A7A (hF:F 68=some f21):∀(N:Nat) (e:PTerm) (b:Nat) (σ:Sto),E3 e<=N->OkTm e->cntT e<=3000->
  A2 F O N b 68 [.agg (A5 e)] σ=some (.ret (.int .i64 (cntT e:Int)),σ)
 |0,e,b,σ,h,_,_=>by rw [B5] at h;omega
 |N+1,e,b,σ,h,hb,hc=>by
  have ih:=A7A hF N;have hk:=M3 e.kids;have hs:=B5 e;have hcd:=L7 e;refine A3 hF ?_;simp [x21,A0];obtain ⟨I,hI⟩:∃I:Nat->TAct->Sto->Prop,I=(fun j a σ'=>a.df=[]/\σ'=σ/\∃acc:Nat,acc+F6 (e.kids.drop j)=cntT e/\a.tm.get 3=some (.int .i64 (acc:Int))/\a.tm.get 7=some (.sl .fz (e.kids.map A5))/\a.tm.get 8=some (.int .i64 (e.kids.length:Int))/\a.tm.get 9=some (.int .i64 j)):=⟨_,rfl⟩
  obtain ⟨R,hR⟩:∃R:TEx->TAct->Sto->Prop,R=(fun ex a σ'=>ex=.exit 0/\a.df=[]/\σ'=σ/\a.tm.get 3=some (.int .i64 (cntT e:Int))):=⟨_,rfl⟩;refine B8 I e.kids.length R ?_ ?_ ?_ ?_ ?_
  ·rw [hI];exact ⟨rfl,rfl,1,by rw [List.drop_zero];omega,by simp,by simp,by simp,by simp⟩
  ·omega
  ·rw [hI];rintro j ⟨tm,df,clk⟩ σ' hj ⟨rfl,rfl,acc,ha,h3,h7,h8,h9⟩;rw [<-hI];have hw:=F9 hj hb.len;rw [A3L hj] at ha;have hcc:=ih e.kids[j] σ'.length σ' (by have:=D3 _ _ (List.getElem_mem hj);omega) (hb.sub _ (List.getElem_mem hj)) (by omega);have hw2:IntKind.i64.wrap ((acc:Int)+(cntT e.kids[j]:Int))=((acc+cntT e.kids[j]:Nat):Int):=by rw [G2]<;>omega
   rw [A0] at hcc;simp [h3,h7,h8,h9,hj,hcc,hw,hw2,A0];rw [hI];exact ⟨rfl,rfl,acc+cntT e.kids[j],by omega,by simp,by simp [h7],by simp [h8],by simp⟩
  ·rw [hI];rintro ⟨tm,df,clk⟩ σ' ⟨rfl,rfl,acc,ha,h3,h7,h8,h9⟩;rw [List.drop_of_length_le (Nat.le_refl _)] at ha;simp [h3,h7,h8,h9];rw [hR];exact ⟨rfl,rfl,rfl,by rw [<-ha];simp [h3,F6]⟩
  ·rw [hR];rintro ex ⟨tm,df,clk⟩ σ' ⟨rfl,rfl,rfl,h3⟩;simp [h3]
inductive IntsV (σ:Sto):TV->List Int->Prop
 |nl:IntsV σ (.sl .nl []) []
 |fz (l:List Int):IntsV σ (.sl .fz (l.map encI)) l
 |ref {k ver e c:Nat} (l tl:List Int):σ.at k=some ⟨ver,.cells (encZT (l++tl)) e⟩->IntsV σ (.ref k 0 1 l.length c) l
theorem J7 (l:List Int):(encZT l).length=l.length:=by simp [encZT]
theorem B6s {l:List Int} (tl:List Int) {j:Nat} (hj:j<l.length):(encZT (l++tl))[j]? =some (.int .i64 l[j]):=by
 unfold encZT;rw [List.getElem?_map,List.getElem?_append_left hj,List.getElem?_eq_getElem hj];rfl
theorem A1S (l m:List Int):encZT (l++m)=encZT l++encZT m:=by simp [encZT]
theorem A9q (l:List Int):(l.map encI).flatten=encZT l:=by
 induction l with
 |nil=>rfl
 |cons x l ih=>rw [List.map_cons,List.flatten_cons,ih];rfl
theorem A3M:∀(l tl:List Int),A2b 1 l.length (encZT (l++tl))=l.map encI
 |[],tl=>rfl
 |x::l,tl=>by
  have ih:=A3M l tl;simp only [List.length_cons,A2b,List.map_cons,<-ih];rfl
theorem A1d (l:List Int):(encZT l).any C0=false:=by simp [encZT]
theorem B3Z (l tl:List Int):(encZT (l++tl)).take l.length=encZT l:=by
 rw [A1S];simp [encZT]
theorem B27 {l:List Int} {j:Nat} (hj:j<l.length) (x:Int):decide (x∈l.drop j)=(decide (x=l[j])||decide (x∈l.drop (j+1))):=by
 rw [List.drop_eq_getElem_cons hj];simp only [List.mem_cons,Bool.decide_or]
theorem C07 (h111:F 72=some f111) (N:Nat) (va:TV) (l:List Int) (x:Int) (b:Nat) (σ:Sto) (hv:IntsV σ va l) (hl:l.length<=maxLen) (hN:l.length<N):
  ∃r:Int,A2 F O (N+1) b 72 [va,.int .i64 x] σ=some (.ret (.int .i64 r),σ)/\decide (0<=r)=decide (x∈l):=by
 suffices hh:∃e' σ',A2 F O (N+1) b 72 [va,.int .i64 x] σ=some (e',σ')/\∃r:Int,e'=.ret (.int .i64 r)/\σ'=σ/\decide (0<=r)=decide (x∈l) by
  obtain ⟨e',σ',q1,r,rfl,rfl,q2⟩:=hh;exact ⟨r,q1,q2⟩
 refine E4 h111 ?_;rcases hv with _|_|⟨_,tl,hk⟩
 ·simp [x111];refine B8 (I:=fun j a σ'=>a.df=[]/\σ'=σ/\a.tm.get 7=some (.int .i64 0)/\a.tm.get 8=some (.int .i64 0)) 0 (R:=fun ex a σ'=>ex=.exit 0/\a.df=[]/\σ'=σ) ?_ ?_ ?_ ?_ ?_
  ·simp
  ·simpa using hN
  ·intro j a σ' hj;omega
  ·rintro ⟨tm,df,clk⟩ σ' ⟨rfl,rfl,h0,h5⟩;simp [h0,h5]
  ·rintro ex ⟨tm,df,clk⟩ σ' ⟨rfl,rfl,rfl⟩;simp
 ·obtain ⟨va,hva⟩:∃va,va=TV.sl .fz (l.map encI):=⟨_,rfl⟩;rw [<-hva];simp [x111,hva];obtain ⟨I,hI⟩:∃I:Nat->TAct->Sto->Prop,I=(fun j a σ'=>a.df=[]/\σ'=σ/\decide (x∈l.drop j)=decide (x∈l)/\a.tm.get 0=some va/\a.tm.get 1=some (.int .i64 x)/\a.tm.get 7=some (.int .i64 (l.length:Int))/\a.tm.get 8=some (.int .i64 j)):=⟨_,rfl⟩
  obtain ⟨R,hR⟩:∃R:TEx->TAct->Sto->Prop,R=(fun ex a σ'=>a.df=[]/\σ'=σ/\(ex=.exit 0/\decide (x∈l)=false\/ex=.ret/\decide (x∈l)=true/\∃r:Int,0<=r/\a.tm.get 4=some (.int .i64 r))):=⟨_,rfl⟩;refine B8 I l.length R ?_ hN ?_ ?_ ?_
  ·rw [hI];exact ⟨rfl,rfl,by rw [List.drop_zero],by simp [hva],by simp,by simp,by simp⟩
  ·rw [hI];rintro j ⟨tm,df,clk⟩ σ' hj ⟨rfl,rfl,hd,h0,h1,h7,h8⟩;rw [<-hI];have hw:=F9 hj hl;rw [B27 hj] at hd;rw [hva] at h0;skip
   by_cases hx:x=l[j]
   ·simp [h0,h1,h7,h8,hj,hw,hx,encI];rw [hR];rw [decide_eq_true hx,Bool.true_or] at hd;exact ⟨rfl,rfl,.inr ⟨rfl,hd.symm,(j:Int),by omega,by simp⟩⟩
   ·simp [h0,h1,h7,h8,hj,hw,hx,encI];rw [hI];rw [decide_eq_false hx,Bool.false_or] at hd;exact ⟨rfl,rfl,hd,by simp [h0,hva],by simp [h1],by simp [h7],by simp⟩
  ·rw [hI];rintro ⟨tm,df,clk⟩ σ' ⟨rfl,rfl,hd,h0,h1,h7,h8⟩;rw [List.drop_of_length_le (Nat.le_refl _)] at hd;rw [hva] at h0;simp [h0,h1,h7,h8];rw [hR];exact ⟨rfl,rfl,.inl ⟨rfl,by rw [<-hd];simp⟩⟩
  ·rw [hR];rintro ex ⟨tm,df,clk⟩ σ' ⟨rfl,rfl,⟨rfl,h⟩|⟨rfl,h,r,hr,h4⟩⟩
   ·simp [h];exact of_decide_eq_false h
   ·simp [h,h4,hr];exact of_decide_eq_true h
 ·rename_i k ver e c;obtain ⟨va,hva⟩:∃va,va=TV.ref k 0 1 l.length c:=⟨_,rfl⟩;rw [<-hva];simp [x111,hva];obtain ⟨I,hI⟩:∃I:Nat->TAct->Sto->Prop,I=(fun j a σ'=>a.df=[]/\σ'=σ/\decide (x∈l.drop j)=decide (x∈l)/\a.tm.get 0=some va/\a.tm.get 1=some (.int .i64 x)/\a.tm.get 7=some (.int .i64 (l.length:Int))/\a.tm.get 8=some (.int .i64 j)):=⟨_,rfl⟩
  obtain ⟨R,hR⟩:∃R:TEx->TAct->Sto->Prop,R=(fun ex a σ'=>a.df=[]/\σ'=σ/\(ex=.exit 0/\decide (x∈l)=false\/ex=.ret/\decide (x∈l)=true/\∃r:Int,0<=r/\a.tm.get 4=some (.int .i64 r))):=⟨_,rfl⟩;refine B8 I l.length R ?_ hN ?_ ?_ ?_
  ·rw [hI];exact ⟨rfl,rfl,by rw [List.drop_zero],by simp [hva],by simp,by simp,by simp⟩
  ·rw [hI];rintro j ⟨tm,df,clk⟩ σ' hj ⟨rfl,rfl,hd,h0,h1,h7,h8⟩;rw [<-hI];have hw:=F9 hj hl;rw [B27 hj] at hd;rw [hva] at h0
   (have hgj:=B6s tl hj;generalize encZT (l++tl)=cs at hk hgj)
   by_cases hx:x=l[j]
   ·simp [h0,h1,h7,h8,hj,hw,hx,encI,hk,hgj];rw [hR];rw [decide_eq_true hx,Bool.true_or] at hd;exact ⟨rfl,rfl,.inr ⟨rfl,hd.symm,(j:Int),by omega,by simp⟩⟩
   ·simp [h0,h1,h7,h8,hj,hw,hx,encI,hk,hgj];rw [hI];rw [decide_eq_false hx,Bool.false_or] at hd;exact ⟨rfl,rfl,hd,by simp [h0,hva],by simp [h1],by simp [h7],by simp⟩
  ·rw [hI];rintro ⟨tm,df,clk⟩ σ' ⟨rfl,rfl,hd,h0,h1,h7,h8⟩;rw [List.drop_of_length_le (Nat.le_refl _)] at hd;rw [hva] at h0;simp [h0,h1,h7,h8];rw [hR];exact ⟨rfl,rfl,.inl ⟨rfl,by rw [<-hd];simp⟩⟩
  ·rw [hR];rintro ex ⟨tm,df,clk⟩ σ' ⟨rfl,rfl,⟨rfl,h⟩|⟨rfl,h,r,hr,h4⟩⟩
   ·simp [h];exact of_decide_eq_false h
   ·simp [h,h4,hr];exact of_decide_eq_true h
theorem A3N (h66:F 32=some f66) (h111:F 72=some f111) (N:Nat) (va:TV) (l:List Int) (x:Int) (b:Nat) (σ:Sto) (hv:IntsV σ va l) (hl:l.length<=maxLen) (hN:l.length<N):
  A2 F O (N+2) b 32 [va,.int .i64 x] σ=some (.ret (.bool (decide (x∈l))),σ):=by
 obtain ⟨r,hq,hr⟩:=C07 (O:=O) h111 N va l x σ.length σ hv hl hN;refine A3 h66 ?_;have hr':(0<=r)=(x∈l):=propext ⟨fun h=>of_decide_eq_true (hr▸decide_eq_true h),fun h=>of_decide_eq_true (hr.trans (decide_eq_true h))⟩;rcases hv with _|_|⟨_,tl,hk⟩<;>simp [x66,hq,hr]
theorem at_app {σ τ:Sto} {k:Nat} (h:k<σ.length):Sto.at (σ++τ) k=σ.at k:=by
 simp only [Sto.at];rw [List.getElem?_append_left h]
theorem A3O (σ:Sto) (o:TObj):Sto.at (σ++[some o]) σ.length=some o:=by simp [Sto.at]
theorem B8u (h67:F 81=some f67) (N b:Nat) (σ:Sto):A2 F O (N+1) b 81 [.sl .nl []] σ=some (.ret (.sl .nl []),σ):=by
 refine A3 h67 ?_;simp [x67]
theorem B8v (h67:F 81=some f67) (N b:Nat) (σ:Sto):A2 F O (N+1) b 81 [.sl .fz []] σ=some (.ret (.sl .fz []),σ):=by
 simp only [A2,h67];rfl
theorem B58 (h67:F 81=some f67) (N b:Nat) (va:TV) (l:List Int) (σ:Sto) (hv:IntsV σ va l) (hne:l≠[]) (hl:l.length<=1073741824):
  A2 F O (N+1) b 81 [va] σ=some (.ret (.ref (σ.length+1) 0 1 l.length (C4+1)),σ++[some ⟨0,.cells [] 3⟩]++[some ⟨0,.cells (encZT l) 3⟩]):=by
 suffices hh:∃e' σ',A2 F O (N+1) b 81 [va] σ=some (e',σ')/\e'=.ret (.ref (σ.length+1) 0 1 l.length (C4+1))/\σ'=σ++[some ⟨0,.cells [] 3⟩]++[some ⟨0,.cells (encZT l) 3⟩] by
  obtain ⟨e',σ',q1,rfl,rfl⟩:=hh;exact q1
 have hp:B60 f67.clone [va]=false:=by
  rcases hv with _|_|_
  ·rfl
  ·cases l with
   |nil=>exact absurd rfl hne
   |cons x l=>rfl
  ·rfl
 refine E4 h67 ?_ hp;have hnew:=A3O σ ⟨0,.cells [] 3⟩;rcases hv with _|_|⟨_,tl,hk⟩
 ·exact absurd rfl hne
 ·cases l with
  |nil=>exact absurd rfl hne
  |cons x l=>
   have hfl:=A9q l;simp at hl;simp [x67,encI,hnew,hl];simp [encZT] at hfl ⊢;exact hfl
 ·rename_i k ver e c;have hkl:=Sto.lt hk;have hap:Sto.at (σ++[some ⟨0,.cells [] 3⟩]) k=_:=(at_app hkl).trans hk;have hch:=A3M l tl;have hle:l.length<=(encZT (l++tl)).length:=by rw [J7];simp
  have hnow:((encZT (l++tl)).take l.length).any C0=false:=by rw [B3Z];exact A1d l
  have hfl:=A9q l;generalize encZT (l++tl)=cs at hk hap hch hle hnow;cases l with
  |nil=>exact absurd rfl hne
  |cons x l=>
   simp at hl hch hle;simp only [List.length_cons] at hnow;simp [x67,hk,hnew,hap,hch,hl,hle,hnow,encI];simp [encZT,encI] at hfl ⊢;exact hfl
def C2v:XCode:=(by exact fun x _=>x:V0 (gT x41.body [1,1,1,1,1,0,0,1,1,0,0,1,1,0,1,0,1,1])) _ (by conv=>lhs;cbv)
def B6t:XCode:=(by exact fun x _=>x:V1 (fun a=>pT (gT x41.body [1,1,1,1,1,0,0,1,1,0,0,1,1,0]) [1,0,1,1] a)) _ (by intros;conv=>lhs;cbv) C2v
def B40:XCode:=(by exact fun x _=>x:V1 (fun a=>pT (gT x41.body [1,1,1,1,1,0,0,1,1,0,0]) [1,1,0] a)) _ (by intros;conv=>lhs;cbv) B6t
def B41:XCode:=(by exact fun x _=>x:V0 (gT x41.body [1,1,1,0])) _ (by conv=>lhs;cbv)
def B6u:XCode:=(by exact fun x _=>x:V0 (gT x41.body [1,0])) _ (by conv=>lhs;cbv)
theorem C08:x41=(by exact fun x _=>x:V3 (fun a b d=>({x41 with body:=pT (pT (pT (x41.body) [1,0] a) [1,1,1,0] b) [1,1,1,1,1,0,0,1,1,0,0] d}:XFun))) _ (by intros;conv=>lhs;cbv) B6u B41 B40:=rfl
theorem H8 {an:Ann} {b:Nat} {C:F1} {n:Nat} {Q0 Q:TEx->TAct->Sto->Prop} {ks:List Kt} {r:Option (TEx×TAct×Sto)} (h:Tw an b C n Q0 [] r) (k:∀e a σ,Q0 e a σ->Q3 an b C n Q ks e a σ):Tw an b C n Q ks r:=by
 obtain ⟨e,a,σ,h1,h2⟩:=h;exact ⟨e,a,σ,h1,k _ _ _ h2⟩
def O3 (t:PTerm):Int:=if t.kind=7 then min (max t.m 0) 4 else if t.kind=9 then 2 else 0
theorem B28 (t:PTerm):0<=O3 t/\O3 t<=4:=by unfold O3;split<;>(try split)<;>omega
def D6 (n:Int):Nat->List Int
 |0=>[]
 |k+1=>D6 n k++(if n+(k:Int)<=9223372036854775807 then [n+(k:Int)] else [])
theorem A1T (n:Int):∀k,(D6 n k).length<=k
 |0=>Nat.le_refl _
 |k+1=>by
  have:=A1T n k;simp only [D6,List.length_append];split<;>simp<;>omega
def O4 (bd:List Int) (t:PTerm):List Int:=bd++D6 t.n (O3 t).toNat
def B59 (bd bd':List Int):List PTerm->List Int
 |[]=>bd'
 |_::_=>bd
mutual
def freeC (bd:List Int):PTerm->List Int
 |.mk k n m v o ks=>(if k=2/\n∉bd then [n] else [])++P9 bd (O4 bd (.mk k n m v o ks)) ks
def P9 (bd bd':List Int):List PTerm->List Int
 |[]=>[]
 |t::l=>freeC (B59 bd bd' l) t++P9 bd bd' l
end
theorem A9r (bd:List Int) (t:PTerm):freeC bd t=(if t.kind=2/\t.n∉bd then [t.n] else [])++P9 bd (O4 bd t) t.kids:=by
 cases t;simp only [freeC,PTerm.kind,PTerm.n,PTerm.kids];rfl
theorem B29 {bd bd':List Int} {l:List PTerm} {j:Nat} (hj:j<l.length):P9 bd bd' (l.drop j)=freeC (if j+1=l.length then bd' else bd) l[j]++P9 bd bd' (l.drop (j+1)):=by
 rw [List.drop_eq_getElem_cons hj];simp only [P9];congr 2
 by_cases h:j+1=l.length
 ·rw [if_pos h,List.drop_of_length_le (by omega)];rfl
 ·rw [if_neg h,List.drop_eq_getElem_cons (by omega)];rfl
mutual
theorem A5g (bd:List Int):∀t,(freeC bd t).length<=cntT t
 |.mk k n m v o ks=>by
  have:=A7B bd (O4 bd (.mk k n m v o ks)) ks;simp only [freeC,cntT,List.length_append];split<;>simp<;>omega
theorem A7B (bd bd':List Int):∀l,(P9 bd bd' l).length<=F6 l
 |[]=>Nat.le_refl _
 |t::l=>by
  have:=A5g (B59 bd bd' l) t;have:=A7B bd bd' l;simp only [P9,F6,List.length_append];omega
end
inductive OutV (σ:Sto):TV->List Int->Prop
 |nl:OutV σ (.sl .nl []) []
 |ref {k ver:Nat} (l:List Int):l≠[]->σ.at k=some ⟨ver,.cells (encZT l) 3⟩->OutV σ (.ref k 0 1 l.length (C4+1)) l
def OutS (σ:Sto) (po:Nat) (l:List Int):Prop:=∃ver ov,σ.at po=some ⟨ver,.cells [ov] 25⟩/\OutV σ ov l
def rowOf (σ:Sto) (po:Nat):Option Nat:=
 match σ.at po with
 |some ⟨_,.cells [.ref k _ _ _ _] _⟩=>some k
 |_=>none
structure Frm (σ σ':Sto) (po:Nat):Prop where
 len:σ.length<=σ'.length
 same:∀k,k<σ.length->k≠po->rowOf σ po≠some k->σ'.at k=σ.at k
 row:∀k,rowOf σ' po=some k->rowOf σ po=some k\/σ.length<=k
theorem Frm.refl (σ:Sto) (po:Nat):Frm σ σ po:=⟨Nat.le_refl _,fun _ _ _ _=>rfl,fun k h=>.inl h⟩
theorem Frm.trans {σ σ1 σ2:Sto} {po:Nat} (a:Frm σ σ1 po) (b:Frm σ1 σ2 po):Frm σ σ2 po:=by
 refine ⟨Nat.le_trans a.len b.len,fun k hk hp hr=> ?_,fun k h=> ?_⟩
 ·rw [b.same k (Nat.lt_of_lt_of_le hk a.len) hp,a.same k hk hp hr];intro h;rcases a.row k h with h|h
  ·exact hr h
  ·omega
 ·rcases b.row k h with h|h
  ·exact a.row k h
  ·exact .inr (Nat.le_trans a.len h)
structure Grn (σ σ':Sto):Prop where
 len:σ.length<=σ'.length
 same:∀k,k<σ.length->σ'.at k=σ.at k
theorem Grn.refl (σ:Sto):Grn σ σ:=⟨Nat.le_refl _,fun _ _=>rfl⟩
theorem Grn.trans {σ σ1 σ2:Sto} (a:Grn σ σ1) (b:Grn σ1 σ2):Grn σ σ2:=⟨Nat.le_trans a.len b.len,fun k hk=>by rw [b.same k (Nat.lt_of_lt_of_le hk a.len),a.same k hk]⟩
theorem Grn.app (σ τ:Sto):Grn σ (σ++τ):=⟨by simp,fun k hk=>at_app hk⟩
theorem Grn.frm {σ σ':Sto} {po:Nat} (g:Grn σ σ') (hp:po<σ.length):Frm σ σ' po:=by
 refine ⟨g.len,fun k hk _ _=>g.same k hk,fun k h=>.inl ?_⟩;unfold rowOf at h ⊢
 rwa [g.same po hp] at h
theorem OutS.lt {σ:Sto} {po:Nat} {l:List Int} (h:OutS σ po l):po<σ.length:=by
 obtain ⟨ver,ov,h1,_⟩:=h;exact Sto.lt h1
theorem OutS.grn {σ σ':Sto} {po:Nat} {l:List Int} (h:OutS σ po l) (g:Grn σ σ'):OutS σ' po l:=by
 obtain ⟨ver,ov,h1,h2⟩:=h;refine ⟨ver,ov,by rw [g.same po (Sto.lt h1)];exact h1,?_⟩;cases h2 with
 |nl=>exact .nl
 |ref l hne hk=>exact .ref l hne (by rw [g.same _ (Sto.lt hk)];exact hk)
structure BdV (σ:Sto) (po:Nat) (v:TV) (l:List Int):Prop where
 ints:IntsV σ v l
 ne:v=.sl .nl []\/l≠[]
 sep:∀k o s n c,v=.ref k o s n c->k≠po/\rowOf σ po≠some k
 give:give v=some v
 own:C0 v=false
theorem BdV.frm {σ σ':Sto} {po:Nat} {v:TV} {l:List Int} (h:BdV σ po v l) (f:Frm σ σ' po):BdV σ' po v l:=by
 refine ⟨?_,h.ne,fun k o s n c e=> ?_,h.give,h.own⟩
 ·cases h.ints with
  |nl=>exact .nl
  |fz l=>exact .fz l
  |ref l tl hk=>
   obtain ⟨h1,h2⟩:=h.sep _ _ _ _ _ rfl;exact .ref l tl (by rw [f.same _ (Sto.lt hk) h1 h2];exact hk)
 ·obtain ⟨h1,h2⟩:=h.sep _ _ _ _ _ e;refine ⟨h1,fun hr=> ?_⟩;rcases f.row _ hr with hr|hr
  ·exact h2 hr
  ·subst e;cases h.ints with
   |ref l tl hk=>have:=Sto.lt hk;omega
theorem B8w (σ:Sto) (po:Nat):BdV σ po (.sl .nl []) []:=⟨.nl,.inl rfl,fun _ _ _ _ _ h=>(by cases h),rfl,rfl⟩
theorem BdV.lt {σ:Sto} {po:Nat} {v:TV} {l:List Int} (h:BdV σ po v l) {k o s n c:Nat} (e:v=.ref k o s n c):k<σ.length:=by
 subst e;cases h.ints with
 |ref l tl hk=>exact Sto.lt hk
theorem C7r {C:F1} {N b:Nat} (e:PTerm) (a:TAct) (σ:Sto) (v1 v2:TV) (hdf:a.df=[]) (h1:a.tm.get 1=some v1) (h2:a.tm.get 2=some v2) (h3:a.tm.get 3=some (.bx 0 (A5 e) 28)) (h6:a.tm.get 6=some (.int .i64 0)):
  Tw a41 b C N (fun ex a' σ'=>ex=.normal/\σ'=σ/\a'.df=[]/\a'.tm.get 1=some v1/\a'.tm.get 2=some v2/\a'.tm.get 3=some (.bx 0 (A5 e) 28)/\a'.tm.get 6=some (.int .i64 (O3 e))) [] (B9 a41 b C N B41 a σ):=by
 obtain ⟨tm,df,clk⟩:=a;simp only at hdf h1 h2 h3 h6;subst hdf;have h3':=h3;rw [A0] at h3;unfold O3
 by_cases k7:e.kind=7
 ·rw [if_pos k7]
  by_cases m0:e.m<0
  ·have e1:min (max e.m 0) 4=0:=by omega
   simp [B41,h3,k7,m0,h1,h2,A0,e1,A04,F2]
  ·have hm0:¬(e.m<0):=m0
   by_cases m4:4<e.m
   ·have e1:min (max e.m 0) 4=4:=by omega
    simp [B41,h3,k7,m0,m4,h1,h2,A0,e1,A04,F2]
   ·have e1:min (max e.m 0) 4=e.m:=by omega
    simp [B41,h3,k7,m0,m4,h1,h2,A0,e1,A04,F2]
 ·rw [if_neg k7]
  by_cases k9:e.kind=9
  ·simp [B41,h3,k9,h1,h2,A0]
  ·simp [B41,h3,k7,k9,h1,h2,A0,h6]
theorem B5a {σ Y:Sto} {po ver':Nat} {l:List Int} (hp:po<σ.length) (hY:Y.length=σ.length) (hs:∀j,j<σ.length->j≠po->rowOf σ po≠some j->Y.at j=σ.at j) (hne:l≠[]):
  OutS ((Y++[some (⟨0,.cells (encZT l) 3⟩:TObj)]).set po (some (⟨ver',.cells [.ref σ.length 0 1 l.length (C4+1)] 25⟩:TObj))) po l/\
  Frm σ ((Y++[some (⟨0,.cells (encZT l) 3⟩:TObj)]).set po (some (⟨ver',.cells [.ref σ.length 0 1 l.length (C4+1)] 25⟩:TObj))) po:=by
 have hat:Sto.at ((Y++[some (⟨0,.cells (encZT l) 3⟩:TObj)]).set po (some (⟨ver',.cells [.ref σ.length 0 1 l.length (C4+1)] 25⟩:TObj))) po=some ⟨ver',.cells [.ref σ.length 0 1 l.length (C4+1)] 25⟩:=by
  have:po<(Y++[some (⟨0,.cells (encZT l) 3⟩:TObj)]).length:=by simp;omega
  simp only [Sto.at];rw [List.getElem?_set_self this]
 refine ⟨⟨_,_,hat,.ref (ver:=0) l hne ?_⟩,⟨by simp;omega,fun k hk hkp hr=> ?_,fun k h=> ?_⟩⟩
 ·rw [A28 (by omega),<-hY];exact A3O Y _
 ·rw [A28 (by omega),at_app (by omega)];exact hs k hk hkp hr
 ·unfold rowOf at h;rw [hat] at h;cases h;exact .inr (Nat.le_refl _)
theorem C9B {N b:Nat} (h66:F 32=some f66) (h111:F 72=some f111) (e:PTerm) (a:TAct) (σ:Sto) (po:Nat) (ol:List Int) (bv:TV) (bd:List Int) (hb:BdV σ po bv bd) (ho:OutS σ po ol) (hbp:b<=po) (hbl:bd.length<N) (hbm:bd.length<=maxLen) (hol:ol.length<=100000)
  (hdf:a.df=[]) (h1:a.tm.get 1=some bv) (h2:a.tm.get 2=some (.ptr po 0)) (h3:a.tm.get 3=some (.bx 0 (A5 e) 28)):
  Tw a41 b (A2 F O (N+2)) (N+2) (fun ex a' σ'=>ex=.normal/\OutS σ' po (ol++(if e.kind=2/\e.n∉bd then [e.n] else []))/\Frm σ σ' po/\a'.df=[]/\a'.tm.get 1=some bv/\a'.tm.get 2=some (.ptr po 0)/\a'.tm.get 3=some (.bx 0 (A5 e) 28)) [] (B9 a41 b (A2 F O (N+2)) (N+2) B6u a σ):=by
 obtain ⟨tm,df,clk⟩:=a;simp only at hdf h1 h2 h3;subst hdf;have h3':=h3;rw [A0] at h3;have hints:=hb.ints;have hg:=hb.give;have hown:=hb.own
 by_cases k2:e.kind=2
 case neg=>
  rw [if_neg (fun h=>k2 h.1),List.append_nil];simp [B6u,h3,k2,h1,h2,A0,ho,Frm.refl,B4]
 have hc:=A3N (O:=O) h66 h111 N bv bd e.n b σ hb.ints hbm hbl
 by_cases hm:e.n∈bd
 ·rw [if_neg (fun h=>h.2 hm),List.append_nil];rw [decide_eq_true hm] at hc;rcases hints with _|_|_
  skip
  all_goals simp [B6u,h3,k2,h1,h2,A0,ho,Frm.refl,B4,hc]
 ·rw [if_pos ⟨k2,hm⟩];rw [decide_eq_false hm] at hc;obtain ⟨ver,ov,hpo,hov⟩:=ho;have hpl:=Sto.lt hpo;rcases hov with _|⟨_,hne,hk⟩
  ·have hapo:Sto.at (σ++[some ⟨0,.cells [.int .i64 e.n] 3⟩]) po=_:=(at_app hpl).trans hpo;obtain ⟨q1,q2⟩:=B5a (Y:=σ) (ver':=ver+1) (l:=[e.n]) hpl rfl (fun _ _ _ _=>rfl) (by simp);have ez:encZT [e.n]=[.int .i64 e.n]:=rfl;rw [ez] at q1 q2;simp only [List.length_cons,List.length_nil,Nat.zero_add] at q1 q2;rcases hints with _|_|_
   skip
   all_goals simp [B6u,h3,k2,h1,h2,A0,B4,hc,hpo,hapo,hbp,q1,q2]
  ·rename_i k vk;have hkp:k≠po:=by
    rintro rfl;rw [hpo] at hk;simp at hk
   have hY:∀j,j<σ.length->j≠po->rowOf σ po≠some j->Sto.at (σ.set k none) j=σ.at j:=fun j h1 h2 h3=>A28 (fun e=>h3 (by subst e;unfold rowOf;rw [hpo]))
   obtain ⟨q1,q2⟩:=B5a (Y:=σ.set k none) (ver':=ver+1) (l:=ol++[e.n]) hpl (by simp) hY (by simp);have hapo:Sto.at (σ.set k none++[some (⟨0,.cells (encZT (ol++[e.n])) 3⟩:TObj)]) po=_:=((at_app (by simpa using hpl)).trans (A28 hkp)).trans hpo;have ez:encZT (ol++[e.n])=encZT ol++[.int .i64 e.n]:=by rw [A1S];rfl
   have hcl:(encZT ol).length=ol.length:=J7 ol;have hct:(encZT ol).take ol.length=encZT ol:=List.take_of_length_le (by omega);have hca:=A1d ol;have hol2:ol.length+1<=1073741824:=by omega
   rw [ez] at q1 q2 hapo;simp only [List.length_append,List.length_cons,List.length_nil,Nat.zero_add] at q1 q2;generalize encZT ol=cs at*;rcases hints with _|_|_
   all_goals simp [B6u,h3,k2,h1,h2,A0,B4,hc,hpo,hapo,hbp,q1,q2,hk,hcl,hct,hca,hol2]
inductive BV (lo:Nat) (σ:Sto):TV->List Int->Prop
 |nl:BV lo σ (.sl .nl []) []
 |own (l:List Int):l≠[]->BV lo σ (.sl (.own 3 1) (l.map encI)) l
 |ref {k ver:Nat} (l:List Int):lo<=k->l≠[]->σ.at k=some ⟨ver,.cells (encZT l) 3⟩->BV lo σ (.ref k 0 1 l.length (C4+1)) l
theorem Grn.setapp {σ0 σ:Sto} {k:Nat} (g:Grn σ0 σ) (hk:σ0.length<=k) (τ:Sto):Grn σ0 (σ.set k none++τ):=by
 refine ⟨by simp;exact Nat.le_trans g.len (Nat.le_add_right _ _),fun j hj=> ?_⟩;rw [at_app (by simpa using Nat.lt_of_lt_of_le hj g.len),A28 (by omega)];exact g.same j hj
theorem C2w {C:F1} {N b:Nat} (e:PTerm) (he:OkTm e) (k:Nat) (hk:k<=4) (hN:5<=N) (a:TAct) (σ0 σ:Sto) (v0 v1 v2 v8 v41 v42 v43 v6:TV) (bd:List Int) (hg:Grn σ0 σ) (hbv:BV σ0.length σ v0 bd) (hbl:bd.length<=100000) (hdf:a.df=[])
  (h1:a.tm.get 1=some v1) (h2:a.tm.get 2=some v2) (h3:a.tm.get 3=some (.bx 0 (A5 e) 28)) (h6:a.tm.get 6=some v6) (h8:a.tm.get 8=some v8) (h41:a.tm.get 41=some v41) (h42:a.tm.get 42=some v42) (h43:a.tm.get 43=some v43)
  (h9:a.tm.get 9=some v0) (h61:a.tm.get 61=some (.int .i64 (k:Int))) (h62:a.tm.get 62=some (.int .i64 0)):
  Tw a41 b C N (fun ex a' σ'=>ex=.normal/\a'.df=[]/\Grn σ0 σ'/\(∃v,BV σ0.length σ' v (bd++D6 e.n k)/\a'.tm.get 9=some v)/\a'.tm.get 1=some v1/\a'.tm.get 2=some v2/\a'.tm.get 3=some (.bx 0 (A5 e) 28)/\a'.tm.get 6=some v6/\a'.tm.get 8=some v8/\a'.tm.get 41=some v41/\a'.tm.get 42=some v42/\a'.tm.get 43=some v43) [] (B9 a41 b C N C2v a σ):=by
 obtain ⟨tm,df,clk⟩:=a;simp only at hdf h1 h2 h3 h6 h8 h41 h42 h43 h9 h61 h62;subst hdf;simp [C2v]
 obtain ⟨I,hI⟩:∃I:Nat->TAct->Sto->Prop,I=(fun j a' σ'=>a'.df=[]/\Grn σ0 σ'/\(∃v,BV σ0.length σ' v (bd++D6 e.n j)/\a'.tm.get 9=some v)/\a'.tm.get 1=some v1/\a'.tm.get 2=some v2/\a'.tm.get 3=some (.bx 0 (A5 e) 28)/\a'.tm.get 6=some v6/\a'.tm.get 8=some v8/\a'.tm.get 41=some v41/\a'.tm.get 42=some v42/\a'.tm.get 43=some v43/\a'.tm.get 61=some (.int .i64 (k:Int))/\a'.tm.get 62=some (.int .i64 (j:Int))):=⟨_,rfl⟩
 obtain ⟨R,hR⟩:∃R:TEx->TAct->Sto->Prop,R=(fun ex a' σ'=>ex=.exit 3/\a'.df=[]/\Grn σ0 σ'/\(∃v,BV σ0.length σ' v (bd++D6 e.n k)/\a'.tm.get 9=some v)/\a'.tm.get 1=some v1/\a'.tm.get 2=some v2/\a'.tm.get 3=some (.bx 0 (A5 e) 28)/\a'.tm.get 6=some v6/\a'.tm.get 8=some v8/\a'.tm.get 41=some v41/\a'.tm.get 42=some v42/\a'.tm.get 43=some v43):=⟨_,rfl⟩;refine B8 I k R ?_ (by omega) ?_ ?_ ?_
 ·rw [hI];exact ⟨rfl,hg,⟨v0,by simpa [D6] using hbv,h9⟩,h1,h2,h3,h6,h8,h41,h42,h43,h61,by simpa using h62⟩
 ·rw [hI];rintro j ⟨tm,df,clk⟩ σ' hj ⟨rfl,hg,⟨v,hbv,h9⟩,h1,h2,h3,h6,h8,h41,h42,h43,h61,h62⟩;rw [<-hI];have hw1:IntKind.i64.wrap ((j:Int)+1)=((j+1:Nat):Int):=by rw [G2]<;>omega
  have h3':=h3;have hn:=he.n;unfold I64 at hn;have hsl:=A1T e.n j;rw [A0] at h3
  by_cases hov:e.n+(j:Int)<=9223372036854775807
  case neg=>
   have hw:¬e.n<=IntKind.i64.wrap (e.n+(j:Int)):=by rw [IntKind.wrap_i64];omega
   have hs:D6 e.n (j+1)=D6 e.n j:=by simp only [D6];rw [if_neg hov,List.append_nil]
   simp [h1,h2,h3,h6,h8,h9,h41,h42,h43,h61,h62,hj,hw1,hw];rw [hI];exact ⟨rfl,hg,⟨v,by rw [hs];exact hbv,by simp [h9]⟩,by simp [h1],by simp [h2],by simp [h3'],by simp [h6],by simp [h8],by simp [h41],by simp [h42],by simp [h43],by simp [h61],by simp⟩
  have hw:IntKind.i64.wrap (e.n+(j:Int))=e.n+(j:Int):=by rw [G2]<;>omega
  have hle:e.n<=e.n+(j:Int):=by omega
  have hs:D6 e.n (j+1)=D6 e.n j++[e.n+(j:Int)]:=by simp only [D6];rw [if_pos hov]
  have hlen:(bd++D6 e.n j).length<=100004:=by simp only [List.length_append];omega
  generalize hL:bd++D6 e.n j=L at hbv hlen;have hs':bd++D6 e.n (j+1)=L++[e.n+(j:Int)]:=by rw [hs,<-List.append_assoc,hL]
  generalize hx:e.n+(j:Int)=x at hw hle hs';rcases hbv with _|⟨_,hne⟩|⟨_,hlo,hne,hat⟩
  ·simp [h1,h2,h3,h6,h8,h9,h41,h42,h43,h61,h62,hj,hw1,hw,hle,hx];rw [hI];exact ⟨rfl,hg,⟨_,by rw [hs'];exact .own _ (by simp),by simp [encI]⟩,by simp [h1],by simp [h2],by simp [h3'],by simp [h6],by simp [h8],by simp [h41],by simp [h42],by simp [h43],by simp [h61],by simp⟩
  ·have hl2:L.length+1<=1073741824:=by omega
   simp [h1,h2,h3,h6,h8,h9,h41,h42,h43,h61,h62,hj,hw1,hw,hle,hx,hl2,encI];rw [hI];exact ⟨rfl,hg,⟨_,by rw [hs'];exact .own _ (by simp),by simp [encI]⟩,by simp [h1],by simp [h2],by simp [h3'],by simp [h6],by simp [h8],by simp [h41],by simp [h42],by simp [h43],by simp [h61],by simp⟩
  ·rename_i kk vk;have hl2:L.length+1<=1073741824:=by omega
   have hcl:(encZT L).length=L.length:=J7 L;have hct:(encZT L).take L.length=encZT L:=List.take_of_length_le (by omega);have hca:=A1d L;have hez:encZT (L++[x])=encZT L++[.int .i64 x]:=by rw [A1S];rfl
   have hgs:=hg.setapp hlo [some ⟨0,.cells (encZT (L++[x])) 3⟩];have hnw:Sto.at (σ'.set kk none++[some (⟨0,.cells (encZT (L++[x])) 3⟩:TObj)]) σ'.length=some ⟨0,.cells (encZT (L++[x])) 3⟩:=by
    have:=A3O (σ'.set kk none) ⟨0,.cells (encZT (L++[x])) 3⟩
    rwa [List.length_set] at this
   have hbv':BV σ0.length (σ'.set kk none++[some (⟨0,.cells (encZT (L++[x])) 3⟩:TObj)]) (.ref σ'.length 0 1 (L++[x]).length (C4+1)) (L++[x]):=.ref _ hg.len (by simp) hnw;rw [hez] at hgs hbv';simp only [List.length_append,List.length_cons,List.length_nil,Nat.zero_add] at hbv';generalize encZT L=cs at*;simp [h1,h2,h3,h6,h8,h9,h41,h42,h43,h61,h62,hj,hw1,hw,hle,hx,hl2,hat,hcl,hct,hca];rw [hI]
   exact ⟨rfl,hgs,⟨_,by rw [hs'];exact hbv',by simp⟩,by simp [h1],by simp [h2],by simp [h3'],by simp [h6],by simp [h8],by simp [h41],by simp [h42],by simp [h43],by simp [h61],by simp⟩
 ·rw [hI];rintro ⟨tm,df,clk⟩ σ' ⟨rfl,hg,hbv,h1,h2,h3,h6,h8,h41,h42,h43,h61,h62⟩;simp [h61,h62];rw [hR];obtain ⟨v,hbv,h9⟩:=hbv;exact ⟨rfl,rfl,hg,⟨v,hbv,by simp [h9]⟩,by simp [h1],by simp [h2],by simp [h3],by simp [h6],by simp [h8],by simp [h41],by simp [h42],by simp [h43]⟩
 ·rw [hR];rintro ex ⟨tm,df,clk⟩ σ' ⟨rfl,rfl,hg,hbv,h1,h2,h3,h6,h8,h41,h42,h43⟩;simp;exact ⟨hg,hbv,h1,h2,h3,h6,h8,h41,h42,h43⟩
theorem OutS.row_lt {σ:Sto} {po k:Nat} {l:List Int} (h:OutS σ po l) (e:rowOf σ po=some k):k<σ.length:=by
 obtain ⟨ver,ov,h1,h2⟩:=h;unfold rowOf at e;rw [h1] at e;cases h2 with
 |nl=>cases e
 |ref l hne hk=>cases e;exact Sto.lt hk
theorem BV.bdv {σ0 σ:Sto} {po:Nat} {v:TV} {l ol:List Int} (h:BV σ0.length σ v l) (ho:OutS σ0 po ol) (g:Grn σ0 σ):BdV σ po (frz v) l:=by
 cases h with
 |nl=>exact B8w σ po
 |own l hne=>exact ⟨.fz l,.inr hne,fun _ _ _ _ _ h=>(by cases h),rfl,rfl⟩
 |ref l hlo hne hk=>
  refine ⟨.ref l [] (by rw [List.append_nil];exact hk),.inr hne,fun k o s n c e=> ?_,rfl,rfl⟩;cases e;have hp:=ho.lt;refine ⟨by omega,fun hr=> ?_⟩;have hr2:rowOf σ0 po=rowOf σ po:=by unfold rowOf;rw [g.same po hp]
  have:=ho.row_lt (hr2.trans hr);omega
theorem C9C {N b:Nat} (h67:F 81=some f67) (e:PTerm) (he:OkTm e) (hN:5<=N) (a:TAct) (σ:Sto) (po:Nat) (ol:List Int) (bv:TV) (bd:List Int) (hb:BdV σ po bv bd) (ho:OutS σ po ol) (hbl:bd.length<=100000) (j:Nat) (hj:j<e.kids.length)
  (ih:∀(v:TV) (bd':List Int) (σ':Sto),BdV σ' po v bd'->OutS σ' po ol->bd'.length<=bd.length+4->
   ∃σ'',A2 F O (N+1) b 74 [.agg (A5 e.kids[j]),v,.ptr po 0] σ'=some (.ret (.tuple []),σ'')/\OutS σ'' po (ol++freeC bd' e.kids[j])/\Frm σ' σ'' po)
  (hdf:a.df=[]) (h1:a.tm.get 1=some bv) (h2:a.tm.get 2=some (.ptr po 0)) (h3:a.tm.get 3=some (.bx 0 (A5 e) 28)) (h6:a.tm.get 6=some (.int .i64 (O3 e)))
  (h41:a.tm.get 41=some (.sl .fz (e.kids.map A5))) (h42:a.tm.get 42=some (.int .i64 (e.kids.length:Int))) (h43:a.tm.get 43=some (.int .i64 (j:Int))):
  Tw a41 b (A2 F O (N+1)) (N+1) (fun ex a' σ'=>ex=.normal/\a'.df=[]/\OutS σ' po (ol++freeC (if j+1=e.kids.length then O4 bd e else bd) e.kids[j])/\Frm σ σ' po/\a'.tm.get 1=some bv/\a'.tm.get 2=some (.ptr po 0)/\a'.tm.get 3=some (.bx 0 (A5 e) 28)/\a'.tm.get 6=some (.int .i64 (O3 e))/\
   a'.tm.get 41=some (.sl .fz (e.kids.map A5))/\a'.tm.get 42=some (.int .i64 (e.kids.length:Int))/\a'.tm.get 43=some (.int .i64 (j:Int))) [] (B9 a41 b (A2 F O (N+1)) (N+1) B40 a σ):=by
 obtain ⟨tm,df,clk⟩:=a;simp only at hdf h1 h2 h3 h6 h41 h42 h43;subst hdf;have hlen:=he.len;unfold maxLen at hlen;have hw1:IntKind.i64.wrap ((e.kids.length:Int) - 1)=(e.kids.length:Int) - 1:=by rw [G2]<;>omega
 have hml:=B28 e;have hown:=hb.own;have hgiv:=hb.give;have h3':=h3;rw [A0] at h3;generalize hkid:e.kids[j]=kid at ih;have hkd:A5 kid=[.int .i64 kid.kind,.int .i64 kid.n,.int .i64 kid.m,.int .i64 kid.val.kind,.int .i64 kid.val.n,.sl .fz (kid.val.list.map E1),.sl .fz (kid.odds.map encI),.sl .fz (kid.kids.map A5)]:=A0 kid
 by_cases hlast:j+1=e.kids.length
 case neg=>
  rw [if_neg hlast];obtain ⟨σ'',hc,hO,hF⟩:=ih bv bd σ hb ho (by omega);have hne:¬(j:Int)=(e.kids.length:Int) - 1:=by omega
  rw [hkd] at hc
  by_cases hm:0<O3 e
  ·have hints:=hb.ints;rcases hints with _|_|_
   all_goals simp [B40,B6t,h1,h2,h3,h6,h41,h42,h43,hj,hkid,hkd,hm,hw1,hne,hc,B4,hO,hF,A0 e]
  ·have hints:=hb.ints;rcases hints with _|_|_
   all_goals simp [B40,B6t,h1,h2,h3,h6,h41,h42,h43,hj,hkid,hkd,hm,hw1,hne,hc,B4,hO,hF,A0 e]
 ·rw [if_pos hlast]
  by_cases hm:0<O3 e
  case neg=>
   have e0:O4 bd e=bd:=by
    unfold O4;rw [show (O3 e).toNat=0 by omega];simp [D6]
   rw [e0];obtain ⟨σ'',hc,hO,hF⟩:=ih bv bd σ hb ho (by omega);rw [hkd] at hc;have hints:=hb.ints;rcases hints with _|_|_
   all_goals simp [B40,B6t,h1,h2,h3,h6,h41,h42,h43,hj,hkid,hkd,hm,hw1,hc,B4,hO,hF,A0 e]
  have hjl:((j:Int)=(e.kids.length:Int) - 1)=True:=eq_true (by omega);obtain ⟨mk,hmk⟩:∃mk:Nat,O3 e=(mk:Int):=⟨(O3 e).toNat,by omega⟩;have hin:O4 bd e=bd++D6 e.n mk:=by unfold O4;rw [hmk,Int.toNat_natCast]
  rw [hin];rw [hmk] at h6 hm hml ⊢;have hm':0<mk:=by omega
  have hsl:=A1T e.n mk;have hbl2:(bd++D6 e.n mk).length<=bd.length+4:=by rw [List.length_append];omega
  have fin:∀(a':TAct) (σ'':Sto) (s8:Nat),a'.df=[]->Grn σ σ''->(∃v,BV σ.length σ'' v (bd++D6 e.n mk)/\a'.tm.get 9=some v)->a'.tm.get 1=some bv->a'.tm.get 2=some (.ptr po 0)->a'.tm.get 3=some (.bx 0 (A5 e) 28)->a'.tm.get 6=some (.int .i64 (mk:Int))->a'.tm.get 8=some (.bx s8 (A5 kid) 28)->
    a'.tm.get 41=some (.sl .fz (e.kids.map A5))->a'.tm.get 42=some (.int .i64 (e.kids.length:Int))->a'.tm.get 43=some (.int .i64 (j:Int))->
    Tw a41 b (A2 F O (N+1)) (N+1) (fun ex a' σ'=>ex=.normal/\a'.df=[]/\OutS σ' po (ol++freeC (bd++D6 e.n mk) kid)/\Frm σ σ' po/\a'.tm.get 1=some bv/\a'.tm.get 2=some (.ptr po 0)/\a'.tm.get 3=some (.bx 0 (A5 e) 28)/\a'.tm.get 6=some (.int .i64 (mk:Int))/\
     a'.tm.get 41=some (.sl .fz (e.kids.map A5))/\a'.tm.get 42=some (.int .i64 (e.kids.length:Int))/\a'.tm.get 43=some (.int .i64 (j:Int))) [] (B9 a41 b (A2 F O (N+1)) (N+1) (.region [⟨(some 80),.loadN 8 (.tmp 8),none⟩,⟨(some 81),.move (.tmp 9),none⟩,⟨(some 82),.move (.tmp 2),none⟩,⟨(some 83),.call 74 [(.tmp 80),(.tmp 81),(.tmp 82)],none⟩]) a' σ''):=by
   rintro ⟨tm,df,clk⟩ σ'' s8 rfl hg ⟨v,hbv,h9⟩ h1 h2 h3 h6 h8 h41 h42 h43;simp only at h9 h1 h2 h3 h6 h8 h41 h42 h43;obtain ⟨σ3,hc,hO,hF⟩:=ih (frz v) _ σ'' (hbv.bdv ho hg) (ho.grn hg) hbl2;have hF2:=(hg.frm ho.lt).trans hF;rw [hkd] at hc h8;generalize bd++D6 e.n mk=L at hbv hc hO;rcases hbv with _|_|_
   all_goals simp [h1,h2,h3,h6,h8,h9,h41,h42,h43,hkd]
   all_goals simp only [frz] at hc
   all_goals simp [hc,hO,hF2,h1,h2,h3,h6,h41,h42,h43]
  by_cases hbn:bd=[]
  ·have hv:bv=.sl .nl []:=by
    rcases hb.ne with h|h
    ·exact h
    ·exact absurd hbn h
   have hcl:=B8u (O:=O) h67 N b σ;subst hv;simp [B40,B6t,h1,h2,h3,h6,h41,h42,h43,hj,hkid,hkd,hm,hm',hw1,hjl,hcl,B4];apply H8
   ·apply C2w (N:=N+1) (σ0:=σ) e he mk (by omega) (by omega)
    ·exact Grn.refl σ
    ·show BV σ.length σ (.sl .nl []) bd
     rw [hbn];exact .nl
    ·exact hbl
    ·rfl
    ·simp [h1];rfl
    ·simp [h2];rfl
    ·simp [A0 e,h3]
    ·simp [h6];rfl
    ·simp;rfl
    ·simp [h41];rfl
    ·simp [h42];rfl
    ·simp [h43];rfl
    ·simp
    ·simp
    ·simp
   ·rintro ex a' σ' ⟨rfl,q0,q1,q2,q3,q4,q5,q6,q7,q8,q9,q10⟩;exact fin a' σ' _ q0 q1 q2 q3 q4 q5 q6 (by rw [hkd];exact q7) q8 q9 q10
  ·have hcl:=B58 (O:=O) h67 N b bv bd σ hb.ints hbn (by omega);have hgr:Grn σ (σ++[some (⟨0,.cells [] 3⟩:TObj)]++[some ⟨0,.cells (encZT bd) 3⟩]):=(Grn.app σ _).trans (Grn.app _ _);have hbv:BV σ.length (σ++[some (⟨0,.cells [] 3⟩:TObj)]++[some ⟨0,.cells (encZT bd) 3⟩]) (.ref (σ.length+1) 0 1 bd.length (C4+1)) bd:=by
    refine .ref bd (by omega) hbn ?_ (ver:=0);have:=A3O (σ++[some (⟨0,.cells [] 3⟩:TObj)]) ⟨0,.cells (encZT bd) 3⟩
    rwa [List.length_append] at this
   generalize σ++[some (⟨0,.cells [] 3⟩:TObj)]++[some ⟨0,.cells (encZT bd) 3⟩]=σ1 at hcl hgr hbv;have hints:=hb.ints;rcases hints with _|_|_
   ·exact absurd rfl hbn
   all_goals simp [B40,B6t,h1,h2,h3,h6,h41,h42,h43,hj,hkid,hkd,hm,hm',hw1,hjl,hcl,B4]
   ·apply H8
    ·apply C2w (N:=N+1) (σ0:=σ) e he mk (by omega) (by omega)
     ·exact hgr
     ·exact hbv
     ·exact hbl
     ·rfl
     ·simp [h1];rfl
     ·simp [h2];rfl
     ·simp [A0 e,h3]
     ·simp [h6];rfl
     ·simp;rfl
     ·simp [h41];rfl
     ·simp [h42];rfl
     ·simp [h43];rfl
     ·simp
     ·simp
     ·simp
    ·rintro ex a' σ' ⟨rfl,q0,q1,q2,q3,q4,q5,q6,q7,q8,q9,q10⟩;exact fin a' σ' _ q0 q1 q2 q3 q4 q5 q6 (by rw [hkd];exact q7) q8 q9 q10
   ·apply H8
    ·apply C2w (N:=N+1) (σ0:=σ) e he mk (by omega) (by omega)
     ·exact hgr
     ·exact hbv
     ·exact hbl
     ·rfl
     ·simp [h1];rfl
     ·simp [h2];rfl
     ·simp [A0 e,h3]
     ·simp [h6];rfl
     ·simp;rfl
     ·simp [h41];rfl
     ·simp [h42];rfl
     ·simp [h43];rfl
     ·simp
     ·simp
     ·simp
    ·rintro ex a' σ' ⟨rfl,q0,q1,q2,q3,q4,q5,q6,q7,q8,q9,q10⟩;exact fin a' σ' _ q0 q1 q2 q3 q4 q5 q6 (by rw [hkd];exact q7) q8 q9 q10
theorem B2a (h41:F 74=some f41) (h66:F 32=some f66) (h67:F 81=some f67) (h111:F 72=some f111):∀(M N:Nat) (e:PTerm) (b:Nat) (σ:Sto) (po:Nat) (ol:List Int) (bv:TV) (bd:List Int),E3 e<=M->M+100010<=N->OkTm e->BdV σ po bv bd->OutS σ po ol->b<=po->
  bd.length+4*cntT e<=100000->ol.length+cntT e<=100000->
  ∃σ',A2 F O N b 74 [.agg (A5 e),bv,.ptr po 0] σ=some (.ret (.tuple []),σ')/\OutS σ' po (ol++freeC bd e)/\Frm σ σ' po
 |0,N,e,b,σ,po,ol,bv,bd,h,_,_,_,_,_,_,_=>by rw [B5] at h;omega
 |M+1,N,e,b,σ,po,ol,bv,bd,h,hN,he,hb,ho,hbp,hbl,hol=>by
  have ih:=B2a h41 h66 h67 h111 M;have hk:=M3 e.kids;have hs:=B5 e;have hcd:=L7 e;have hfd:=A9r bd e;obtain ⟨N,rfl⟩:∃n,N=n+3:=⟨N - 3,by omega⟩
  suffices hh:∃e' σ',A2 F O (N+2+1) b 74 [.agg (A5 e),bv,.ptr po 0] σ=some (e',σ')/\e'=.ret (.tuple [])/\OutS σ' po (ol++freeC bd e)/\Frm σ σ' po by
   obtain ⟨e',σ',q1,rfl,q2⟩:=hh;exact ⟨σ',q1,q2⟩
  refine E4 h41 ?_;simp [C08,A0 e];apply H8
  ·apply C9B (N:=N) h66 h111 e _ σ po ol bv bd hb ho hbp
   ·omega
   ·unfold maxLen;omega
   ·omega
   ·rfl
   ·simp
   ·simp
   ·simp [A0 e]
  rintro ex ⟨tm,df,clk⟩ σ1 ⟨rfl,ho1,hf1,hdf,h1,h2,h3⟩;simp only at hdf h1 h2 h3;subst hdf;simp;apply H8
  ·apply C7r e
   ·rfl
   ·simp [h1];rfl
   ·simp [h2];rfl
   ·simp [h3]
   ·simp
  rintro ex ⟨tm,df,clk⟩ σ2 ⟨rfl,rfl,hdf,h1,h2,h3,h6⟩;simp only at hdf h1 h2 h3 h6;subst hdf;have h3e:=h3;rw [A0] at h3e;simp [h3e];generalize hL1:ol++(if e.kind=2/\e.n∉bd then [e.n] else [])=L1 at ho1;have hl1:L1.length<=ol.length+1:=by rw [<-hL1];split<;>simp
  have htot:ol++freeC bd e=L1++P9 bd (O4 bd e) e.kids:=by rw [hfd,<-List.append_assoc,hL1]
  rw [htot];have hinl:(O4 bd e).length<=bd.length+4:=by
   have:=A1T e.n (O3 e).toNat;have:=B28 e;unfold O4;rw [List.length_append];omega
  obtain ⟨I,hI⟩:∃I:Nat->TAct->Sto->Prop,I=(fun j a' σ'=>a'.df=[]/\(∃L,OutS σ' po L/\L++P9 bd (O4 bd e) (e.kids.drop j)=L1++P9 bd (O4 bd e) e.kids/\L.length+F6 (e.kids.drop j)<=100000)/\Frm σ σ' po/\a'.tm.get 1=some bv/\a'.tm.get 2=some (.ptr po 0)/\a'.tm.get 3=some (.bx 0 (A5 e) 28)/\a'.tm.get 6=some (.int .i64 (O3 e))/\
   a'.tm.get 41=some (.sl .fz (e.kids.map A5))/\a'.tm.get 42=some (.int .i64 (e.kids.length:Int))/\a'.tm.get 43=some (.int .i64 (j:Int))):=⟨_,rfl⟩
  obtain ⟨R,hR⟩:∃R:TEx->TAct->Sto->Prop,R=(fun ex a' σ'=>ex=.exit 1/\a'.df=[]/\OutS σ' po (L1++P9 bd (O4 bd e) e.kids)/\Frm σ σ' po):=⟨_,rfl⟩;refine B8 I e.kids.length R ?_ (by omega) ?_ ?_ ?_
  ·rw [hI];exact ⟨rfl,⟨L1,ho1,by rw [List.drop_zero],by rw [List.drop_zero];omega⟩,hf1,by simp [h1],by simp [h2],by simp [h3],by simp [h6],by simp,by simp,by simp⟩
  ·rw [hI];rintro j ⟨tm,df,clk⟩ σ' hj ⟨rfl,⟨L,hO,hLL,hln⟩,hF,h1,h2,h3,h6,h41,h42,h43⟩;rw [<-hI];have hw:=F9 hj he.len;rw [B29 hj,<-List.append_assoc] at hLL;have hmem:=List.getElem_mem hj;have hszk:=D3 _ _ hmem;have hck:=W1 _ _ hmem;rw [A3L hj] at hln;simp [h42,h43,hj];apply H8
   ·apply C9C (N:=N+1) h67 e he (by omega) _ σ' po L bv bd (hb.frm hF) hO (by omega) j hj
    ·intro v bd' σ3 hb3 ho3 hl3;exact ih (N+2) e.kids[j] b σ3 po L v bd' (by omega) (by omega) (he.sub _ hmem) hb3 ho3 hbp (by omega) (by omega)
    ·rfl
    ·simp [h1]
    ·simp [h2]
    ·simp [h3]
    ·simp [h6]
    ·simp [h41]
    ·simp [h42]
    ·simp [h43]
   rintro ex ⟨tm,df,clk⟩ σ4 ⟨rfl,hdf,hO4,hF4,h1,h2,h3,h6,h41,h42,h43⟩;simp only at hdf h1 h2 h3 h6 h41 h42 h43;subst hdf;simp [h43,hw];rw [hI];have hfl:(freeC (if j+1=e.kids.length then O4 bd e else bd) e.kids[j]).length<=cntT e.kids[j]:=A5g _ _
   exact ⟨rfl,⟨_,hO4,hLL,by rw [List.length_append];omega⟩,hF.trans hF4,by simp [h1],by simp [h2],by simp [h3],by simp [h6],by simp [h41],by simp [h42],by simp⟩
  ·rw [hI];rintro ⟨tm,df,clk⟩ σ' ⟨rfl,⟨L,hO,hLL,hln⟩,hF,h1,h2,h3,h6,h41,h42,h43⟩;rw [List.drop_of_length_le (Nat.le_refl _)] at hLL;simp only [P9,List.append_nil] at hLL;subst hLL;simp [h42,h43];rw [hR];exact ⟨rfl,rfl,hO,hF⟩
  ·rw [hR];rintro ex ⟨tm,df,clk⟩ σ' ⟨rfl,rfl,hO,hF⟩;simp;exact ⟨hO,hF⟩
theorem A7C:∀l:List Int,A3E (encZT l)=some l
 |[]=>rfl
 |x::l=>by
  have:=A7C l;unfold encZT at this;simp only [encZT,List.map_cons,A3E,this]
theorem B6v {vs l:List TV} (h:l.length=vs.length):putAt vs 0 l=l:=by
 unfold putAt;simp [h]
theorem C0U {k ver e c:Nat} {σ:Sto} (mk:Mk) (l:List Int) (hne:l≠[]) (hl:l.length<=1073741824) (hk:σ.at k=some ⟨ver,.cells (encZT l) e⟩):
  B7F mk [.ref k 0 1 l.length c] σ=some (.ret (B4R mk k 0 1 l c),σ.set k (some ⟨ver+1,.cells (encZT (Y2 mk l)) e⟩)):=by
 have h0:¬l.length=0:=fun e=>hne (List.length_eq_zero_iff.1 e)
 have hlen:(encZT l).length=l.length:=J7 l;have ht:(encZT l).take l.length=encZT l:=List.take_of_length_le (by omega);have hp:putAt (encZT l) 0 (encZT (Y2 mk l))=encZT (Y2 mk l):=B6v (by rw [J7,J7,A74]);have hi:=A7C l;unfold B7F;simp only [C5d,C5c,decide_eq_false h0,hk,List.drop_zero,ht,hi,Nat.zero_add,hlen,decide_eq_true (Nat.le_refl _),decide_eq_true hl,Bool.and_self,hp]
theorem A8s (l:List Int):∃tl,Y2 .compact l=D9 l++tl:=⟨_,rfl⟩
structure RowO (F:FuncId->Option TFun) (O:FuncId->List TV->Option TV):Prop where
 f42:F 75=none
 f43:F 76=none
 o42:∀args,O 75 args=some (.agg [])
 o43:∀args,O 76 args=some (.agg [.bool true])
theorem C2x (R:RowO F O) {k ver e c:Nat} {σ:Sto} (N b:Nat) (l:List Int) (hne:l≠[]) (hl:l.length<=1073741824) (hk:σ.at k=some ⟨ver,.cells (encZT l) e⟩):
  A2 F O (N+1) b 75 [.ref k 0 1 l.length c] σ=some (.ret (.tuple []),σ.set k (some ⟨ver+1,.cells (encZT (T5 l)) e⟩)):=by
 simp only [A2,R.f42,R.o42,A8p,A4u];exact C0U .sort l hne hl hk
theorem B42 (R:RowO F O) (σ:Sto) (N b:Nat):A2 F O (N+1) b 75 [.sl .nl []] σ=some (.ret (.tuple []),σ):=by
 simp only [A2,R.f42,R.o42,A8p,A4u];rfl
theorem B6w (R:RowO F O) {k ver e c:Nat} {σ:Sto} (N b:Nat) (l:List Int) (hne:l≠[]) (hl:l.length<=1073741824) (hk:σ.at k=some ⟨ver,.cells (encZT l) e⟩):
  A2 F O (N+1) b 76 [.ref k 0 1 l.length c] σ=some (.ret (.ref k 0 1 (D9 l).length c),σ.set k (some ⟨ver+1,.cells (encZT (Y2 .compact l)) e⟩)):=by
 simp only [A2,R.f43,R.o43,A8p,A4u];exact C0U .compact l hne hl hk
theorem A8t (R:RowO F O) (σ:Sto) (N b:Nat):A2 F O (N+1) b 76 [.sl .nl []] σ=some (.ret (.sl .nl []),σ):=by
 simp only [A2,R.f43,R.o43,A8p,A4u];rfl
theorem A2T (l:List Int):(T5 l).length=l.length:=by unfold T5;simp
theorem B8x (h19:F 36=some f19) (h41:F 74=some f41) (h66:F 32=some f66) (h67:F 81=some f67) (h111:F 72=some f111) (R:RowO F O) (N:Nat) (e:PTerm) (b:Nat) (σ:Sto) (hN:E3 e+100010<=N) (he:OkTm e) (hc:cntT e<=3000) (hbσ:b<=σ.length):
  ∃v σ',A2 F O (N+1) b 36 [.agg (A5 e)] σ=some (.ret v,σ')/\IntsV σ' v (D9 (T5 (freeC [] e)))/\give v=some v/\Grn σ σ':=by
 suffices hh:∃e' σ',A2 F O (N+1) b 36 [.agg (A5 e)] σ=some (e',σ')/\∃v,e'=.ret v/\IntsV σ' v (D9 (T5 (freeC [] e)))/\give v=some v/\Grn σ σ' by
  obtain ⟨e',σ',q1,v,rfl,q2⟩:=hh;exact ⟨v,σ',q1,q2⟩
 refine E4 h19 ?_;obtain ⟨σ0,hσ0⟩:∃σ0,σ0=σ++[some (⟨0,.cells [.sl .nl []] 25⟩:TObj)]:=⟨_,rfl⟩;have hpo:σ0.at σ.length=some ⟨0,.cells [.sl .nl []] 25⟩:=by rw [hσ0];exact A3O _ _
 have hg0:Grn σ σ0:=by rw [hσ0];exact Grn.app _ _
 obtain ⟨M,rfl⟩:∃M,N=M+1:=⟨N - 1,by omega⟩;obtain ⟨σ1,hc1,⟨ver,ov,hp1,hov⟩,hF⟩:=B2a (O:=O) h41 h66 h67 h111 (E3 e) (M+1) e b σ0 σ.length [] (.sl .nl []) [] (Nat.le_refl _) hN he (B8w _ _) ⟨0,_,hpo,.nl⟩ hbσ (by simp;omega) (by simp;omega);rw [List.nil_append] at hov;have hlen:=A5g [] e;generalize freeC [] e=l at hov hlen ⊢;have hg1:Grn σ σ1:=by
  refine ⟨Nat.le_trans hg0.len hF.len,fun k hk=> ?_⟩;rw [hF.same k (Nat.lt_of_lt_of_le hk hg0.len) (by omega) ?_,hg0.same k hk];unfold rowOf;rw [hpo];intro h;cases h
 have hge:∀k,rowOf σ1 σ.length=some k->σ.length<=k:=fun k hr=>by
  rcases hF.row k hr with h|h
  ·unfold rowOf at h;rw [hpo] at h;cases h
  ·exact Nat.le_trans hg0.len h
 rw [A0 e] at hc1;rcases hov with _|⟨_,hne,hk⟩
 ·have h1:=B42 R σ1 M b;have h2:=A8t R σ1 M b;simp [x19,A0 e,<-hσ0,hc1,hp1,h1,h2];have e0:D9 (T5 [])=[]:=by
   have:T5 []=[]:=List.length_eq_zero_iff.1 (A2T []);rw [this];unfold D9;rfl
  rw [e0];exact ⟨.nl,hg1⟩
 ·rename_i k vk;have hkp:k≠σ.length:=by
   rintro rfl;rw [hp1] at hk;simp at hk
  have hkl:=hge k (by unfold rowOf;rw [hp1]);have hl2:l.length<=1073741824:=by omega
  have h1:=C2x (c:=C4+1) R M b l hne hl2 hk;have hs0:T5 l≠[]:=fun e=>hne (List.length_eq_zero_iff.1 (by rw [<-A2T,e];rfl))
  have hk2:Sto.at (σ1.set k (some ⟨vk+1,.cells (encZT (T5 l)) 3⟩)) k=some ⟨vk+1,.cells (encZT (T5 l)) 3⟩:=by
   simp only [Sto.at];rw [List.getElem?_set_self (Sto.lt hk)]
  have h2:=B6w (c:=C4+1) R M b (T5 l) hs0 (by rw [A2T];exact hl2) hk2;rw [A2T] at h2;have hp2:Sto.at (σ1.set k (some ⟨vk+1,.cells (encZT (T5 l)) 3⟩)) σ.length=_:=(A28 hkp).trans hp1;obtain ⟨tl,htl⟩:=A8s (T5 l);rw [htl] at h2;simp [x19,A0 e,<-hσ0,hc1,hp1,h1,h2,hp2];refine ⟨.ref _ tl ?_ (ver:=vk+1+1) (e:=3),⟨by simpa using hg1.len,fun j hj=> ?_⟩⟩
  ·simp only [Sto.at];rw [List.getElem?_set_self (Sto.lt hk)]
  ·rw [A28 (by omega)];exact hg1.same j hj
def A7D (n:Int):List Int->List Int
 |[]=>[n]
 |x::l=>if n<=x then (if n<x then n::x::l else x::l) else x::A7D n l
theorem B2b (n:Int):∀l,(A7D n l).length<=l.length+1
 |[]=>Nat.le_refl _
 |x::l=>by
  have:=B2b n l;simp only [A7D];split
  ·split<;>simp
  ·simp;omega
def A8u (n:Int) (kk:Nat):List Int->List Int->List Int
 |out,[]=>out
 |out,s::l=>A8u n kk (if s∈D6 n kk then out else A7D s out) l
def B2c (kk:Nat):List PTerm->Nat
 |[]=>kk
 |_::_=>0
mutual
def refF:PTerm->List Int
 |.mk k n m v o ks=>A3v n (O3 (.mk k n m v o ks)).toNat (if k=2 then [n] else []) ks
def A3v (n:Int) (kk:Nat) (out:List Int):List PTerm->List Int
 |[]=>out
 |t::l=>A3v n kk (A8u n (B2c kk l) out (refF t)) l
end
theorem B8y (t:PTerm):refF t=A3v t.n (O3 t).toNat (if t.kind=2 then [t.n] else []) t.kids:=by cases t;simp only [refF,PTerm.kind,PTerm.n,PTerm.kids];rfl
theorem B2d (n:Int) (kk:Nat):∀(l out:List Int),(A8u n kk out l).length<=out.length+l.length
 |[],out=>Nat.le_refl _
 |s::l,out=>by
  simp only [A8u,List.length_cons];have:=B2d n kk l (if s∈D6 n kk then out else A7D s out);have h2:=B2b s out;split at this<;>rename_i h
  ·rw [if_pos h];omega
  ·rw [if_neg h];omega
mutual
theorem B2e:∀t,(refF t).length<=cntT t
 |.mk k n m v o ks=>by
  have:=A9s n (O3 (.mk k n m v o ks)).toNat (if k=2 then [n] else []) ks;simp only [refF,cntT];have h2:(if k=2 then [n] else []).length<=1:=by split<;>simp
  omega
theorem A9s (n:Int) (kk:Nat) (out:List Int):∀l,(A3v n kk out l).length<=out.length+F6 l
 |[]=>Nat.le_refl _
 |t::l=>by
  simp only [A3v,F6];have h1:=B2e t;have h2:=B2d n (B2c kk l) (refF t) out;have h3:=A9s n kk (A8u n (B2c kk l) out (refF t)) l;omega
end
end
section
open Go Go.Xe Go.Xt
abbrev Inc (l:List Int):Prop:=List.Pairwise (· < ·) l
theorem B5b:∀(l m:List Int),Inc l->Inc m->(∀x,x∈l↔x∈m)->l=m
 |[],[],_,_,_=>rfl
 |[],b::m,_,_,h=>absurd ((h b).2 (by simp)) (by simp)
 |a::l,[],_,_,h=>absurd ((h a).1 (by simp)) (by simp)
 |a::l,b::m,hl,hm,h=>by
  obtain ⟨hl1,hl2⟩:=List.pairwise_cons.1 hl;obtain ⟨hm1,hm2⟩:=List.pairwise_cons.1 hm;have hab:a=b:=by
   rcases List.mem_cons.1 ((h a).1 (by simp)) with e|e
   ·exact e
   ·rcases List.mem_cons.1 ((h b).2 (by simp)) with e'|e'
    ·exact e'.symm
    ·have:=hm1 a e;have:=hl1 b e';omega
  subst hab;rw [B5b l m hl2 hm2 fun x=>⟨fun hx=> ?_,fun hx=> ?_⟩]
  ·rcases List.mem_cons.1 ((h x).1 (by simp [hx])) with e|e
   ·have:=hl1 x hx;omega
   ·exact e
  ·rcases List.mem_cons.1 ((h x).2 (by simp [hx])) with e|e
   ·have:=hm1 x hx;omega
   ·exact e
theorem A7E (n x:Int):∀l,x∈A7D n l↔x=n\/x∈l
 |[]=>by simp [A7D]
 |a::l=>by
  have ih:=A7E n x l;simp only [A7D];split
  ·split
   ·simp
   ·have:n=a:=by omega
    subst this;simp
  ·simp only [List.mem_cons,ih];constructor
   ·rintro (h|h|h)
    ·exact .inr (.inl h)
    ·exact .inl h
    ·exact .inr (.inr h)
   ·rintro (h|h|h)
    ·exact .inr (.inl h)
    ·exact .inl h
    ·exact .inr (.inr h)
theorem B2f (n:Int):∀l,Inc l->Inc (A7D n l)
 |[],_=>by simp [A7D]
 |a::l,h=>by
  obtain ⟨h1,h2⟩:=List.pairwise_cons.1 h;have ih:=B2f n l h2;simp only [A7D];split
  ·split
   ·rename_i _ hlt;refine List.pairwise_cons.2 ⟨fun x hx=> ?_,h⟩;rcases List.mem_cons.1 hx with rfl|hx
    ·exact hlt
    ·have:=h1 x hx;omega
   ·exact h
  ·refine List.pairwise_cons.2 ⟨fun x hx=> ?_,ih⟩;rcases (A7E n x l).1 hx with rfl|hx
   ·omega
   ·exact h1 x hx
theorem B2g (n:Int) (kk:Nat):∀l out,Inc out->Inc (A8u n kk out l)
 |[],out,h=>h
 |s::l,out,h=>by
  simp only [A8u];refine B2g n kk l _ ?_;split
  ·exact h
  ·exact B2f s out h
theorem B2h (n:Int) (kk:Nat) (x:Int):∀l out,x∈A8u n kk out l↔x∈out\/(x∈l/\x∉D6 n kk)
 |[],out=>by simp [A8u]
 |s::l,out=>by
  simp only [A8u];rw [B2h n kk x l]
  by_cases h:s∈D6 n kk
  ·rw [if_pos h];constructor
   ·rintro (h1|⟨h1,h2⟩)
    ·exact .inl h1
    ·exact .inr ⟨by simp [h1],h2⟩
   ·rintro (h1|⟨h1,h2⟩)
    ·exact .inl h1
    ·rcases List.mem_cons.1 h1 with rfl|h1
     ·exact absurd h h2
     ·exact .inr ⟨h1,h2⟩
  ·rw [if_neg h,A7E];constructor
   ·rintro ((rfl|h1)|⟨h1,h2⟩)
    ·exact .inr ⟨by simp,h⟩
    ·exact .inl h1
    ·exact .inr ⟨by simp [h1],h2⟩
   ·rintro (h1|⟨h1,h2⟩)
    ·exact .inl (.inr h1)
    ·rcases List.mem_cons.1 h1 with rfl|h1
     ·exact .inl (.inl rfl)
     ·exact .inr ⟨h1,h2⟩
theorem A9t (n:Int) (kk:Nat):∀l out,Inc out->Inc (A3v n kk out l)
 |[],out,h=>h
 |t::l,out,h=>by
  simp only [A3v];exact A9t n kk l _ (B2g n _ _ _ h)
theorem B8z (t:PTerm):Inc (refF t):=by
 rw [B8y];refine A9t _ _ _ _ ?_;split<;>simp
def A7F (S:List Int) (x:Int):List PTerm->Prop
 |[]=>False
 |t::l=>(x∈refF t/\(l=[]->x∉S))\/A7F S x l
theorem A5h (n:Int) (kk:Nat) (x:Int):∀l out,x∈A3v n kk out l↔x∈out\/A7F (D6 n kk) x l
 |[],out=>by simp [A3v,A7F]
 |t::l,out=>by
  simp only [A3v,A7F];rw [A5h n kk x l,B2h];cases l with
  |nil=>
   simp only [B2c,true_implies,or_assoc]
  |cons y l=>
   have:D6 n 0=[]:=rfl;simp only [B2c,this,List.not_mem_nil,not_false_eq_true,and_true,reduceCtorEq,false_implies,or_assoc]
theorem not_mem_append {x:Int} {l m:List Int}:x∉l++m↔x∉l/\x∉m:=by simp
mutual
theorem A5i (x:Int):∀(t:PTerm) (bd:List Int),x∈freeC bd t↔x∈refF t/\x∉bd
 |.mk k n m v o ks,bd=>by
  have ih:=A7G x ks bd (D6 n (O3 (.mk k n m v o ks)).toNat);simp only [freeC,refF,List.mem_append];have e:O4 bd (.mk k n m v o ks)=bd++D6 n (O3 (.mk k n m v o ks)).toNat:=rfl;rw [e,ih,A5h]
  by_cases hk:k=2
  ·rw [if_pos hk]
   by_cases hb:n∈bd
   ·rw [if_neg (fun h=>h.2 hb)];constructor
    ·rintro (h|⟨h1,h2⟩)
     ·cases h
     ·exact ⟨.inr h1,h2⟩
    ·rintro ⟨h1|h1,h2⟩
     ·simp at h1;subst h1;exact absurd hb h2
     ·exact .inr ⟨h1,h2⟩
   ·rw [if_pos ⟨hk,hb⟩];constructor
    ·rintro (h|⟨h1,h2⟩)
     ·simp at h;subst h;exact ⟨.inl (by simp),hb⟩
     ·exact ⟨.inr h1,h2⟩
    ·rintro ⟨h1|h1,h2⟩
     ·exact .inl h1
     ·exact .inr ⟨h1,h2⟩
  ·rw [if_neg hk,if_neg (fun h=>hk h.1)];simp
theorem A7G (x:Int):∀(l:List PTerm) (bd S:List Int),x∈P9 bd (bd++S) l↔A7F S x l/\x∉bd
 |[],bd,S=>by simp [P9,A7F]
 |t::l,bd,S=>by
  simp only [P9,A7F,List.mem_append];rw [A5i x t,A7G x l];cases l with
  |nil=>
   simp only [B59,A7F,not_mem_append,true_implies,false_and,or_false];exact ⟨fun ⟨h1,h2,h3⟩=>⟨⟨h1,h3⟩,h2⟩,fun ⟨⟨h1,h3⟩,h2⟩=>⟨h1,h2,h3⟩⟩
  |cons y l=>
   simp only [B59,reduceCtorEq,false_implies,and_true];constructor
   ·rintro (⟨h1,h2⟩|⟨h1,h2⟩)
    ·exact ⟨.inl h1,h2⟩
    ·exact ⟨.inr h1,h2⟩
   ·rintro ⟨h1|h1,h2⟩
    ·exact .inl ⟨h1,h2⟩
    ·exact .inr ⟨h1,h2⟩
end
theorem A1U (x:Int):∀l,x∈D9 l↔x∈l
 |[]=>by unfold D9;rfl
 |[a]=>by unfold D9;rfl
 |a::b::l=>by
  have ih:=A1U x (b::l);rw [D9];split
  ·rename_i h;subst h;rw [ih];simp
  ·simp only [List.mem_cons] at ih ⊢;rw [ih]
theorem A4E:∀l,List.Pairwise (fun x y:Int=>x<=y) l->Inc (D9 l)
 |[],_=>by unfold D9;simp
 |[a],_=>by unfold D9;simp
 |a::b::l,h=>by
  obtain ⟨h1,h2⟩:=List.pairwise_cons.1 h;have ih:=A4E (b::l) h2;rw [D9];split
  ·exact ih
  ·rename_i hab;refine List.pairwise_cons.2 ⟨fun x hx=> ?_,ih⟩;have hx:=(A1U x (b::l)).1 hx;have hb:=h1 b (by simp);rcases List.mem_cons.1 hx with rfl|hx
   ·omega
   ·have:=(List.pairwise_cons.1 h2).1 x hx;omega
theorem B6x (x:Int) (l:List Int):x∈T5 l↔x∈l:=by unfold T5;simp
theorem B0x (l:List Int):List.Pairwise (fun x y:Int=>x<=y) (T5 l):=by
 unfold T5;have:=List.pairwise_mergeSort (le:=fun x y:Int=>decide (x<=y)) (fun a b c h1 h2=>by simp at*;omega) (fun a b=>by simp;omega) l;refine this.imp ?_;intro a b h;simpa using h
theorem B8A (t:PTerm):D9 (T5 (freeC [] t))=refF t:=by
 refine B5b _ _ (A4E _ (B0x _)) (B8z t) fun x=> ?_
 rw [A1U,B6x,A5i];simp
end
section
open Go Go.Xe Go.Xt
variable {F:FuncId->Option TFun} {O:FuncId->List TV->Option TV}
theorem B5c (hF:F 64=some f35) (G N:Nat) (S:PTyp->PTyp->Bool) (b:Nat) (σ:Sto) (l m:List PTyp) (hl:l.length<=maxLen) (hm:m.length<=maxLen) (hn:l.length<N)
  (hc:∀x∈l,∀y∈m,∀b,A2 F O N b G [.agg (H5 x),.agg (H5 y)] σ=some (.ret (.bool (S x y)),σ)):
  A2 F O (N+1) b 64 [.sl .fz (l.map H5),.sl .fz (m.map H5),.func G [] []] σ=some (.ret (.bool (F4 S l m)),σ):=by
 refine A3 hF ?_
 by_cases hlm:(l.length:Int)=(m.length:Int)
 case neg=>
  have hne:l.length≠m.length:=by omega
  simp [x35,hlm,hne,A1c hne]
 have hlm':l.length=m.length:=by omega
 simp [x35,hlm'];obtain ⟨I,hI⟩:∃I:Nat->TAct->Sto->Prop,I=(fun j a σ'=>a.df=[]/\σ'=σ/\F4 S (l.drop j) (m.drop j)=F4 S l m/\a.tm.get 1=some (.sl .fz (m.map H5))/\a.tm.get 2=some (.func G [] [])/\a.tm.get 15=some (.sl .fz (l.map H5))/\a.tm.get 16=some (.int .i64 (m.length:Int))/\a.tm.get 17=some (.int .i64 j)):=⟨_,rfl⟩
 obtain ⟨R,hR⟩:∃R:TEx->TAct->Sto->Prop,R=(fun ex a σ'=>a.df=[]/\σ'=σ/\(ex=.exit 0/\F4 S l m=true\/ex=.ret/\F4 S l m=false/\a.tm.get 6=some (.bool false))):=⟨_,rfl⟩;refine B8 I m.length R ?_ ?_ ?_ ?_ ?_
 ·rw [hI];simp
 ·omega
 ·rw [hI];rintro j ⟨tm,df,clk⟩ σ' hj ⟨rfl,rfl,hd,h1,h2,h15,h16,h17⟩;rw [<-hI];have hjl:j<l.length:=by omega
  have hw:=F9 hj hm;rw [A0B hjl hj] at hd;have hcc:=hc l[j] (List.getElem_mem hjl) m[j] (List.getElem_mem hj) σ'.length;rw [G5,G5] at hcc;cases hs:S l[j] m[j] with
  |true=>
   rw [hs] at hd hcc;simp [h1,h2,h15,h16,h17,hj,hjl,hcc,hw,G5];rw [hI]
   simpa [h1,h2,h15,h16] using hd
  |false=>
   rw [hs] at hd hcc;simp [h1,h2,h15,h16,h17,hj,hjl,hcc,hw,G5];rw [hR]
   simpa using hd.symm
 ·rw [hI];rintro ⟨tm,df,clk⟩ σ' ⟨rfl,rfl,hd,h1,h2,h15,h16,h17⟩;rw [A1y (by omega) (by omega)] at hd;simp [h1,h2,h15,h16,h17];rw [hR];exact ⟨rfl,rfl,.inl ⟨rfl,hd.symm⟩⟩
 ·rw [hR];rintro ex ⟨tm,df,clk⟩ σ' ⟨rfl,rfl,⟨rfl,h⟩|⟨rfl,h,h6⟩⟩
  ·simp [h]
  ·simp [h,h6]
theorem B5d (hF:F 114=some f108) (G N:Nat) (S:PTerm->PTerm->Bool) (b:Nat) (σ:Sto) (l m:List PTerm) (hl:l.length<=maxLen) (hm:m.length<=maxLen) (hn:l.length<N)
  (hc:∀x∈l,∀y∈m,∀b,A2 F O N b G [.agg (A5 x),.agg (A5 y)] σ=some (.ret (.bool (S x y)),σ)):
  A2 F O (N+1) b 114 [.sl .fz (l.map A5),.sl .fz (m.map A5),.func G [] []] σ=some (.ret (.bool (F4 S l m)),σ):=by
 refine A3 hF ?_
 by_cases hlm:(l.length:Int)=(m.length:Int)
 case neg=>
  have hne:l.length≠m.length:=by omega
  simp [x108,hlm,hne,A1c hne]
 have hlm':l.length=m.length:=by omega
 simp [x108,hlm'];obtain ⟨I,hI⟩:∃I:Nat->TAct->Sto->Prop,I=(fun j a σ'=>a.df=[]/\σ'=σ/\F4 S (l.drop j) (m.drop j)=F4 S l m/\a.tm.get 1=some (.sl .fz (m.map A5))/\a.tm.get 2=some (.func G [] [])/\a.tm.get 15=some (.sl .fz (l.map A5))/\a.tm.get 16=some (.int .i64 (m.length:Int))/\a.tm.get 17=some (.int .i64 j)):=⟨_,rfl⟩
 obtain ⟨R,hR⟩:∃R:TEx->TAct->Sto->Prop,R=(fun ex a σ'=>a.df=[]/\σ'=σ/\(ex=.exit 0/\F4 S l m=true\/ex=.ret/\F4 S l m=false/\a.tm.get 6=some (.bool false))):=⟨_,rfl⟩;refine B8 I m.length R ?_ ?_ ?_ ?_ ?_
 ·rw [hI];simp
 ·omega
 ·rw [hI];rintro j ⟨tm,df,clk⟩ σ' hj ⟨rfl,rfl,hd,h1,h2,h15,h16,h17⟩;rw [<-hI];have hjl:j<l.length:=by omega
  have hw:=F9 hj hm;rw [A0B hjl hj] at hd;have hcc:=hc l[j] (List.getElem_mem hjl) m[j] (List.getElem_mem hj) σ'.length;rw [A0,A0] at hcc;cases hs:S l[j] m[j] with
  |true=>
   rw [hs] at hd hcc;simp [h1,h2,h15,h16,h17,hj,hjl,hcc,hw,A0];rw [hI]
   simpa [h1,h2,h15,h16] using hd
  |false=>
   rw [hs] at hd hcc;simp [h1,h2,h15,h16,h17,hj,hjl,hcc,hw,A0];rw [hR]
   simpa using hd.symm
 ·rw [hI];rintro ⟨tm,df,clk⟩ σ' ⟨rfl,rfl,hd,h1,h2,h15,h16,h17⟩;rw [A1y (by omega) (by omega)] at hd;simp [h1,h2,h15,h16,h17];rw [hR];exact ⟨rfl,rfl,.inl ⟨rfl,hd.symm⟩⟩
 ·rw [hR];rintro ex ⟨tm,df,clk⟩ σ' ⟨rfl,rfl,⟨rfl,h⟩|⟨rfl,h,h6⟩⟩
  ·simp [h]
  ·simp [h,h6]
theorem B8B (hF:F 66=some f37) (G N:Nat) (S:PBody->PBody->Bool) (b:Nat) (σ:Sto) (l m:List PBody) (hl:l.length<=maxLen) (hm:m.length<=maxLen) (hn:l.length<N)
  (hc:∀x∈l,∀y∈m,∀b,A2 F O N b G [.agg (F5 x),.agg (F5 y)] σ=some (.ret (.bool (S x y)),σ)):
  A2 F O (N+1) b 66 [.sl .fz (l.map F5),.sl .fz (m.map F5),.func G [] []] σ=some (.ret (.bool (F4 S l m)),σ):=by
 refine A3 hF ?_
 by_cases hlm:(l.length:Int)=(m.length:Int)
 case neg=>
  have hne:l.length≠m.length:=by omega
  simp [x37,hlm,hne,A1c hne]
 have hlm':l.length=m.length:=by omega
 simp [x37,hlm'];obtain ⟨I,hI⟩:∃I:Nat->TAct->Sto->Prop,I=(fun j a σ'=>a.df=[]/\σ'=σ/\F4 S (l.drop j) (m.drop j)=F4 S l m/\a.tm.get 1=some (.sl .fz (m.map F5))/\a.tm.get 2=some (.func G [] [])/\a.tm.get 15=some (.sl .fz (l.map F5))/\a.tm.get 16=some (.int .i64 (m.length:Int))/\a.tm.get 17=some (.int .i64 j)):=⟨_,rfl⟩
 obtain ⟨R,hR⟩:∃R:TEx->TAct->Sto->Prop,R=(fun ex a σ'=>a.df=[]/\σ'=σ/\(ex=.exit 0/\F4 S l m=true\/ex=.ret/\F4 S l m=false/\a.tm.get 6=some (.bool false))):=⟨_,rfl⟩;refine B8 I m.length R ?_ ?_ ?_ ?_ ?_
 ·rw [hI];simp
 ·omega
 ·rw [hI];rintro j ⟨tm,df,clk⟩ σ' hj ⟨rfl,rfl,hd,h1,h2,h15,h16,h17⟩;rw [<-hI];have hjl:j<l.length:=by omega
  have hw:=F9 hj hm;rw [A0B hjl hj] at hd;have hcc:=hc l[j] (List.getElem_mem hjl) m[j] (List.getElem_mem hj) σ'.length;rw [C9,C9] at hcc;cases hs:S l[j] m[j] with
  |true=>
   rw [hs] at hd hcc;simp [h1,h2,h15,h16,h17,hj,hjl,hcc,hw,C9];rw [hI]
   simpa [h1,h2,h15,h16] using hd
  |false=>
   rw [hs] at hd hcc;simp [h1,h2,h15,h16,h17,hj,hjl,hcc,hw,C9];rw [hR]
   simpa using hd.symm
 ·rw [hI];rintro ⟨tm,df,clk⟩ σ' ⟨rfl,rfl,hd,h1,h2,h15,h16,h17⟩;rw [A1y (by omega) (by omega)] at hd;simp [h1,h2,h15,h16,h17];rw [hR];exact ⟨rfl,rfl,.inl ⟨rfl,hd.symm⟩⟩
 ·rw [hR];rintro ex ⟨tm,df,clk⟩ σ' ⟨rfl,rfl,⟨rfl,h⟩|⟨rfl,h,h6⟩⟩
  ·simp [h]
  ·simp [h,h6]
def A29 (a b:Int):Bool:=decide (a=b)
theorem B2i (hF:F 113=some f107) (N:Nat) (b:Nat) (σ:Sto) (l m:List Int) (hl:l.length<=maxLen) (hm:m.length<=maxLen) (hn:l.length<N):
  A2 F O (N+1) b 113 [.sl .fz (l.map encI),.sl .fz (m.map encI)] σ=some (.ret (.bool (F4 A29 l m)),σ):=by
 refine A3 hF ?_
 by_cases hlm:(l.length:Int)=(m.length:Int)
 case neg=>
  have hne:l.length≠m.length:=by omega
  simp [x107,hlm,hne,A1c hne]
 have hlm':l.length=m.length:=by omega
 simp [x107,hlm'];obtain ⟨I,hI⟩:∃I:Nat->TAct->Sto->Prop,I=(fun j a σ'=>a.df=[]/\σ'=σ/\F4 A29 (l.drop j) (m.drop j)=F4 A29 l m/\a.tm.get 0=some (.sl .fz (l.map encI))/\a.tm.get 1=some (.sl .fz (m.map encI))/\a.tm.get 13=some (.int .i64 j)/\a.tm.get 11=some (.sl .fz (l.map encI))/\a.tm.get 12=some (.int .i64 (m.length:Int))):=⟨_,rfl⟩
 obtain ⟨R,hR⟩:∃R:TEx->TAct->Sto->Prop,R=(fun ex a σ'=>a.df=[]/\σ'=σ/\(ex=.exit 0/\F4 A29 l m=true\/ex=.ret/\F4 A29 l m=false/\a.tm.get 4=some (.bool false))):=⟨_,rfl⟩;refine B8 I m.length R ?_ ?_ ?_ ?_ ?_
 ·rw [hI];simp
 ·omega
 ·rw [hI];rintro j ⟨tm,df,clk⟩ σ' hj ⟨rfl,rfl,hd,h0,h1,h5,h11,h12⟩;rw [<-hI];have hjl:j<l.length:=by omega
  have hw:=F9 hj hm;have e1:(l.map encI)[j]? =some [.int .i64 l[j]]:=by simp [hjl,encI]
  have e2:(m.map encI)[j]? =some [.int .i64 m[j]]:=by simp [hj,encI]
  rw [A0B hjl hj] at hd
  by_cases hs:l[j]=m[j]
  ·have hs':A29 l[j] m[j]=true:=by simp [A29,hs]
   rw [hs',Bool.true_and] at hd;simp [h0,h1,h5,hj,hjl,hlm',hw,e1,e2,hs,encI,h11,h12];rw [hI]
   simpa [h0,h1,h11,h12] using hd
  ·have hs':A29 l[j] m[j]=false:=by simp [A29,hs]
   rw [hs',Bool.false_and] at hd;simp [h0,h1,h5,hj,hjl,hlm',hw,e1,e2,hs,encI,h11,h12];rw [hR]
   simpa using hd.symm
 ·rw [hI];rintro ⟨tm,df,clk⟩ σ' ⟨rfl,rfl,hd,h0,h1,h5,h11,h12⟩;rw [A1y (by omega) (by omega)] at hd;simp [h0,h1,h5,hlm',h11,h12];rw [hR];exact ⟨rfl,rfl,.inl ⟨rfl,hd.symm⟩⟩
 ·rw [hR];rintro ex ⟨tm,df,clk⟩ σ' ⟨rfl,rfl,⟨rfl,h⟩|⟨rfl,h,h6⟩⟩
  ·simp [h]
  ·simp [h,h6]
theorem C0V (hF:F 201=some f165) (N b:Nat) (σ:Sto) (x:Int):A2 F O (N+1) b 201 [.int .i64 x] σ=some (.ret (.bool false),σ):=by
 refine A3 hF ?_;simp [x165]
def cmpI (x y:Int):Int:=if x<y then -1 else if y<x then 1 else 0
theorem A9u (x y:Int):decide (cmpI x y=0)=decide (x=y):=by
 unfold cmpI
 by_cases h:x<y
 ·have:x≠y:=by omega
  simp [h,this]
 ·by_cases h2:y<x
  ·have:x≠y:=by omega
   simp [h,h2,this]
  ·have:x=y:=by omega
   simp [this]
theorem C0W (hF:F 202=some f180) (h165:F 201=some f165) (N b:Nat) (σ:Sto) (x y:Int):A2 F O (N+2) b 202 [.int .i64 x,.int .i64 y] σ=some (.ret (.int .i64 (cmpI x y)),σ):=by
 have hx:=C0V (O:=O) h165 N σ.length σ x;have hy:=C0V (O:=O) h165 N σ.length σ y;refine A3 hF ?_;unfold cmpI
 by_cases h:x<y
 ·simp [x180,hx,hy,h]
 ·by_cases h2:y<x
  ·simp [x180,hx,hy,h,h2]
  ·simp [x180,hx,hy,h,h2]
theorem C09 (hF:F 203=some f181) (G N:Nat) (S:PVal->PVal->Bool) (b:Nat) (σ:Sto) (l m:List PVal) (hl:l.length<=maxLen) (hm:m.length<=maxLen) (hn:l.length<N)
  (hc:∀x∈l,∀y∈m,∀b,∃r:Int,A2 F O N b G [.agg (E1 x),.agg (E1 y)] σ=some (.ret (.int .i64 r),σ)/\decide (r=0)=S x y):
  ∃r:Int,A2 F O (N+1) b 203 [.sl .fz (l.map E1),.sl .fz (m.map E1),.func G [] []] σ=some (.ret (.int .i64 r),σ)/\decide (r=0)=F4 S l m:=by
 suffices hh:∃e' σ',A2 F O (N+1) b 203 [.sl .fz (l.map E1),.sl .fz (m.map E1),.func G [] []] σ=some (e',σ')/\∃r:Int,e'=.ret (.int .i64 r)/\σ'=σ/\decide (r=0)=F4 S l m by
  obtain ⟨e',σ',h1,r,rfl,rfl,h2⟩:=hh;exact ⟨r,h1,h2⟩
 refine E4 hF ?_;simp [x181];obtain ⟨I,hI⟩:∃I:Nat->TAct->Sto->Prop,I=(fun j a σ'=>a.df=[]/\σ'=σ/\F4 S (l.drop j) (m.drop j)=F4 S l m/\a.tm.get 0=some (.sl .fz (l.map E1))/\a.tm.get 1=some (.sl .fz (m.map E1))/\a.tm.get 2=some (.func G [] [])/\a.tm.get 11=some (.sl .fz (l.map E1))/\a.tm.get 12=some (.int .i64 (l.length:Int))/\a.tm.get 13=some (.int .i64 j)):=⟨_,rfl⟩
 obtain ⟨R,hR⟩:∃R:TEx->TAct->Sto->Prop,R=(fun ex a σ'=>a.df=[]/\σ'=σ/\(ex=.exit 0/\F4 S (l.drop l.length) (m.drop l.length)=F4 S l m/\a.tm.get 0=some (.sl .fz (l.map E1))/\a.tm.get 1=some (.sl .fz (m.map E1))\/ex=.ret/\∃r:Int,decide (r=0)=F4 S l m/\a.tm.get 6=some (.int .i64 r))):=⟨_,rfl⟩;refine B8 I l.length R ?_ ?_ ?_ ?_ ?_
 ·rw [hI];simp
 ·omega
 ·rw [hI];rintro j ⟨tm,df,clk⟩ σ' hj ⟨rfl,rfl,hd,h0,h1,h2,h11,h12,h13⟩;rw [<-hI];have hw:=F9 hj hl
  by_cases hjm:(m.length:Int)<=(j:Int)
  ·have hne:F4 S (l.drop j) (m.drop j)=false:=A1c (by rw [List.length_drop,List.length_drop];omega);rw [hne] at hd;have hjm':m.length<=j:=by omega
   simp [h0,h1,h2,h11,h12,h13,hj,hjm,hjm',A4];rw [hR];exact ⟨rfl,rfl,.inr ⟨rfl,1,by simpa using hd,by simp⟩⟩
  ·have hjm2:j<m.length:=by omega
   have hjm':¬m.length<=j:=by omega
   rw [A0B hj hjm2] at hd;obtain ⟨r,hcc,hr⟩:=hc l[j] (List.getElem_mem hj) m[j] (List.getElem_mem hjm2) σ'.length;rw [A4,A4] at hcc
   by_cases h0r:r=0
   ·have hs:S l[j] m[j]=true:=by rw [<-hr];simp [h0r]
    rw [hs,Bool.true_and] at hd;simp [h0,h1,h2,h11,h12,h13,hj,hjm,hjm',hjm2,hcc,h0r,hw,A4];rw [hI]
    simpa [h0,h1,h2,h11,h12] using hd
   ·have hs:S l[j] m[j]=false:=by rw [<-hr];simp [h0r]
    rw [hs,Bool.false_and] at hd;simp [h0,h1,h2,h11,h12,h13,hj,hjm,hjm',hjm2,hcc,h0r,hw,A4];rw [hR];exact ⟨rfl,rfl,.inr ⟨rfl,r,by rw [<-hd];simp [h0r],by simp⟩⟩
 ·rw [hI];rintro ⟨tm,df,clk⟩ σ' ⟨rfl,rfl,hd,h0,h1,h2,h11,h12,h13⟩;simp [h0,h1,h2,h11,h12,h13];rw [hR];exact ⟨rfl,rfl,.inl ⟨rfl,hd,by simp [h0],by simp [h1]⟩⟩
 ·rw [hR];rintro ex ⟨tm,df,clk⟩ σ' ⟨rfl,rfl,⟨rfl,hd,h0,h1⟩|⟨rfl,r,hd,h6⟩⟩
  ·by_cases hlt:(l.length:Int)<(m.length:Int)
   ·have hne:F4 S (l.drop l.length) (m.drop l.length)=false:=A1c (by rw [List.length_drop,List.length_drop];omega);rw [hne] at hd;have hlt':l.length<m.length:=by omega
    simp [h0,h1,hlt,hlt',<-hd]
   ·have hlt':¬l.length<m.length:=by omega
    rw [A1y (Nat.le_refl _) (by omega)] at hd;simp [h0,h1,hlt,hlt',<-hd]
  ·simp [h6,hd]
theorem A9v (h158:F 162=some f158) (h180:F 202=some f180) (h165:F 201=some f165) (h181:F 203=some f181):∀(N:Nat) (a c:PVal) (b:Nat) (σ:Sto),szV a<=N->OkV a->OkV c->
  ∃r:Int,A2 F O N b 162 [.agg (E1 a),.agg (E1 c)] σ=some (.ret (.int .i64 r),σ)/\decide (r=0)=Y5 a c
 |0,a,c,b,σ,h,_,_=>by rw [E5] at h;omega
 |1,a,c,b,σ,h,_,_=>by rw [E5] at h;omega
 |2,a,c,b,σ,h,_,_=>by rw [E5] at h;omega
 |N+3,a,c,b,σ,h,ha,hc=>by
  have hs:=E5 a;have hk:=A0T a.list;obtain ⟨r,hq,hr⟩:=C09 (O:=O) h181 162 (N+1) Y5 σ.length σ a.list c.list ha.len hc.len (by omega) (fun x hx y hy b=>A9v h158 h180 h165 h181 (N+1) x y b σ (by have:=O2 _ _ hx;omega) (ha.sub x hx) (hc.sub y hy));have h1:=C0W (O:=O) h180 h165 N σ.length σ a.kind c.kind;have h2:=C0W (O:=O) h180 h165 N σ.length σ a.n c.n;have z1:=A9u a.kind c.kind
  have z2:=A9u a.n c.n
  suffices hh:∃e' σ',A2 F O (N+3) b 162 [.agg (E1 a),.agg (E1 c)] σ=some (e',σ')/\∃r:Int,e'=.ret (.int .i64 r)/\σ'=σ/\decide (r=0)=Y5 a c by
   obtain ⟨e',σ',q1,r',rfl,rfl,q2⟩:=hh;exact ⟨r',q1,q2⟩
  refine E4 h158 ?_;generalize cmpI a.kind c.kind=r1 at h1 z1;generalize cmpI a.n c.n=r2 at h2 z2
  by_cases e1:r1=0
  case neg=>
   simp [x158,A4,Z8,h1,e1,<-z1]
  by_cases e2:r2=0
  case neg=>
   simp [x158,A4,Z8,h1,h2,e1,e2,<-z1,<-z2]
  simp [x158,A4,Z8,h1,h2,e1,e2,<-z1,<-z2,hq,hr]
theorem B8C (h106:F 112=some f106) (h158:F 162=some f158) (h180:F 202=some f180) (h165:F 201=some f165) (h181:F 203=some f181) (N:Nat) (a c:PVal) (b:Nat) (σ:Sto) (h:szV a<=N) (ha:OkV a) (hc:OkV c):
  A2 F O (N+1) b 112 [.agg (E1 a),.agg (E1 c)] σ=some (.ret (.bool (Y5 a c)),σ):=by
 obtain ⟨r,hq,hr⟩:=A9v (O:=O) h158 h180 h165 h181 N a c σ.length σ h ha hc;rw [A4,A4 c] at hq;refine A3 h106 ?_;simp [x106,A4,hq,<-hr]
structure VFits (F:FuncId->Option TFun):Prop where
 h106:F 112=some f106
 h158:F 162=some f158
 h180:F 202=some f180
 h165:F 201=some f165
 h181:F 203=some f181
 h107:F 113=some f107
 h109:F 85=some f109
 h159:F 115=some f159
 h182:F 163=some f182
 h110:F 86=some f110
theorem I0 (a b:PTerm):H7 a b=(decide (a.kind=b.kind)&&(decide (a.n=b.n)&&(decide (a.m=b.m)&&(Y5 a.val b.val&&(F4 A29 a.odds b.odds&&F4 H7 a.kids b.kids))))):=A0U a b
theorem A4F {α:Type} {S:α->Bool} {l:List α} {j:Nat} (h:j<l.length):(l.drop j).any S=(S l[j]||(l.drop (j+1)).any S):=by
 rw [List.drop_eq_getElem_cons h,List.any_cons]
theorem C0a (hF:F 73=some f1073) (G:FuncId) (cap:List TV) (N:Nat) (S:PTerm->Bool) (b:Nat) (σ:Sto) (l:List PTerm) (hl:l.length<=maxLen) (hn:l.length<N)
  (hc:∀x∈l,∀b,A2 F O N b G (.agg (A5 x)::cap) σ=some (.ret (.bool (S x)),σ)):
  ∃r:Int,A2 F O (N+1) b 73 [.sl .fz (l.map A5),.func G [] cap] σ=some (.ret (.int .i64 r),σ)/\decide (0<=r)=l.any S:=by
 suffices hh:∃e' σ',A2 F O (N+1) b 73 [.sl .fz (l.map A5),.func G [] cap] σ=some (e',σ')/\∃r:Int,e'=.ret (.int .i64 r)/\σ'=σ/\decide (0<=r)=l.any S by
  obtain ⟨e',σ',q1,r,rfl,rfl,q2⟩:=hh;exact ⟨r,q1,q2⟩
 refine E4 hF ?_;simp [x1073];obtain ⟨I,hI⟩:∃I:Nat->TAct->Sto->Prop,I=(fun j a σ'=>a.df=[]/\σ'=σ/\(l.drop j).any S=l.any S/\a.tm.get 0=some (.sl .fz (l.map A5))/\a.tm.get 1=some (.func G [] cap)/\a.tm.get 7=some (.int .i64 (l.length:Int))/\a.tm.get 8=some (.int .i64 j)):=⟨_,rfl⟩
 obtain ⟨R,hR⟩:∃R:TEx->TAct->Sto->Prop,R=(fun ex a σ'=>a.df=[]/\σ'=σ/\(ex=.exit 0/\l.any S=false\/ex=.ret/\l.any S=true/\∃r:Int,0<=r/\a.tm.get 4=some (.int .i64 r))):=⟨_,rfl⟩;refine B8 I l.length R ?_ ?_ ?_ ?_ ?_
 ·rw [hI];simp
 ·omega
 ·rw [hI];rintro j ⟨tm,df,clk⟩ σ' hj ⟨rfl,rfl,hd,h0,h1,h7,h8⟩;rw [<-hI];have hw:=F9 hj hl;rw [A4F hj] at hd;have hcc:=hc l[j] (List.getElem_mem hj) σ'.length;rw [A0] at hcc;cases hs:S l[j] with
  |true=>
   rw [hs] at hd hcc;simp [h0,h1,h7,h8,hj,hcc,hw,A0];rw [hR];exact ⟨rfl,rfl,.inr ⟨rfl,by simpa using hd.symm,j,by omega,by simp⟩⟩
  |false=>
   rw [hs] at hd hcc;simp [h0,h1,h7,h8,hj,hcc,hw,A0];rw [hI]
   simpa [h0,h1,h7] using hd
 ·rw [hI];rintro ⟨tm,df,clk⟩ σ' ⟨rfl,rfl,hd,h0,h1,h7,h8⟩;rw [List.drop_of_length_le (Nat.le_refl _)] at hd;simp [h0,h1,h7,h8];rw [hR];exact ⟨rfl,rfl,.inl ⟨rfl,hd.symm⟩⟩
 ·rw [hR];rintro ex ⟨tm,df,clk⟩ σ' ⟨rfl,rfl,⟨rfl,h⟩|⟨rfl,h,r,hr,h4⟩⟩
  ·simp [h]
  ·simp [h,h4,hr]
theorem C0X (hF:F 33=some f1033) (hI:F 73=some f1073) (G:FuncId) (cap:List TV) (N:Nat) (S:PTerm->Bool) (b:Nat) (σ:Sto) (l:List PTerm) (hl:l.length<=maxLen) (hn:l.length<N)
  (hc:∀x∈l,∀b,A2 F O N b G (.agg (A5 x)::cap) σ=some (.ret (.bool (S x)),σ)):
  A2 F O (N+2) b 33 [.sl .fz (l.map A5),.func G [] cap] σ=some (.ret (.bool (l.any S)),σ):=by
 obtain ⟨r,hq,hr⟩:=C0a (O:=O) hI G cap N S σ.length σ l hl hn hc;refine A3 hF ?_;simp [x1033,hq,<-hr]
def A2w:List Int->Bool
 |[a,b]=>decide (a=b)&&decide (0<a)
 |_=>false
theorem B8D {o:List Int} (h:o.length≠2):A2w o=false:=by
 match o,h with
 |[],_=>rfl
 |[_],_=>rfl
 |[_,_],h=>exact absurd rfl h
 |_::_::_::_,_=>rfl
theorem B2j (hF:F 31=some f1031) (N:Nat) (e:PTerm) (b:Nat) (σ:Sto):A2 F O (N+1) b 31 [.agg (A5 e)] σ=some (.ret (.bool (A2w e.odds)),σ):=by
 refine A3 hF ?_
 by_cases h2:e.odds.length=2
 case neg=>
  have h2':¬(e.odds.length:Int)=2:=by omega
  simp [x1031,A0,h2,h2',B8D h2]
 obtain ⟨k,n,m,v,o,ks⟩:=e;simp only [PTerm.odds] at h2;obtain ⟨x,y,rfl⟩:∃x y,o=[x,y]:=by
  match o,h2 with|[x,y],_=>exact ⟨x,y,rfl⟩
 by_cases hxy:x=y
 ·by_cases hp:0<x
  ·simp [x1031,A0,PTerm.odds,encI,A2w,hxy,hp]
  ·simp [x1031,A0,PTerm.odds,encI,A2w,hxy,hp]
 ·simp [x1031,A0,PTerm.odds,encI,A2w,hxy]
mutual
def Y6:PTerm->Bool
 |.mk k n _ _ o ks=>if k=3\/k=10\/k=4 then false else if k=5 then decide (ks.length=0) else if k=11/\A2w o=false then false else if k=6/\n∈([1,2,3,4,5,13,9]:List Int) then false else A3P ks
def A3P:List PTerm->Bool
 |[]=>true
 |t::l=>Y6 t&&A3P l
end
theorem A7H:∀l,(!(l.any fun k=> !Y6 k))=A3P l
 |[]=>rfl
 |t::l=>by rw [List.any_cons,Bool.not_or,Bool.not_not,A7H l];rfl
theorem B6y (t:PTerm):Y6 t=if t.kind=3\/t.kind=10\/t.kind=4 then false else if t.kind=5 then decide (t.kids.length=0) else if t.kind=11/\A2w t.odds=false then false else if t.kind=6/\t.n∈([1,2,3,4,5,13,9]:List Int) then false else A3P t.kids:=by
 cases t;simp only [Y6,PTerm.kind,PTerm.n,PTerm.odds,PTerm.kids];rfl
structure UFits (F:FuncId->Option TFun):Prop where
 h9:F 9=some f1009
 h31:F 31=some f1031
 h32:F 32=some f66
 h72:F 72=some f111
 h33:F 33=some f1033
 h73:F 73=some f1073
 h34:F 34=some f1034
theorem B8E:(([1,2,3,4,5,13,9]:List Int).map encI)=[[.int .i64 1],[.int .i64 2],[.int .i64 3],[.int .i64 4],[.int .i64 5],[.int .i64 13],[.int .i64 9]]:=rfl
theorem B0y (U:UFits F):∀(M N:Nat) (e:PTerm) (b:Nat) (σ:Sto),E3 e<=M->4*M+20<=N->OkTm e->A2 F O N b 9 [.agg (A5 e)] σ=some (.ret (.bool (Y6 e)),σ)
 |0,N,e,b,σ,h,_,_=>by rw [B5] at h;omega
 |M+1,N,e,b,σ,h,hN,he=>by
  have ih:=B0y U M;have hs:=B5 e;have hk:=M3 e.kids;obtain ⟨N,rfl⟩:∃n,N=n+4:=⟨N - 4,by omega⟩;refine A3 U.h9 ?_;have hkl:=he.len;have hln:e.kids.length<N+1:=by omega
  have hev:=B2j (O:=O) U.h31 (N+2) e σ.length σ;have hcon:=A3N (O:=O) U.h32 U.h72 (N+1) (.sl .fz (([1,2,3,4,5,13,9]:List Int).map encI)) [1,2,3,4,5,13,9] e.n σ.length σ (.fz _) (by decide) (by simp;omega);rw [B8E] at hcon;have h34:∀x∈e.kids,∀b,A2 F O (N+1) b 34 (.agg (A5 x)::[]) σ=some (.ret (.bool (!Y6 x)),σ):=fun x hx b=>by
   have:=D3 _ _ hx;have hq:=ih N x σ.length σ (by omega) (by omega) (he.sub x hx);refine A3 U.h34 ?_;rw [A0] at hq;simp [x1034,A0,hq]
  have hany:=C0X (O:=O) U.h33 U.h73 34 [] (N+1) (fun x=> !Y6 x) σ.length σ e.kids hkl hln h34;rw [B6y];have hsa:=A7H e.kids;rw [A0] at hev
  by_cases k3:e.kind=3
  ·simp [x1009,A0,k3]
  by_cases k10:e.kind=10
  ·simp [x1009,A0,k10]
  by_cases k4:e.kind=4
  ·simp [x1009,A0,k4]
  by_cases k5:e.kind=5
  ·simp [x1009,A0,k5]
  by_cases k11:e.kind=11
  ·cases hb:A2w e.odds with
   |false=>
    rw [hb,k11] at hev;simp [x1009,A0,k11,hev]
   |true=>
    rw [hb,k11] at hev;simp [x1009,A0,k11,hev,hany,hsa]
  by_cases k6:e.kind=6
  ·by_cases hm:e.n∈([1,2,3,4,5,13,9]:List Int)
   ·rw [decide_eq_true hm] at hcon;rw [if_neg (by simp [k6]),if_neg (by simp [k6]),if_neg (by simp [k6]),if_pos ⟨k6,hm⟩];simp [x1009,A0,k6,encI,hcon]
   ·rw [decide_eq_false hm] at hcon;rw [if_neg (by simp [k6]),if_neg (by simp [k6]),if_neg (by simp [k6]),if_neg (fun h=>hm h.2)];simp [x1009,A0,k6,encI,hcon,hany,hsa]
  simp [x1009,A0,k3,k10,k4,k5,k11,k6,hany,hsa]
theorem Grn.cut {σ σ':Sto} (g:Grn σ σ'):σ'.take σ.length=σ:=by
 apply List.ext_getElem?;intro i
 by_cases hi:i<σ.length
 ·have h1:=g.same i hi;have h2:i<σ'.length:=Nat.lt_of_lt_of_le hi g.len;rw [List.getElem?_take_of_lt hi];rw [List.getElem?_eq_getElem hi,List.getElem?_eq_getElem h2];unfold Sto.at at h1;rw [List.getElem?_eq_getElem hi,List.getElem?_eq_getElem h2] at h1;congr 1;generalize σ[i]=x at h1 ⊢;generalize σ'[i]=y at h1 ⊢;cases x<;>cases y<;>simp_all
 ·rw [List.getElem?_eq_none (by rw [List.length_take];omega),List.getElem?_eq_none (by omega)]
def B2k (t:PTerm) (s:Int):Bool:=decide (s∈refF t)
structure WFits (F:FuncId->Option TFun) (O:FuncId->List TV->Option TV):Prop where
 h11:F 11=some f1011
 h12:F 12=some f1012
 h32:F 32=some f66
 h72:F 72=some f111
 h36:F 36=some f19
 h74:F 74=some f41
 h81:F 81=some f67
 h37:F 37=some f20
 h77:F 77=some f44
 h78:F 78=some f45
 h79:F 79=some f46
 r:RowO F O
theorem B8F (U:WFits F O) (N:Nat) (e:PTerm) (s:Int) (b:Nat) (σ:Sto) (hN:E3 e+100012<=N) (he:OkTm e) (hc:cntT e<=3000):
  A2 F O (N+1) b 11 [.agg (A5 e),.int .i64 s] σ=some (.ret (.bool (B2k e s)),σ):=by
 obtain ⟨N,rfl⟩:∃n,N=n+2:=⟨N - 2,by omega⟩
 suffices hh:∃e' σ',A2 F O (N+2+1) b 11 [.agg (A5 e),.int .i64 s] σ=some (e',σ')/\e'=.ret (.bool (B2k e s))/\σ'=σ by
  obtain ⟨e',σ',q1,rfl,rfl⟩:=hh;exact q1
 refine E4 U.h11 ?_;obtain ⟨v,σ1,h1,hv,hgv,hgr⟩:=B8x (O:=O) U.h36 U.h74 U.h32 U.h81 U.h72 U.r (N+1) e σ.length σ (by omega) he hc (Nat.le_refl _);rw [B8A] at hv;have hlen:=B2e e;have h2:=A3N (O:=O) U.h32 U.h72 N v (refF e) s σ.length σ1 hv (by unfold maxLen;omega) (by omega);have hcut:=hgr.cut;rw [A0] at h1;unfold B2k;generalize refF e=L at hv h2;rcases hv with _|_|_
 all_goals simp [x1011,A0,h1,h2,hcut]
def A4G (m:Int):Nat:=(min (max m 0) 4).toNat
theorem C0b (m:Int):A4G m<=4:=by unfold A4G;omega
def R0 (n:Int) (k:Nat) (c:PTerm):Bool:=decide (∀s∈D6 n k,s∉refF c)
theorem A9w (h82:F 82=some f1082) (N:Nat) (e:PTerm) (b:Nat) (σ:Sto):A2 F O (N+1) b 82 [.agg (A5 e)] σ=some (.ret (.tuple [.bool (decide (e.val.n≠0)),.bool (decide (e.kind=1))]),σ):=by
 refine A3 h82 ?_;simp [x1082,A0]
theorem A7I (V:VFits F) (h84:F 84=some f1084) (h108:F 114=some f108):∀(N:Nat) (a c:PTerm) (b:Nat) (σ:Sto),E3 a<=N->OkTm a->OkTm c->
  A2 F O N b 84 [.agg (A5 a),.agg (A5 c)] σ=some (.ret (.bool (H7 a c)),σ)
 |0,a,c,b,σ,h,_,_=>by rw [B5] at h;omega
 |1,a,c,b,σ,h,_,_=>by rw [B5] at h;omega
 |N+2,a,c,b,σ,h,ha,hc=>by
  have ih:=A7I V h84 h108 N;have hs:=B5 a;have hk:=M3 a.kids;have hV:=B8C (O:=O) V.h106 V.h158 V.h180 V.h165 V.h181 N a.val c.val σ.length σ (by omega) ha.val hc.val;have hI:=B2i (O:=O) V.h107 N σ.length σ a.odds c.odds ha.olen hc.olen (by omega)
  have hK:=B5d (O:=O) h108 84 N H7 σ.length σ a.kids c.kids ha.len hc.len (by omega) (fun x hx y hy b=>ih x y b σ (by have:=D3 _ _ hx;omega) (ha.sub x hx) (hc.sub y hy));rw [A4,A4 c.val] at hV;refine A3 h84 ?_
  by_cases hk:a.kind=c.kind
  case neg=>simp [x1084,A0,I0,hk]
  by_cases hn:a.n=c.n
  case neg=>simp [x1084,A0,I0,hk,hn]
  by_cases hm:a.m=c.m
  case neg=>simp [x1084,A0,I0,hk,hn,hm]
  cases hv:Y5 a.val c.val with
  |false=>
   rw [hv] at hV;simp [x1084,A0,I0,hk,hn,hm,hV,hv]
  |true=>
   rw [hv] at hV;cases hi:F4 A29 a.odds c.odds with
   |false=>
    rw [hi] at hI;simp [x1084,A0,I0,hk,hn,hm,hV,hv,hI,hi]
   |true=>
    rw [hi] at hI;simp [x1084,A0,I0,hk,hn,hm,hV,hv,hI,hi,hK]
mutual
def cntV:PVal->Nat
 |.mk _ _ l=>A2x l+1
def A2x:List PVal->Nat
 |[]=>0
 |t::l=>cntV t+A2x l
end
theorem A7J (t:PVal):cntV t=A2x t.list+1:=by cases t;simp only [cntV,PVal.list]
theorem B43 {l:List PVal} {j:Nat} (hj:j<l.length):A2x (l.drop j)=cntV l[j]+A2x (l.drop (j+1)):=by
 rw [List.drop_eq_getElem_cons hj];rfl
theorem A9x:∀(l:List PVal) (t:PVal),t∈l->cntV t<=A2x l
 |x::l,t,h=>by
  simp only [A2x];rcases List.mem_cons.1 h with rfl|h
  ·omega
  ·have:=A9x l t h;omega
theorem A9y:∀l,l.length<=A2x l
 |[]=>Nat.le_refl _
 |t::l=>by have:=A9y l;have:=A7J t;simp only [A2x,List.length_cons];omega
inductive Lt (B:Nat):PTerm->Prop
 |mk {k n m:Int} {v:PVal} {o:List Int} {l:List PTerm}:cntV v<=B->o.length<=B->(∀t∈l,Lt B t)->Lt B (.mk k n m v o l)
theorem Lt.val {B:Nat} {t:PTerm} (h:Lt B t):cntV t.val<=B:=by cases h;assumption
theorem Lt.odds {B:Nat} {t:PTerm} (h:Lt B t):t.odds.length<=B:=by cases h;assumption
theorem Lt.sub {B:Nat} {t:PTerm} (h:Lt B t):∀x∈t.kids,Lt B x:=by cases h;assumption
theorem Lt.of {B:Nat} {t:PTerm} (h1:cntV t.val<=B) (h2:t.odds.length<=B) (h3:∀x∈t.kids,Lt B x):Lt B t:=by cases t;exact .mk h1 h2 h3
theorem B2l (hF:F 100=some f25) (B:Nat) (hB:B<=1000000):∀(N:Nat) (e:PVal) (b:Nat) (σ:Sto) (m:Int),szV e<=N->OkV e->0<=m->m<=B->
  ∃r:Int,A2 F O N b 100 [.agg (E1 e),.int .i64 m,.int .i64 B] σ=some (.ret (.int .i64 r),σ)/\0<=r/\(r<=B->m+(cntV e:Int)<=r)
 |0,e,b,σ,m,h,_,_,_=>by rw [E5] at h;omega
 |N+1,e,b,σ,m,h,hb,hm0,hm1=>by
  have ih:=B2l hF B hB N;have hk:=A0T e.list;have hs:=E5 e;have hw0:IntKind.i64.wrap (m+1)=m+1:=by rw [G2]<;>omega
  suffices hh:∃e' σ',A2 F O (N+1) b 100 [.agg (E1 e),.int .i64 m,.int .i64 B] σ=some (e',σ')/\∃r:Int,e'=.ret (.int .i64 r)/\σ'=σ/\0<=r/\(r<=B->m+(cntV e:Int)<=r) by
   obtain ⟨e',σ',h1,r,rfl,rfl,h2⟩:=hh;exact ⟨r,h1,h2⟩
  refine E4 hF ?_;simp [x25,A4,hw0];obtain ⟨I,hI⟩:∃I:Nat->TAct->Sto->Prop,I=(fun j a σ'=>a.df=[]/\σ'=σ/\∃acc:Int,0<=acc/\(acc<=B->m+(cntV e:Int)<=acc+(A2x (e.list.drop j):Int))/\a.tm.get 1=some (.int .i64 acc)/\a.tm.get 2=some (.int .i64 B)/\a.tm.get 3=some (.bx 0 (E1 e) 24)/\a.tm.get 7=some (.int .i64 j)):=⟨_,rfl⟩
  obtain ⟨R,hR⟩:∃R:TEx->TAct->Sto->Prop,R=(fun ex a σ'=>ex=.exit 0/\a.df=[]/\σ'=σ/\∃acc:Int,0<=acc/\(acc<=B->m+(cntV e:Int)<=acc)/\a.tm.get 1=some (.int .i64 acc)):=⟨_,rfl⟩;refine B8 I e.list.length R ?_ (by omega) ?_ ?_ ?_
  ·rw [hI];exact ⟨rfl,rfl,m+1,by omega,fun _=>by rw [A7J,List.drop_zero];omega,by simp,by simp,by simp [A4],by simp⟩
  ·rw [hI];rintro j ⟨tm,df,clk⟩ σ' hj ⟨rfl,rfl,acc,ha0,hac,h1,h2,h3,h7⟩;rw [<-hI];have hm:=O2 e.list e.list[j] (List.getElem_mem hj);have hw:=F9 hj hb.len;have h3':=h3;rw [A4] at h3
   by_cases ha:acc<=B
   ·obtain ⟨r,hc,hr0,hr1⟩:=ih e.list[j] σ'.length σ' acc (by omega) (hb.sub _ (List.getElem_mem hj)) ha0 ha;rw [A4] at hc;rw [B43 hj] at hac;simp [h1,h2,h3,h7,hj,ha,hc,hw,A4];rw [hI];exact ⟨rfl,rfl,r,hr0,fun h=>by have:=hr1 h;have:=hac ha;omega,by simp,by simp [h2],by simp [h3'],by simp⟩
   ·simp [h1,h2,h3,h7,hj,ha];rw [hR];exact ⟨rfl,rfl,rfl,acc,ha0,fun h=>absurd h ha,by simp [h1]⟩
  ·rw [hI];rintro ⟨tm,df,clk⟩ σ' ⟨rfl,rfl,acc,ha0,hac,h1,h2,h3,h7⟩;rw [List.drop_of_length_le (Nat.le_refl _)] at hac;rw [A4] at h3;simp [h1,h2,h3,h7,B4];rw [hR];exact ⟨rfl,rfl,rfl,acc,ha0,fun h=>by have:=hac h;simp only [A2x] at this;omega,by simp [h1]⟩
  ·rw [hR];rintro ex ⟨tm,df,clk⟩ σ' ⟨rfl,rfl,rfl,acc,ha0,hac,h1⟩;simp [h1];exact ⟨ha0,hac⟩
theorem C2y (hF:F 69=some f7) (hS:F 100=some f25) (B:Nat) (hB:B<=1000000) (N:Nat) (v:PVal) (b:Nat) (σ:Sto) (h:szV v+1<N) (hok:OkV v):
  ∃r:Bool,A2 F O (N+1) b 69 [.int .i64 B,.sl .fz [E1 v]] σ=some (.ret (.bool r),σ)/\(r=true->cntV v<=B):=by
 suffices hh:∃e σ',A2 F O (N+1) b 69 [.int .i64 B,.sl .fz [E1 v]] σ=some (e,σ')/\∃r:Bool,e=.ret (.bool r)/\σ'=σ/\(r=true->cntV v<=B) by
  obtain ⟨e,σ',h1,r,rfl,rfl,h2⟩:=hh;exact ⟨r,h1,h2⟩
 refine E4 hF ?_;obtain ⟨r,hc,hr0,hr1⟩:=B2l (O:=O) hS B hB N v σ.length σ 0 (by omega) hok (by omega) (by omega);rw [A4] at hc;simp [x7,A4];refine B8 (fun j a σ'=>a.df=[]/\σ'=σ/\a.tm.get 0=some (.int .i64 B)/\a.tm.get 1=some (.sl .fz [E1 v])/\a.tm.get 5=some (.int .i64 (if j=0 then 0 else r))/\a.tm.get 6=some (.int .i64 j)) 1
  (fun ex a σ'=>ex=.exit 0/\a.df=[]/\σ'=σ/\a.tm.get 0=some (.int .i64 B)/\a.tm.get 5=some (.int .i64 r)) ?_ (by omega) ?_ ?_ ?_
 ·simp [A4]
 ·rintro j ⟨tm,df,clk⟩ σ' hj ⟨rfl,rfl,h0,h1,h5,h6⟩;obtain rfl:j=0:=by omega
  rw [A4] at h1;have hw:IntKind.i64.wrap 1=1:=by rw [G2]<;>omega
  simp at h5 h6;simp [h0,h1,h5,h6,hc,A4,hw]
 ·rintro ⟨tm,df,clk⟩ σ' ⟨rfl,rfl,h0,h1,h5,h6⟩;simp at h5 h6;rw [A4] at h1;simp [h0,h1,h5,h6]
 ·rintro ex ⟨tm,df,clk⟩ σ' ⟨rfl,rfl,rfl,h0,h5⟩;simp [h0,h5]
  by_cases hh:r<=B
  ·have:=hr1 hh;omega
  ·omega
theorem A5j (hF:F 29=some f24) (h7:F 69=some f7) (h25:F 100=some f25) (B:Nat) (hB:B<=1000000):∀(N:Nat) (e:PTerm) (b:Nat) (σ:Sto) (m:Int),E3 e<=N->OkTm e->Sm reachBytes (A5 e)->0<=m->m<=B->
  ∃r:Int,A2 F O N b 29 [.agg (A5 e),.int .i64 m,.int .i64 B] σ=some (.ret (.int .i64 r),σ)/\0<=r/\(r<=B->m+(cntT e:Int)<=r/\Lt B e)
 |0,e,b,σ,m,h,_,_,_,_=>by rw [B5] at h;omega
 |N+1,e,b,σ,m,h,hb,hsm,hm0,hm1=>by
  have ih:=A5j hF h7 h25 B hB N;have hk:=M3 e.kids;have hs:=B5 e;have hv:=E5 e.val;have hol:=C06 hsm;have hrb:reachBytes=140737488351232:=rfl;have hw0:IntKind.i64.wrap (IntKind.i64.wrap (m+1)+(e.odds.length:Int))=m+1+(e.odds.length:Int):=by
   rw [G2 (m+1)]<;>first|omega|(rw [G2]<;>omega)
  obtain ⟨M,rfl⟩:∃M,N=M+1:=⟨N - 1,by omega⟩;obtain ⟨rf,hf,hfv⟩:=C2y (O:=O) h7 h25 B hB M e.val σ.length σ (by omega) hb.val
  suffices hh:∃e' σ',A2 F O (M+1+1) b 29 [.agg (A5 e),.int .i64 m,.int .i64 B] σ=some (e',σ')/\∃r:Int,e'=.ret (.int .i64 r)/\σ'=σ/\0<=r/\(r<=B->m+(cntT e:Int)<=r/\Lt B e) by
   obtain ⟨e',σ',h1,r,rfl,rfl,h2⟩:=hh;exact ⟨r,h1,h2⟩
  refine E4 hF ?_;simp [A4] at hf;have hw1:IntKind.i64.wrap ((B:Int)+1)=(B:Int)+1:=by rw [G2]<;>omega
  cases rf with
  |false=>
   simp [x24,A0,hf,hw0,hw1];exact ⟨by omega,fun h=>by omega⟩
  |true=>
   have hvv:=hfv rfl;simp [x24,A0,hf,hw0,hw1];obtain ⟨I,hI⟩:∃I:Nat->TAct->Sto->Prop,I=(fun j a σ'=>a.df=[]/\σ'=σ/\∃acc:Int,0<=acc/\(acc<=B->m+(cntT e:Int)+(e.odds.length:Int)<=acc+(F6 (e.kids.drop j):Int)/\∀i,(hi:i<e.kids.length)->i<j->Lt B e.kids[i])/\a.tm.get 1=some (.int .i64 acc)/\a.tm.get 2=some (.int .i64 B)/\a.tm.get 3=some (.bx 0 (A5 e) 28)/\a.tm.get 7=some (.int .i64 j)):=⟨_,rfl⟩
   obtain ⟨R,hR⟩:∃R:TEx->TAct->Sto->Prop,R=(fun ex a σ'=>ex=.exit 0/\a.df=[]/\σ'=σ/\∃acc:Int,0<=acc/\(acc<=B->m+(cntT e:Int)<=acc/\Lt B e)/\a.tm.get 1=some (.int .i64 acc)):=⟨_,rfl⟩;refine B8 I e.kids.length R ?_ (by omega) ?_ ?_ ?_
   ·rw [hI];exact ⟨rfl,rfl,m+1+(e.odds.length:Int),by omega,fun _=>⟨by rw [L7,List.drop_zero];omega,fun i _ hi=>by omega⟩,by simp,by simp,by simp [A0],by simp⟩
   ·rw [hI];rintro j ⟨tm,df,clk⟩ σ' hj ⟨rfl,rfl,acc,ha0,hac,h1,h2,h3,h7'⟩;rw [<-hI];have hm:=D3 e.kids e.kids[j] (List.getElem_mem hj);have hw:=F9 hj hb.len;have h3':=h3;rw [A0] at h3
    by_cases ha:acc<=B
    ·obtain ⟨r,hc,hr0,hr1⟩:=ih e.kids[j] σ'.length σ' acc (by omega) (hb.sub _ (List.getElem_mem hj)) (C2u hsm (List.getElem_mem hj)) ha0 ha;rw [A0] at hc;rw [A3L hj] at hac;simp [h1,h2,h3,h7',hj,ha,hc,hw,A0];rw [hI];refine ⟨rfl,rfl,r,hr0,fun h=> ?_,by simp,by simp [h2],by simp [h3'],by simp⟩;obtain ⟨q1,q2⟩:=hr1 h;obtain ⟨q3,q4⟩:=hac ha;refine ⟨by omega,fun i hi hij=> ?_⟩
     by_cases hh:i=j
     ·subst hh;exact q2
     ·exact q4 i hi (by omega)
    ·simp [h1,h2,h3,h7',hj,ha];rw [hR];exact ⟨rfl,rfl,rfl,acc,ha0,fun h=>absurd h ha,by simp [h1]⟩
   ·rw [hI];rintro ⟨tm,df,clk⟩ σ' ⟨rfl,rfl,acc,ha0,hac,h1,h2,h3,h7'⟩;rw [List.drop_of_length_le (Nat.le_refl _)] at hac;rw [A0] at h3;simp [h1,h2,h3,h7',B4];rw [hR];refine ⟨rfl,rfl,rfl,acc,ha0,fun h=> ?_,by simp [h1]⟩;obtain ⟨q1,q2⟩:=hac h;simp only [F6] at q1;refine ⟨by omega,.of hvv (by omega) fun x hx=> ?_⟩;obtain ⟨i,hi,rfl⟩:=List.getElem_of_mem hx;exact q2 i hi hi
   ·rw [hR];rintro ex ⟨tm,df,clk⟩ σ' ⟨rfl,rfl,rfl,acc,ha0,hac,h1⟩;simp [h1];exact ⟨ha0,hac⟩
inductive Bld {α:Type} (e s:Nat) (f:α->List TV):List α->TV->Prop
 |nl:Bld e s f [] (.sl .nl [])
 |own (l:List α):Bld e s f l (.sl (.own e s) (l.map f))
theorem B5e (b:Nat):∀(n:Nat) (v:PVal),szV v<=n->below.belows b (E1 v)=true
 |0,v,h=>by rw [E5] at h;omega
 |n+1,v,h=>by
  rw [E5] at h;have h2:∀l:List PVal,(∀x∈l,szV x<=n)->below.belowss b (l.map E1)=true:=by
   intro l
   induction l with
   |nil=>intro _;rfl
   |cons x l ih=>
    intro hx;simp only [List.map_cons,below.belowss,Bool.and_eq_true];exact ⟨B5e b n x (hx x (by simp)),ih fun y hy=>hx y (by simp [hy])⟩
  have h3:=h2 v.list fun x hx=>by have:=O2 _ _ hx;omega
  rw [A4];simp [below.belows,below,h3]
theorem A9z (b:Nat) (l:List PVal):below.belowss b (l.map E1)=true:=V9 b E1 (fun v=>B5e b _ v (Nat.le_refl _)) l
theorem A7K (b:Nat):∀(n:Nat) (t:PTerm),E3 t<=n->below.belows b (A5 t)=true
 |0,v,h=>by rw [B5] at h;omega
 |n+1,t,h=>by
  rw [B5] at h;have h2:∀l:List PTerm,(∀x∈l,E3 x<=n)->below.belowss b (l.map A5)=true:=by
   intro l
   induction l with
   |nil=>intro _;rfl
   |cons x l ih=>
    intro hx;simp only [List.map_cons,below.belowss,Bool.and_eq_true];exact ⟨A7K b n x (hx x (by simp)),ih fun y hy=>hx y (by simp [hy])⟩
  have h3:=h2 t.kids fun x hx=>by have:=D3 _ _ hx;omega
  rw [A0];simp [below.belows,below,h3,A9z]
theorem B44 (b:Nat) (l:List PTerm):below.belowss b (l.map A5)=true:=V9 b A5 (fun v=>A7K b _ v (Nat.le_refl _)) l
theorem B8G (v:PVal):(E1 v).length=3:=by rw [A4];rfl
theorem B6z (v:PTerm):(A5 v).length=8:=by rw [A0];rfl
attribute [simp] B8G B6z A9z B44
theorem M4 {α:Type} {l:List α} {j:Nat} (hj:j<l.length):l.take (j+1)=l.take j++[l[j]]:=by
 rw [List.take_add_one,List.getElem?_eq_getElem hj];rfl
theorem C0c (h111:F 111=some f1111) (N:Nat) (l:List PVal) (b:Nat) (σ:Sto) (hl:l.length<=1000000) (hn:l.length<N) (hc:∀x∈l,∀b,A2 F O N b 80 [.agg (E1 x)] σ=some (.ret (.agg (E1 x)),σ)):
  A2 F O (N+1) b 111 [.sl .fz (l.map E1)] σ=some (.ret (.sl .fz (l.map E1)),σ):=by
 refine A3 h111 ?_;simp [x1111];obtain ⟨I,hI⟩:∃I:Nat->TAct->Sto->Prop,I=(fun j a σ'=>a.df=[]/\σ'=σ/\∃v,Bld 24 3 E1 (l.take j) v/\a.tm.get 3=some v/\a.tm.get 6=some (.sl .fz (l.map E1))/\a.tm.get 7=some (.int .i64 (l.length:Int))/\a.tm.get 8=some (.int .i64 j)):=⟨_,rfl⟩;obtain ⟨R,hR⟩:∃R:TEx->TAct->Sto->Prop,R=(fun ex a σ'=>ex=.exit 0/\a.df=[]/\σ'=σ/\∃v,Bld 24 3 E1 l v/\a.tm.get 3=some v):=⟨_,rfl⟩
 refine B8 I l.length R ?_ (by omega) ?_ ?_ ?_
 ·rw [hI];exact ⟨rfl,rfl,_,.nl,by simp,by simp,by simp,by simp⟩
 ·rw [hI];rintro j ⟨tm,df,clk⟩ σ' hj ⟨rfl,rfl,v,hB,h3,h6,h7,h8⟩;rw [<-hI];have hw:=F9 hj (by unfold maxLen;omega);have hcc:=hc l[j] (List.getElem_mem hj) σ'.length;have hts:=M4 hj;have hlt:(l.take j).length<=1000000:=by rw [List.length_take];omega
  have hE:E1 l[j]=[.int .i64 l[j].kind,.int .i64 l[j].n,.sl .fz (l[j].list.map E1)]:=A4 _;rw [hE] at hcc;generalize l.take j=L at hB hts hlt;rcases hB with _|_
  ·simp [h3,h6,h7,h8,hj,hcc,hw,hE];rw [hI];exact ⟨rfl,rfl,_,by rw [hts];exact .own _,by simp [hE],by simp [h6],by simp [h7],by simp⟩
  ·have hlen3:L.length<=1073741823:=by omega
   simp [h3,h6,h7,h8,hj,hcc,hw,hE,hlen3];rw [hI];exact ⟨rfl,rfl,_,by rw [hts];exact .own _,by simp [hE],by simp [h6],by simp [h7],by simp⟩
 ·rw [hI];rintro ⟨tm,df,clk⟩ σ' ⟨rfl,rfl,v,hB,h3,h6,h7,h8⟩;rw [List.take_of_length_le (Nat.le_refl _)] at hB;simp [h3,h6,h7,h8];rw [hR];exact ⟨rfl,rfl,rfl,v,hB,by simp [h3]⟩
 ·rw [hR];rintro ex ⟨tm,df,clk⟩ σ' ⟨rfl,rfl,rfl,v,hB,h3⟩;rcases hB with _|_
  ·simp [h3]
  ·simp [h3]
theorem B8H (h80:F 80=some f1080) (h111:F 111=some f1111):∀(N:Nat) (v:PVal) (b:Nat) (σ:Sto),szV v<=N->cntV v<=1000000->A2 F O N b 80 [.agg (E1 v)] σ=some (.ret (.agg (E1 v)),σ)
 |0,v,b,σ,h,_=>by rw [E5] at h;omega
 |1,v,b,σ,h,_=>by rw [E5] at h;omega
 |N+2,v,b,σ,h,hc=>by
  have ih:=B8H h80 h111 N;rw [E5] at h;rw [A7J] at hc;have hcl:=A9y v.list;have hsl:=A0T v.list;have hvs:=C0c (O:=O) h111 N v.list σ.length σ (by omega) (by omega) (fun x hx b=>ih x b σ (by have:=O2 _ _ hx;omega) (by have:=A9x _ _ hx;omega));refine A3 h80 ?_;simp [x1080,A4,hvs]
theorem B6A {σ2:Sto} {k0 j ver e:Nat} (n c:Nat) (l:List Int) (hj:k0<=j) (hk:σ2.at j=some ⟨ver,.cells (encZT l) e⟩) (hc:c=C4+1):A07 σ2 k0 (n+1) (.ref j 0 1 l.length c)=.sl .fz (l.map encI):=by
 have h1:=A3M l [];rw [List.append_nil] at h1;have h2:((encZT l).take l.length).any C0=false:=by rw [List.take_of_length_le (by rw [J7];omega)];exact A1d l
 have h3:∀l:List Int,(l.map encI).map (fun ch=>ch.map (A07 σ2 k0 n))=l.map encI:=fun l=>by
  rw [List.map_map];apply List.map_congr_left;intro x _;cases n<;>rfl
 have hb:Nat.ble k0 j=true:=by rw [C3];exact decide_eq_true hj
 unfold A07;rw [hb,hk];have hle:(Nat.ble (0+l.length*1) (encZT l).length&& !(((encZT l).drop 0).take (l.length*1)).any C0&&(Nat.blt c C4||Nat.beq c (C4+1)))=true:=by
  rw [List.drop_zero,Nat.mul_one,h2,hc];simp [J7]
 dsimp only;rw [hle];simp only [List.drop_zero,h1,h3]
theorem B2m (σ:Sto) (k n:Nat) (l:List TV):A07 σ k (n+1) (.agg l)=.agg (l.map (A07 σ k n)):=rfl
theorem B2n (σ:Sto) (k n:Nat) (kk:IntKind) (x:Int):A07 σ k n (.int kk x)=.int kk x:=by cases n<;>rfl
theorem B5f (σ:Sto) (k n:Nat) (m:Md) (c:List (List TV)):A07 σ k n (.sl m c)=.sl m c:=by cases n<;>rfl
theorem B5g (h40:F 40=some f1040) (h80:F 80=some f1080) (h111:F 111=some f1111) (h81:F 81=some f67):∀(N:Nat) (e:PTerm) (b:Nat) (σ:Sto),E3 e<=N->OkTm e->cntT e<=1000000->Lt 1000000 e->
  A2 F O N b 40 [.agg (A5 e)] σ=some (.ret (.agg (A5 e)),σ)
 |0,e,b,σ,h,_,_,_=>by rw [B5] at h;omega
 |N+1,e,b,σ,h,he,hc,hL=>by
  have ih:=B5g h40 h80 h111 h81 N;have hk:=M3 e.kids;have hs:=B5 e;have hcd:=L7 e;have hkl:e.kids.length<=F6 e.kids:=by
   generalize e.kids=l
   induction l with
   |nil=>exact Nat.le_refl _
   |cons x l ihl=>simp only [F6,List.length_cons];have:=L7 x;omega
  have hol:=hL.odds;have hval:=B8H (O:=O) h80 h111 N e.val σ.length σ (by omega) hL.val;rw [A4] at hval;obtain ⟨M,rfl⟩:∃M,N=M+1:=⟨N - 1,by omega⟩;refine A3 h40 ?_
  by_cases ho:e.odds=[]
  ·have hcl:=B8v (O:=O) h81 M σ.length σ;simp [x1040,A0,hval,ho,hcl];obtain ⟨C1,hC1⟩:∃C1:List TV,[TV.int .i64 e.kind,.int .i64 e.n,.int .i64 e.m,.int .i64 e.val.kind,.int .i64 e.val.n,.sl .fz (e.val.list.map E1),.sl .fz [],.sl .fz (e.kids.map A5)]=C1:=⟨_,rfl⟩;obtain ⟨C2,hC2⟩:∃C2:List TV,[TV.int .i64 0,.int .i64 0,.int .i64 0,.int .i64 0,.int .i64 0,.sl .nl [],.sl .nl [],.sl .nl []]=C2:=⟨_,rfl⟩
   obtain ⟨S,hS⟩:∃S,σ=S:=⟨_,rfl⟩;simp only [hS];obtain ⟨I,hI⟩:∃I:Nat->TAct->Sto->Prop,I=(fun j a σ'=>a.df=[]/\σ'=S/\∃v,Bld 28 8 A5 (e.kids.take j) v/\a.tm.get 1=some (.bx 0 C1 28)/\(∃ser,a.tm.get 2=some (.bx ser C2 28))/\a.tm.get 3=some v/\a.tm.get 15=some (.sl .fz (e.kids.map A5))/\a.tm.get 16=some (.int .i64 (e.kids.length:Int))/\a.tm.get 17=some (.int .i64 j)):=⟨_,rfl⟩
   obtain ⟨R,hR⟩:∃R:TEx->TAct->Sto->Prop,R=(fun ex a σ'=>ex=.exit 0/\a.df=[]/\σ'=S/\∃v,Bld 28 8 A5 e.kids v/\a.tm.get 1=some (.bx 0 C1 28)/\(∃ser,a.tm.get 2=some (.bx ser C2 28))/\a.tm.get 3=some v):=⟨_,rfl⟩;refine B8 I e.kids.length R ?_ (by omega) ?_ ?_ ?_
   ·rw [hI];exact ⟨rfl,rfl,_,.nl,by simp [hC1],⟨_,by simp [hC2];rfl⟩,by simp,by simp,by simp,by simp⟩
   ·rw [hI];rintro j ⟨tm,df,clk⟩ σ' hj ⟨rfl,rfl,v,hB,h1,⟨ser,h2⟩,h3,h15,h16,h17⟩;rw [<-hI];have hw:=F9 hj he.len;have hmem:=List.getElem_mem hj;have hcc:=fun b=>ih e.kids[j] b σ' (by have:=D3 _ _ hmem;omega) (he.sub _ hmem) (by have:=W1 _ _ hmem;omega) (hL.sub _ hmem)
    have hts:=M4 hj;have hlt:(e.kids.take j).length<=1000000:=by rw [List.length_take];omega
    have hE:=A0 e.kids[j];rw [hE] at hcc;generalize e.kids.take j=L at hB hts hlt;rcases hB with _|_
    ·simp [h1,h2,h3,h15,h16,h17,hj,hcc,hw,hE];rw [hI];exact ⟨rfl,rfl,_,by rw [hts];exact .own _,by simp [h1],⟨_,by simp [h2];rfl⟩,by simp [hE],by simp [h15],by simp [h16],by simp⟩
    ·have hlen3:L.length<=1073741823:=by omega
     simp [h1,h2,h3,h15,h16,h17,hj,hcc,hw,hE,hlen3];rw [hI];exact ⟨rfl,rfl,_,by rw [hts];exact .own _,by simp [h1],⟨_,by simp [h2];rfl⟩,by simp [hE],by simp [h15],by simp [h16],by simp⟩
   ·rw [hI];rintro ⟨tm,df,clk⟩ σ' ⟨rfl,rfl,v,hB,h1,⟨ser,h2⟩,h3,h15,h16,h17⟩;rw [List.take_of_length_le (Nat.le_refl _)] at hB;simp [h1,h2,h3,h15,h16,h17];rw [hR];exact ⟨rfl,rfl,rfl,v,hB,by simp [h1],⟨_,by simp [h2];rfl⟩,by simp [h3]⟩
   ·rw [hR];rintro ex ⟨tm,df,clk⟩ σ' ⟨rfl,rfl,rfl,v,hB,h1,⟨ser,h2⟩,h3⟩;rw [<-hC1] at h1;rw [<-hC2] at h2;generalize hks:e.kids=ks at hB ⊢;rcases hB with _|_
    ·simp [h1,h2,h3]
    ·simp [h1,h2,h3]
  ·have hcl:=B58 (O:=O) h81 M σ.length (.sl .fz (e.odds.map encI)) e.odds σ (.fz _) ho (by omega);have hat:Sto.at (σ++[some (⟨0,.cells [] 3⟩:TObj)]++[some (⟨0,.cells (encZT e.odds) 3⟩:TObj)]) (σ.length+1)=some ⟨0,.cells (encZT e.odds) 3⟩:=by
    have:=A3O (σ++[some (⟨0,.cells [] 3⟩:TObj)]) ⟨0,.cells (encZT e.odds) 3⟩
    rwa [List.length_append] at this
   have htk:(σ++[some (⟨0,.cells [] 3⟩:TObj)]++[some (⟨0,.cells (encZT e.odds) 3⟩:TObj)]).take σ.length=σ:=by rw [List.append_assoc];simp
   obtain ⟨S,hS⟩:∃S,σ++[some (⟨0,.cells [] 3⟩:TObj)]++[some (⟨0,.cells (encZT e.odds) 3⟩:TObj)]=S:=⟨_,rfl⟩;rw [hS] at hcl hat htk;have hth:A07 S σ.length 3 (.ref (σ.length+1) 0 1 e.odds.length (C4+1))=.sl .fz (e.odds.map encI):=B6A (σ2:=S) (k0:=σ.length) 2 (C4+1) e.odds (by omega) hat rfl;simp [x1040,A0,hval,hcl]
   obtain ⟨C1,hC1⟩:∃C1:List TV,[TV.int .i64 e.kind,.int .i64 e.n,.int .i64 e.m,.int .i64 e.val.kind,.int .i64 e.val.n,.sl .fz (e.val.list.map E1),.ref (σ.length+1) 0 1 e.odds.length (C4+1),.sl .fz (e.kids.map A5)]=C1:=⟨_,rfl⟩;obtain ⟨C2,hC2⟩:∃C2:List TV,[TV.int .i64 0,.int .i64 0,.int .i64 0,.int .i64 0,.int .i64 0,.sl .nl [],.sl .nl [],.sl .nl []]=C2:=⟨_,rfl⟩
   obtain ⟨I,hI⟩:∃I:Nat->TAct->Sto->Prop,I=(fun j a σ'=>a.df=[]/\σ'=S/\∃v,Bld 28 8 A5 (e.kids.take j) v/\a.tm.get 1=some (.bx 0 C1 28)/\(∃ser,a.tm.get 2=some (.bx ser C2 28))/\a.tm.get 3=some v/\a.tm.get 15=some (.sl .fz (e.kids.map A5))/\a.tm.get 16=some (.int .i64 (e.kids.length:Int))/\a.tm.get 17=some (.int .i64 j)):=⟨_,rfl⟩
   obtain ⟨R,hR⟩:∃R:TEx->TAct->Sto->Prop,R=(fun ex a σ'=>ex=.exit 0/\a.df=[]/\σ'=S/\∃v,Bld 28 8 A5 e.kids v/\a.tm.get 1=some (.bx 0 C1 28)/\(∃ser,a.tm.get 2=some (.bx ser C2 28))/\a.tm.get 3=some v):=⟨_,rfl⟩;refine B8 I e.kids.length R ?_ (by omega) ?_ ?_ ?_
   ·rw [hI];exact ⟨rfl,rfl,_,.nl,by simp [hC1],⟨_,by simp [hC2];rfl⟩,by simp,by simp,by simp,by simp⟩
   ·rw [hI];rintro j ⟨tm,df,clk⟩ σ' hj ⟨rfl,rfl,v,hB,h1,⟨ser,h2⟩,h3,h15,h16,h17⟩;rw [<-hI];have hw:=F9 hj he.len;have hmem:=List.getElem_mem hj;have hcc:=fun b=>ih e.kids[j] b σ' (by have:=D3 _ _ hmem;omega) (he.sub _ hmem) (by have:=W1 _ _ hmem;omega) (hL.sub _ hmem)
    have hts:=M4 hj;have hlt:(e.kids.take j).length<=1000000:=by rw [List.length_take];omega
    have hE:=A0 e.kids[j];rw [hE] at hcc;generalize e.kids.take j=L at hB hts hlt;rcases hB with _|_
    ·simp [h1,h2,h3,h15,h16,h17,hj,hcc,hw,hE];rw [hI];exact ⟨rfl,rfl,_,by rw [hts];exact .own _,by simp [h1],⟨_,by simp [h2];rfl⟩,by simp [hE],by simp [h15],by simp [h16],by simp⟩
    ·have hlen3:L.length<=1073741823:=by omega
     simp [h1,h2,h3,h15,h16,h17,hj,hcc,hw,hE,hlen3];rw [hI];exact ⟨rfl,rfl,_,by rw [hts];exact .own _,by simp [h1],⟨_,by simp [h2];rfl⟩,by simp [hE],by simp [h15],by simp [h16],by simp⟩
   ·rw [hI];rintro ⟨tm,df,clk⟩ σ' ⟨rfl,rfl,v,hB,h1,⟨ser,h2⟩,h3,h15,h16,h17⟩;rw [List.take_of_length_le (Nat.le_refl _)] at hB;simp [h1,h2,h3,h15,h16,h17];rw [hR];exact ⟨rfl,rfl,rfl,v,hB,by simp [h1],⟨_,by simp [h2];rfl⟩,by simp [h3]⟩
   ·rw [hR];rintro ex ⟨tm,df,clk⟩ σ' ⟨rfl,rfl,rfl,v,hB,h1,⟨ser,h2⟩,h3⟩;rw [<-hC1] at h1;rw [<-hC2] at h2;generalize hks:e.kids=ks at hB ⊢;rcases hB with _|_
    ·simp [-A07,B2m,B2n,B5f,h1,h2,h3,hth,htk]
    ·simp [-A07,B2m,B2n,B5f,h1,h2,h3,hth,htk]
theorem B2o {α:Type} {f:α->α->Bool} (hf:∀a b,f a b=f b a):∀l m:List α,F4 f l m=F4 f m l
 |[],[]=>rfl
 |[],_::_=>rfl
 |_::_,[]=>rfl
 |a::l,b::m=>by simp only [F4];rw [hf a b,B2o hf l m]
theorem A5k {α:Type} {f:α->α->Bool}:∀l m:List α,(∀a∈l,∀b,f a b=f b a)->F4 f l m=F4 f m l
 |[],[],_=>rfl
 |[],_::_,_=>rfl
 |_::_,[],_=>rfl
 |a::l,b::m,h=>by simp only [F4];rw [h a (by simp) b,A5k l m (fun x hx=>h x (by simp [hx]))]
theorem A2U (a b:Int):decide (a=b)=decide (b=a):=by
 by_cases h:a=b
 ·rw [decide_eq_true h,decide_eq_true h.symm]
 ·rw [decide_eq_false h,decide_eq_false (fun e=>h e.symm)]
theorem A9A:∀(n:Nat) (a b:PVal),szV a<=n->Y5 a b=Y5 b a
 |0,a,b,h=>by rw [E5] at h;omega
 |n+1,a,b,h=>by
  rw [E5] at h;rw [Z8,Z8 b,A2U a.kind,A2U a.n,A5k a.list b.list fun x hx y=>A9A n x y (by have:=O2 _ _ hx;omega)]
theorem A7L:∀(n:Nat) (a b:PTerm),E3 a<=n->H7 a b=H7 b a
 |0,a,b,h=>by rw [B5] at h;omega
 |n+1,a,b,h=>by
  rw [B5] at h;rw [A0U,A0U b,A2U a.kind,A2U a.n,A2U a.m,A9A _ a.val b.val (Nat.le_refl _),B2o (fun x y=>A2U x y) a.odds b.odds,A5k a.kids b.kids fun x hx y=>A7L n x y (by have:=D3 _ _ hx;omega)]
def A7M:List PTerm->Bool
 |[]=>false
 |a::r=>r.all fun x=>H7 a x
theorem B45 (a:PTerm) (r:List PTerm):(!((a::r).any fun k=> !H7 k a))=A7M (a::r):=by
 have h1:H7 a a=true:=A0b _ a (Nat.le_refl _);rw [List.any_cons,h1];simp only [Bool.not_true,Bool.false_or,A7M]
 induction r with
 |nil=>rfl
 |cons x l ih=>rw [List.any_cons,List.all_cons,Bool.not_or,Bool.not_not,ih,A7L _ x a (Nat.le_refl _)]
theorem B2p {α:Type} {S:α->Bool} {l:List α} {j:Nat} (h:j<l.length):(l.drop j).all S=(S l[j]&&(l.drop (j+1)).all S):=by
 rw [List.drop_eq_getElem_cons h,List.all_cons]
def A7N:XCode:=(by exact fun x _=>x:V0 (gT x1041.body [1,1,1,1,0,0,1,0,1,0])) _ (by conv=>lhs;cbv)
def F0:XCode:=(by exact fun x _=>x:V1 (fun a=>pT (gT x1041.body [1,1,1,1,0,0]) [1,0,1,0] a)) _ (by intros;conv=>lhs;cbv) A7N
def B46:XCode:=(by exact fun x _=>x:V0 (gT x1041.body [1,1,0])) _ (by conv=>lhs;cbv)
theorem B6B:x1041=(by exact fun x _=>x:V2 (fun a b=>({x1041 with body:=pT (pT (x1041.body) [1,1,0] a) [1,1,1,1,0,0] b}:XFun))) _ (by intros;conv=>lhs;cbv) B46 F0:=rfl
def A10 (t:PTerm):PTerm:=
 if t.kind=7 then (match t.kids with|[a,c]=>(if R0 t.n (A4G t.m) c&&Y6 a then c else t)|_=>t)
 else if t.kind=10 then (match t.kids with|[a,c]=>(if a.kind=1/\a.val.n≠0 then c else t)|_=>t)
 else if t.kind=11 then (match t.kids with|[a]=>(if A2w t.odds then a else t)|_=>t)
 else if t.kind=12 then (match t.kids with|a::r=>(if A7M (a::r) then a else t)|[]=>t)
 else if t.kind=8 then (match t.kids with|[a,c,d]=>(if a.kind=1 then (if a.val.n≠0 then c else d) else if Y6 a&&H7 c d then c else t)|_=>t)
 else t
mutual
def lessT:PTerm->PTerm
 |.mk k n m v o ks=>A10 (.mk k n m v o (B0z ks))
def B0z:List PTerm->List PTerm
 |[]=>[]
 |t::l=>lessT t::B0z l
end
theorem A9B:∀l,B0z l=l.map lessT
 |[]=>rfl
 |t::l=>by simp only [B0z,List.map_cons,A9B l]
theorem A0C (t:PTerm):lessT t=A10 (.mk t.kind t.n t.m t.val t.odds (t.kids.map lessT)):=by
 cases t;simp only [lessT,A9B,PTerm.kind,PTerm.n,PTerm.m,PTerm.val,PTerm.odds,PTerm.kids]
theorem B8I {N b:Nat} (e:PTerm) (he:OkTm e) (hkl:e.kids.length<=1000000) (hN:e.kids.length<N) (a:TAct) (σ:Sto) (C1 C2:List TV) (s2 po:Nat) (hbp:b<=po) (hC1:C1=A5 e)
  (hc:∀x∈e.kids,∀b σ,A2 F O N b 41 [.agg (A5 x)] σ=some (.ret (.agg (A5 (lessT x))),σ))
  (hdf:a.df=[]) (h1:a.tm.get 1=some (.bx 0 C1 28)) (h2:a.tm.get 2=some (.bx s2 C2 28)) (h3:a.tm.get 3=some (.ptr po 0)) (hat:∃ver,σ.at po=some ⟨ver,.cells [.sl .nl []] 26⟩):
  Tw A3s b (A2 F O N) N (fun ex a' σ'=>ex=.normal/\a'.df=[]/\a'.tm.get 1=some (.bx 0 C1 28)/\a'.tm.get 2=some (.bx s2 C2 28)/\a'.tm.get 3=some (.ptr po 0)/\∃ver v,Bld 28 8 A5 (e.kids.map lessT) v/\σ'=σ.set po (some ⟨ver,.cells [v] 26⟩)) [] (B9 A3s b (A2 F O N) N B46 a σ):=by
 obtain ⟨tm,df,clk⟩:=a;simp only at hdf h1 h2 h3;subst hdf hC1;obtain ⟨ver,hat⟩:=hat;have hpo:=Sto.lt hat;have h1':=h1;rw [A0] at h1;simp [B46,h1]
 obtain ⟨I,hI⟩:∃I:Nat->TAct->Sto->Prop,I=(fun j a' σ'=>a'.df=[]/\a'.tm.get 1=some (.bx 0 (A5 e) 28)/\a'.tm.get 2=some (.bx s2 C2 28)/\a'.tm.get 3=some (.ptr po 0)/\(∃ver v,Bld 28 8 A5 ((e.kids.take j).map lessT) v/\σ'=σ.set po (some ⟨ver,.cells [v] 26⟩))/\
   a'.tm.get 13=some (.sl .fz (e.kids.map A5))/\a'.tm.get 14=some (.int .i64 (e.kids.length:Int))/\a'.tm.get 15=some (.int .i64 j)):=⟨_,rfl⟩
 obtain ⟨R,hR⟩:∃R:TEx->TAct->Sto->Prop,R=(fun ex a' σ'=>ex=.exit 0/\a'.df=[]/\a'.tm.get 1=some (.bx 0 (A5 e) 28)/\a'.tm.get 2=some (.bx s2 C2 28)/\a'.tm.get 3=some (.ptr po 0)/\∃ver v,Bld 28 8 A5 (e.kids.map lessT) v/\σ'=σ.set po (some ⟨ver,.cells [v] 26⟩)):=⟨_,rfl⟩;refine B8 I e.kids.length R ?_ (by omega) ?_ ?_ ?_
 ·rw [hI];exact ⟨rfl,by simp [h1'],by simp [h2],by simp [h3],⟨ver,_,.nl,(Sto.set_same hat).symm⟩,by simp,by simp,by simp⟩
 ·rw [hI];rintro j ⟨tm,df,clk⟩ σ' hj ⟨rfl,h1,h2,h3,⟨ver,v,hB,rfl⟩,h13,h14,h15⟩;rw [<-hI];have hw:=F9 hj he.len;have hmem:=List.getElem_mem hj;have hcc:=hc e.kids[j] hmem;have hts:(e.kids.take (j+1)).map lessT=(e.kids.take j).map lessT++[lessT e.kids[j]]:=by rw [M4 hj,List.map_append];rfl
  have hlt:((e.kids.take j).map lessT).length<=1000000:=by rw [List.length_map,List.length_take];omega
  have hE:=A0 e.kids[j];have hE2:=A0 (lessT e.kids[j]);generalize lessT e.kids[j]=y at hcc hts hE2;rw [hE,hE2] at hcc;generalize (e.kids.take j).map lessT=L at hB hts hlt;have hat1:∀o:TObj,Sto.at (σ.set po (some o)) po=some o:=fun o=>at_set hpo _
  rcases hB with _|_
  ·simp [h1,h2,h3,h13,h14,h15,hj,hcc,hw,hE,hE2,hat1,hbp];rw [hI];exact ⟨rfl,by simp [h1],by simp [h2],by simp [h3],⟨_,_,by rw [hts];exact .own _,by simp [hE2];rfl⟩,by simp [h13],by simp [h14],by simp⟩
  ·have hlen3:L.length<=1073741823:=by omega
   simp [h1,h2,h3,h13,h14,h15,hj,hcc,hw,hE,hE2,hat1,hbp,hlen3];rw [hI];exact ⟨rfl,by simp [h1],by simp [h2],by simp [h3],⟨_,_,by rw [hts];exact .own _,by simp [hE2];rfl⟩,by simp [h13],by simp [h14],by simp⟩
 ·rw [hI];rintro ⟨tm,df,clk⟩ σ' ⟨rfl,h1,h2,h3,⟨ver,v,hB,rfl⟩,h13,h14,h15⟩;rw [List.take_of_length_le (Nat.le_refl _)] at hB;simp [h13,h14,h15];rw [hR];exact ⟨rfl,rfl,by simp [h1],by simp [h2],by simp [h3],ver,v,hB,rfl⟩
 ·rw [hR];rintro ex ⟨tm,df,clk⟩ σ' ⟨rfl,rfl,h1,h2,h3,ver,v,hB,rfl⟩;simp [h1,h2,h3];exact ⟨ver,v,hB,rfl⟩
theorem A3Q {n:Int} {j:Nat} {c:PTerm}:R0 n (j+1) c=(R0 n j c&&(decide (9223372036854775807<n+(j:Int))|| !B2k c (n+(j:Int)))):=by
 unfold R0 B2k
 by_cases hov:n+(j:Int)<=9223372036854775807
 ·have hsl:D6 n (j+1)=D6 n j++[n+(j:Int)]:=by simp only [D6];rw [if_pos hov]
  rw [hsl,decide_eq_false (by omega:¬9223372036854775807<n+(j:Int)),Bool.false_or]
  by_cases h1:∀s∈D6 n j,s∉refF c
  ·by_cases h2:n+(j:Int)∈refF c
   ·rw [decide_eq_true h1,decide_eq_true h2,decide_eq_false (fun h=>h _ (by simp) h2)];rfl
   ·rw [decide_eq_true h1,decide_eq_false h2,decide_eq_true fun s hs=> ?_];rfl;rcases List.mem_append.1 hs with hs|hs
    ·exact h1 s hs
    ·cases List.mem_singleton.1 hs;exact h2
  ·rw [decide_eq_false h1,decide_eq_false fun h=>h1 fun s hs=>h s (List.mem_append_left _ hs)];rfl
 ·have hsl:D6 n (j+1)=D6 n j:=by simp only [D6];rw [if_neg hov,List.append_nil]
  rw [hsl,decide_eq_true (by omega:9223372036854775807<n+(j:Int)),Bool.true_or,Bool.and_true]
theorem B8J {N b:Nat} (U:WFits F O) (e:PTerm) (a0 c0:PTerm) (hks:e.kids=[a0,c0]) (he:OkTm e) (hN:E3 c0+100013<=N) (hc:cntT c0<=3000) (a:TAct) (σ:Sto) (v2:TV) (po ver:Nat)
  (hdf:a.df=[]) (h1:a.tm.get 1=some (.bx 0 (A5 e) 28)) (h2:a.tm.get 2=some v2) (h3:a.tm.get 3=some (.ptr po 0)) (h6:a.tm.get 6=some (.bool false)) (hat:σ.at po=some ⟨ver,.cells [.sl .fz [A5 a0,A5 c0]] 26⟩):
  Tw A3s b (A2 F O N) N (fun ex a' σ'=>ex=.normal/\σ'=σ/\a'.df=[]/\a'.tm.get 1=some (.bx 0 (A5 e) 28)/\a'.tm.get 2=some v2/\a'.tm.get 3=some (.ptr po 0)/\a'.tm.get 6=some (.bool (!R0 e.n (A4G e.m) c0))) [] (B9 A3s b (A2 F O N) N A7N a σ):=by
 obtain ⟨tm,df,clk⟩:=a;simp only at hdf h1 h2 h3 h6;subst hdf;have h1':=h1;rw [A0,hks] at h1;have hkk:=C0b e.m;have hn:=he.n;unfold I64 at hn;have okc:OkTm c0:=he.sub c0 (by rw [hks];simp);obtain ⟨M,rfl⟩:∃M,N=M+1:=⟨N - 1,by omega⟩;have hu:=fun s b=>B8F (O:=O) U M c0 s b σ (by omega) okc hc
 have hmm:∃k:Nat,A4G e.m=k/\(k:Int)=min (max e.m 0) 4:=⟨A4G e.m,rfl,by unfold A4G;omega⟩;obtain ⟨k,hk1,hk2⟩:=hmm;rw [hk1]
 by_cases m0:e.m<0
 ·have e1:k=0:=by omega
  simp [A7N,h1,m0,A04,F2];obtain ⟨I,hI⟩:∃I:Nat->TAct->Sto->Prop,I=(fun j a' σ'=>a'.df=[]/\σ'=σ/\a'.tm.get 1=some (.bx 0 (A5 e) 28)/\a'.tm.get 2=some v2/\a'.tm.get 3=some (.ptr po 0)/\a'.tm.get 6=some (.bool (!R0 e.n j c0))/\a'.tm.get 41=some (.int .i64 (k:Int))/\a'.tm.get 42=some (.int .i64 (j:Int))):=⟨_,rfl⟩
  obtain ⟨R,hR⟩:∃R:TEx->TAct->Sto->Prop,R=(fun ex a' σ'=>ex=.exit 3/\a'.df=[]/\σ'=σ/\a'.tm.get 1=some (.bx 0 (A5 e) 28)/\a'.tm.get 2=some v2/\a'.tm.get 3=some (.ptr po 0)/\a'.tm.get 6=some (.bool (!R0 e.n k c0))):=⟨_,rfl⟩;refine B8 I k R ?_ (by omega) ?_ ?_ ?_
  ·rw [hI];refine ⟨rfl,rfl,by simp [h1'],by simp [h2],by simp [h3],by simp [h6,R0,D6],by simp [e1],by simp⟩
  ·rw [hI];rintro j ⟨tm,df,clk⟩ σ' hj ⟨rfl,rfl,h1,h2,h3,h6,h41,h42⟩;rw [<-hI];have hw:=F9 (n:=5) (j:=j) (by omega) (by unfold maxLen;omega);have hst:=A3Q (n:=e.n) (j:=j) (c:=c0);have h1':=h1;rw [A0,hks] at h1;cases hB:R0 e.n j c0 with
   |false=>
    rw [hB,Bool.false_and] at hst;simp only [hB,Bool.not_false] at h6;simp [h1,h2,h3,h6,h41,h42,hj,hw,B4];rw [hI];exact ⟨rfl,rfl,by simp [h1'],by simp [h2],by simp [h3],by simp [hst],by simp [h41],by simp⟩
   |true=>
    rw [hB,Bool.true_and] at hst;simp only [hB,Bool.not_true] at h6
    by_cases hov:9223372036854775807<e.n+(j:Int)
    ·rw [decide_eq_true hov,Bool.true_or] at hst;have hwn:¬e.n<=IntKind.i64.wrap (e.n+(j:Int)):=by rw [IntKind.wrap_i64];omega
     simp [h1,h2,h3,h6,h41,h42,hj,hw,hwn,B4];rw [hI];exact ⟨rfl,rfl,by simp [h1'],by simp [h2],by simp [h3],by simp [hst],by simp [h41],by simp⟩
    ·rw [decide_eq_false hov,Bool.false_or] at hst;have hwn:IntKind.i64.wrap (e.n+(j:Int))=e.n+(j:Int):=by rw [G2]<;>omega
     have hle:e.n<=e.n+(j:Int):=by omega
     have hq:=hu (e.n+(j:Int));have hE:=A0 c0;rw [hE] at hq hat;simp [h1,h2,h3,h6,h41,h42,hj,hw,hwn,hle,hat,hq,B4];rw [hI];exact ⟨rfl,rfl,by simp [h1'],by simp [h2],by simp [h3],by simp [hst],by simp [h41],by simp⟩
  ·rw [hI];rintro ⟨tm,df,clk⟩ σ' ⟨rfl,rfl,h1,h2,h3,h6,h41,h42⟩;simp [h41,h42];rw [hR];exact ⟨rfl,rfl,rfl,by simp [h1],by simp [h2],by simp [h3],by simp [h6]⟩
  ·rw [hR];rintro ex ⟨tm,df,clk⟩ σ' ⟨rfl,rfl,rfl,h1,h2,h3,h6⟩;simp [h1,h2,h3,h6]
 ·by_cases m4:4<e.m
  ·have e1:k=4:=by omega
   simp [A7N,h1,m0,m4,A04,F2];obtain ⟨I,hI⟩:∃I:Nat->TAct->Sto->Prop,I=(fun j a' σ'=>a'.df=[]/\σ'=σ/\a'.tm.get 1=some (.bx 0 (A5 e) 28)/\a'.tm.get 2=some v2/\a'.tm.get 3=some (.ptr po 0)/\a'.tm.get 6=some (.bool (!R0 e.n j c0))/\a'.tm.get 41=some (.int .i64 (k:Int))/\a'.tm.get 42=some (.int .i64 (j:Int))):=⟨_,rfl⟩
   obtain ⟨R,hR⟩:∃R:TEx->TAct->Sto->Prop,R=(fun ex a' σ'=>ex=.exit 3/\a'.df=[]/\σ'=σ/\a'.tm.get 1=some (.bx 0 (A5 e) 28)/\a'.tm.get 2=some v2/\a'.tm.get 3=some (.ptr po 0)/\a'.tm.get 6=some (.bool (!R0 e.n k c0))):=⟨_,rfl⟩;refine B8 I k R ?_ (by omega) ?_ ?_ ?_
   ·rw [hI];refine ⟨rfl,rfl,by simp [h1'],by simp [h2],by simp [h3],by simp [h6,R0,D6],by simp [e1],by simp⟩
   ·rw [hI];rintro j ⟨tm,df,clk⟩ σ' hj ⟨rfl,rfl,h1,h2,h3,h6,h41,h42⟩;rw [<-hI];have hw:=F9 (n:=5) (j:=j) (by omega) (by unfold maxLen;omega);have hst:=A3Q (n:=e.n) (j:=j) (c:=c0);have h1':=h1;rw [A0,hks] at h1;cases hB:R0 e.n j c0 with
    |false=>
     rw [hB,Bool.false_and] at hst;simp only [hB,Bool.not_false] at h6;simp [h1,h2,h3,h6,h41,h42,hj,hw,B4];rw [hI];exact ⟨rfl,rfl,by simp [h1'],by simp [h2],by simp [h3],by simp [hst],by simp [h41],by simp⟩
    |true=>
     rw [hB,Bool.true_and] at hst;simp only [hB,Bool.not_true] at h6
     by_cases hov:9223372036854775807<e.n+(j:Int)
     ·rw [decide_eq_true hov,Bool.true_or] at hst;have hwn:¬e.n<=IntKind.i64.wrap (e.n+(j:Int)):=by rw [IntKind.wrap_i64];omega
      simp [h1,h2,h3,h6,h41,h42,hj,hw,hwn,B4];rw [hI];exact ⟨rfl,rfl,by simp [h1'],by simp [h2],by simp [h3],by simp [hst],by simp [h41],by simp⟩
     ·rw [decide_eq_false hov,Bool.false_or] at hst;have hwn:IntKind.i64.wrap (e.n+(j:Int))=e.n+(j:Int):=by rw [G2]<;>omega
      have hle:e.n<=e.n+(j:Int):=by omega
      have hq:=hu (e.n+(j:Int));have hE:=A0 c0;rw [hE] at hq hat;simp [h1,h2,h3,h6,h41,h42,hj,hw,hwn,hle,hat,hq,B4];rw [hI];exact ⟨rfl,rfl,by simp [h1'],by simp [h2],by simp [h3],by simp [hst],by simp [h41],by simp⟩
   ·rw [hI];rintro ⟨tm,df,clk⟩ σ' ⟨rfl,rfl,h1,h2,h3,h6,h41,h42⟩;simp [h41,h42];rw [hR];exact ⟨rfl,rfl,rfl,by simp [h1],by simp [h2],by simp [h3],by simp [h6]⟩
   ·rw [hR];rintro ex ⟨tm,df,clk⟩ σ' ⟨rfl,rfl,rfl,h1,h2,h3,h6⟩;simp [h1,h2,h3,h6]
  ·have e1:(k:Int)=e.m:=by omega
   simp [A7N,h1,m0,m4,A04,F2];obtain ⟨I,hI⟩:∃I:Nat->TAct->Sto->Prop,I=(fun j a' σ'=>a'.df=[]/\σ'=σ/\a'.tm.get 1=some (.bx 0 (A5 e) 28)/\a'.tm.get 2=some v2/\a'.tm.get 3=some (.ptr po 0)/\a'.tm.get 6=some (.bool (!R0 e.n j c0))/\a'.tm.get 41=some (.int .i64 (k:Int))/\a'.tm.get 42=some (.int .i64 (j:Int))):=⟨_,rfl⟩
   obtain ⟨R,hR⟩:∃R:TEx->TAct->Sto->Prop,R=(fun ex a' σ'=>ex=.exit 3/\a'.df=[]/\σ'=σ/\a'.tm.get 1=some (.bx 0 (A5 e) 28)/\a'.tm.get 2=some v2/\a'.tm.get 3=some (.ptr po 0)/\a'.tm.get 6=some (.bool (!R0 e.n k c0))):=⟨_,rfl⟩;refine B8 I k R ?_ (by omega) ?_ ?_ ?_
   ·rw [hI];refine ⟨rfl,rfl,by simp [h1'],by simp [h2],by simp [h3],by simp [h6,R0,D6],by simp [e1],by simp⟩
   ·rw [hI];rintro j ⟨tm,df,clk⟩ σ' hj ⟨rfl,rfl,h1,h2,h3,h6,h41,h42⟩;rw [<-hI];have hw:=F9 (n:=5) (j:=j) (by omega) (by unfold maxLen;omega);have hst:=A3Q (n:=e.n) (j:=j) (c:=c0);have h1':=h1;rw [A0,hks] at h1;cases hB:R0 e.n j c0 with
    |false=>
     rw [hB,Bool.false_and] at hst;simp only [hB,Bool.not_false] at h6;simp [h1,h2,h3,h6,h41,h42,hj,hw,B4];rw [hI];exact ⟨rfl,rfl,by simp [h1'],by simp [h2],by simp [h3],by simp [hst],by simp [h41],by simp⟩
    |true=>
     rw [hB,Bool.true_and] at hst;simp only [hB,Bool.not_true] at h6
     by_cases hov:9223372036854775807<e.n+(j:Int)
     ·rw [decide_eq_true hov,Bool.true_or] at hst;have hwn:¬e.n<=IntKind.i64.wrap (e.n+(j:Int)):=by rw [IntKind.wrap_i64];omega
      simp [h1,h2,h3,h6,h41,h42,hj,hw,hwn,B4];rw [hI];exact ⟨rfl,rfl,by simp [h1'],by simp [h2],by simp [h3],by simp [hst],by simp [h41],by simp⟩
     ·rw [decide_eq_false hov,Bool.false_or] at hst;have hwn:IntKind.i64.wrap (e.n+(j:Int))=e.n+(j:Int):=by rw [G2]<;>omega
      have hle:e.n<=e.n+(j:Int):=by omega
      have hq:=hu (e.n+(j:Int));have hE:=A0 c0;rw [hE] at hq hat;simp [h1,h2,h3,h6,h41,h42,hj,hw,hwn,hle,hat,hq,B4];rw [hI];exact ⟨rfl,rfl,by simp [h1'],by simp [h2],by simp [h3],by simp [hst],by simp [h41],by simp⟩
   ·rw [hI];rintro ⟨tm,df,clk⟩ σ' ⟨rfl,rfl,h1,h2,h3,h6,h41,h42⟩;simp [h41,h42];rw [hR];exact ⟨rfl,rfl,rfl,by simp [h1],by simp [h2],by simp [h3],by simp [h6]⟩
   ·rw [hR];rintro ex ⟨tm,df,clk⟩ σ' ⟨rfl,rfl,rfl,h1,h2,h3,h6⟩;simp [h1,h2,h3,h6]
structure LFits (F:FuncId->Option TFun) (O:FuncId->List TV->Option TV):Prop where
 u:UFits F
 w:WFits F O
 v:VFits F
 h82:F 82=some f1082
 h83:F 83=some f1083
 h84:F 84=some f1084
 h114:F 114=some f108
theorem B8K (L:LFits F O) (N:Nat) (x y:PTerm) (r:List PTerm) (b:Nat) (σ:Sto) (po ver:Nat) (hat:σ.at po=some ⟨ver,.cells [.sl .fz ((y::r).map A5)] 26⟩) (hN:E3 x<=N) (hx:OkTm x) (hy:OkTm y):
  A2 F O (N+1) b 83 [.agg (A5 x),.ptr po 0] σ=some (.ret (.bool (!H7 x y)),σ):=by
 have h:=A7I (O:=O) L.v L.h84 L.h114 N x y σ.length σ hN hx hy;have hE:=A0 y;have hE2:=A0 x;rw [hE,hE2] at h;refine A3 L.h83 ?_;simp [x1083,hat,hE,hE2,h]
def C28:List TV:=[.int .i64 0,.int .i64 0,.int .i64 0,.int .i64 0,.int .i64 0,.sl .nl [],.sl .nl [],.sl .nl []]
theorem B8L {N b:Nat} (L:LFits F O) (e:PTerm) (he:OkTm e) (hkl:e.kids.length<=1000000) (hN:∀x∈e.kids,4*E3 x+100020<=N/\cntT x<=3000) (hN1:e.kids.length+20<=N) (a:TAct) (σ:Sto) (s2 po ver:Nat)
  (hdf:a.df=[]) (h1:a.tm.get 1=some (.bx 0 (A5 e) 28)) (h2:a.tm.get 2=some (.bx s2 C28 28)) (h3:a.tm.get 3=some (.ptr po 0)) (hat:σ.at po=some ⟨ver,.cells [.sl .fz (e.kids.map A5)] 26⟩):
  Tw A3s b (A2 F O N) N (fun ex a' σ'=>a'.df=[]/\σ'=σ/\((ex=.ret/\a'.tm.get 2=some (.bx s2 (A5 (A10 e)) 28))\/(ex=.normal/\A10 e=e/\a'.tm.get 1=some (.bx 0 (A5 e) 28)/\a'.tm.get 2=some (.bx s2 C28 28)))) [] (B9 A3s b (A2 F O N) N F0 a σ):=by
 obtain ⟨tm,df,clk⟩:=a;simp only at hdf h1 h2 h3;subst hdf;obtain ⟨N,rfl⟩:∃n,N=n+4:=⟨N - 4,by omega⟩;have h1':=h1;have h2':=h2;rw [A0] at h1;unfold C28 at h2;have ok:=he.sub;unfold A10
 by_cases k7:e.kind=7
 ·rw [if_pos k7];rcases hks:e.kids with _|⟨x,_|⟨y,_|⟨z,r⟩⟩⟩
  ·rw [hks] at hat h1;simp [F0,h1,h2,h3,hat,k7,A0 e,hks,C28,B4]
  ·rw [hks] at hat h1;simp [F0,h1,h2,h3,hat,k7,A0 e,hks,C28,B4]
  ·rw [hks] at hat h1;have hmy:y∈e.kids:=by rw [hks];simp
   have hmx:x∈e.kids:=by rw [hks];simp
   have ny:=hN y hmy;have nx:=hN x hmx;have hs:=B0y (O:=O) L.u (E3 x) (N+4) x b σ (Nat.le_refl _) (by omega) (ok x hmx);have hE:=A0 x;have hE2:=A0 y;rw [hE] at hs;simp [F0,h1,h2,h3,hat,k7,A0 e,hks,C28,B4];apply H8
   ·apply B8J (N:=N+4) (σ:=σ) (po:=po) (ver:=ver) L.w e x y hks he (by omega) ny.2
    ·rfl
    ·simp [A0 e,hks,h1,k7]
    ·simp [h2];rfl
    ·simp [h3]
    ·simp
    ·exact hat
   rintro ex ⟨tm,df,clk⟩ σ' ⟨rfl,rfl,hdf,h1,h2,h3,h6⟩;simp only at hdf h1 h2 h3 h6;subst hdf;rw [A0,hks,k7] at h1;cases hn:R0 e.n (A4G e.m) y with
   |false=>
    rw [hn] at h6;simp [h1,h2,h3,h6,hat,k7,A0 e,hks,C28,B4]
   |true=>
    rw [hn] at h6;cases hsx:Y6 x with
    |false=>
     rw [hsx] at hs;simp [h1,h2,h3,h6,hat,hE,hE2,hs,k7,A0 e,hks,C28,B4]
    |true=>
     rw [hsx] at hs;simp [h1,h2,h3,h6,hat,hE,hE2,hs,k7,A0 e,hks,C28,B4]
  ·rw [hks] at hat h1 hkl;have hl:¬(r.length:Int)+1+1+1=2:=by omega
   simp [F0,h1,h2,h3,hat,k7,A0 e,hks,C28,B4,hl]
 rw [if_neg k7]
 by_cases k10:e.kind=10
 ·rw [if_pos k10];rcases hks:e.kids with _|⟨x,_|⟨y,_|⟨z,r⟩⟩⟩
  ·rw [hks] at hat h1;simp [F0,h1,h2,h3,hat,k10,A0 e,hks,C28,B4]
  ·rw [hks] at hat h1;simp [F0,h1,h2,h3,hat,k10,A0 e,hks,C28,B4]
  ·have hh:=A9w (O:=O) L.h82 (N+3) x b σ;rw [show N+3+1=N+4 from rfl] at hh;rw [hks] at hat h1;have hE:=A0 x;have hE2:=A0 y;rw [hE] at hh
   by_cases q1:x.kind=1
   ·by_cases q2:x.val.n=0
    ·rw [q1,q2] at hh;simp [F0,h1,h2,h3,hat,k10,A0 e,hks,C28,B4,hE,hE2,hh,q1,q2]
    ·rw [q1] at hh;simp [F0,h1,h2,h3,hat,k10,A0 e,hks,C28,B4,hE,hE2,hh,q1,q2]
   ·simp [F0,h1,h2,h3,hat,k10,A0 e,hks,C28,B4,hE,hE2,hh,q1]
  ·rw [hks] at hat h1 hkl;have hl:¬(r.length:Int)+1+1+1=2:=by omega
   simp [F0,h1,h2,h3,hat,k10,A0 e,hks,C28,B4,hl]
 rw [if_neg k10]
 by_cases k11:e.kind=11
 ·rw [if_pos k11];have hev:=B2j (O:=O) L.u.h31 (N+3) e b σ;rw [show N+3+1=N+4 from rfl] at hev;rw [A0] at hev;rcases hks:e.kids with _|⟨x,_|⟨y,r⟩⟩
  ·rw [hks] at hat h1;simp [F0,h1,h2,h3,hat,k11,A0 e,hks,C28,B4]
  ·rw [hks] at hat h1 hev;have hE:=A0 x;rw [k11] at hev;simp only [List.map_cons,List.map_nil,hE] at hev;cases hb:A2w e.odds with
   |false=>
    rw [hb] at hev;simp [F0,h1,h2,h3,hat,hE,hev,k11,A0 e,hks,C28,B4]
   |true=>
    rw [hb] at hev;simp [F0,h1,h2,h3,hat,hE,hev,k11,A0 e,hks,C28,B4]
  ·rw [hks] at hat h1;have hl:¬(r.length:Int)+1+1=1:=by omega
   simp [F0,h1,h2,h3,hat,k11,A0 e,hks,C28,B4,hl]
 rw [if_neg k11]
 by_cases k12:e.kind=12
 ·rw [if_pos k12];rcases hks:e.kids with _|⟨x,r⟩
  ·rw [hks] at hat h1;simp [F0,h1,h2,h3,hat,k12,A0 e,hks,C28,B4]
  ·have hany:=C0X (O:=O) L.u.h33 L.u.h73 83 [.ptr po 0] (N+2) (fun k=> !H7 k x) b σ e.kids he.len (by omega) (fun y hy b=>by
    rw [hks] at hat
    exact B8K L (N+1) y x r b σ po ver hat (by have:=hN y hy;omega) (ok y hy) (ok x (by rw [hks];simp)))
   rw [show N+2+2=N+4 from rfl] at hany;rw [hks] at hat h1 hany;have hE:=A0 x;have hab:=B45 x r;simp only [List.map_cons,hE] at hany;cases hb:A7M (x::r) with
   |false=>
    rw [hb] at hab;have hab2:((x::r).any fun k=> !H7 k x)=true:=by
     cases hq:((x::r).any fun k=> !H7 k x) with
     |true=>rfl
     |false=>rw [hq] at hab;cases hab
    rw [hab2] at hany;simp [F0,h1,h2,h3,hat,hE,hany,k12,A0 e,hks,C28,B4,hb]
   |true=>
    rw [hb] at hab;have hab2:((x::r).any fun k=> !H7 k x)=false:=by
     cases hq:((x::r).any fun k=> !H7 k x) with
     |false=>rfl
     |true=>rw [hq] at hab;cases hab
    rw [hab2] at hany;simp [F0,h1,h2,h3,hat,hE,hany,k12,A0 e,hks,C28,B4,hb]
 rw [if_neg k12]
 by_cases k8:e.kind=8
 ·rw [if_pos k8];rcases hks:e.kids with _|⟨x,_|⟨y,_|⟨z,_|⟨q,r⟩⟩⟩⟩
  ·rw [hks] at hat h1;simp [F0,h1,h2,h3,hat,k8,A0 e,hks,C28,B4]
  ·rw [hks] at hat h1;simp [F0,h1,h2,h3,hat,k8,A0 e,hks,C28,B4]
  ·rw [hks] at hat h1;simp [F0,h1,h2,h3,hat,k8,A0 e,hks,C28,B4]
  ·have hmx:x∈e.kids:=by rw [hks];simp
   have hmy:y∈e.kids:=by rw [hks];simp
   have hmz:z∈e.kids:=by rw [hks];simp
   have nx:=hN x hmx;have ny:=hN y hmy;have hh:=A9w (O:=O) L.h82 (N+3) x b σ;rw [show N+3+1=N+4 from rfl] at hh;have hs:=B0y (O:=O) L.u (E3 x) (N+4) x b σ (Nat.le_refl _) (by omega) (ok x hmx);have hsm:=A7I (O:=O) L.v L.h84 L.h114 (N+4) y z b σ (by omega) (ok y hmy) (ok z hmz);rw [hks] at hat h1;have hE:=A0 x;have hE2:=A0 y;have hE3:=A0 z;rw [hE] at hh hs;rw [hE2,hE3] at hsm
   by_cases q1:x.kind=1
   ·by_cases q2:x.val.n=0
    ·rw [q1,q2] at hh;simp [F0,h1,h2,h3,hat,k8,A0 e,hks,C28,B4,hE,hE2,hE3,hh,q1,q2]
    ·rw [q1] at hh;simp [F0,h1,h2,h3,hat,k8,A0 e,hks,C28,B4,hE,hE2,hE3,hh,q1,q2]
   ·cases hsx:Y6 x with
    |false=>
     rw [hsx] at hs;simp [F0,h1,h2,h3,hat,k8,A0 e,hks,C28,B4,hE,hE2,hE3,hh,q1,hs,hsx]
    |true=>
     rw [hsx] at hs;cases hss:H7 y z with
     |false=>
      rw [hss] at hsm;simp [F0,h1,h2,h3,hat,k8,A0 e,hks,C28,B4,hE,hE2,hE3,hh,q1,hs,hsm,hsx,hss]
     |true=>
      rw [hss] at hsm;simp [F0,h1,h2,h3,hat,k8,A0 e,hks,C28,B4,hE,hE2,hE3,hh,q1,hs,hsm,hsx,hss]
  ·rw [hks] at hat h1;have hl:¬(r.length:Int)+1+1+1+1=3:=by omega
   simp [F0,h1,h2,h3,hat,k8,A0 e,hks,C28,B4,hl]
 rw [if_neg k8];simp [F0,h1,h2,h3,hat,k7,k10,k11,k12,k8,A0 e,C28,B4]
end
end Go.Xe.YtlgknghehgmodaaGreatDoor
