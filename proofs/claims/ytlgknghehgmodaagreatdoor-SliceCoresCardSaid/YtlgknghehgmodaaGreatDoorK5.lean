/-
  A part of the proof: it is imported by YtlgknghehgmodaaGreatDoorTop. Nothing here is a claim of its own.
-/
import Derived.Test.YtlgknghehgmodaaGreatDoorK4
import Derived.SizedLaws
set_option linter.unusedVariables false
set_option linter.unusedSimpArgs false
set_option linter.unusedSectionVars false
set_option maxRecDepth 100000
namespace Go.Xe.YtlgknghehgmodaaGreatDoor
section
open Go Go.Xe Go.Xt
@[simp] def zA:Ann:=fun _=>0
@[simp] def iM (v:Nat) (r:Ann):List Nat->Ann
 |[],d=>r d
 |k::l,d=>if d=k then v else iM v r l d
@[simp] def C1L:Ann:=fun d=>iM 1 zA [2,4,6,11,16,24,25,26,29,36] d
def f1004:TFun:=⟨x1004,C1L,false,false⟩
@[simp] theorem C82:f1004.an=C1L:=rfl
@[simp] theorem C2Z:f1004.fn.body=x1004.body:=rfl
@[simp] theorem C30:f1004.keep=false:=rfl
@[simp] theorem C5b:f1004.fn.results=[.tmp 2]:=rfl
@[simp] def C1M:Ann:=fun d=>iM 1 (iM 2 zA [4,24,27]) [2,5,9,15,20] d
def f1009:TFun:=⟨x1009,C1M,false,false⟩
@[simp] theorem C83:f1009.an=C1M:=rfl
@[simp] theorem C31:f1009.fn.body=x1009.body:=rfl
@[simp] theorem C32:f1009.keep=false:=rfl
@[simp] theorem C5c:f1009.fn.results=[.tmp 2]:=rfl
@[simp] def C1N:Ann:=fun d=>iM 1 (iM 2 zA [5,19,25,34,39]) [3,6,10,16,22,26] d
def f1010:TFun:=⟨x1010,C1N,false,false⟩
@[simp] theorem C84:f1010.an=C1N:=rfl
@[simp] theorem C33:f1010.fn.body=x1010.body:=rfl
@[simp] theorem C34:f1010.keep=false:=rfl
@[simp] theorem C5d:f1010.fn.results=[.tmp 2]:=rfl
@[simp] def C1O:Ann:=fun d=>iM 1 (iM 2 zA [7]) [4] d
def f1011:TFun:=⟨x1011,C1O,false,false⟩
@[simp] theorem C85:f1011.an=C1O:=rfl
@[simp] theorem C35:f1011.fn.body=x1011.body:=rfl
@[simp] theorem C36:f1011.keep=false:=rfl
@[simp] theorem C5e:f1011.fn.results=[.tmp 4]:=rfl
@[simp] def C1P:Ann:=fun d=>iM 1 (iM 2 zA [9,13,18,19]) [5,6] d
def f1012:TFun:=⟨x1012,C1P,false,false⟩
@[simp] theorem C86:f1012.an=C1P:=rfl
@[simp] theorem C37:f1012.fn.body=x1012.body:=rfl
@[simp] theorem C38:f1012.keep=false:=rfl
@[simp] theorem C5f:f1012.fn.results=[.tmp 4]:=rfl
@[simp] def C1Q:Ann:=fun d=>iM 1 (iM 2 zA [7,9,13,15,20,22,35,37,50,55]) [5,11,18,25,33,41] d
def f1013:TFun:=⟨x1013,C1Q,false,false⟩
@[simp] theorem C87:f1013.an=C1Q:=rfl
@[simp] theorem C39:f1013.fn.body=x1013.body:=rfl
@[simp] theorem C3a:f1013.keep=false:=rfl
@[simp] theorem C5g:f1013.fn.results=[.tmp 4]:=rfl
@[simp] def A6g:Ann:=fun d=>iM 1 (iM 2 zA [5,10,21,29,51,62,77,86,94,97,105,115]) [3,4,12,27,31,36,42,49,53,58,65,75,79,84,92,96,103,107,132] d
def f1015:TFun:=⟨x1015,A6g,false,false⟩
@[simp] theorem C88:f1015.an=A6g:=rfl
@[simp] theorem C3b:f1015.fn.body=x1015.body:=rfl
@[simp] theorem C3c:f1015.keep=false:=rfl
@[simp] theorem C5h:f1015.fn.results=[.cellN 2 8]:=rfl
@[simp] def a6:Ann:=fun d=>iM 1 (iM 2 zA [18,20,27,29,35,36,39,47,48,50,51]) [4,5,6,11,17,34] d
def f6:TFun:=⟨x6,a6,false,false⟩
@[simp] theorem D3k:f6.an=a6:=rfl
@[simp] theorem D12:f6.fn.body=x6.body:=rfl
@[simp] theorem D13:f6.keep=false:=rfl
@[simp] theorem D2s:f6.fn.results=[.tmp 4]:=rfl
@[simp] def A9V:Ann:=fun d=>iM 1 (iM 2 (iM 3 zA [24]) [25,37,41,47,61,62,78,79]) [4,5,6,7,8,10,11,27,29,31,33,34,36,49,51,55,58,68,74,85] d
def f1017:TFun:=⟨x1017,A9V,false,false⟩
@[simp] theorem C89:f1017.an=A9V:=rfl
@[simp] theorem C3d:f1017.fn.body=x1017.body:=rfl
@[simp] theorem C3e:f1017.keep=false:=rfl
@[simp] theorem C5i:f1017.fn.results=[.cellN 2 13,.tmp 3]:=rfl
@[simp] def C1R:Ann:=fun d=>0
def f1018:TFun:=⟨x1018,C1R,false,false⟩
@[simp] theorem C8a:f1018.an=C1R:=rfl
@[simp] theorem C3f:f1018.fn.body=x1018.body:=rfl
@[simp] theorem C3g:f1018.keep=false:=rfl
@[simp] theorem C5j:f1018.fn.results=[.cellN 2 13,.tmp 3]:=rfl
@[simp] def C1S:Ann:=fun d=>iM 1 (iM 2 zA [25,27,38,43,57,62]) [5,6,14,23,30] d
def f1019:TFun:=⟨x1019,C1S,false,false⟩
@[simp] theorem C8b:f1019.an=C1S:=rfl
@[simp] theorem C3h:f1019.fn.body=x1019.body:=rfl
@[simp] theorem C3i:f1019.keep=false:=rfl
@[simp] theorem C5k:f1019.fn.results=[.tmp 4]:=rfl
@[simp] def C1T:Ann:=fun d=>iM 1 (iM 2 zA [11,15,20,24]) [5] d
def f1020:TFun:=⟨x1020,C1T,false,false⟩
@[simp] theorem C8c:f1020.an=C1T:=rfl
@[simp] theorem C3j:f1020.fn.body=x1020.body:=rfl
@[simp] theorem C3k:f1020.keep=false:=rfl
@[simp] theorem C5l:f1020.fn.results=[.tmp 4]:=rfl
@[simp] def C1U:Ann:=fun d=>iM 1 zA [2,3,4,5,13,15,17,18,20,21,25] d
def f1021:TFun:=⟨x1021,C1U,false,false⟩
@[simp] theorem C8d:f1021.an=C1U:=rfl
@[simp] theorem C3l:f1021.fn.body=x1021.body:=rfl
@[simp] theorem C3m:f1021.keep=false:=rfl
@[simp] theorem C5m:f1021.fn.results=[.tmp 2]:=rfl
@[simp] def C1V:Ann:=fun d=>iM 1 (iM 2 zA [12,16,21]) [2,3,4,5,23,24,27] d
def f1022:TFun:=⟨x1022,C1V,false,false⟩
@[simp] theorem C8e:f1022.an=C1V:=rfl
@[simp] theorem C3n:f1022.fn.body=x1022.body:=rfl
@[simp] theorem C3o:f1022.keep=false:=rfl
@[simp] theorem C5n:f1022.fn.results=[.tmp 2]:=rfl
@[simp] def a9:Ann:=fun d=>iM 1 (iM 2 (iM 3 zA [50]) [20,25,31,38,52,58,63]) [2,5,12,18,23,28,40,54] d
def f9:TFun:=⟨x9,a9,false,false⟩
@[simp] theorem D3l:f9.an=a9:=rfl
@[simp] theorem D14:f9.fn.body=x9.body:=rfl
@[simp] theorem D15:f9.keep=false:=rfl
@[simp] theorem D2t:f9.fn.results=[.tmp 2]:=rfl
@[simp] def a24:Ann:=fun d=>iM 1 (iM 2 zA [8,14,20,22,28,29,32,39,40]) [1,6,7,27,42] d
def f24:TFun:=⟨x24,a24,false,false⟩
@[simp] theorem D2u:f24.an=a24:=rfl
@[simp] theorem C8f:f24.fn.body=x24.body:=rfl
@[simp] theorem C8g:f24.keep=false:=rfl
@[simp] theorem D16:f24.fn.results=[.tmp 6]:=rfl
@[simp] def C1W:Ann:=fun d=>iM 1 (iM 2 zA [11,15,22]) [2,7,18] d
def f1031:TFun:=⟨x1031,C1W,false,false⟩
@[simp] theorem C8h:f1031.an=C1W:=rfl
@[simp] theorem C3p:f1031.fn.body=x1031.body:=rfl
@[simp] theorem C3q:f1031.keep=false:=rfl
@[simp] theorem C5o:f1031.fn.results=[.tmp 2]:=rfl
@[simp] def a66:Ann:=fun d=>iM 1 (iM 2 zA [5,6]) [4] d
def f66:TFun:=⟨x66,a66,false,false⟩
@[simp] theorem D2v:f66.an=a66:=rfl
@[simp] theorem C8i:f66.fn.body=x66.body:=rfl
@[simp] theorem C8j:f66.keep=false:=rfl
@[simp] theorem D17:f66.fn.results=[.tmp 4]:=rfl
@[simp] def C1X:Ann:=fun d=>iM 1 (iM 2 zA [5,6]) [4] d
def f1033:TFun:=⟨x1033,C1X,false,false⟩
@[simp] theorem C8k:f1033.an=C1X:=rfl
@[simp] theorem C3r:f1033.fn.body=x1033.body:=rfl
@[simp] theorem C3s:f1033.keep=false:=rfl
@[simp] theorem C5p:f1033.fn.results=[.tmp 4]:=rfl
@[simp] def C1Y:Ann:=fun d=>if d=2 then 1 else 0
def f1034:TFun:=⟨x1034,C1Y,false,false⟩
@[simp] theorem C8l:f1034.an=C1Y:=rfl
@[simp] theorem C3t:f1034.fn.body=x1034.body:=rfl
@[simp] theorem C3u:f1034.keep=false:=rfl
@[simp] theorem C5q:f1034.fn.results=[.tmp 2]:=rfl
@[simp] def C1Z:Ann:=fun d=>iM 1 (iM 2 zA [9,12,18]) [2,6,15] d
def f1035:TFun:=⟨x1035,C1Z,false,false⟩
@[simp] theorem C8m:f1035.an=C1Z:=rfl
@[simp] theorem C3v:f1035.fn.body=x1035.body:=rfl
@[simp] theorem C3w:f1035.keep=false:=rfl
@[simp] theorem C5r:f1035.fn.results=[.tmp 2]:=rfl
@[simp] def a19:Ann:=fun d=>iM 1 (iM 2 (iM 3 zA [3]) [6,8]) [2] d
def f19:TFun:=⟨x19,a19,true,false⟩
@[simp] theorem D2w:f19.an=a19:=rfl
@[simp] theorem C8n:f19.fn.body=x19.body:=rfl
@[simp] theorem C8o:f19.keep=true:=rfl
@[simp] theorem D18:f19.fn.results=[.tmp 2]:=rfl
@[simp] def a20:Ann:=fun d=>iM 1 (iM 2 zA [9,11,13,15,20,22,36,40,45,47,48,51,55]) [2,3,4,5,6,7,57] d
def f20:TFun:=⟨x20,a20,false,false⟩
@[simp] theorem D2x:f20.an=a20:=rfl
@[simp] theorem C8p:f20.fn.body=x20.body:=rfl
@[simp] theorem C8q:f20.keep=false:=rfl
@[simp] theorem D19:f20.fn.results=[.tmp 2]:=rfl
@[simp] def C20:Ann:=fun d=>iM 1 (iM 2 zA [7,9,13,15,27,32]) [5,11,18] d
def f1038:TFun:=⟨x1038,C20,false,false⟩
@[simp] theorem C8r:f1038.an=C20:=rfl
@[simp] theorem C3x:f1038.fn.body=x1038.body:=rfl
@[simp] theorem C3y:f1038.keep=false:=rfl
@[simp] theorem C5s:f1038.fn.results=[.tmp 4]:=rfl
@[simp] def a16:Ann:=fun d=>iM 1 (iM 2 zA [11,15,20,24]) [5] d
def f16:TFun:=⟨x16,a16,false,false⟩
@[simp] theorem D2y:f16.an=a16:=rfl
@[simp] theorem C8s:f16.fn.body=x16.body:=rfl
@[simp] theorem C8t:f16.keep=false:=rfl
@[simp] theorem D1a:f16.fn.results=[.tmp 4]:=rfl
@[simp] def C21:Ann:=fun d=>iM 1 (iM 2 zA [10,15]) [3,17,21,27] d
def f1040:TFun:=⟨x1040,C21,false,false⟩
@[simp] theorem C8u:f1040.an=C21:=rfl
@[simp] theorem C3z:f1040.fn.body=x1040.body:=rfl
@[simp] theorem C3A:f1040.keep=false:=rfl
@[simp] theorem C5t:f1040.fn.results=[.cellN 2 8]:=rfl
@[simp] def A3R:Ann:=fun d=>iM 1 (iM 2 (iM 3 zA [3]) [13,27,31,39,48,49,52,59,60,66,79,102,118,125,134]) [6,7,8,9,10,11,15,19,29,33,42,44,45,46,54,68,77,81,86,93,94,95,100,104,109,116,120,132,136,141,148,149,160] d
def f1041:TFun:=⟨x1041,A3R,false,false⟩
@[simp] theorem C8v:f1041.an=A3R:=rfl
@[simp] theorem C3B:f1041.fn.body=x1041.body:=rfl
@[simp] theorem C3C:f1041.keep=false:=rfl
@[simp] theorem C5u:f1041.fn.results=[.cellN 2 8]:=rfl
@[simp] def C22:Ann:=fun d=>iM 1 (iM 2 zA [4,6,9,14,15,19,26,27]) [3,8,12] d
def f1042:TFun:=⟨x1042,C22,false,false⟩
@[simp] theorem C8w:f1042.an=C22:=rfl
@[simp] theorem C3D:f1042.fn.body=x1042.body:=rfl
@[simp] theorem C3E:f1042.keep=false:=rfl
@[simp] theorem C5v:f1042.fn.results=[.tmp 2]:=rfl
@[simp] def C23:Ann:=fun d=>iM 1 (iM 2 zA [4]) [2] d
def f1043:TFun:=⟨x1043,C23,false,false⟩
@[simp] theorem C8x:f1043.an=C23:=rfl
@[simp] theorem C3F:f1043.fn.body=x1043.body:=rfl
@[simp] theorem C3G:f1043.keep=false:=rfl
@[simp] theorem C5w:f1043.fn.results=[.tmp 2]:=rfl
@[simp] def C24:Ann:=fun d=>iM 1 (iM 2 zA [4,8]) [2,3] d
def f1044:TFun:=⟨x1044,C24,false,false⟩
@[simp] theorem C8y:f1044.an=C24:=rfl
@[simp] theorem C3H:f1044.fn.body=x1044.body:=rfl
@[simp] theorem C3I:f1044.keep=false:=rfl
@[simp] theorem C5x:f1044.fn.results=[.tmp 2]:=rfl
@[simp] def a65:Ann:=fun d=>iM 1 (iM 2 zA [7,9,13,15,20,22,35,37,50,55]) [5,11,18,25,33,41] d
def f65:TFun:=⟨x65,a65,false,false⟩
@[simp] theorem D2z:f65.an=a65:=rfl
@[simp] theorem C8z:f65.fn.body=x65.body:=rfl
@[simp] theorem C8A:f65.keep=false:=rfl
@[simp] theorem D1b:f65.fn.results=[.tmp 4]:=rfl
@[simp] def a23:Ann:=fun d=>iM 1 (iM 2 zA [7,11,17,18,20,21]) [4,5,6] d
def f23:TFun:=⟨x23,a23,false,false⟩
@[simp] theorem D2A:f23.an=a23:=rfl
@[simp] theorem C8B:f23.fn.body=x23.body:=rfl
@[simp] theorem C8C:f23.keep=false:=rfl
@[simp] theorem D1c:f23.fn.results=[.tmp 4]:=rfl
@[simp] def B5B:Ann:=fun d=>iM 1 (iM 2 zA [9]) [11,20] d
def f1047:TFun:=⟨x1047,B5B,false,false⟩
@[simp] theorem C8D:f1047.an=B5B:=rfl
@[simp] theorem C3J:f1047.fn.body=x1047.body:=rfl
@[simp] theorem C3K:f1047.keep=false:=rfl
@[simp] theorem C5y:f1047.fn.results=[.cellN 2 13]:=rfl
@[simp] def A6h:Ann:=fun d=>iM 1 (iM 2 (iM 3 zA [13,36]) [17,21,31,39,41,53]) [2,3,5,7,8,9,23,25,29,43,45,47,48,49,61] d
def f1048:TFun:=⟨x1048,A6h,false,false⟩
@[simp] theorem C8E:f1048.an=A6h:=rfl
@[simp] theorem C3L:f1048.fn.body=x1048.body:=rfl
@[simp] theorem C3M:f1048.keep=false:=rfl
@[simp] theorem C5z:f1048.fn.results=[.tmp 2]:=rfl
@[simp] def B5C:Ann:=fun d=>iM 1 (iM 3 zA [5]) [2] d
def f1049:TFun:=⟨x1049,B5C,true,true⟩
@[simp] theorem C8F:f1049.an=B5C:=rfl
@[simp] theorem C3N:f1049.fn.body=x1049.body:=rfl
@[simp] theorem C3O:f1049.keep=true:=rfl
@[simp] theorem C5A:f1049.fn.results=[.tmp 2]:=rfl
@[simp] def B5D:Ann:=fun d=>iM 1 (iM 2 zA [13,23,26,30,33,41,42]) [2,7,8,15,28,35,39,46,51,54] d
def f1050:TFun:=⟨x1050,B5D,false,false⟩
@[simp] theorem C8G:f1050.an=B5D:=rfl
@[simp] theorem C3P:f1050.fn.body=x1050.body:=rfl
@[simp] theorem C3Q:f1050.keep=false:=rfl
@[simp] theorem C5B:f1050.fn.results=[.cellN 6 8,.tmp 7]:=rfl
@[simp] def A9W:Ann:=fun d=>iM 1 (iM 2 zA [7,13,16]) [18,23] d
def f1051:TFun:=⟨x1051,A9W,false,false⟩
@[simp] theorem C8H:f1051.an=A9W:=rfl
@[simp] theorem C3R:f1051.fn.body=x1051.body:=rfl
@[simp] theorem C3S:f1051.keep=false:=rfl
@[simp] theorem C5C:f1051.fn.results=[.cellN 2 13]:=rfl
@[simp] def a10:Ann:=fun d=>iM 1 (iM 2 zA [18,26,31,34,39,48,53]) [2,3,4,9,15,24,29] d
def f10:TFun:=⟨x10,a10,false,false⟩
@[simp] theorem D2B:f10.an=a10:=rfl
@[simp] theorem C8I:f10.fn.body=x10.body:=rfl
@[simp] theorem C8J:f10.keep=false:=rfl
@[simp] theorem D1d:f10.fn.results=[.tmp 2]:=rfl
@[simp] def B5E:Ann:=fun d=>iM 1 (iM 2 zA [7,11,13,18]) [4,30] d
def f1053:TFun:=⟨x1053,B5E,false,false⟩
@[simp] theorem C8K:f1053.an=B5E:=rfl
@[simp] theorem C3T:f1053.fn.body=x1053.body:=rfl
@[simp] theorem C3U:f1053.keep=false:=rfl
@[simp] theorem C5D:f1053.fn.results=[.cellN 2 13]:=rfl
@[simp] def A9X:Ann:=fun d=>iM 1 (iM 2 (iM 3 zA [18]) [13,19,24,34,36,41,52,55,64,68,72,75]) [6,7,8,9,10,26,27,59] d
def f1054:TFun:=⟨x1054,A9X,false,false⟩
@[simp] theorem C8L:f1054.an=A9X:=rfl
@[simp] theorem C3V:f1054.fn.body=x1054.body:=rfl
@[simp] theorem C3W:f1054.keep=false:=rfl
@[simp] theorem C5E:f1054.fn.results=[.cellN 4 13]:=rfl
@[simp] def A9Y:Ann:=fun d=>iM 1 (iM 2 zA [14,18,19,21,23,24,26,39]) [2,3,4,5,6,7,31,32,33,44] d
def f1055:TFun:=⟨x1055,A9Y,false,false⟩
@[simp] theorem C8M:f1055.an=A9Y:=rfl
@[simp] theorem C3X:f1055.fn.body=x1055.body:=rfl
@[simp] theorem C3Y:f1055.keep=false:=rfl
@[simp] theorem C5F:f1055.fn.results=[.tmp 2]:=rfl
@[simp] def C25:Ann:=fun d=>iM 1 (iM 2 zA [6,8,12,14]) [4,10,17] d
def f1056:TFun:=⟨x1056,C25,false,false⟩
@[simp] theorem C8N:f1056.an=C25:=rfl
@[simp] theorem C3Z:f1056.fn.body=x1056.body:=rfl
@[simp] theorem C40:f1056.keep=false:=rfl
@[simp] theorem C5G:f1056.fn.results=[.tmp 4]:=rfl
@[simp] def C26:Ann:=fun d=>iM 1 (iM 2 zA [7,9,20,25]) [5,11] d
def f1057:TFun:=⟨x1057,C26,false,false⟩
@[simp] theorem C8O:f1057.an=C26:=rfl
@[simp] theorem C41:f1057.fn.body=x1057.body:=rfl
@[simp] theorem C42:f1057.keep=false:=rfl
@[simp] theorem C5H:f1057.fn.results=[.tmp 4]:=rfl
@[simp] def a28:Ann:=fun d=>if d=2 then 1 else 0
def f28:TFun:=⟨x28,a28,false,false⟩
@[simp] theorem D2C:f28.an=a28:=rfl
@[simp] theorem C8P:f28.fn.body=x28.body:=rfl
@[simp] theorem C8Q:f28.keep=false:=rfl
@[simp] theorem D1e:f28.fn.results=[.tmp 2]:=rfl
@[simp] def a29:Ann:=fun d=>iM 1 (iM 2 (iM 3 zA [29]) [8,12,17,19,24,28,31,39,41,44,47]) [4,5,6,10,15,22,32,34,36] d
def f29:TFun:=⟨x29,a29,false,false⟩
@[simp] theorem D2D:f29.an=a29:=rfl
@[simp] theorem C8R:f29.fn.body=x29.body:=rfl
@[simp] theorem C8S:f29.keep=false:=rfl
@[simp] theorem D1f:f29.fn.results=[.tmp 4]:=rfl
@[simp] def a35:Ann:=fun d=>iM 1 (iM 2 zA [15,26]) [7,17,19,23] d
def f35:TFun:=⟨x35,a35,false,false⟩
@[simp] theorem D2E:f35.an=a35:=rfl
@[simp] theorem C8T:f35.fn.body=x35.body:=rfl
@[simp] theorem C8U:f35.keep=false:=rfl
@[simp] theorem D1g:f35.fn.results=[.tmp 6]:=rfl
@[simp] def a37:Ann:=fun d=>iM 1 (iM 2 zA [15,26]) [7,17,19,23] d
def f37:TFun:=⟨x37,a37,false,false⟩
@[simp] theorem D2F:f37.an=a37:=rfl
@[simp] theorem C8V:f37.fn.body=x37.body:=rfl
@[simp] theorem C8W:f37.keep=false:=rfl
@[simp] theorem D1h:f37.fn.results=[.tmp 6]:=rfl
@[simp] def a21:Ann:=fun d=>iM 1 (iM 2 zA [7,13]) [2,3,9,18] d
def f21:TFun:=⟨x21,a21,false,false⟩
@[simp] theorem D2G:f21.an=a21:=rfl
@[simp] theorem C8X:f21.fn.body=x21.body:=rfl
@[simp] theorem C8Y:f21.keep=false:=rfl
@[simp] theorem D1i:f21.fn.results=[.tmp 2]:=rfl
@[simp] def a7:Ann:=fun d=>iM 1 (iM 2 zA [7,11,17,18,20,21]) [4,5,6] d
def f7:TFun:=⟨x7,a7,false,false⟩
@[simp] theorem D3u:f7.an=a7:=rfl
@[simp] theorem D1j:f7.fn.body=x7.body:=rfl
@[simp] theorem D1k:f7.keep=false:=rfl
@[simp] theorem D2H:f7.fn.results=[.tmp 4]:=rfl
@[simp] def C8Z:Ann:=fun d=>iM 1 (iM 2 zA [11,15]) [4,5,8,10,17] d
def f111:TFun:=⟨x111,C8Z,false,false⟩
@[simp] theorem D1l:f111.an=C8Z:=rfl
@[simp] theorem C5I:f111.fn.body=x111.body:=rfl
@[simp] theorem C5J:f111.keep=false:=rfl
@[simp] theorem C90:f111.fn.results=[.tmp 4]:=rfl
@[simp] def C27:Ann:=fun d=>iM 1 (iM 2 zA [11]) [4,5,8,10,17] d
def f1073:TFun:=⟨x1073,C27,false,false⟩
@[simp] theorem C91:f1073.an=C27:=rfl
@[simp] theorem C43:f1073.fn.body=x1073.body:=rfl
@[simp] theorem C44:f1073.keep=false:=rfl
@[simp] theorem C5K:f1073.fn.results=[.tmp 4]:=rfl
@[simp] def a41:Ann:=fun d=>iM 1 (iM 2 (iM 3 zA [28]) [12,15,17,21,22,26,31,35,41,49,59,61,66,67,70,74,75,81,82]) [6,7,9,10,14,24,32,38,43,45,48,51,52,62,64,72] d
def f41:TFun:=⟨x41,a41,true,false⟩
@[simp] theorem D2I:f41.an=a41:=rfl
@[simp] theorem C92:f41.fn.body=x41.body:=rfl
@[simp] theorem C93:f41.keep=true:=rfl
@[simp] theorem D1m:f41.fn.results=[]:=rfl
@[simp] def a44:Ann:=fun d=>iM 1 (iM 2 zA [8,12,14,17,21,24,28,38,41]) [4,5,7,16,30,31,34,43,44,47] d
def f44:TFun:=⟨x44,a44,false,false⟩
@[simp] theorem D2J:f44.an=a44:=rfl
@[simp] theorem C94:f44.fn.body=x44.body:=rfl
@[simp] theorem C95:f44.keep=false:=rfl
@[simp] theorem D1n:f44.fn.results=[.tmp 4]:=rfl
@[simp] def a45:Ann:=fun d=>iM 1 (iM 2 zA [5,9,13,18]) [2,3,7,11,16,21] d
def f45:TFun:=⟨x45,a45,false,false⟩
@[simp] theorem D2K:f45.an=a45:=rfl
@[simp] theorem C96:f45.fn.body=x45.body:=rfl
@[simp] theorem C97:f45.keep=false:=rfl
@[simp] theorem D1o:f45.fn.results=[.tmp 2]:=rfl
@[simp] def a46:Ann:=fun d=>iM 1 (iM 2 zA [8,9,11,13,14,17,18,20]) [7] d
def f46:TFun:=⟨x46,a46,false,false⟩
@[simp] theorem D2L:f46.an=a46:=rfl
@[simp] theorem C98:f46.fn.body=x46.body:=rfl
@[simp] theorem C99:f46.keep=false:=rfl
@[simp] theorem D1p:f46.fn.results=[.tmp 6]:=rfl
@[simp] def C29:Ann:=fun d=>if d=4 then 2 else 0
def f1080:TFun:=⟨x1080,C29,false,false⟩
@[simp] theorem C9a:f1080.an=C29:=rfl
@[simp] theorem C45:f1080.fn.body=x1080.body:=rfl
@[simp] theorem C46:f1080.keep=false:=rfl
@[simp] theorem C5L:f1080.fn.results=[.cellN 2 3]:=rfl
@[simp] def a67:Ann:=fun d=>iM 1 (iM 3 zA [5]) [2] d
def f67:TFun:=⟨x67,a67,true,true⟩
@[simp] theorem D2M:f67.an=a67:=rfl
@[simp] theorem C9b:f67.fn.body=x67.body:=rfl
@[simp] theorem C9c:f67.keep=true:=rfl
@[simp] theorem D1q:f67.fn.results=[.tmp 2]:=rfl
@[simp] def C2a:Ann:=fun d=>iM 1 (iM 2 zA [6,9]) [2,3] d
def f1082:TFun:=⟨x1082,C2a,false,false⟩
@[simp] theorem C9d:f1082.an=C2a:=rfl
@[simp] theorem C47:f1082.fn.body=x1082.body:=rfl
@[simp] theorem C48:f1082.keep=false:=rfl
@[simp] theorem C5M:f1082.fn.results=[.tmp 2,.tmp 3]:=rfl
@[simp] def C2b:Ann:=fun d=>if d=3 then 1 else 0
def f1083:TFun:=⟨x1083,C2b,false,false⟩
@[simp] theorem C9e:f1083.an=C2b:=rfl
@[simp] theorem C49:f1083.fn.body=x1083.body:=rfl
@[simp] theorem C4a:f1083.keep=false:=rfl
@[simp] theorem C5N:f1083.fn.results=[.tmp 3]:=rfl
@[simp] def C2c:Ann:=fun d=>iM 1 (iM 2 zA [6,8,12,14,19,21,33,35,40,42]) [4,10,17,24,31,38] d
def f1084:TFun:=⟨x1084,C2c,false,false⟩
@[simp] theorem C9f:f1084.an=C2c:=rfl
@[simp] theorem C4b:f1084.fn.body=x1084.body:=rfl
@[simp] theorem C4c:f1084.keep=false:=rfl
@[simp] theorem C5O:f1084.fn.results=[.tmp 4]:=rfl
@[simp] def a109:Ann:=fun d=>if d=4 then 1 else 0
def f109:TFun:=⟨x109,a109,false,false⟩
@[simp] theorem D1r:f109.an=a109:=rfl
@[simp] theorem C5P:f109.fn.body=x109.body:=rfl
@[simp] theorem C5Q:f109.keep=false:=rfl
@[simp] theorem C9g:f109.fn.results=[.tmp 4]:=rfl
@[simp] def C9h:Ann:=fun d=>iM 1 (iM 2 zA [11,15,20,24]) [5] d
def f110:TFun:=⟨x110,C9h,false,false⟩
@[simp] theorem D1s:f110.an=C9h:=rfl
@[simp] theorem C5R:f110.fn.body=x110.body:=rfl
@[simp] theorem C5S:f110.keep=false:=rfl
@[simp] theorem C9i:f110.fn.results=[.tmp 4]:=rfl
@[simp] def a47:Ann:=fun d=>iM 1 (iM 2 zA [8,10,16,17,20,27,28]) [1,6,7,15,30] d
def f47:TFun:=⟨x47,a47,false,false⟩
@[simp] theorem D2N:f47.an=a47:=rfl
@[simp] theorem C9j:f47.fn.body=x47.body:=rfl
@[simp] theorem C9k:f47.keep=false:=rfl
@[simp] theorem D1t:f47.fn.results=[.tmp 6]:=rfl
@[simp] def B5F:Ann:=fun d=>iM 1 (iM 2 zA [7,14,21]) [16] d
def f1088:TFun:=⟨x1088,B5F,false,false⟩
@[simp] theorem C9l:f1088.an=B5F:=rfl
@[simp] theorem C4d:f1088.fn.body=x1088.body:=rfl
@[simp] theorem C4e:f1088.keep=false:=rfl
@[simp] theorem C5T:f1088.fn.results=[]:=rfl
@[simp] def C2d:Ann:=fun d=>iM 1 (iM 2 zA [6,14,16]) [2,3,8,12,22] d
def f1089:TFun:=⟨x1089,C2d,false,false⟩
@[simp] theorem C9m:f1089.an=C2d:=rfl
@[simp] theorem C4f:f1089.fn.body=x1089.body:=rfl
@[simp] theorem C4g:f1089.keep=false:=rfl
@[simp] theorem C5U:f1089.fn.results=[.tmp 2]:=rfl
@[simp] def C2e:Ann:=fun d=>0
def f1090:TFun:=⟨x1090,C2e,false,false⟩
@[simp] theorem C9n:f1090.an=C2e:=rfl
@[simp] theorem C4h:f1090.fn.body=x1090.body:=rfl
@[simp] theorem C4i:f1090.keep=false:=rfl
@[simp] theorem C5V:f1090.fn.results=[.cellN 2 10]:=rfl
@[simp] def a30:Ann:=fun d=>if d=2 then 1 else 0
def f30:TFun:=⟨x30,a30,false,false⟩
@[simp] theorem D2O:f30.an=a30:=rfl
@[simp] theorem C9o:f30.fn.body=x30.body:=rfl
@[simp] theorem C9p:f30.keep=false:=rfl
@[simp] theorem D1u:f30.fn.results=[.tmp 2]:=rfl
@[simp] def a31:Ann:=fun d=>iM 1 (iM 2 (iM 3 zA [34]) [8,12,17,19,24,29,31,35,37,39,41,47]) [4,5,6,10,15,22] d
def f31:TFun:=⟨x31,a31,false,false⟩
@[simp] theorem D2P:f31.an=a31:=rfl
@[simp] theorem C9q:f31.fn.body=x31.body:=rfl
@[simp] theorem C9r:f31.keep=false:=rfl
@[simp] theorem D1v:f31.fn.results=[.tmp 4]:=rfl
@[simp] def B5G:Ann:=fun d=>iM 1 (iM 2 zA [11,17,21,23,26,28,31,35,40,43,49]) [7,8,9,19,42,53] d
def f1093:TFun:=⟨x1093,B5G,false,false⟩
@[simp] theorem C9s:f1093.an=B5G:=rfl
@[simp] theorem C4j:f1093.fn.body=x1093.body:=rfl
@[simp] theorem C4k:f1093.keep=false:=rfl
@[simp] theorem C5W:f1093.fn.results=[.cellN 6 8]:=rfl
@[simp] def B5H:Ann:=fun d=>iM 1 (iM 2 (iM 3 zA [7]) [6,9]) [4,5,11] d
def f1094:TFun:=⟨x1094,B5H,false,false⟩
@[simp] theorem C9t:f1094.an=B5H:=rfl
@[simp] theorem C4l:f1094.fn.body=x1094.body:=rfl
@[simp] theorem C4m:f1094.keep=false:=rfl
@[simp] theorem C5X:f1094.fn.results=[.tmp 4]:=rfl
@[simp] def B98:Ann:=fun d=>iM 1 (iM 2 zA [15,16,18,27,31,32,34,36,37,39,41,42,44,60]) [2,3,4,5,6,7,8,20,52,53,68] d
def f1095:TFun:=⟨x1095,B98,false,false⟩
@[simp] theorem C9u:f1095.an=B98:=rfl
@[simp] theorem C4n:f1095.fn.body=x1095.body:=rfl
@[simp] theorem C4o:f1095.keep=false:=rfl
@[simp] theorem C5Y:f1095.fn.results=[.tmp 2]:=rfl
@[simp] def a56:Ann:=fun d=>iM 1 (iM 2 (iM 3 zA [3]) [5,8,35]) [4,9,16,22,28] d
def f56:TFun:=⟨x56,a56,false,false⟩
@[simp] theorem D2Q:f56.an=a56:=rfl
@[simp] theorem C9v:f56.fn.body=x56.body:=rfl
@[simp] theorem C9w:f56.keep=false:=rfl
@[simp] theorem D1w:f56.fn.results=[.tmp 4]:=rfl
@[simp] def a57:Ann:=fun d=>iM 1 (iM 2 zA [16,19,29,38,42,43,46,54,62,65,82,89,93,100,107,121,126,127,131,136,139,141,144,145,148,149,153,155,160,161,166,167,172,187,189,190]) [8,9,10,11,12,13,15,18,27,30,35,40,49,56,59,61,64,68,71,72,78,85,96,103,110,119,124,134,143,156,158,174,176,179,180,186] d
def f57:TFun:=⟨x57,a57,false,false⟩
@[simp] theorem D2R:f57.an=a57:=rfl
@[simp] theorem C9x:f57.fn.body=x57.body:=rfl
@[simp] theorem C9y:f57.keep=false:=rfl
@[simp] theorem D1x:f57.fn.results=[.tmp 8]:=rfl
@[simp] def a25:Ann:=fun d=>iM 1 (iM 2 zA [8,10,16,17,20,27,28]) [1,6,7,15,30] d
def f25:TFun:=⟨x25,a25,false,false⟩
@[simp] theorem D2S:f25.an=a25:=rfl
@[simp] theorem C9z:f25.fn.body=x25.body:=rfl
@[simp] theorem C9A:f25.keep=false:=rfl
@[simp] theorem D1y:f25.fn.results=[.tmp 6]:=rfl
@[simp] def C2f:Ann:=fun d=>iM 1 (iM 2 zA [6]) [2,3,8,12,18] d
def f1111:TFun:=⟨x1111,C2f,false,false⟩
@[simp] theorem C9B:f1111.an=C2f:=rfl
@[simp] theorem C4p:f1111.fn.body=x1111.body:=rfl
@[simp] theorem C4q:f1111.keep=false:=rfl
@[simp] theorem C60:f1111.fn.results=[.tmp 2]:=rfl
@[simp] def C9C:Ann:=fun d=>if d=4 then 1 else 0
def f106:TFun:=⟨x106,C9C,false,false⟩
@[simp] theorem D1z:f106.an=C9C:=rfl
@[simp] theorem C61:f106.fn.body=x106.body:=rfl
@[simp] theorem C62:f106.keep=false:=rfl
@[simp] theorem C9D:f106.fn.results=[.tmp 4]:=rfl
@[simp] def a107:Ann:=fun d=>iM 1 (iM 2 zA [19,23]) [5,13,15] d
def f107:TFun:=⟨x107,a107,false,false⟩
@[simp] theorem D1A:f107.an=a107:=rfl
@[simp] theorem C63:f107.fn.body=x107.body:=rfl
@[simp] theorem C64:f107.keep=false:=rfl
@[simp] theorem C9E:f107.fn.results=[.tmp 4]:=rfl
@[simp] def C9F:Ann:=fun d=>iM 1 (iM 2 zA [15,26]) [7,17,19,23] d
def f108:TFun:=⟨x108,C9F,false,false⟩
@[simp] theorem D1B:f108.an=C9F:=rfl
@[simp] theorem C65:f108.fn.body=x108.body:=rfl
@[simp] theorem C66:f108.keep=false:=rfl
@[simp] theorem C9G:f108.fn.results=[.tmp 6]:=rfl
@[simp] def a159:Ann:=fun d=>iM 1 (iM 2 zA [8,10,12,15,17,19,22,29,35,48]) [4,5,6,21,28,57] d
def f159:TFun:=⟨x159,a159,false,false⟩
@[simp] theorem D1C:f159.an=a159:=rfl
@[simp] theorem C67:f159.fn.body=x159.body:=rfl
@[simp] theorem C68:f159.keep=false:=rfl
@[simp] theorem C9H:f159.fn.results=[.tmp 4]:=rfl
@[simp] def a58:Ann:=fun d=>iM 1 (iM 2 zA [12,16,20,25,28,32,38,41,48,51,52,54,61]) [5,6,7,14,19,23,27,31,36,40,45,47] d
def f58:TFun:=⟨x58,a58,false,false⟩
@[simp] theorem D2T:f58.an=a58:=rfl
@[simp] theorem C9I:f58.fn.body=x58.body:=rfl
@[simp] theorem C9J:f58.keep=false:=rfl
@[simp] theorem D1D:f58.fn.results=[.tmp 4]:=rfl
@[simp] def a59:Ann:=fun d=>iM 1 (iM 2 zA [11,14,19,24,26,36,38,39,42,44,50,56,62,64,65,68,70]) [7,8,9,10,13,35,61] d
def f59:TFun:=⟨x59,a59,false,false⟩
@[simp] theorem D2U:f59.an=a59:=rfl
@[simp] theorem C9K:f59.fn.body=x59.body:=rfl
@[simp] theorem C9L:f59.keep=false:=rfl
@[simp] theorem D1E:f59.fn.results=[.tmp 6]:=rfl
@[simp] def B5I:Ann:=fun d=>iM 1 (iM 2 zA [6,10,15,24,29,36]) [4,8,13] d
def f1118:TFun:=⟨x1118,B5I,false,false⟩
@[simp] theorem C9M:f1118.an=B5I:=rfl
@[simp] theorem C4r:f1118.fn.body=x1118.body:=rfl
@[simp] theorem C4s:f1118.keep=false:=rfl
@[simp] theorem C69:f1118.fn.results=[]:=rfl
@[simp] def a95:Ann:=fun d=>iM 1 (iM 2 zA [5,6]) [4] d
def f95:TFun:=⟨x95,a95,false,false⟩
@[simp] theorem D2V:f95.an=a95:=rfl
@[simp] theorem C9N:f95.fn.body=x95.body:=rfl
@[simp] theorem C9O:f95.keep=false:=rfl
@[simp] theorem D1F:f95.fn.results=[.tmp 4]:=rfl
@[simp] def a96:Ann:=fun d=>iM 1 (iM 2 zA [5]) [3] d
def f96:TFun:=⟨x96,a96,false,false⟩
@[simp] theorem D2W:f96.an=a96:=rfl
@[simp] theorem C9P:f96.fn.body=x96.body:=rfl
@[simp] theorem C9Q:f96.keep=false:=rfl
@[simp] theorem D1G:f96.fn.results=[.tmp 3]:=rfl
@[simp] def a97:Ann:=fun d=>iM 1 (iM 2 zA [6,13,17,18,26,53,57,62]) [4,7,10,15,35,36,43,49,51,55,60,64,67,70,72] d
def f97:TFun:=⟨x97,a97,false,false⟩
@[simp] theorem D2X:f97.an=a97:=rfl
@[simp] theorem C9R:f97.fn.body=x97.body:=rfl
@[simp] theorem C9S:f97.keep=false:=rfl
@[simp] theorem D1H:f97.fn.results=[.tmp 4]:=rfl
@[simp] def a98:Ann:=fun d=>iM 1 zA [2,4,5,10,11,16] d
def f98:TFun:=⟨x98,a98,false,false⟩
@[simp] theorem D2Y:f98.an=a98:=rfl
@[simp] theorem C9T:f98.fn.body=x98.body:=rfl
@[simp] theorem C9U:f98.keep=false:=rfl
@[simp] theorem D1I:f98.fn.results=[.tmp 2]:=rfl
@[simp] def a99:Ann:=fun d=>iM 1 (iM 2 zA [5,6]) [4] d
def f99:TFun:=⟨x99,a99,false,false⟩
@[simp] theorem D2Z:f99.an=a99:=rfl
@[simp] theorem C9V:f99.fn.body=x99.body:=rfl
@[simp] theorem C9W:f99.keep=false:=rfl
@[simp] theorem D1J:f99.fn.results=[.tmp 4]:=rfl
@[simp] def C9X:Ann:=fun d=>iM 1 (iM 2 zA [3,6]) [2,5] d
def f100:TFun:=⟨x100,C9X,false,false⟩
@[simp] theorem D1K:f100.an=C9X:=rfl
@[simp] theorem C6a:f100.fn.body=x100.body:=rfl
@[simp] theorem C6b:f100.keep=false:=rfl
@[simp] theorem C9Y:f100.fn.results=[.tmp 2]:=rfl
@[simp] def C9Z:Ann:=fun d=>if d=2 then 1 else 0
def f101:TFun:=⟨x101,C9Z,false,false⟩
@[simp] theorem D1L:f101.an=C9Z:=rfl
@[simp] theorem C6c:f101.fn.body=x101.body:=rfl
@[simp] theorem C6d:f101.keep=false:=rfl
@[simp] theorem D00:f101.fn.results=[.tmp 2]:=rfl
@[simp] def D01:Ann:=fun d=>iM 1 (iM 2 zA [7,9,11,14,16,18,21,23]) [4,5,25] d
def f158:TFun:=⟨x158,D01,false,false⟩
@[simp] theorem D1M:f158.an=D01:=rfl
@[simp] theorem C6e:f158.fn.body=x158.body:=rfl
@[simp] theorem C6f:f158.keep=false:=rfl
@[simp] theorem D02:f158.fn.results=[.tmp 4]:=rfl
@[simp] def a182:Ann:=fun d=>iM 1 (iM 2 zA [6,7,10,11]) [5,9] d
def f182:TFun:=⟨x182,a182,false,false⟩
@[simp] theorem D1N:f182.an=a182:=rfl
@[simp] theorem C6g:f182.fn.body=x182.body:=rfl
@[simp] theorem C6h:f182.keep=false:=rfl
@[simp] theorem D03:f182.fn.results=[.tmp 4]:=rfl
@[simp] def D04:Ann:=fun d=>iM 1 (iM 2 zA [10,13,22,26,31,32,35,39,46,51,55,56,65,66,75,80,83,88,93,97,101,104,108,114,117,123,127,132,136,138,140,145,149,152,154,159,163,167,172,179,184,189,190,194]) [4,5,11,15,20,24,29,38,48,53,64,78,82,86,90,95,100,106,113,116,121,125,130,135,143,147,151,157,161,165,170,177,182,187] d
def f102:TFun:=⟨x102,D04,false,false⟩
@[simp] theorem D1O:f102.an=D04:=rfl
@[simp] theorem C6i:f102.fn.body=x102.body:=rfl
@[simp] theorem C6j:f102.keep=false:=rfl
@[simp] theorem D05:f102.fn.results=[.tmp 4]:=rfl
@[simp] def D06:Ann:=fun d=>iM 1 (iM 2 zA [11]) [4,5,8,10,17] d
def f149:TFun:=⟨x149,D06,false,false⟩
@[simp] theorem D1P:f149.an=D06:=rfl
@[simp] theorem C6k:f149.fn.body=x149.body:=rfl
@[simp] theorem C6l:f149.keep=false:=rfl
@[simp] theorem D07:f149.fn.results=[.tmp 4]:=rfl
@[simp] def D08:Ann:=fun d=>iM 1 (iM 2 zA [17,20,25,29,38,42,58,66,84,88,98,106,118]) [5,10,15,19,23,27,36,40,45,51,60,64,71,75,82,86,91,100,104,112] d
def f150:TFun:=⟨x150,D08,false,false⟩
@[simp] theorem D1Q:f150.an=D08:=rfl
@[simp] theorem C6m:f150.fn.body=x150.body:=rfl
@[simp] theorem C6n:f150.keep=false:=rfl
@[simp] theorem D09:f150.fn.results=[.cellN 4 2,.tmp 5]:=rfl
@[simp] def D0a:Ann:=fun d=>iM 1 (iM 2 zA [7,11,14]) [16,21] d
def f151:TFun:=⟨x151,D0a,false,false⟩
@[simp] theorem D1R:f151.an=D0a:=rfl
@[simp] theorem C6o:f151.fn.body=x151.body:=rfl
@[simp] theorem C6p:f151.keep=false:=rfl
@[simp] theorem D0b:f151.fn.results=[.cellN 2 2]:=rfl
@[simp] def a61:Ann:=fun d=>iM 1 (iM 2 zA [7,13,18]) [2,3,9,21] d
def f61:TFun:=⟨x61,a61,false,false⟩
@[simp] theorem D30:f61.an=a61:=rfl
@[simp] theorem D0c:f61.fn.body=x61.body:=rfl
@[simp] theorem D0d:f61.keep=false:=rfl
@[simp] theorem D1S:f61.fn.results=[.tmp 2]:=rfl
@[simp] def a152:Ann:=fun d=>iM 1 (iM 2 zA [11,15]) [4,5,8,10,17] d
def f152:TFun:=⟨x152,a152,false,false⟩
@[simp] theorem D1T:f152.an=a152:=rfl
@[simp] theorem C6q:f152.fn.body=x152.body:=rfl
@[simp] theorem C6r:f152.keep=false:=rfl
@[simp] theorem D0e:f152.fn.results=[.tmp 4]:=rfl
@[simp] def D0f:Ann:=fun d=>iM 1 (iM 2 zA [3,4]) [2] d
def f165:TFun:=⟨x165,D0f,false,false⟩
@[simp] theorem D1U:f165.an=D0f:=rfl
@[simp] theorem C6s:f165.fn.body=x165.body:=rfl
@[simp] theorem C6t:f165.keep=false:=rfl
@[simp] theorem D0g:f165.fn.results=[.tmp 2]:=rfl
@[simp] def D0h:Ann:=fun d=>iM 1 (iM 2 zA [7,9,14,15,17,18]) [5,6,11] d
def f180:TFun:=⟨x180,D0h,false,false⟩
@[simp] theorem D1V:f180.an=D0h:=rfl
@[simp] theorem C6u:f180.fn.body=x180.body:=rfl
@[simp] theorem C6v:f180.keep=false:=rfl
@[simp] theorem D0i:f180.fn.results=[.tmp 4]:=rfl
@[simp] def D0j:Ann:=fun d=>iM 1 (iM 2 zA [11,18,26,30]) [6,7,10,13,15,32] d
def f181:TFun:=⟨x181,D0j,false,false⟩
@[simp] theorem D1W:f181.an=D0j:=rfl
@[simp] theorem C6w:f181.fn.body=x181.body:=rfl
@[simp] theorem C6x:f181.keep=false:=rfl
@[simp] theorem D0k:f181.fn.results=[.tmp 6]:=rfl
@[simp] def D0l:Ann:=fun d=>iM 1 zA [2,4,8,13] d
def f153:TFun:=⟨x153,D0l,false,false⟩
@[simp] theorem D1X:f153.an=D0l:=rfl
@[simp] theorem C6y:f153.fn.body=x153.body:=rfl
@[simp] theorem C6z:f153.keep=false:=rfl
@[simp] theorem D0m:f153.fn.results=[.tmp 2]:=rfl
@[simp] def a154:Ann:=fun d=>iM 1 (iM 2 zA [8,11,12,15,16,21,22,23,26,28]) [7,10,20] d
def f154:TFun:=⟨x154,a154,false,false⟩
@[simp] theorem D1Y:f154.an=a154:=rfl
@[simp] theorem C6A:f154.fn.body=x154.body:=rfl
@[simp] theorem C6B:f154.keep=false:=rfl
@[simp] theorem D0n:f154.fn.results=[.tmp 6]:=rfl
@[simp] def D0o:Ann:=fun d=>iM 1 (iM 2 zA [9,15,18,24,30]) [2,6,12,21,27] d
def f155:TFun:=⟨x155,D0o,false,false⟩
@[simp] theorem D1Z:f155.an=D0o:=rfl
@[simp] theorem C6C:f155.fn.body=x155.body:=rfl
@[simp] theorem C6D:f155.keep=false:=rfl
@[simp] theorem D0p:f155.fn.results=[.tmp 2]:=rfl
@[simp] def a156:Ann:=fun d=>iM 1 (iM 2 zA [4,8,13,19]) [2,3,15,25] d
def f156:TFun:=⟨x156,a156,false,false⟩
@[simp] theorem D20:f156.an=a156:=rfl
@[simp] theorem C6E:f156.fn.body=x156.body:=rfl
@[simp] theorem C6F:f156.keep=false:=rfl
@[simp] theorem D0q:f156.fn.results=[.tmp 2]:=rfl
@[simp] def a60:Ann:=fun d=>iM 1 (iM 2 (iM 3 zA [2]) [6,8,11,15,19,31,35,47,51,53,57,67]) [4,12,17,22,28,33,38,44,49,59,65] d
def f60:TFun:=⟨x60,a60,false,false⟩
@[simp] theorem D31:f60.an=a60:=rfl
@[simp] theorem D0r:f60.fn.body=x60.body:=rfl
@[simp] theorem D0s:f60.keep=false:=rfl
@[simp] theorem D21:f60.fn.results=[.tmp 4]:=rfl
@[simp] def D0t:Ann:=fun d=>iM 1 (iM 2 zA [12,17,22,24,37]) [7,9,10,15,20,26,42,44,45,59,63] d
def f178:TFun:=⟨x178,D0t,false,false⟩
@[simp] theorem D22:f178.an=D0t:=rfl
@[simp] theorem C6G:f178.fn.body=x178.body:=rfl
@[simp] theorem C6H:f178.keep=false:=rfl
@[simp] theorem D0u:f178.fn.results=[.cellN 4 2,.tmp 5]:=rfl
@[simp] def a63:Ann:=fun d=>if d=2 then 1 else 0
def f63:TFun:=⟨x63,a63,false,false⟩
@[simp] theorem D32:f63.an=a63:=rfl
@[simp] theorem D0v:f63.fn.body=x63.body:=rfl
@[simp] theorem D0w:f63.keep=false:=rfl
@[simp] theorem D23:f63.fn.results=[.tmp 2]:=rfl
@[simp] def D0x:Ann:=fun d=>iM 1 (iM 2 zA [15,19,24,33,35,40,48,64,81,90,95,100,108,120,124]) [5,8,10,12,14,20,30,42,53,57,66,72,78,83,89,102,114] d
def f179:TFun:=⟨x179,D0x,false,false⟩
@[simp] theorem D24:f179.an=D0x:=rfl
@[simp] theorem C6I:f179.fn.body=x179.body:=rfl
@[simp] theorem C6J:f179.keep=false:=rfl
@[simp] theorem D0y:f179.fn.results=[.cellN 4 2,.tmp 5]:=rfl
@[simp] def D0z:Ann:=fun d=>iM 1 (iM 2 zA [5,6]) [4] d
def f103:TFun:=⟨x103,D0z,false,false⟩
@[simp] theorem D25:f103.an=D0z:=rfl
@[simp] theorem C6K:f103.fn.body=x103.body:=rfl
@[simp] theorem C6L:f103.keep=false:=rfl
@[simp] theorem D0A:f103.fn.results=[.tmp 4]:=rfl
@[simp] def D0B:Ann:=fun d=>if d=3 then 1 else 0
def f104:TFun:=⟨x104,D0B,false,false⟩
@[simp] theorem D26:f104.an=D0B:=rfl
@[simp] theorem C6M:f104.fn.body=x104.body:=rfl
@[simp] theorem C6N:f104.keep=false:=rfl
@[simp] theorem D0C:f104.fn.results=[.tmp 3]:=rfl
@[simp] def a105:Ann:=fun d=>iM 1 (iM 2 zA [6,8,14,17,24]) [1,4,5,13,26] d
def f105:TFun:=⟨x105,a105,false,false⟩
@[simp] theorem D27:f105.an=a105:=rfl
@[simp] theorem C6O:f105.fn.body=x105.body:=rfl
@[simp] theorem C6P:f105.keep=false:=rfl
@[simp] theorem D0D:f105.fn.results=[.tmp 4]:=rfl
@[simp] def a62:Ann:=fun d=>iM 1 (iM 2 zA [12,14,17,19,22,27,31,35,41,45,50,56,59,65,66,68,75]) [4,5,6,21,25,29,33,39,43,48,53,58] d
def f62:TFun:=⟨x62,a62,false,false⟩
@[simp] theorem D33:f62.an=a62:=rfl
@[simp] theorem D0E:f62.fn.body=x62.body:=rfl
@[simp] theorem D0F:f62.keep=false:=rfl
@[simp] theorem D28:f62.fn.results=[.tmp 4]:=rfl
@[simp] def D0G:Ann:=fun d=>iM 1 (iM 2 zA [11,15,19,21,34,36,41]) [7,9,23,43,57,61] d
def f190:TFun:=⟨x190,D0G,false,false⟩
@[simp] theorem D29:f190.an=D0G:=rfl
@[simp] theorem C6Q:f190.fn.body=x190.body:=rfl
@[simp] theorem C6R:f190.keep=false:=rfl
@[simp] theorem D0H:f190.fn.results=[.cellN 4 2,.tmp 5]:=rfl
@[simp] def a157:Ann:=fun d=>iM 1 (iM 2 zA [11]) [4,5,8,10,17] d
def f157:TFun:=⟨x157,a157,false,false⟩
@[simp] theorem D2a:f157.an=a157:=rfl
@[simp] theorem C6S:f157.fn.body=x157.body:=rfl
@[simp] theorem C6T:f157.keep=false:=rfl
@[simp] theorem D0I:f157.fn.results=[.tmp 4]:=rfl
end
section
open Go Go.Xe Go.Xt Go.Proofs
def x32:XFun:=⟨32,[.tmp 6],
 .seq (.region [
  ⟨(some 6),.move (.const (Go.Value.bool false)),none⟩]) (.seq (.seq (.region [
  ⟨(some 10),.move (.tmp 0),none⟩,
  ⟨(some 11),.lenSlice (.tmp 10),none⟩,
  ⟨(some 12),.move (.tmp 1),none⟩,
  ⟨(some 13),.lenSlice (.tmp 12),none⟩,
  ⟨(some 14),.bin .neq (.tmp 11) (.tmp 13),none⟩]) (.cond (.tmp 14) (.seq (.region [
  ⟨(some 6),.move (.const (Go.Value.bool false)),none⟩]) (.ret)) (.skip))) (.seq (.seq (.region [
  ⟨(some 15),.move (.tmp 0),none⟩,
  ⟨(some 16),.lenSlice (.tmp 15),none⟩,
  ⟨(some 17),.move (.const (Go.Value.int Go.IntKind.i64 0)),none⟩]) (.block 0 (.loop (.seq (.region [
  ⟨(some 18),.bin .lss (.tmp 17) (.tmp 16),none⟩]) (.seq (.cond (.tmp 18) (.skip) (.exit 0)) (.seq (.block 1 (.seq (.region [
  ⟨(some 19),.move (.tmp 17),none⟩,
  ⟨(some 20),.indexAddr 2 (.tmp 15) (.tmp 17),none⟩,
  ⟨(some 21),.loadN 2 (.tmp 20),none⟩,
  ⟨(some 8),.alloc 66 [(Go.Value.int Go.IntKind.i64 0),(Go.Value.slice none 0 0)],none⟩,
  ⟨(some 7),.move (.tmp 19),none⟩,
  ⟨none,.store 2 (.tmp 8) (.tmp 21),none⟩]) (.seq (.region [
  ⟨(some 22),.move (.tmp 1),none⟩,
  ⟨(some 23),.move (.tmp 7),none⟩,
  ⟨(some 24),.indexAddr 3 (.tmp 22) (.tmp 23),none⟩,
  ⟨(some 25),.loadN 3 (.tmp 24),none⟩,
  ⟨(some 9),.alloc 24 [(Go.Value.int Go.IntKind.i64 0),(Go.Value.int Go.IntKind.i64 0),(Go.Value.slice none 0 0)],none⟩,
  ⟨none,.store 3 (.tmp 9) (.tmp 25),none⟩]) (.seq (.region [
  ⟨(some 26),.move (.tmp 2),none⟩,
  ⟨(some 27),.loadN 2 (.tmp 8),none⟩,
  ⟨(some 28),.loadN 3 (.tmp 9),none⟩,
  ⟨(some 29),.callV (.tmp 26) [(.tmp 27),(.tmp 28)],none⟩,
  ⟨(some 30),.un .not (.tmp 29),none⟩]) (.cond (.tmp 30) (.seq (.region [
  ⟨(some 6),.move (.const (Go.Value.bool false)),none⟩]) (.ret)) (.skip)))))) (.region [
  ⟨(some 31),.bin .add (.tmp 17) (.const (Go.Value.int Go.IntKind.i64 1)),none⟩,
  ⟨(some 17),.move (.tmp 31),none⟩]))))))) (.seq (.region [
  ⟨(some 6),.move (.const (Go.Value.bool true)),none⟩]) (.ret))))⟩
theorem d32:A8 Tryz.prog J9 Tryz.f225=some x32:=by kernel_rfl
@[simp] def a32:Ann:=fun d=>if d=7 then 1 else if d=15 then 2 else if d=17 then 1 else if d=19 then 1 else if d=23 then 1 else if d=26 then 2 else 0
def f32:TFun:=⟨x32,a32,false,false⟩
@[simp] theorem D34:f32.an=a32:=rfl
@[simp] theorem D0J:f32.fn.body=x32.body:=rfl
@[simp] theorem D0K:f32.keep=false:=rfl
@[simp] theorem D2b:f32.fn.results=[.tmp 6]:=rfl
end
end Go.Xe.YtlgknghehgmodaaGreatDoor
namespace Go.Xt
section
open Go Go.Xe
attribute [simp] Function.comp_def small Xe.ones A2Q P8 Z5 TAct.ev TAct.at TAct.put TAct.tick taken D1 frz frz1 frzs Tri.ofList Tri.get_set Tri.get_nil TV.cells A4O B6x Ann.md ofV ofV.ofVs M6 W1 B0Z B10 B11 B5r C2L A4R A5v
 A3Z B12 B46 U7 A2h apm B6y A7z Md.app K6 A4Q A0u A1G B6w give W9 A3M putAt A1S A4P A2g A7y hiB P7 B13 A2i A1v A1H A93 O5 A6H A2j M2 X8 canon canon.canons below below.belows
 below.belowss K5 tun teq B6v A3Y Pl.old W2 Pl.offX isStr
 A2Y A01 A0v A6G A4S stays B8i B8h C0E kindOf B8V B8W B8X B8Y B4x B4y
 A6J B5z C2W D2n B6T B8Q B4v D2o B8R B4w B6U C2X B8S C0U B8T B6V C0V C0W C2Y B6W
 B8Z B90 B91 B92 B93 B94 B95 B96 B97 B6X B6Y C80 D2r C81
def Fin (fn:TFun) (k:Nat) (P:TEnd->Sto->Prop):TEx->TAct->Sto->Prop
 |.normal,a,σ=>a.df=[]/\∃e σ',M2 a fn k σ .ret=some (e,σ')/\P e σ'
 |.ret,a,σ=>a.df=[]/\∃e σ',M2 a fn k σ .ret=some (e,σ')/\P e σ'
 |.panic v,a,σ=>a.df=[]/\∃e σ',M2 a fn k σ (.panicking v)=some (e,σ')/\P e σ'
 |.exit _,_,_=>False
theorem B4z (fn:TFun) (k:Nat) (P:TEnd->Sto->Prop) (a:TAct) (σ:Sto):Fin fn k P .normal a σ↔a.df=[]/\∃e σ',M2 a fn k σ .ret=some (e,σ')/\P e σ':=Iff.rfl
theorem C0X (fn:TFun) (k:Nat) (P:TEnd->Sto->Prop) (a:TAct) (σ:Sto):Fin fn k P .ret a σ↔a.df=[]/\∃e σ',M2 a fn k σ .ret=some (e,σ')/\P e σ':=Iff.rfl
theorem B6Z (fn:TFun) (k:Nat) (P:TEnd->Sto->Prop) (v:TV) (a:TAct) (σ:Sto):Fin fn k P (.panic v) a σ↔a.df=[]/\∃e σ',M2 a fn k σ (.panicking v)=some (e,σ')/\P e σ':=Iff.rfl
attribute [simp] B4z C0X B6Z
@[simp] theorem ex2 {α β:Type} {x:α} {y:β} {P:α->β->Prop}:(∃e s,(x=e/\y=s)/\P e s)↔P x y:=
 ⟨fun ⟨_,_,⟨h1,h2⟩,h⟩=>by subst h1;subst h2;exact h,fun h=>⟨x,y,⟨rfl,rfl⟩,h⟩⟩
theorem D5 {F:FuncId->Option TFun} {O:FuncId->List TV->Option TV} {N b:Nat} {f:FuncId} {args:List TV} {σ:Sto} {fn:TFun} (hF:F f=some fn) {P:TEnd->Sto->Prop}
  (h:Tw fn.an (W2 fn.keep b σ.length) (A4 F O N) N (Fin fn σ.length P) [] (B6 fn.an (W2 fn.keep b σ.length) (A4 F O N) N fn.fn.body (A1H args) σ)) (hp:B6z fn.clone args=false:=by rfl):
  ∃e σ',A4 F O (N+1) b f args σ=some (e,σ')/\P e σ':=by
 obtain ⟨e,a,σ1,h1,h2⟩:=h;simp only [A4,hF,hp];cases e with
 |normal=>obtain ⟨h3,e,σ',h4,h5⟩:=h2;refine ⟨e,σ',?_,h5⟩;rw [h1];simp only [h3,P9];exact h4
 |ret=>obtain ⟨h3,e,σ',h4,h5⟩:=h2;refine ⟨e,σ',?_,h5⟩;rw [h1];simp only [h3,P9];exact h4
 |panic v=>obtain ⟨h3,e,σ',h4,h5⟩:=h2;refine ⟨e,σ',?_,h5⟩;rw [h1];simp only [h3,P9];exact h4
 |exit id=>exact h2.elim
theorem A3 {F:FuncId->Option TFun} {O:FuncId->List TV->Option TV} {N b:Nat} {f:FuncId} {args:List TV} {σ:Sto} {fn:TFun} (hF:F f=some fn) {v:TV}
  (h:Tw fn.an (W2 fn.keep b σ.length) (A4 F O N) N (Fin fn σ.length fun e σ'=>e=.ret v/\σ'=σ) [] (B6 fn.an (W2 fn.keep b σ.length) (A4 F O N) N fn.fn.body (A1H args) σ)) (hp:B6z fn.clone args=false:=by rfl):
  A4 F O (N+1) b f args σ=some (.ret v,σ):=by
 obtain ⟨e,σ',h1,rfl,rfl⟩:=D5 hF h hp;exact h1
theorem B4A (b:Nat):(∀t,below.belows b (K2 t)=true)/\∀l,below.belowss b (A3N l)=true:=by
 have h:∀n,(∀t,szT t<=n->below.belows b (K2 t)=true)/\∀l,A1c l<=n->below.belowss b (A3N l)=true:=by
  intro n
  induction n with
  |zero=>exact ⟨fun t h=>by rw [A1w] at h;omega,fun l h=>by cases l<;>simp_all [A1c,A3N,below.belowss]⟩
  |succ n ih=>
   constructor
   ·intro t h;cases t with
    |mk k l=>simp only [szT] at h;simp [K2,below.belows,below,ih.2 l (by omega)]
   ·intro l h;cases l with
    |nil=>rfl
    |cons t l=>simp only [A1c] at h;simp [A3N,below.belowss,ih.1 t (by omega),ih.2 l (by omega)]
 exact ⟨fun t=>(h _).1 t (Nat.le_refl _),fun l=>(h _).2 l (Nat.le_refl _)⟩
theorem V5 {α:Type} (b:Nat) (f:α->List TV) (h:∀x,below.belows b (f x)=true):∀l:List α,below.belowss b (l.map f)=true
 |[]=>rfl
 |x::l=>by simp only [List.map_cons,below.belowss,h,V5 b f h l,Bool.and_self]
theorem Y1 (b:Nat) (s:Int):below.belows b (encI s)=true:=rfl
theorem A7W (b:Nat) (s:Bool):below.belows b (K0 s)=true:=rfl
@[simp] theorem D35 {α:Type} (l:List α):(l.all fun _=>true)=true:=List.all_eq_true.2 fun _ _=>rfl
@[simp] theorem D36 {α:Type} (l:List α):(l.any fun _=>false)=false:=List.any_eq_false.2 fun _ _=>by simp
@[simp] theorem C0Y (σ:Sto) (i:Nat) (x:Option TObj):List.take (List.length σ) (List.set σ i x)=List.set σ i x:=List.take_of_length_le (by simp)
@[simp] theorem C0Z (σ τ:Sto):List.take (List.length σ) (σ++τ)=σ:=by simp
@[simp] theorem C10 {α β:Type} (f:α->β) (l:List α):List.take l.length (l.map f)=l.map f:=List.take_of_length_le (by simp)
theorem Sto.lt {σ:Sto} {k:Nat} {o:TObj} (h:σ.at k=some o):k<σ.length:=by
 unfold Sto.at at h;split at h
 ·rename_i x hx;exact (List.getElem?_eq_some_iff.1 hx).1
 ·cases h
theorem A05 {σ:Sto} {k j:Nat} {o:Option TObj} (h:k≠j):Sto.at (σ.set k o) j=σ.at j:=by simp only [Sto.at];rw [List.getElem?_set_ne h]
theorem Sto.set_same {σ:Sto} {k:Nat} {o:TObj} (h:σ.at k=some o):σ.set k (some o)=σ:=by
 have hk:=Sto.lt h;unfold Sto.at at h;split at h
 ·rename_i x hx;cases h;have:=(List.getElem?_eq_some_iff.1 hx).2;rw [<-this];simp
 ·cases h
def tk {α:Type} (l:List α) (j:Nat):List α:=l.take j
theorem C11 {α:Type} (l:List α):tk l 0=[]:=rfl
theorem C4t {α:Type} (l:List α):tk l l.length=l:=List.take_length
theorem C12 {α:Type} {l:List α} {j:Nat} (h:j<l.length):tk l (j+1)=tk l j++[l[j]]:=by unfold tk;simp
theorem C4u {α:Type} {l:List α} {j:Nat} (h:j<=l.length):(tk l j).length=j:=by unfold tk;simp;omega
inductive Bld (e s:Nat):List (List TV)->TV->Prop
 |nl:Bld e s [] (.sl .nl [])
 |own (l:List (List TV)):Bld e s l (.sl (.own e s) l)
theorem Bld.inv {e s:Nat} {l:List (List TV)} {v:TV} (h:Bld e s l v):(l=[]/\v=.sl .nl [])\/v=.sl (.own e s) l:=by
 cases h
 ·exact .inl ⟨rfl,rfl⟩
 ·exact .inr rfl
inductive PVal where
 |mk (kind n:Int) (list:List PVal)
namespace PVal
def kind:PVal->Int|.mk k _ _=>k
def n:PVal->Int|.mk _ n _=>n
def list:PVal->List PVal|.mk _ _ l=>l
end PVal
inductive PTerm where
 |mk (kind n m:Int) (val:PVal) (odds:List Int) (kids:List PTerm)
namespace PTerm
def kind:PTerm->Int|.mk k _ _ _ _ _=>k
def n:PTerm->Int|.mk _ n _ _ _ _=>n
def m:PTerm->Int|.mk _ _ m _ _ _=>m
def val:PTerm->PVal|.mk _ _ _ v _ _=>v
def odds:PTerm->List Int|.mk _ _ _ _ o _=>o
def kids:PTerm->List PTerm|.mk _ _ _ _ _ l=>l
end PTerm
structure PBody where
 params:Int
 slots:Int
 term:PTerm
structure PCore where
 types:List PTyp
 funs:List PBody
 query:PBody
 sites:Int
mutual
def C9:PVal->List TV
 |.mk k n l=>[.int .i64 k,.int .i64 n,.sl .fz (B5J l)]
def B5J:List PVal->List (List TV)
 |[]=>[]
 |t::l=>C9 t::B5J l
end
theorem B2T:∀l,B5J l=l.map C9
 |[]=>rfl
 |t::l=>by simp only [B5J,List.map_cons,B2T l]
theorem A2 (t:PVal):C9 t=[.int .i64 t.kind,.int .i64 t.n,.sl .fz (t.list.map C9)]:=by cases t;simp only [C9,B2T,PVal.kind,PVal.n,PVal.list]
mutual
def A5:PTerm->List TV
 |.mk k n m v o l=>.int .i64 k::.int .i64 n::.int .i64 m::(C9 v++[.sl .fz (o.map encI),.sl .fz (B1h l)])
def B1h:List PTerm->List (List TV)
 |[]=>[]
 |t::l=>A5 t::B1h l
end
theorem A9Z:∀l,B1h l=l.map A5
 |[]=>rfl
 |t::l=>by simp only [B1h,List.map_cons,A9Z l]
theorem B2U (t:PTerm):A5 t=.int .i64 t.kind::.int .i64 t.n::.int .i64 t.m::(C9 t.val++[.sl .fz (t.odds.map encI),.sl .fz (t.kids.map A5)]):=by
 cases t;simp only [A5,A9Z,PTerm.kind,PTerm.n,PTerm.m,PTerm.val,PTerm.odds,PTerm.kids]
theorem A0 (t:PTerm):A5 t=[.int .i64 t.kind,.int .i64 t.n,.int .i64 t.m,.int .i64 t.val.kind,.int .i64 t.val.n,.sl .fz (t.val.list.map C9),.sl .fz (t.odds.map encI),.sl .fz (t.kids.map A5)]:=by
 grind [B2U,A2]
def G4 (b:PBody):List TV:=.int .i64 b.params::.int .i64 b.slots::A5 b.term
def E9 (c:PCore):List TV:=.sl .fz (c.types.map K2)::.sl .fz (c.funs.map G4)::(G4 c.query++[.int .i64 c.sites])
theorem B9 (b:PBody):G4 b=[.int .i64 b.params,.int .i64 b.slots,.int .i64 b.term.kind,.int .i64 b.term.n,.int .i64 b.term.m,.int .i64 b.term.val.kind,.int .i64 b.term.val.n,.sl .fz (b.term.val.list.map C9),.sl .fz (b.term.odds.map encI),.sl .fz (b.term.kids.map A5)]:=by
 grind [G4,A0]
theorem A7 (c:PCore):E9 c=[.sl .fz (c.types.map K2),.sl .fz (c.funs.map G4),.int .i64 c.query.params,.int .i64 c.query.slots,.int .i64 c.query.term.kind,.int .i64 c.query.term.n,.int .i64 c.query.term.m,.int .i64 c.query.term.val.kind,.int .i64 c.query.term.val.n,
  .sl .fz (c.query.term.val.list.map C9),.sl .fz (c.query.term.odds.map encI),.sl .fz (c.query.term.kids.map A5),.int .i64 c.sites]:=by
 simp_all [E9,B9]
mutual
def szV:PVal->Nat
 |.mk _ _ l=>A10 l+4
def A10:List PVal->Nat
 |[]=>0
 |t::l=>szV t+1+A10 l
end
mutual
def E3:PTerm->Nat
 |.mk _ _ _ v o l=>A0R l+szV v+o.length+8
def A0R:List PTerm->Nat
 |[]=>0
 |t::l=>E3 t+1+A0R l
end
theorem R8:∀l,l.length<=A10 l
 |[]=>Nat.le_refl _
 |t::l=>by simp only [A10,List.length_cons];have:=R8 l;omega
theorem G9:∀(l:List PVal) (t:PVal),t∈l->szV t+1<=A10 l
 |[],t,h=>by cases h
 |x::l,t,h=>by
  simp only [A10];rcases List.mem_cons.1 h with rfl|h
  ·omega
  ·have:=G9 l t h;omega
theorem H8:∀l,l.length<=A0R l
 |[]=>Nat.le_refl _
 |t::l=>by simp only [A0R,List.length_cons];have:=H8 l;omega
theorem D9:∀(l:List PTerm) (t:PTerm),t∈l->E3 t+1<=A0R l
 |[],t,h=>by cases h
 |x::l,t,h=>by
  simp only [A0R];rcases List.mem_cons.1 h with rfl|h
  ·omega
  ·have:=D9 l t h;omega
theorem D6 (t:PVal):szV t=A10 t.list+4:=by cases t;simp only [szV,PVal.list]
theorem B5 (t:PTerm):E3 t=A0R t.kids+szV t.val+t.odds.length+8:=by cases t;simp only [E3,PTerm.kids,PTerm.val,PTerm.odds]
inductive OkV:PVal->Prop
 |mk {k n:Int} {l:List PVal}:I64 k->I64 n->l.length<=maxLen->(∀t∈l,OkV t)->OkV (.mk k n l)
theorem OkV.kind {t:PVal} (h:OkV t):I64 t.kind:=by cases h;assumption
theorem OkV.n {t:PVal} (h:OkV t):I64 t.n:=by cases h;assumption
theorem OkV.len {t:PVal} (h:OkV t):t.list.length<=maxLen:=by cases h;assumption
theorem OkV.sub {t:PVal} (h:OkV t):∀x∈t.list,OkV x:=by cases h;assumption
inductive OkTm:PTerm->Prop
 |mk {k n m:Int} {v:PVal} {o:List Int} {l:List PTerm}:I64 k->I64 n->I64 m->OkV v->o.length<=maxLen->(∀x∈o,I64 x)->l.length<=maxLen->(∀t∈l,OkTm t)->OkTm (.mk k n m v o l)
theorem OkTm.kind {t:PTerm} (h:OkTm t):I64 t.kind:=by cases h;assumption
theorem OkTm.n {t:PTerm} (h:OkTm t):I64 t.n:=by cases h;assumption
theorem OkTm.m {t:PTerm} (h:OkTm t):I64 t.m:=by cases h;assumption
theorem OkTm.val {t:PTerm} (h:OkTm t):OkV t.val:=by cases h;assumption
theorem OkTm.olen {t:PTerm} (h:OkTm t):t.odds.length<=maxLen:=by cases h;assumption
theorem OkTm.odds {t:PTerm} (h:OkTm t):∀x∈t.odds,I64 x:=by cases h;assumption
theorem OkTm.len {t:PTerm} (h:OkTm t):t.kids.length<=maxLen:=by cases h;assumption
theorem OkTm.sub {t:PTerm} (h:OkTm t):∀x∈t.kids,OkTm x:=by cases h;assumption
structure OkBd (b:PBody):Prop where
 params:I64 b.params
 slots:I64 b.slots
 term:OkTm b.term
structure OkC (c:PCore):Prop where
 tlen:c.types.length<=maxLen
 types:∀t∈c.types,OkT t
 flen:c.funs.length<=maxLen
 funs:∀t∈c.funs,OkBd t
 query:OkBd c.query
 sites:I64 c.sites
structure ApiC (P:Program) extends ApiT P where
 val:TypeId
 vals:TypeId
 term:TypeId
 terms:TypeId
 body:TypeId
 bodies:TypeId
 core:TypeId
 hval:A95 P val 3 [(0,int,1),(1,int,1),(2,vals,1)]
 hvals:P.underlying vals=some (.slice val)
 hterm:A95 P term 8 [(0,int,1),(1,int,1),(2,int,1),(3,val,3),(6,ints,1),(7,terms,1)]
 hterms:P.underlying terms=some (.slice term)
 hbody:A95 P body 10 [(0,int,1),(1,int,1),(2,term,8)]
 hbodies:P.underlying bodies=some (.slice body)
 hcore:A95 P core 13 [(0,typs,1),(1,bodies,1),(2,body,10),(12,int,1)]
theorem D37 {α:Type} {l:List α} (h:l.length=3):∃a b c,l=[a,b,c]:=by
 match l,h with|[a,b,c],_=>exact ⟨a,b,c,rfl⟩
section
variable {P:Program} (A:ApiC P)
theorem B99:∀(n:Nat) (l:List TV),SizeOf.sizeOf l<n->Sh P A.val l->∃t,l=C9 t/\OkV t
 |0,l,hn,h=>by omega
 |n+1,l,hn,h=>by
  obtain ⟨h1,h2⟩:=h.st A.hval;obtain ⟨a,b,c,rfl⟩:=D37 h1;obtain ⟨k,q1,w1⟩:=(h2 (0,A.int,1) (by simp)).intOf A.hint;obtain ⟨m,q2,w2⟩:=(h2 (1,A.int,1) (by simp)).intOf A.hint;obtain ⟨chs,q3,q4,q5⟩:=(h2 (2,A.vals,1) (by simp)).sliceOf A.hvals;simp at q1 q2 q3;subst q1 q2 q3
  obtain ⟨l,rfl,hm⟩:=A46 (f:=C9) (R:=OkV) chs (fun c hc=>B99 n c (by
   have:=B1g (l:=[TV.int .i64 k,TV.int .i64 m,.sl .fz chs]) hc .fz (by simp)
   omega) (q5 c hc))
  exact ⟨.mk k m l,by rw [A2];rfl,.mk (A1J w1) (A1J w2) (by simpa using q4) hm⟩
theorem B5K:∀(n:Nat) (l:List TV),SizeOf.sizeOf l<n->Sh P A.term l->∃t,l=A5 t/\OkTm t
 |0,l,hn,h=>by omega
 |n+1,l,hn,h=>by
  obtain ⟨h1,h2⟩:=h.st A.hterm;obtain ⟨a0,a1,a2,a3,a4,a5,a6,a7,rfl⟩:=len8 h1;obtain ⟨k0,p0,w0⟩:=(h2 (0,A.int,1) (by simp)).intOf A.hint;obtain ⟨k1,p1,w1⟩:=(h2 (1,A.int,1) (by simp)).intOf A.hint;obtain ⟨k2,p2,w2⟩:=(h2 (2,A.int,1) (by simp)).intOf A.hint;obtain ⟨v,p3,w3⟩:=B99 A _ _ (Nat.lt_succ_self _) (h2 (3,A.val,3) (by simp));obtain ⟨c4,p4,w4,x4⟩:=(h2 (6,A.ints,1) (by simp)).sliceOf A.hints
  obtain ⟨c5,p5,w5,x5⟩:=(h2 (7,A.terms,1) (by simp)).sliceOf A.hterms;simp at p0 p1 p2 p3 p4 p5;subst p0 p1 p2 p4 p5
  obtain ⟨m4,rfl,y4⟩:=A46 (f:=encI) (R:=I64) c4 (fun c hc=>by
   obtain ⟨n,e1,e2⟩:=(x4 c hc).intOf A.hint
   exact ⟨n,e1,A1J e2⟩)
  obtain ⟨m5,rfl,y5⟩:=A46 (f:=A5) (R:=OkTm) c5 (fun c hc=>B5K n c (by
   have:=B1g hc (l:=[TV.int .i64 k0,.int .i64 k1,.int .i64 k2,a3,a4,a5,.sl .fz (m4.map encI),.sl .fz c5]) .fz (by simp)
   omega) (x5 c hc))
  refine ⟨.mk k0 k1 k2 v m4 m5,?_,.mk (A1J w0) (A1J w1) (A1J w2) w3 (by simpa using w4) y4 (by simpa using w5) y5⟩;rw [B2U];simp only [PTerm.kind,PTerm.n,PTerm.m,PTerm.val,PTerm.odds,PTerm.kids,<-p3,List.cons_append,List.nil_append]
theorem B5L {l:List TV} (h:Sh P A.body l):∃t,l=G4 t/\OkBd t:=by
 obtain ⟨h1,h2⟩:=h.st A.hbody;have hl:l=l.take 1++((l.drop 1).take 1++(l.drop 2).take 8):=by
  match l,h1 with|[_,_,_,_,_,_,_,_,_,_],_=>rfl
 obtain ⟨k0,p0,w0⟩:=(h2 (0,A.int,1) (by simp)).intOf A.hint;obtain ⟨k1,p1,w1⟩:=(h2 (1,A.int,1) (by simp)).intOf A.hint;obtain ⟨t,p2,w2⟩:=B5K A _ _ (Nat.lt_succ_self _) (h2 (2,A.term,8) (by simp));refine ⟨⟨k0,k1,t⟩,?_,A1J w0,A1J w1,w2⟩;grind [G4]
theorem C13 {l:List TV} (h:Sh P A.core l):∃t,l=E9 t/\OkC t:=by
 obtain ⟨h1,h2⟩:=h.st A.hcore;have hl:l=l.take 1++((l.drop 1).take 1++((l.drop 2).take 10++(l.drop 12).take 1)):=by
  match l,h1 with|[_,_,_,_,_,_,_,_,_,_,_,_,_],_=>rfl
 obtain ⟨c0,p0,w0,x0⟩:=(h2 (0,A.typs,1) (by simp)).sliceOf A.htyps;obtain ⟨c1,p1,w1,x1⟩:=(h2 (1,A.bodies,1) (by simp)).sliceOf A.hbodies;obtain ⟨e,p2,w2⟩:=B5L A (h2 (2,A.body,10) (by simp));obtain ⟨k3,p3,w3⟩:=(h2 (12,A.int,1) (by simp)).intOf A.hint;obtain ⟨m0,rfl,hm0⟩:=A46 (f:=K2) (R:=OkT) c0 (fun c hc=>B8P A.toApiT _ _ (Nat.lt_succ_self _) (x0 c hc))
 obtain ⟨m1,rfl,hm1⟩:=A46 (f:=G4) (R:=OkBd) c1 (fun c hc=>B5L A (x1 c hc));refine ⟨⟨m0,m1,e,k3⟩,?_,by simpa using w0,hm0,by simpa using w1,hm1,w2,A1J w3⟩;grind [E9]
end
def H0 {α β:Type} (f:α->β->Bool):List α->List β->Bool
 |[],[]=>true
 |a::l,b::m=>f a b&&H0 f l m
 |_,_=>false
theorem X4 {α β:Type} {f:α->β->Bool}:∀{l:List α} {m:List β},l.length≠m.length->H0 f l m=false
 |[],[],h=>absurd rfl h
 |[],_::_,_=>rfl
 |_::_,[],_=>rfl
 |a::l,b::m,h=>by
  simp only [H0];rw [X4 (l:=l) (m:=m) (fun e=>h (by simp [e])),Bool.and_false]
theorem S0 {α β:Type} {f:α->β->Bool} {l:List α} {m:List β} {k:Nat} (h:k<l.length) (h':k<m.length):H0 f (l.drop k) (m.drop k)=(f l[k] m[k]&&H0 f (l.drop (k+1)) (m.drop (k+1))):=by
 rw [List.drop_eq_getElem_cons h,List.drop_eq_getElem_cons h'];rfl
theorem X0 {α β:Type} {f:α->β->Bool} {l:List α} {m:List β} {k:Nat} (h:l.length<=k) (h':m.length<=k):H0 f (l.drop k) (m.drop k)=true:=by
 rw [List.drop_of_length_le h,List.drop_of_length_le h'];rfl
mutual
def I4:PVal->PVal->Bool
 |.mk k n l,.mk k' n' l'=>decide (k=k')&&(decide (n=n')&&B1i l l')
def B1i:List PVal->List PVal->Bool
 |[],[]=>true
 |a::l,b::m=>I4 a b&&B1i l m
 |_,_=>false
end
mutual
def H5:PTerm->PTerm->Bool
 |.mk k n m v o l,.mk k' n' m' v' o' l'=>decide (k=k')&&(decide (n=n')&&(decide (m=m')&&(I4 v v'&&(H0 (fun a b:Int=>decide (a=b)) o o'&&A6K l l'))))
def A6K:List PTerm->List PTerm->Bool
 |[],[]=>true
 |a::l,b::m=>H5 a b&&A6K l m
 |_,_=>false
end
theorem B00:∀l m,B1i l m=H0 I4 l m
 |[],[]=>rfl
 |[],_::_=>rfl
 |_::_,[]=>rfl
 |a::l,b::m=>by simp only [B1i,H0,B00 l m]
theorem A7X:∀l m,A6K l m=H0 H5 l m
 |[],[]=>rfl
 |[],_::_=>rfl
 |_::_,[]=>rfl
 |a::l,b::m=>by simp only [A6K,H0,A7X l m]
theorem A0n (a b:PVal):I4 a b=(decide (a.kind=b.kind)&&(decide (a.n=b.n)&&H0 I4 a.list b.list)):=by
 cases a;cases b;simp only [I4,B00,PVal.kind,PVal.n,PVal.list];rfl
theorem A2l (a b:PTerm):H5 a b=(decide (a.kind=b.kind)&&(decide (a.n=b.n)&&(decide (a.m=b.m)&&(I4 a.val b.val&&(H0 (fun a b:Int=>decide (a=b)) a.odds b.odds&&H0 H5 a.kids b.kids))))):=by
 cases a;cases b;simp only [H5,A7X,PTerm.kind,PTerm.n,PTerm.m,PTerm.val,PTerm.odds,PTerm.kids];rfl
theorem A3i {α:Type} {f:α->α->Bool}:∀(l:List α),(∀a∈l,f a a=true)->H0 f l l=true
 |[],_=>rfl
 |a::l,h=>by
  simp_all [H0,A3i]
theorem A7Y:∀(n:Nat) (a:PVal),szV a<=n->I4 a a=true
 |0,a,h=>by rw [D6] at h;omega
 |n+1,a,h=>by
  rw [D6] at h;rw [A0n,A3i a.list (fun b hb=>A7Y n b (by have:=G9 _ _ hb;omega))];simp
theorem A6i:∀(n:Nat) (a:PTerm),E3 a<=n->H5 a a=true
 |0,a,h=>by rw [B5] at h;omega
 |n+1,a,h=>by
  rw [B5] at h;rw [A2l,A3i a.kids (fun b hb=>A6i n b (by have:=D9 _ _ hb;omega)),A7Y _ a.val (Nat.le_refl _),A3i a.odds (fun b _=>by simp)];simp
inductive QTyp where
 |mk (kind:Int) (nl:Bool) (list:List QTyp)
namespace QTyp
def kind:QTyp->Int|.mk k _ _=>k
def nl:QTyp->Bool|.mk _ b _=>b
def list:QTyp->List QTyp|.mk _ _ l=>l
end QTyp
def B3 (b:Bool):Md:=match b with|true=>.nl|false=>.fz
mutual
def B7:QTyp->List TV
 |.mk k b l=>[.int .i64 k,.sl (B3 b) (A3S l)]
def A3S:List QTyp->List (List TV)
 |[]=>[]
 |t::l=>B7 t::A3S l
end
theorem A51:∀l,A3S l=l.map B7
 |[]=>rfl
 |t::l=>by simp only [A3S,List.map_cons,A51 l]
theorem A1 (t:QTyp):B7 t=[.int .i64 t.kind,.sl (B3 t.nl) (t.list.map B7)]:=by cases t;simp only [B7,A51,QTyp.kind,QTyp.nl,QTyp.list]
mutual
def szQ:QTyp->Nat
 |.mk _ _ l=>A0N l+4
def A0N:List QTyp->Nat
 |[]=>0
 |t::l=>szQ t+1+A0N l
end
theorem A1k:∀l,l.length<=A0N l
 |[]=>Nat.le_refl _
 |t::l=>by simp only [A0N,List.length_cons];have:=A1k l;omega
theorem O8:∀(l:List QTyp) (t:QTyp),t∈l->szQ t+1<=A0N l
 |[],t,h=>by cases h
 |x::l,t,h=>by
  simp only [A0N];rcases List.mem_cons.1 h with rfl|h
  ·omega
  ·have:=O8 l t h;omega
theorem F3 (t:QTyp):szQ t=A0N t.list+4:=by cases t;simp only [szQ,QTyp.list]
inductive OkQ:QTyp->Prop
 |mk {k:Int} {b:Bool} {l:List QTyp}:I64 k->(b=true->l=[])->l.length<=maxLen->(∀t∈l,OkQ t)->OkQ (.mk k b l)
theorem OkQ.kind {t:QTyp} (h:OkQ t):I64 t.kind:=by cases h;assumption
theorem OkQ.nl {t:QTyp} (h:OkQ t):t.nl=true->t.list=[]:=by cases h;assumption
theorem OkQ.len {t:QTyp} (h:OkQ t):t.list.length<=maxLen:=by cases h;assumption
theorem OkQ.sub {t:QTyp} (h:OkQ t):∀x∈t.list,OkQ x:=by cases h;assumption
mutual
def A2E:PTyp->QTyp
 |.mk k l=>.mk k false (A6j l)
def A6j:List PTyp->List QTyp
 |[]=>[]
 |t::l=>A2E t::A6j l
end
theorem A7Z:∀l,A6j l=l.map A2E
 |[]=>rfl
 |t::l=>by simp only [A6j,List.map_cons,A7Z l]
mutual
theorem A80:∀t,B7 (A2E t)=K2 t
 |.mk k l=>by simp only [A2E,B7,K2,B3,B01 l]
theorem B01:∀l,A3S (A6j l)=A3N l
 |[]=>rfl
 |t::l=>by simp only [A6j,A3S,A3N,A80 t,B01 l]
end
theorem B1j:∀(n:Nat) (t:PTyp),szT t<=n->OkT t->OkQ (A2E t)
 |0,t,h,_=>by rw [A1w] at h;omega
 |n+1,.mk k l,h,ho=>by
  cases ho with
  |mk h1 h2 h3=>
   rw [A1w] at h;simp only [A2E,A7Z];refine .mk h1 (fun h=>by cases h) (by simpa using h2) fun x hx=> ?_
   obtain ⟨y,hy,rfl⟩:=List.mem_map.1 hx;have:=A02 _ _ hy;simp only [PTyp.list] at h;exact B1j n y (by omega) (h3 y hy)
def C7:Nat->QTyp->Bool
 |0,_=>false
 |n+1,t=>if t.kind=1\/t.kind=2 then decide (t.list.length=0)
  else if t.kind=3 then decide (2<=t.list.length/\t.list.length<=4)&&t.list.all (C7 n)
  else if t.kind=4 then decide (t.list.length=1)&&t.list.all (C7 n)
  else false
end
end Go.Xt
namespace Go.Xe.YtlgknghehgmodaaGreatDoor
section
open Go Go.Xe Go.Xt
variable {F:FuncId->Option TFun} {O:FuncId->List TV->Option TV}
theorem C8 {j n:Nat} (h:j<n) (hn:n<=maxLen):IntKind.i64.wrap ((j:Int)+1)=((j+1:Nat):Int):=by
 unfold maxLen at hn;rw [D7]<;>omega
theorem A81 (hF:F 87=some f47):∀(N:Nat) (e:PTyp) (b:Nat) (σ:Sto) (m most:Int),szT e<=N->OkT e->
  ∃r:Int,A4 F O N b 87 [.agg (K2 e),.int .i64 m,.int .i64 most] σ=some (.ret (.int .i64 r),σ)
 |0,e,b,σ,m,most,h,_=>by rw [A1w] at h;omega
 |N+1,e,b,σ,m,most,h,hb=>by
  have ih:=A81 hF N;have hk:=A0w e.list;have hs:=A1w e
  suffices hh:∃e' σ',A4 F O (N+1) b 87 [.agg (K2 e),.int .i64 m,.int .i64 most] σ=some (e',σ')/\∃r:Int,e'=.ret (.int .i64 r)/\σ'=σ by
   obtain ⟨e',σ',h1,r,rfl,rfl⟩:=hh;exact ⟨r,h1⟩
  refine D5 hF ?_;simp [x47,F6];refine A9 (I:=fun j a σ'=>a.df=[]/\σ'=σ/\∃acc:Int,a.tm.get 1=some (.int .i64 acc)/\a.tm.get 2=some (.int .i64 most)/\a.tm.get 3=some (.bx 0 (K2 e) 66)/\a.tm.get 7=some (.int .i64 j)) e.list.length
   (R:=fun ex a σ'=>ex=.exit 0/\a.df=[]/\σ'=σ/\∃acc:Int,a.tm.get 1=some (.int .i64 acc)) ?_ ?_ ?_ ?_ ?_
  ·simp [F6]
  ·omega
  ·rintro j ⟨tm,df,clk⟩ σ' hj ⟨rfl,rfl,acc,h1,h2,h3,h7⟩;have hm:=A02 e.list e.list[j] (List.getElem_mem hj);have hw:=C8 hj hb.len;obtain ⟨r,hc⟩:=ih e.list[j] σ'.length σ' acc most (by omega) (hb.sub _ (List.getElem_mem hj));rw [F6] at h3 hc
   by_cases ha:acc<=most
   ·simp [h1,h2,h3,h7,hj,ha,hc,hw,F6]
   ·simp [h1,h2,h3,h7,hj,ha]
  ·rintro ⟨tm,df,clk⟩ σ' ⟨rfl,rfl,acc,h1,h2,h3,h7⟩;rw [F6] at h3;simp [h1,h2,h3,h7]
  ·rintro ex ⟨tm,df,clk⟩ σ' ⟨rfl,rfl,rfl,acc,h1⟩;simp [h1]
theorem B4B (hF:F 46=some f23) (hS:F 87=some f47) (N:Nat) (l:List PTyp) (b:Nat) (σ:Sto) (most:Int) (h:A1c l<N) (hl:l.length<=maxLen) (hok:∀e∈l,OkT e):
  ∃r,A4 F O (N+1) b 46 [.int .i64 most,.sl .fz (l.map K2)] σ=some (.ret (.bool r),σ):=by
 have hk:=A0w l
 suffices hh:∃e σ',A4 F O (N+1) b 46 [.int .i64 most,.sl .fz (l.map K2)] σ=some (e,σ')/\∃r,e=.ret (.bool r)/\σ'=σ by
  obtain ⟨e,σ',h1,r,rfl,rfl⟩:=hh;exact ⟨r,h1⟩
 refine D5 hF ?_;simp [x23];refine A9 (I:=fun j a σ'=>a.df=[]/\σ'=σ/\∃acc,a.tm.get 0=some (.int .i64 most)/\a.tm.get 1=some (.sl .fz (l.map K2))/\a.tm.get 5=some (.int .i64 acc)/\a.tm.get 6=some (.int .i64 j)) l.length
  (R:=fun ex a σ'=>ex=.exit 0/\a.df=[]/\σ'=σ/\∃acc,a.tm.get 0=some (.int .i64 most)/\a.tm.get 5=some (.int .i64 acc)) ?_ ?_ ?_ ?_ ?_
 ·simp
 ·omega
 ·rintro j ⟨tm,df,clk⟩ σ' hj ⟨rfl,rfl,acc,h0,h1,h5,h6⟩;have hm:=A02 l l[j] (List.getElem_mem hj);have hw:=C8 hj hl;obtain ⟨r,hc⟩:=A81 (O:=O) hS N l[j] σ'.length σ' acc most (by omega) (hok _ (List.getElem_mem hj));rw [F6] at hc;simp [h0,h1,h5,h6,hj,hc,hw,F6]
 ·rintro ⟨tm,df,clk⟩ σ' ⟨rfl,rfl,acc,h0,h1,h5,h6⟩;simp [h0,h1,h5,h6]
 ·rintro ex ⟨tm,df,clk⟩ σ' ⟨rfl,rfl,rfl,acc,h0,h5⟩;simp [h0,h5];omega
end
end Go.Xe.YtlgknghehgmodaaGreatDoor
namespace Go.Xt
section
open Go Go.Xe
inductive Sm (B:Nat):List TV->Prop
 |mk {l:List TV}:(∀md chs,TV.sl md chs∈l->chs.length<=B)->(∀md chs c,TV.sl md chs∈l->c∈chs->Sm B c)->Sm B l
theorem Sm.len {B:Nat} {l:List TV} (h:Sm B l) {md:Md} {chs:List (List TV)} (hm:TV.sl md chs∈l):chs.length<=B:=by
 cases h with
 |mk h1 h2=>exact h1 md chs hm
theorem Sm.sub {B:Nat} {l:List TV} (h:Sm B l) {md:Md} {chs:List (List TV)} {c:List TV} (hm:TV.sl md chs∈l) (hc:c∈chs):Sm B c:=by
 cases h with
 |mk h1 h2=>exact h2 md chs c hm hc
theorem Sm.append {B:Nat} {l m:List TV} (h:Sm B l) (k:Sm B m):Sm B (l++m):=by
 refine .mk (fun md chs hm=> ?_) (fun md chs c hm hc=> ?_)
 ·rcases List.mem_append.1 hm with hm|hm
  ·exact h.len hm
  ·exact k.len hm
 ·rcases List.mem_append.1 hm with hm|hm
  ·exact h.sub hm hc
  ·exact k.sub hm hc
theorem B1k {B:Nat} {v:TV} (h:∀md chs,v≠.sl md chs):Sm B [v]:=
 .mk (fun md chs hm=>absurd (List.mem_singleton.1 hm).symm (h md chs)) (fun md chs c hm hc=>absurd (List.mem_singleton.1 hm).symm (h md chs))
theorem C2g {B:Nat} {md:Md} {chs:List (List TV)} (h1:chs.length<=B) (h2:∀c,c∈chs->Sm B c):Sm B [.sl md chs]:=by
 refine .mk (fun md chs hm=> ?_) (fun md chs c hm hc=> ?_)
 ·cases List.mem_singleton.1 hm;exact h1
 ·cases List.mem_singleton.1 hm;exact h2 c hc
def B4C (P:Program) (t:TypeId):Bool:=
 match P.underlying t with
 |some (.slice e)=>Nat.blt 0 (P.bytesOf e)
 |_=>true
theorem A6k {H:Type} {P:Program} {e:TypeId} {n:Nat}:∀{l:List (DataW H)} {d:DataW H},d∈l->n∈d.weights P e->n∈DataW.weightsAll P e l
 |x::l,d,h,hn=>by
  simp only [DataW.weightsAll,List.mem_append];rcases List.mem_cons.1 h with rfl|h
  ·exact .inl hn
  ·exact .inr (A6k h hn)
section
variable {g:Hp} {μ:List Nat} {Z:Nat->Prop} {B:Nat}
theorem A6l {P:Program} {cs:List Value}:∀(fs:List Field) (o e:Nat),A2P P o fs=some e->e<=cs.length->(∀(i:Nat) (f:Field),fs[i]? =some f->∃l,RVs g μ Z l ((cs.drop f.offset).take (P.cellsOf f.type))/\Sh P f.type l/\Sm B l)->
  ∃l,RVs g μ Z l ((cs.drop o).take (e - o))/\o<=e/\l.length=e - o/\(∀(i:Nat) (f:Field),fs[i]? =some f->o<=f.offset/\Sh P f.type ((l.drop (f.offset - o)).take (P.cellsOf f.type)))/\Sm B l
 |[],o,e,ht,he,h=>by
  simp only [A2P] at ht;cases ht;exact ⟨[],by simp;exact .nil,Nat.le_refl _,by simp,fun i f e=>by simp at e,.mk (fun _ _ h=>by cases h) (fun _ _ _ h=>by cases h)⟩
 |f::fs,o,e,ht,he,h=>by
  simp only [A2P] at ht;split at ht
  ·rename_i hb;have ho:=J7 hb;obtain ⟨l0,k1,k2,k3⟩:=h 0 f rfl;obtain ⟨l,q1,q2,q3,q4,q5⟩:=A6l fs (o+P.cellsOf f.type) e ht he (fun i f' hf=>h (i+1) f' (by simpa using hf));have hl0:l0.length=P.cellsOf f.type:=by
    rw [<-k1.length,List.length_take,List.length_drop];omega
   have hsplit:(cs.drop o).take (e - o)=(cs.drop f.offset).take (P.cellsOf f.type)++(cs.drop (o+P.cellsOf f.type)).take (e - (o+P.cellsOf f.type)):=by
    rw [ho,show e - o=P.cellsOf f.type+(e - (o+P.cellsOf f.type)) by omega,List.take_add,List.drop_drop]
   refine ⟨l0++l,by rw [hsplit];exact k1.append q1,by omega,by rw [List.length_append,hl0,q3];omega,fun i f' hf=> ?_,k3.append q5⟩;cases i with
   |zero=>
    simp at hf;subst hf;refine ⟨by omega,?_⟩;rw [ho,Nat.sub_self,List.drop_zero,List.take_append_of_le_length (by omega),List.take_of_length_le (by omega)];exact k2
   |succ i=>
    obtain ⟨p1,p2⟩:=q4 i f' (by simpa using hf);refine ⟨by omega,?_⟩;have:f'.offset - o=P.cellsOf f.type+(f'.offset - (o+P.cellsOf f.type)):=by omega
    rw [this,<-hl0,List.drop_append];rw [show l0.length+(f'.offset - (o+l0.length)) - l0.length=f'.offset - (o+l0.length) by omega];have hd0:l0.drop (l0.length+(f'.offset - (o+l0.length)))=[]:=List.drop_of_length_le (by omega);rw [hd0,List.nil_append,hl0];exact p2
  ·cases ht
theorem B4D {P:Program} {T:List TypeId} (hT:T.all (Xe.plainT P T)=true) {H:Type} {t:TypeId} {cs:List Value} {d:DataW H} (hB:T.all (B4C P)=true) (r:Rdx P g t cs d):T.contains t=true->(∀n∈d.weights P t,n<=B)->∃l,RVs g μ (fun _=>True) l cs/\Sh P t l/\Sm B l:=by
 induction r with
 |bool b ht=>exact fun _ _=>⟨[.bool b],.cons (.bool b) .nil,.bool b ht,B1k (fun _ _ e=>by cases e)⟩
 |int n ht hw=>exact fun _ _=>⟨[.int _ n],.cons (.int _ n) .nil,.int n ht hw,B1k (fun _ _ e=>by cases e)⟩
 |str s ht hs=>exact fun _ _=>⟨[.str s],.cons (.str s) .nil,.str s ht hs,B1k (fun _ _ e=>by cases e)⟩
 |nil ht=>exact fun _ _=>⟨[.sl .fz []],.cons (.fz0 none 0) .nil,.slice [] ht (Nat.zero_le _) (fun c h=>by simp at h),C2g (Nat.zero_le _) (fun c h=>by simp at h)⟩
 |@slice t e id len cap ds sp C ht hl hc hm h1 h2 ih=>
  intro hc' hwt;have hp:=List.all_eq_true.1 hT t (by simpa using hc');have hb:=List.all_eq_true.1 hB t (by simpa using hc');unfold Xe.plainT at hp;unfold B4C at hb;rw [ht] at hp hb;have hb:Nat.blt 0 (P.bytesOf e)=true:=hb;rw [G6] at hb;have hb:=of_decide_eq_true hb;simp only [Bool.and_eq_true] at hp;have hlenB:len<=B:=by
   have:=hwt ((ds.length+sp.length)*P.bytesOf e) (by simp [DataW.weights,ht]);have h3:=Nat.le_mul_of_pos_right (ds.length+sp.length) hb;omega
  have hex:∀i,i<len->∃c,RVs g μ (fun _=>True) c (C i)/\Sh P e c/\Sm B c:=fun i hi=>by
   have hlt:i<ds.length:=by omega
   exact ih i ds[i] (List.getElem?_eq_getElem hlt) hp.1 fun n hn=>hwt n (by
    simp only [DataW.weights,ht,List.mem_cons,List.mem_append]
    exact .inr (.inl (A6k (List.getElem_mem hlt) hn)))
  obtain ⟨chs,k1,k2⟩:=C0T hex;have hload:∀i,i<len->∃ver vs el ro,g id=some ⟨ver,.cells vs el ro⟩/\i*P.cellsOf e+P.cellsOf e<=vs.length/\(vs.drop (i*P.cellsOf e)).take (P.cellsOf e)=C i:=fun i hi=>by
   have hlt:i<ds.length:=by omega
   obtain ⟨i',o,ver,vs,el,ro,q0,q1,q2,q3⟩:=P0 (h1 i ds[i] (List.getElem?_eq_getElem hlt));cases q0;exact ⟨ver,vs,el,ro,q1,q2,q3.symm⟩
  refine ⟨[.sl .fz chs],.cons ?_ .nil,.slice chs ht (by omega) (fun c hcm=> ?_),C2g (by omega) (fun c hcm=> ?_)⟩
  ·by_cases h0:len=0
   ·have:chs=[]:=List.eq_nil_of_length_eq_zero (by omega);subst this;subst h0;exact .fz0 _ _
   ·obtain ⟨ver,vs,el,ro,q1,q2,q3⟩:=hload (len - 1) (by omega);have hlen:len*P.cellsOf e<=vs.length:=by
     have:(len - 1)*P.cellsOf e+P.cellsOf e=len*P.cellsOf e:=by rw [<-Nat.succ_mul];congr 1;omega
     omega
    refine .fz (s:=P.cellsOf e) trivial q1 ?_ k1 (fun _=>hc) (fun h=>by unfold D3 at h;unfold maxLen at hm;omega) (by omega) ?_
    ·refine List.all_eq_true.2 fun c hcm=> ?_
     obtain ⟨i,hi⟩:=List.getElem?_of_mem hcm;have hil:i<len:=by have:=(List.getElem?_eq_some_iff.1 hi).1;omega
     have:=(k2 i c hi).1.length;obtain ⟨_,vs',_,_,p1,p2,p3⟩:=hload i hil;rw [D8];refine decide_eq_true ?_;rw [<-this,<-p3,List.length_take,List.length_drop];omega
    ·rw [<-k1];refine B2Q chs 0 fun i c hi=> ?_
     have hil:i<len:=by have:=(List.getElem?_eq_some_iff.1 hi).1;omega
     obtain ⟨_,vs',_,_,p1,p2,p3⟩:=hload i hil;rw [q1] at p1;cases p1;have hr:=(k2 i c hi).1;rw [Nat.zero_add,p3];refine ⟨hr,?_⟩;rw [<-hr.length,<-p3,List.length_take,List.length_drop];omega
  ·obtain ⟨i,hi⟩:=List.getElem?_of_mem hcm;exact (k2 i c hi).2.1
  ·obtain ⟨i,hi⟩:=List.getElem?_of_mem hcm;exact (k2 i c hi).2.2
 |@struct t fs cs ds ht hl hn h2 ih=>
  intro hc' hwt;have hp:=List.all_eq_true.1 hT t (by simpa using hc');unfold Xe.plainT at hp;rw [ht] at hp;simp only [Bool.and_eq_true,List.all_eq_true] at hp;have htl:A2P P 0 fs.toList=some (P.cellsOf t):=by
   have h2:=hp.2;split at h2
   ·rename_i m hm;rw [D8] at h2;rw [hm,of_decide_eq_true h2]
   ·cases h2
  obtain ⟨l,k1,_,k3,k4,k5⟩:=A6l (B:=B) (g:=g) (μ:=μ) (Z:=fun _=>True) (P:=P) (cs:=cs) fs.toList 0 (P.cellsOf t) htl (by omega) (fun i f hf=>by
   have hi:i<ds.length:=by have:=(List.getElem?_eq_some_iff.1 hf).1;simp at this;omega
   exact ih i f ds[i] (by simpa using hf) (List.getElem?_eq_getElem hi) (hp.1 f (List.mem_of_getElem? hf)) fun n hn=>hwt n (by
    simp only [DataW.weights,ht]
    exact DataW.weights_mem_each (by rw [List.getElem?_map,hf];rfl) (List.getElem?_eq_getElem hi) n hn))
  rw [List.drop_zero,Nat.sub_zero,List.take_of_length_le (by omega)] at k1;refine ⟨l,k1,.struct l ht (by omega) (fun i f hf=> ?_),k5⟩;have:=(k4 i f (by simpa using hf)).2
  rwa [Nat.sub_zero] at this
end
end
end Go.Xt
namespace Go.Xe.YtlgknghehgmodaaGreatDoor
section
open Go Go.Xe Go.Xt
variable {F:FuncId->Option TFun} {O:FuncId->List TV->Option TV}
mutual
def cntT:PTerm->Nat
 |.mk _ _ _ _ _ ks=>F7 ks+1
def F7:List PTerm->Nat
 |[]=>0
 |t::l=>cntT t+F7 l
end
theorem J8 (t:PTerm):cntT t=F7 t.kids+1:=by cases t;simp only [cntT,PTerm.kids]
theorem A47 {l:List PTerm} {j:Nat} (hj:j<l.length):F7 (l.drop j)=cntT l[j]+F7 (l.drop (j+1)):=by
 rw [List.drop_eq_getElem_cons hj];rfl
theorem O1:∀(l:List PTerm) (t:PTerm),t∈l->cntT t<=F7 l
 |[],t,h=>by cases h
 |x::l,t,h=>by
  simp only [F7];rcases List.mem_cons.1 h with rfl|h
  ·omega
  ·have:=O1 l t h;omega
theorem C14 {B:Nat} {t:PTerm} (h:Sm B (A5 t)):t.odds.length<=B:=by
 rw [A0] at h
 simpa using h.len (md:=.fz) (chs:=t.odds.map encI) (by simp)
theorem C4v {B:Nat} {t k:PTerm} (h:Sm B (A5 t)) (hk:k∈t.kids):Sm B (A5 k):=by
 rw [A0] at h;exact h.sub (md:=.fz) (chs:=t.kids.map A5) (by simp) (List.mem_map.2 ⟨k,hk,rfl⟩)
inductive BldI:List Int->TV->Prop
 |nl:BldI [] (.sl .nl [])
 |own (l:List Int):BldI l (.sl (.own 3 1) (l.map encI))
theorem B70 (l:List Int):K5 1 (l.map encI)=true:=by simp [K5,encI]
theorem A82 (b:Nat) (l:List Int):below.belowss b (l.map encI)=true:=V5 b encI (Y1 b) l
attribute [simp] B70 A82
inductive IntsV (σ:Sto):TV->List Int->Prop
 |nl:IntsV σ (.sl .nl []) []
 |fz (l:List Int):IntsV σ (.sl .fz (l.map encI)) l
 |ref {k ver e c:Nat} (l tl:List Int):σ.at k=some ⟨ver,.cells (encZT (l++tl)) e⟩->IntsV σ (.ref k 0 1 l.length c) l
theorem L7 (l:List Int):(encZT l).length=l.length:=by simp [encZT]
theorem B02 {l:List Int} (tl:List Int) {j:Nat} (hj:j<l.length):(encZT (l++tl))[j]? =some (.int .i64 l[j]):=by
 unfold encZT;rw [List.getElem?_map,List.getElem?_append_left hj,List.getElem?_eq_getElem hj];rfl
theorem A2m (l m:List Int):encZT (l++m)=encZT l++encZT m:=by simp [encZT]
theorem B03 (l:List Int):(l.map encI).flatten=encZT l:=by
 induction l with
 |nil=>rfl
 |cons x l ih=>rw [List.map_cons,List.flatten_cons,ih];rfl
theorem A48:∀(l tl:List Int),A1S 1 l.length (encZT (l++tl))=l.map encI
 |[],tl=>rfl
 |x::l,tl=>by
  have ih:=A48 l tl;simp only [List.length_cons,A1S,List.map_cons,<-ih];rfl
theorem A1A (l:List Int):(encZT l).any D1=false:=by simp [encZT]
theorem B4E (l tl:List Int):(encZT (l++tl)).take l.length=encZT l:=by
 rw [A2m];simp [encZT]
theorem C4w (h16:F 39=some f16) (N:Nat) (va:TV) (l:List Int) (b:Nat) (σ:Sto) (hv:IntsV σ va l) (hl:l.length<=maxLen) (hN:l.length<N):
  A4 F O (N+1) b 39 [va,.sl .fz (l.map encI)] σ=some (.ret (.bool true),σ):=by
 refine A3 h16 ?_;rcases hv with _|_|⟨_,tl,hk⟩
 ·simp [x16];refine A9 (I:=fun j a σ'=>a.df=[]/\σ'=σ/\a.tm.get 0=some (.sl .nl [])/\a.tm.get 5=some (.int .i64 0)) 0 (R:=fun ex a σ'=>ex=.exit 0/\a.df=[]/\σ'=σ) ?_ ?_ ?_ ?_ ?_
  ·simp
  ·simpa using hN
  ·intro j a σ' hj;omega
  ·rintro ⟨tm,df,clk⟩ σ' ⟨rfl,rfl,h0,h5⟩;simp [h0,h5]
  ·rintro ex ⟨tm,df,clk⟩ σ' ⟨rfl,rfl,rfl⟩;simp
 ·obtain ⟨va,hva⟩:∃va,va=TV.sl .fz (l.map encI):=⟨_,rfl⟩;rw [<-hva];obtain ⟨I,hI⟩:∃I:Nat->TAct->Sto->Prop,I=(fun j a σ'=>a.df=[]/\σ'=σ/\a.tm.get 0=some va/\a.tm.get 1=some (.sl .fz (l.map encI))/\a.tm.get 5=some (.int .i64 j)):=⟨_,rfl⟩;obtain ⟨R,hR⟩:∃R:TEx->TAct->Sto->Prop,R=(fun ex a σ'=>ex=.exit 0/\a.df=[]/\σ'=σ):=⟨_,rfl⟩;simp [x16,hva];refine A9 I l.length R ?_ hN ?_ ?_ ?_
  ·rw [hI];exact ⟨rfl,rfl,by simp [hva],by simp,by simp⟩
  ·rw [hI];rintro j ⟨tm,df,clk⟩ σ' hj ⟨rfl,rfl,h0,h1,h5⟩;rw [<-hI];have hw:=C8 hj hl;rw [hva] at h0;skip;simp [h0,h1,h5,hj,hw,encI];rw [hI];exact ⟨rfl,rfl,by simp [h0,hva],by simp [h1],by simp⟩
  ·rw [hI];rintro ⟨tm,df,clk⟩ σ' ⟨rfl,rfl,h0,h1,h5⟩;rw [hva] at h0;simp [h0,h1,h5];rw [hR];exact ⟨rfl,rfl,rfl⟩
  ·rw [hR];rintro ex ⟨tm,df,clk⟩ σ' ⟨rfl,rfl,rfl⟩;simp
 ·rename_i k ver e c;obtain ⟨va,hva⟩:∃va,va=TV.ref k 0 1 l.length c:=⟨_,rfl⟩;rw [<-hva];obtain ⟨I,hI⟩:∃I:Nat->TAct->Sto->Prop,I=(fun j a σ'=>a.df=[]/\σ'=σ/\a.tm.get 0=some va/\a.tm.get 1=some (.sl .fz (l.map encI))/\a.tm.get 5=some (.int .i64 j)):=⟨_,rfl⟩;obtain ⟨R,hR⟩:∃R:TEx->TAct->Sto->Prop,R=(fun ex a σ'=>ex=.exit 0/\a.df=[]/\σ'=σ):=⟨_,rfl⟩;simp [x16,hva];refine A9 I l.length R ?_ hN ?_ ?_ ?_
  ·rw [hI];exact ⟨rfl,rfl,by simp [hva],by simp,by simp⟩
  ·rw [hI];rintro j ⟨tm,df,clk⟩ σ' hj ⟨rfl,rfl,h0,h1,h5⟩;rw [<-hI];have hw:=C8 hj hl;rw [hva] at h0
   (have hgj:=B02 tl hj;generalize encZT (l++tl)=cs at hk hgj)
   simp [h0,h1,h5,hj,hw,encI,hk,hgj];rw [hI];exact ⟨rfl,rfl,by simp [h0,hva],by simp [h1],by simp⟩
  ·rw [hI];rintro ⟨tm,df,clk⟩ σ' ⟨rfl,rfl,h0,h1,h5⟩;rw [hva] at h0;simp [h0,h1,h5];rw [hR];exact ⟨rfl,rfl,rfl⟩
  ·rw [hR];rintro ex ⟨tm,df,clk⟩ σ' ⟨rfl,rfl,rfl⟩;simp
theorem A83 {l:List Int} {j:Nat} (hj:j<l.length) (x:Int):decide (x∈l.drop j)=(decide (x=l[j])||decide (x∈l.drop (j+1))):=by
 rw [List.drop_eq_getElem_cons hj];simp only [List.mem_cons,Bool.decide_or]
theorem C15 (h111:F 72=some f111) (N:Nat) (va:TV) (l:List Int) (x:Int) (b:Nat) (σ:Sto) (hv:IntsV σ va l) (hl:l.length<=maxLen) (hN:l.length<N):
  ∃r:Int,A4 F O (N+1) b 72 [va,.int .i64 x] σ=some (.ret (.int .i64 r),σ)/\decide (0<=r)=decide (x∈l):=by
 suffices hh:∃e' σ',A4 F O (N+1) b 72 [va,.int .i64 x] σ=some (e',σ')/\∃r:Int,e'=.ret (.int .i64 r)/\σ'=σ/\decide (0<=r)=decide (x∈l) by
  obtain ⟨e',σ',q1,r,rfl,rfl,q2⟩:=hh;exact ⟨r,q1,q2⟩
 refine D5 h111 ?_;rcases hv with _|_|⟨_,tl,hk⟩
 ·simp [x111];refine A9 (I:=fun j a σ'=>a.df=[]/\σ'=σ/\a.tm.get 7=some (.int .i64 0)/\a.tm.get 8=some (.int .i64 0)) 0 (R:=fun ex a σ'=>ex=.exit 0/\a.df=[]/\σ'=σ) ?_ ?_ ?_ ?_ ?_
  ·simp
  ·simpa using hN
  ·intro j a σ' hj;omega
  ·rintro ⟨tm,df,clk⟩ σ' ⟨rfl,rfl,h0,h5⟩;simp [h0,h5]
  ·rintro ex ⟨tm,df,clk⟩ σ' ⟨rfl,rfl,rfl⟩;simp
 ·obtain ⟨va,hva⟩:∃va,va=TV.sl .fz (l.map encI):=⟨_,rfl⟩;rw [<-hva];simp [x111,hva];obtain ⟨I,hI⟩:∃I:Nat->TAct->Sto->Prop,I=(fun j a σ'=>a.df=[]/\σ'=σ/\decide (x∈l.drop j)=decide (x∈l)/\a.tm.get 0=some va/\a.tm.get 1=some (.int .i64 x)/\a.tm.get 7=some (.int .i64 (l.length:Int))/\a.tm.get 8=some (.int .i64 j)):=⟨_,rfl⟩
  obtain ⟨R,hR⟩:∃R:TEx->TAct->Sto->Prop,R=(fun ex a σ'=>a.df=[]/\σ'=σ/\(ex=.exit 0/\decide (x∈l)=false\/ex=.ret/\decide (x∈l)=true/\∃r:Int,0<=r/\a.tm.get 4=some (.int .i64 r))):=⟨_,rfl⟩;refine A9 I l.length R ?_ hN ?_ ?_ ?_
  ·rw [hI];exact ⟨rfl,rfl,by rw [List.drop_zero],by simp [hva],by simp,by simp,by simp⟩
  ·rw [hI];rintro j ⟨tm,df,clk⟩ σ' hj ⟨rfl,rfl,hd,h0,h1,h7,h8⟩;rw [<-hI];have hw:=C8 hj hl;rw [A83 hj] at hd;rw [hva] at h0;skip
   by_cases hx:x=l[j]
   ·simp [h0,h1,h7,h8,hj,hw,hx,encI];rw [hR];rw [decide_eq_true hx,Bool.true_or] at hd;exact ⟨rfl,rfl,.inr ⟨rfl,hd.symm,(j:Int),by omega,by simp⟩⟩
   ·simp [h0,h1,h7,h8,hj,hw,hx,encI];rw [hI];rw [decide_eq_false hx,Bool.false_or] at hd;exact ⟨rfl,rfl,hd,by simp [h0,hva],by simp [h1],by simp [h7],by simp⟩
  ·rw [hI];rintro ⟨tm,df,clk⟩ σ' ⟨rfl,rfl,hd,h0,h1,h7,h8⟩;rw [List.drop_of_length_le (Nat.le_refl _)] at hd;rw [hva] at h0;simp [h0,h1,h7,h8];rw [hR];exact ⟨rfl,rfl,.inl ⟨rfl,by rw [<-hd];simp⟩⟩
  ·rw [hR];rintro ex ⟨tm,df,clk⟩ σ' ⟨rfl,rfl,⟨rfl,h⟩|⟨rfl,h,r,hr,h4⟩⟩
   ·simp [h];exact of_decide_eq_false h
   ·simp [h,h4,hr];exact of_decide_eq_true h
 ·rename_i k ver e c;obtain ⟨va,hva⟩:∃va,va=TV.ref k 0 1 l.length c:=⟨_,rfl⟩;rw [<-hva];simp [x111,hva];obtain ⟨I,hI⟩:∃I:Nat->TAct->Sto->Prop,I=(fun j a σ'=>a.df=[]/\σ'=σ/\decide (x∈l.drop j)=decide (x∈l)/\a.tm.get 0=some va/\a.tm.get 1=some (.int .i64 x)/\a.tm.get 7=some (.int .i64 (l.length:Int))/\a.tm.get 8=some (.int .i64 j)):=⟨_,rfl⟩
  obtain ⟨R,hR⟩:∃R:TEx->TAct->Sto->Prop,R=(fun ex a σ'=>a.df=[]/\σ'=σ/\(ex=.exit 0/\decide (x∈l)=false\/ex=.ret/\decide (x∈l)=true/\∃r:Int,0<=r/\a.tm.get 4=some (.int .i64 r))):=⟨_,rfl⟩;refine A9 I l.length R ?_ hN ?_ ?_ ?_
  ·rw [hI];exact ⟨rfl,rfl,by rw [List.drop_zero],by simp [hva],by simp,by simp,by simp⟩
  ·rw [hI];rintro j ⟨tm,df,clk⟩ σ' hj ⟨rfl,rfl,hd,h0,h1,h7,h8⟩;rw [<-hI];have hw:=C8 hj hl;rw [A83 hj] at hd;rw [hva] at h0
   (have hgj:=B02 tl hj;generalize encZT (l++tl)=cs at hk hgj)
   by_cases hx:x=l[j]
   ·simp [h0,h1,h7,h8,hj,hw,hx,encI,hk,hgj];rw [hR];rw [decide_eq_true hx,Bool.true_or] at hd;exact ⟨rfl,rfl,.inr ⟨rfl,hd.symm,(j:Int),by omega,by simp⟩⟩
   ·simp [h0,h1,h7,h8,hj,hw,hx,encI,hk,hgj];rw [hI];rw [decide_eq_false hx,Bool.false_or] at hd;exact ⟨rfl,rfl,hd,by simp [h0,hva],by simp [h1],by simp [h7],by simp⟩
  ·rw [hI];rintro ⟨tm,df,clk⟩ σ' ⟨rfl,rfl,hd,h0,h1,h7,h8⟩;rw [List.drop_of_length_le (Nat.le_refl _)] at hd;rw [hva] at h0;simp [h0,h1,h7,h8];rw [hR];exact ⟨rfl,rfl,.inl ⟨rfl,by rw [<-hd];simp⟩⟩
  ·rw [hR];rintro ex ⟨tm,df,clk⟩ σ' ⟨rfl,rfl,⟨rfl,h⟩|⟨rfl,h,r,hr,h4⟩⟩
   ·simp [h];exact of_decide_eq_false h
   ·simp [h,h4,hr];exact of_decide_eq_true h
theorem A49 (h66:F 32=some f66) (h111:F 72=some f111) (N:Nat) (va:TV) (l:List Int) (x:Int) (b:Nat) (σ:Sto) (hv:IntsV σ va l) (hl:l.length<=maxLen) (hN:l.length<N):
  A4 F O (N+2) b 32 [va,.int .i64 x] σ=some (.ret (.bool (decide (x∈l))),σ):=by
 obtain ⟨r,hq,hr⟩:=C15 (O:=O) h111 N va l x σ.length σ hv hl hN;refine A3 h66 ?_;have hr':(0<=r)=(x∈l):=propext ⟨fun h=>of_decide_eq_true (hr▸decide_eq_true h),fun h=>of_decide_eq_true (hr.trans (decide_eq_true h))⟩;rcases hv with _|_|⟨_,tl,hk⟩<;>simp [x66,hq,hr]
theorem at_app {σ τ:Sto} {k:Nat} (h:k<σ.length):Sto.at (σ++τ) k=σ.at k:=by
 simp only [Sto.at];rw [List.getElem?_append_left h]
theorem A4a (σ:Sto) (o:TObj):Sto.at (σ++[some o]) σ.length=some o:=by simp [Sto.at]
theorem B9a (h67:F 81=some f67) (N b:Nat) (σ:Sto):A4 F O (N+1) b 81 [.sl .nl []] σ=some (.ret (.sl .nl []),σ):=by
 refine A3 h67 ?_;simp [x67]
theorem B9b (h67:F 81=some f67) (N b:Nat) (σ:Sto):A4 F O (N+1) b 81 [.sl .fz []] σ=some (.ret (.sl .fz []),σ):=by
 simp only [A4,h67];rfl
theorem B5M (h67:F 81=some f67) (N b:Nat) (va:TV) (l:List Int) (σ:Sto) (hv:IntsV σ va l) (hne:l≠[]) (hl:l.length<=1073741824):
  A4 F O (N+1) b 81 [va] σ=some (.ret (.ref (σ.length+1) 0 1 l.length (D3+1)),σ++[some ⟨0,.cells [] 3⟩]++[some ⟨0,.cells (encZT l) 3⟩]):=by
 suffices hh:∃e' σ',A4 F O (N+1) b 81 [va] σ=some (e',σ')/\e'=.ret (.ref (σ.length+1) 0 1 l.length (D3+1))/\σ'=σ++[some ⟨0,.cells [] 3⟩]++[some ⟨0,.cells (encZT l) 3⟩] by
  obtain ⟨e',σ',q1,rfl,rfl⟩:=hh;exact q1
 have hp:B6z f67.clone [va]=false:=by
  rcases hv with _|_|_
  ·rfl
  ·cases l with
   |nil=>exact absurd rfl hne
   |cons x l=>rfl
  ·rfl
 refine D5 h67 ?_ hp;have hnew:=A4a σ ⟨0,.cells [] 3⟩;rcases hv with _|_|⟨_,tl,hk⟩
 ·exact absurd rfl hne
 ·cases l with
  |nil=>exact absurd rfl hne
  |cons x l=>
   have hfl:=B03 l;simp at hl;simp [x67,encI,hnew,hl];simp [encZT] at hfl ⊢;exact hfl
 ·rename_i k ver e c;have hkl:=Sto.lt hk;have hap:Sto.at (σ++[some ⟨0,.cells [] 3⟩]) k=_:=(at_app hkl).trans hk;have hch:=A48 l tl;have hle:l.length<=(encZT (l++tl)).length:=by rw [L7];simp
  have hnow:((encZT (l++tl)).take l.length).any D1=false:=by rw [B4E];exact A1A l
  have hfl:=B03 l;generalize encZT (l++tl)=cs at hk hap hch hle hnow;cases l with
  |nil=>exact absurd rfl hne
  |cons x l=>
   simp at hl hch hle;simp only [List.length_cons] at hnow;simp [x67,hk,hnew,hap,hch,hl,hle,hnow,encI];simp [encZT,encI] at hfl ⊢;exact hfl
def C4x:XCode:=(by exact fun x _=>x:V0 (gT x41.body [1,1,1,1,1,0,0,1,1,0,0,1,1,0,1,0,1,1])) _ (by conv=>lhs;cbv)
def B71:XCode:=(by exact fun x _=>x:V1 (fun a=>pT (gT x41.body [1,1,1,1,1,0,0,1,1,0,0,1,1,0]) [1,0,1,1] a)) _ (by intros;conv=>lhs;cbv) C4x
def B4F:XCode:=(by exact fun x _=>x:V1 (fun a=>pT (gT x41.body [1,1,1,1,1,0,0,1,1,0,0]) [1,1,0] a)) _ (by intros;conv=>lhs;cbv) B71
def B4G:XCode:=(by exact fun x _=>x:V0 (gT x41.body [1,1,1,0])) _ (by conv=>lhs;cbv)
def B72:XCode:=(by exact fun x _=>x:V0 (gT x41.body [1,0])) _ (by conv=>lhs;cbv)
theorem C16:x41=(by exact fun x _=>x:V3 (fun a b d=>({x41 with body:=pT (pT (pT (x41.body) [1,0] a) [1,1,1,0] b) [1,1,1,1,1,0,0,1,1,0,0] d}:XFun))) _ (by intros;conv=>lhs;cbv) B72 B4G B4F:=rfl
theorem E2 {an:Ann} {b:Nat} {C:G5} {n:Nat} {Q0 Q:TEx->TAct->Sto->Prop} {ks:List Kt} {r:Option (TEx×TAct×Sto)} (h:Tw an b C n Q0 [] r) (k:∀e a σ,Q0 e a σ->T1 an b C n Q ks e a σ):Tw an b C n Q ks r:=by
 obtain ⟨e,a,σ,h1,h2⟩:=h;exact ⟨e,a,σ,h1,k _ _ _ h2⟩
def P5 (t:PTerm):Int:=if t.kind=7 then min (max t.m 0) 4 else if t.kind=9 then 2 else 0
theorem A84 (t:PTerm):0<=P5 t/\P5 t<=4:=by unfold P5;split<;>(try split)<;>omega
def C0 (n:Int):Nat->List Int
 |0=>[]
 |k+1=>C0 n k++(if n+(k:Int)<=9223372036854775807 then [n+(k:Int)] else [])
theorem A2n (n:Int):∀k,(C0 n k).length<=k
 |0=>Nat.le_refl _
 |k+1=>by
  have:=A2n n k;simp only [C0,List.length_append];split<;>simp<;>omega
def Q5 (bd:List Int) (t:PTerm):List Int:=bd++C0 t.n (P5 t).toNat
def B5N (bd bd':List Int):List PTerm->List Int
 |[]=>bd'
 |_::_=>bd
mutual
def freeC (bd:List Int):PTerm->List Int
 |.mk k n m v o ks=>(if k=2/\n∉bd then [n] else [])++S5 bd (Q5 bd (.mk k n m v o ks)) ks
def S5 (bd bd':List Int):List PTerm->List Int
 |[]=>[]
 |t::l=>freeC (B5N bd bd' l) t++S5 bd bd' l
end
theorem B04 (bd:List Int) (t:PTerm):freeC bd t=(if t.kind=2/\t.n∉bd then [t.n] else [])++S5 bd (Q5 bd t) t.kids:=by
 cases t;simp only [freeC,PTerm.kind,PTerm.n,PTerm.kids];rfl
theorem B2V {bd bd':List Int} {l:List PTerm} {j:Nat} (hj:j<l.length):S5 bd bd' (l.drop j)=freeC (if j+1=l.length then bd' else bd) l[j]++S5 bd bd' (l.drop (j+1)):=by
 rw [List.drop_eq_getElem_cons hj];simp only [S5];congr 2
 by_cases h:j+1=l.length
 ·rw [if_pos h,List.drop_of_length_le (by omega)];rfl
 ·rw [if_neg h,List.drop_eq_getElem_cons (by omega)];rfl
mutual
theorem A5B (bd:List Int):∀t,(freeC bd t).length<=cntT t
 |.mk k n m v o ks=>by
  have:=A85 bd (Q5 bd (.mk k n m v o ks)) ks;simp only [freeC,cntT,List.length_append];split<;>simp<;>omega
theorem A85 (bd bd':List Int):∀l,(S5 bd bd' l).length<=F7 l
 |[]=>Nat.le_refl _
 |t::l=>by
  have:=A5B (B5N bd bd' l) t;have:=A85 bd bd' l;simp only [S5,F7,List.length_append];omega
end
inductive OutV (σ:Sto):TV->List Int->Prop
 |nl:OutV σ (.sl .nl []) []
 |ref {k ver:Nat} (l:List Int):l≠[]->σ.at k=some ⟨ver,.cells (encZT l) 3⟩->OutV σ (.ref k 0 1 l.length (D3+1)) l
def OutS (σ:Sto) (po:Nat) (l:List Int):Prop:=∃ver ov,σ.at po=some ⟨ver,.cells [ov] 25⟩/\OutV σ ov l
def rowOf (σ:Sto) (po:Nat):Option Nat:=
 match σ.at po with
 |some ⟨_,.cells [.ref k _ _ _ _] _⟩=>some k
 |_=>none
structure Frm (σ σ':Sto) (po:Nat):Prop where
 len:σ.length<=σ'.length
 same:∀k,k<σ.length->k≠po->rowOf σ po≠some k->σ'.at k=σ.at k
 row:∀k,rowOf σ' po=some k->rowOf σ po=some k\/σ.length<=k
theorem Frm.refl (σ:Sto) (po:Nat):Frm σ σ po:=⟨Nat.le_refl _,fun _ _ _ _=>rfl,fun k h=>.inl h⟩
theorem Frm.trans {σ σ1 σ2:Sto} {po:Nat} (a:Frm σ σ1 po) (b:Frm σ1 σ2 po):Frm σ σ2 po:=by
 refine ⟨Nat.le_trans a.len b.len,fun k hk hp hr=> ?_,fun k h=> ?_⟩
 ·rw [b.same k (Nat.lt_of_lt_of_le hk a.len) hp,a.same k hk hp hr];intro h;rcases a.row k h with h|h
  ·exact hr h
  ·omega
 ·rcases b.row k h with h|h
  ·exact a.row k h
  ·exact .inr (Nat.le_trans a.len h)
structure Grn (σ σ':Sto):Prop where
 len:σ.length<=σ'.length
 same:∀k,k<σ.length->σ'.at k=σ.at k
theorem Grn.refl (σ:Sto):Grn σ σ:=⟨Nat.le_refl _,fun _ _=>rfl⟩
theorem Grn.trans {σ σ1 σ2:Sto} (a:Grn σ σ1) (b:Grn σ1 σ2):Grn σ σ2:=⟨Nat.le_trans a.len b.len,fun k hk=>by rw [b.same k (Nat.lt_of_lt_of_le hk a.len),a.same k hk]⟩
theorem Grn.app (σ τ:Sto):Grn σ (σ++τ):=⟨by simp,fun k hk=>at_app hk⟩
theorem Grn.frm {σ σ':Sto} {po:Nat} (g:Grn σ σ') (hp:po<σ.length):Frm σ σ' po:=by
 refine ⟨g.len,fun k hk _ _=>g.same k hk,fun k h=>.inl ?_⟩;unfold rowOf at h ⊢
 rwa [g.same po hp] at h
theorem OutS.lt {σ:Sto} {po:Nat} {l:List Int} (h:OutS σ po l):po<σ.length:=by
 obtain ⟨ver,ov,h1,_⟩:=h;exact Sto.lt h1
theorem OutS.grn {σ σ':Sto} {po:Nat} {l:List Int} (h:OutS σ po l) (g:Grn σ σ'):OutS σ' po l:=by
 obtain ⟨ver,ov,h1,h2⟩:=h;refine ⟨ver,ov,by rw [g.same po (Sto.lt h1)];exact h1,?_⟩;cases h2 with
 |nl=>exact .nl
 |ref l hne hk=>exact .ref l hne (by rw [g.same _ (Sto.lt hk)];exact hk)
structure BdV (σ:Sto) (po:Nat) (v:TV) (l:List Int):Prop where
 ints:IntsV σ v l
 ne:v=.sl .nl []\/l≠[]
 sep:∀k o s n c,v=.ref k o s n c->k≠po/\rowOf σ po≠some k
 give:give v=some v
 own:D1 v=false
theorem BdV.frm {σ σ':Sto} {po:Nat} {v:TV} {l:List Int} (h:BdV σ po v l) (f:Frm σ σ' po):BdV σ' po v l:=by
 refine ⟨?_,h.ne,fun k o s n c e=> ?_,h.give,h.own⟩
 ·cases h.ints with
  |nl=>exact .nl
  |fz l=>exact .fz l
  |ref l tl hk=>
   obtain ⟨h1,h2⟩:=h.sep _ _ _ _ _ rfl;exact .ref l tl (by rw [f.same _ (Sto.lt hk) h1 h2];exact hk)
 ·obtain ⟨h1,h2⟩:=h.sep _ _ _ _ _ e;refine ⟨h1,fun hr=> ?_⟩;rcases f.row _ hr with hr|hr
  ·exact h2 hr
  ·subst e;cases h.ints with
   |ref l tl hk=>have:=Sto.lt hk;omega
theorem B9c (σ:Sto) (po:Nat):BdV σ po (.sl .nl []) []:=⟨.nl,.inl rfl,fun _ _ _ _ _ h=>(by cases h),rfl,rfl⟩
theorem BdV.lt {σ:Sto} {po:Nat} {v:TV} {l:List Int} (h:BdV σ po v l) {k o s n c:Nat} (e:v=.ref k o s n c):k<σ.length:=by
 subst e;cases h.ints with
 |ref l tl hk=>exact Sto.lt hk
theorem D0L {C:G5} {N b:Nat} (e:PTerm) (a:TAct) (σ:Sto) (v1 v2:TV) (hdf:a.df=[]) (h1:a.tm.get 1=some v1) (h2:a.tm.get 2=some v2) (h3:a.tm.get 3=some (.bx 0 (A5 e) 28)) (h6:a.tm.get 6=some (.int .i64 0)):
  Tw a41 b C N (fun ex a' σ'=>ex=.normal/\σ'=σ/\a'.df=[]/\a'.tm.get 1=some v1/\a'.tm.get 2=some v2/\a'.tm.get 3=some (.bx 0 (A5 e) 28)/\a'.tm.get 6=some (.int .i64 (P5 e))) [] (B6 a41 b C N B4G a σ):=by
 obtain ⟨tm,df,clk⟩:=a;simp only at hdf h1 h2 h3 h6;subst hdf;have h3':=h3;rw [A0] at h3;unfold P5
 by_cases k7:e.kind=7
 ·rw [if_pos k7]
  by_cases m0:e.m<0
  ·have e1:min (max e.m 0) 4=0:=by omega
   simp [B4G,h3,k7,m0,h1,h2,A0,e1,A0t,G7]
  ·have hm0:¬(e.m<0):=m0
   by_cases m4:4<e.m
   ·have e1:min (max e.m 0) 4=4:=by omega
    simp [B4G,h3,k7,m0,m4,h1,h2,A0,e1,A0t,G7]
   ·have e1:min (max e.m 0) 4=e.m:=by omega
    simp [B4G,h3,k7,m0,m4,h1,h2,A0,e1,A0t,G7]
 ·rw [if_neg k7]
  by_cases k9:e.kind=9
  ·simp [B4G,h3,k9,h1,h2,A0]
  ·simp [B4G,h3,k7,k9,h1,h2,A0,h6]
theorem B5O {σ Y:Sto} {po ver':Nat} {l:List Int} (hp:po<σ.length) (hY:Y.length=σ.length) (hs:∀j,j<σ.length->j≠po->rowOf σ po≠some j->Y.at j=σ.at j) (hne:l≠[]):
  OutS ((Y++[some (⟨0,.cells (encZT l) 3⟩:TObj)]).set po (some (⟨ver',.cells [.ref σ.length 0 1 l.length (D3+1)] 25⟩:TObj))) po l/\
  Frm σ ((Y++[some (⟨0,.cells (encZT l) 3⟩:TObj)]).set po (some (⟨ver',.cells [.ref σ.length 0 1 l.length (D3+1)] 25⟩:TObj))) po:=by
 have hat:Sto.at ((Y++[some (⟨0,.cells (encZT l) 3⟩:TObj)]).set po (some (⟨ver',.cells [.ref σ.length 0 1 l.length (D3+1)] 25⟩:TObj))) po=some ⟨ver',.cells [.ref σ.length 0 1 l.length (D3+1)] 25⟩:=by
  have:po<(Y++[some (⟨0,.cells (encZT l) 3⟩:TObj)]).length:=by simp;omega
  simp only [Sto.at];rw [List.getElem?_set_self this]
 refine ⟨⟨_,_,hat,.ref (ver:=0) l hne ?_⟩,⟨by simp;omega,fun k hk hkp hr=> ?_,fun k h=> ?_⟩⟩
 ·rw [A05 (by omega),<-hY];exact A4a Y _
 ·rw [A05 (by omega),at_app (by omega)];exact hs k hk hkp hr
 ·unfold rowOf at h;rw [hat] at h;cases h;exact .inr (Nat.le_refl _)
theorem D38 {N b:Nat} (h66:F 32=some f66) (h111:F 72=some f111) (e:PTerm) (a:TAct) (σ:Sto) (po:Nat) (ol:List Int) (bv:TV) (bd:List Int) (hb:BdV σ po bv bd) (ho:OutS σ po ol) (hbp:b<=po) (hbl:bd.length<N) (hbm:bd.length<=maxLen) (hol:ol.length<=100000)
  (hdf:a.df=[]) (h1:a.tm.get 1=some bv) (h2:a.tm.get 2=some (.ptr po 0)) (h3:a.tm.get 3=some (.bx 0 (A5 e) 28)):
  Tw a41 b (A4 F O (N+2)) (N+2) (fun ex a' σ'=>ex=.normal/\OutS σ' po (ol++(if e.kind=2/\e.n∉bd then [e.n] else []))/\Frm σ σ' po/\a'.df=[]/\a'.tm.get 1=some bv/\a'.tm.get 2=some (.ptr po 0)/\a'.tm.get 3=some (.bx 0 (A5 e) 28)) [] (B6 a41 b (A4 F O (N+2)) (N+2) B72 a σ):=by
 obtain ⟨tm,df,clk⟩:=a;simp only at hdf h1 h2 h3;subst hdf;have h3':=h3;rw [A0] at h3;have hints:=hb.ints;have hg:=hb.give;have hown:=hb.own
 by_cases k2:e.kind=2
 case neg=>
  rw [if_neg (fun h=>k2 h.1),List.append_nil];simp [B72,h3,k2,h1,h2,A0,ho,Frm.refl,A6]
 have hc:=A49 (O:=O) h66 h111 N bv bd e.n b σ hb.ints hbm hbl
 by_cases hm:e.n∈bd
 ·rw [if_neg (fun h=>h.2 hm),List.append_nil];rw [decide_eq_true hm] at hc;rcases hints with _|_|_
  skip
  all_goals simp [B72,h3,k2,h1,h2,A0,ho,Frm.refl,A6,hc]
 ·rw [if_pos ⟨k2,hm⟩];rw [decide_eq_false hm] at hc;obtain ⟨ver,ov,hpo,hov⟩:=ho;have hpl:=Sto.lt hpo;rcases hov with _|⟨_,hne,hk⟩
  ·have hapo:Sto.at (σ++[some ⟨0,.cells [.int .i64 e.n] 3⟩]) po=_:=(at_app hpl).trans hpo;obtain ⟨q1,q2⟩:=B5O (Y:=σ) (ver':=ver+1) (l:=[e.n]) hpl rfl (fun _ _ _ _=>rfl) (by simp);have ez:encZT [e.n]=[.int .i64 e.n]:=rfl;rw [ez] at q1 q2;simp only [List.length_cons,List.length_nil,Nat.zero_add] at q1 q2;rcases hints with _|_|_
   skip
   all_goals simp [B72,h3,k2,h1,h2,A0,A6,hc,hpo,hapo,hbp,q1,q2]
  ·rename_i k vk;have hkp:k≠po:=by
    rintro rfl;rw [hpo] at hk;simp at hk
   have hY:∀j,j<σ.length->j≠po->rowOf σ po≠some j->Sto.at (σ.set k none) j=σ.at j:=fun j h1 h2 h3=>A05 (fun e=>h3 (by subst e;unfold rowOf;rw [hpo]))
   obtain ⟨q1,q2⟩:=B5O (Y:=σ.set k none) (ver':=ver+1) (l:=ol++[e.n]) hpl (by simp) hY (by simp);have hapo:Sto.at (σ.set k none++[some (⟨0,.cells (encZT (ol++[e.n])) 3⟩:TObj)]) po=_:=((at_app (by simpa using hpl)).trans (A05 hkp)).trans hpo;have ez:encZT (ol++[e.n])=encZT ol++[.int .i64 e.n]:=by rw [A2m];rfl
   have hcl:(encZT ol).length=ol.length:=L7 ol;have hct:(encZT ol).take ol.length=encZT ol:=List.take_of_length_le (by omega);have hca:=A1A ol;have hol2:ol.length+1<=1073741824:=by omega
   rw [ez] at q1 q2 hapo;simp only [List.length_append,List.length_cons,List.length_nil,Nat.zero_add] at q1 q2;generalize encZT ol=cs at*;rcases hints with _|_|_
   all_goals simp [B72,h3,k2,h1,h2,A0,A6,hc,hpo,hapo,hbp,q1,q2,hk,hcl,hct,hca,hol2]
inductive BV (lo:Nat) (σ:Sto):TV->List Int->Prop
 |nl:BV lo σ (.sl .nl []) []
 |own (l:List Int):l≠[]->BV lo σ (.sl (.own 3 1) (l.map encI)) l
 |ref {k ver:Nat} (l:List Int):lo<=k->l≠[]->σ.at k=some ⟨ver,.cells (encZT l) 3⟩->BV lo σ (.ref k 0 1 l.length (D3+1)) l
theorem Grn.setapp {σ0 σ:Sto} {k:Nat} (g:Grn σ0 σ) (hk:σ0.length<=k) (τ:Sto):Grn σ0 (σ.set k none++τ):=by
 refine ⟨by simp;exact Nat.le_trans g.len (Nat.le_add_right _ _),fun j hj=> ?_⟩;rw [at_app (by simpa using Nat.lt_of_lt_of_le hj g.len),A05 (by omega)];exact g.same j hj
theorem C4y {C:G5} {N b:Nat} (e:PTerm) (he:OkTm e) (k:Nat) (hk:k<=4) (hN:5<=N) (a:TAct) (σ0 σ:Sto) (v0 v1 v2 v8 v41 v42 v43 v6:TV) (bd:List Int) (hg:Grn σ0 σ) (hbv:BV σ0.length σ v0 bd) (hbl:bd.length<=100000) (hdf:a.df=[])
  (h1:a.tm.get 1=some v1) (h2:a.tm.get 2=some v2) (h3:a.tm.get 3=some (.bx 0 (A5 e) 28)) (h6:a.tm.get 6=some v6) (h8:a.tm.get 8=some v8) (h41:a.tm.get 41=some v41) (h42:a.tm.get 42=some v42) (h43:a.tm.get 43=some v43)
  (h9:a.tm.get 9=some v0) (h61:a.tm.get 61=some (.int .i64 (k:Int))) (h62:a.tm.get 62=some (.int .i64 0)):
  Tw a41 b C N (fun ex a' σ'=>ex=.normal/\a'.df=[]/\Grn σ0 σ'/\(∃v,BV σ0.length σ' v (bd++C0 e.n k)/\a'.tm.get 9=some v)/\a'.tm.get 1=some v1/\a'.tm.get 2=some v2/\a'.tm.get 3=some (.bx 0 (A5 e) 28)/\a'.tm.get 6=some v6/\a'.tm.get 8=some v8/\a'.tm.get 41=some v41/\a'.tm.get 42=some v42/\a'.tm.get 43=some v43) [] (B6 a41 b C N C4x a σ):=by
 obtain ⟨tm,df,clk⟩:=a;simp only at hdf h1 h2 h3 h6 h8 h41 h42 h43 h9 h61 h62;subst hdf;simp [C4x]
 obtain ⟨I,hI⟩:∃I:Nat->TAct->Sto->Prop,I=(fun j a' σ'=>a'.df=[]/\Grn σ0 σ'/\(∃v,BV σ0.length σ' v (bd++C0 e.n j)/\a'.tm.get 9=some v)/\a'.tm.get 1=some v1/\a'.tm.get 2=some v2/\a'.tm.get 3=some (.bx 0 (A5 e) 28)/\a'.tm.get 6=some v6/\a'.tm.get 8=some v8/\a'.tm.get 41=some v41/\a'.tm.get 42=some v42/\a'.tm.get 43=some v43/\a'.tm.get 61=some (.int .i64 (k:Int))/\a'.tm.get 62=some (.int .i64 (j:Int))):=⟨_,rfl⟩
 obtain ⟨R,hR⟩:∃R:TEx->TAct->Sto->Prop,R=(fun ex a' σ'=>ex=.exit 3/\a'.df=[]/\Grn σ0 σ'/\(∃v,BV σ0.length σ' v (bd++C0 e.n k)/\a'.tm.get 9=some v)/\a'.tm.get 1=some v1/\a'.tm.get 2=some v2/\a'.tm.get 3=some (.bx 0 (A5 e) 28)/\a'.tm.get 6=some v6/\a'.tm.get 8=some v8/\a'.tm.get 41=some v41/\a'.tm.get 42=some v42/\a'.tm.get 43=some v43):=⟨_,rfl⟩;refine A9 I k R ?_ (by omega) ?_ ?_ ?_
 ·rw [hI];exact ⟨rfl,hg,⟨v0,by simpa [C0] using hbv,h9⟩,h1,h2,h3,h6,h8,h41,h42,h43,h61,by simpa using h62⟩
 ·rw [hI];rintro j ⟨tm,df,clk⟩ σ' hj ⟨rfl,hg,⟨v,hbv,h9⟩,h1,h2,h3,h6,h8,h41,h42,h43,h61,h62⟩;rw [<-hI];have hw1:IntKind.i64.wrap ((j:Int)+1)=((j+1:Nat):Int):=by rw [D7]<;>omega
  have h3':=h3;have hn:=he.n;unfold I64 at hn;have hsl:=A2n e.n j;rw [A0] at h3
  by_cases hov:e.n+(j:Int)<=9223372036854775807
  case neg=>
   have hw:¬e.n<=IntKind.i64.wrap (e.n+(j:Int)):=by rw [IntKind.wrap_i64];omega
   have hs:C0 e.n (j+1)=C0 e.n j:=by simp only [C0];rw [if_neg hov,List.append_nil]
   simp [h1,h2,h3,h6,h8,h9,h41,h42,h43,h61,h62,hj,hw1,hw];rw [hI];exact ⟨rfl,hg,⟨v,by rw [hs];exact hbv,by simp [h9]⟩,by simp [h1],by simp [h2],by simp [h3'],by simp [h6],by simp [h8],by simp [h41],by simp [h42],by simp [h43],by simp [h61],by simp⟩
  have hw:IntKind.i64.wrap (e.n+(j:Int))=e.n+(j:Int):=by rw [D7]<;>omega
  have hle:e.n<=e.n+(j:Int):=by omega
  have hs:C0 e.n (j+1)=C0 e.n j++[e.n+(j:Int)]:=by simp only [C0];rw [if_pos hov]
  have hlen:(bd++C0 e.n j).length<=100004:=by simp only [List.length_append];omega
  generalize hL:bd++C0 e.n j=L at hbv hlen;have hs':bd++C0 e.n (j+1)=L++[e.n+(j:Int)]:=by rw [hs,<-List.append_assoc,hL]
  generalize hx:e.n+(j:Int)=x at hw hle hs';rcases hbv with _|⟨_,hne⟩|⟨_,hlo,hne,hat⟩
  ·simp [h1,h2,h3,h6,h8,h9,h41,h42,h43,h61,h62,hj,hw1,hw,hle,hx];rw [hI];exact ⟨rfl,hg,⟨_,by rw [hs'];exact .own _ (by simp),by simp [encI]⟩,by simp [h1],by simp [h2],by simp [h3'],by simp [h6],by simp [h8],by simp [h41],by simp [h42],by simp [h43],by simp [h61],by simp⟩
  ·have hl2:L.length+1<=1073741824:=by omega
   simp [h1,h2,h3,h6,h8,h9,h41,h42,h43,h61,h62,hj,hw1,hw,hle,hx,hl2,encI];rw [hI];exact ⟨rfl,hg,⟨_,by rw [hs'];exact .own _ (by simp),by simp [encI]⟩,by simp [h1],by simp [h2],by simp [h3'],by simp [h6],by simp [h8],by simp [h41],by simp [h42],by simp [h43],by simp [h61],by simp⟩
  ·rename_i kk vk;have hl2:L.length+1<=1073741824:=by omega
   have hcl:(encZT L).length=L.length:=L7 L;have hct:(encZT L).take L.length=encZT L:=List.take_of_length_le (by omega);have hca:=A1A L;have hez:encZT (L++[x])=encZT L++[.int .i64 x]:=by rw [A2m];rfl
   have hgs:=hg.setapp hlo [some ⟨0,.cells (encZT (L++[x])) 3⟩];have hnw:Sto.at (σ'.set kk none++[some (⟨0,.cells (encZT (L++[x])) 3⟩:TObj)]) σ'.length=some ⟨0,.cells (encZT (L++[x])) 3⟩:=by
    have:=A4a (σ'.set kk none) ⟨0,.cells (encZT (L++[x])) 3⟩
    rwa [List.length_set] at this
   have hbv':BV σ0.length (σ'.set kk none++[some (⟨0,.cells (encZT (L++[x])) 3⟩:TObj)]) (.ref σ'.length 0 1 (L++[x]).length (D3+1)) (L++[x]):=.ref _ hg.len (by simp) hnw;rw [hez] at hgs hbv';simp only [List.length_append,List.length_cons,List.length_nil,Nat.zero_add] at hbv';generalize encZT L=cs at*;simp [h1,h2,h3,h6,h8,h9,h41,h42,h43,h61,h62,hj,hw1,hw,hle,hx,hl2,hat,hcl,hct,hca];rw [hI]
   exact ⟨rfl,hgs,⟨_,by rw [hs'];exact hbv',by simp⟩,by simp [h1],by simp [h2],by simp [h3'],by simp [h6],by simp [h8],by simp [h41],by simp [h42],by simp [h43],by simp [h61],by simp⟩
 ·rw [hI];rintro ⟨tm,df,clk⟩ σ' ⟨rfl,hg,hbv,h1,h2,h3,h6,h8,h41,h42,h43,h61,h62⟩;simp [h61,h62];rw [hR];obtain ⟨v,hbv,h9⟩:=hbv;exact ⟨rfl,rfl,hg,⟨v,hbv,by simp [h9]⟩,by simp [h1],by simp [h2],by simp [h3],by simp [h6],by simp [h8],by simp [h41],by simp [h42],by simp [h43]⟩
 ·rw [hR];rintro ex ⟨tm,df,clk⟩ σ' ⟨rfl,rfl,hg,hbv,h1,h2,h3,h6,h8,h41,h42,h43⟩;simp;exact ⟨hg,hbv,h1,h2,h3,h6,h8,h41,h42,h43⟩
theorem OutS.row_lt {σ:Sto} {po k:Nat} {l:List Int} (h:OutS σ po l) (e:rowOf σ po=some k):k<σ.length:=by
 obtain ⟨ver,ov,h1,h2⟩:=h;unfold rowOf at e;rw [h1] at e;cases h2 with
 |nl=>cases e
 |ref l hne hk=>cases e;exact Sto.lt hk
theorem BV.bdv {σ0 σ:Sto} {po:Nat} {v:TV} {l ol:List Int} (h:BV σ0.length σ v l) (ho:OutS σ0 po ol) (g:Grn σ0 σ):BdV σ po (frz v) l:=by
 cases h with
 |nl=>exact B9c σ po
 |own l hne=>exact ⟨.fz l,.inr hne,fun _ _ _ _ _ h=>(by cases h),rfl,rfl⟩
 |ref l hlo hne hk=>
  refine ⟨.ref l [] (by rw [List.append_nil];exact hk),.inr hne,fun k o s n c e=> ?_,rfl,rfl⟩;cases e;have hp:=ho.lt;refine ⟨by omega,fun hr=> ?_⟩;have hr2:rowOf σ0 po=rowOf σ po:=by unfold rowOf;rw [g.same po hp]
  have:=ho.row_lt (hr2.trans hr);omega
theorem D39 {N b:Nat} (h67:F 81=some f67) (e:PTerm) (he:OkTm e) (hN:5<=N) (a:TAct) (σ:Sto) (po:Nat) (ol:List Int) (bv:TV) (bd:List Int) (hb:BdV σ po bv bd) (ho:OutS σ po ol) (hbl:bd.length<=100000) (j:Nat) (hj:j<e.kids.length)
  (ih:∀(v:TV) (bd':List Int) (σ':Sto),BdV σ' po v bd'->OutS σ' po ol->bd'.length<=bd.length+4->
   ∃σ'',A4 F O (N+1) b 74 [.agg (A5 e.kids[j]),v,.ptr po 0] σ'=some (.ret (.tuple []),σ'')/\OutS σ'' po (ol++freeC bd' e.kids[j])/\Frm σ' σ'' po)
  (hdf:a.df=[]) (h1:a.tm.get 1=some bv) (h2:a.tm.get 2=some (.ptr po 0)) (h3:a.tm.get 3=some (.bx 0 (A5 e) 28)) (h6:a.tm.get 6=some (.int .i64 (P5 e)))
  (h41:a.tm.get 41=some (.sl .fz (e.kids.map A5))) (h42:a.tm.get 42=some (.int .i64 (e.kids.length:Int))) (h43:a.tm.get 43=some (.int .i64 (j:Int))):
  Tw a41 b (A4 F O (N+1)) (N+1) (fun ex a' σ'=>ex=.normal/\a'.df=[]/\OutS σ' po (ol++freeC (if j+1=e.kids.length then Q5 bd e else bd) e.kids[j])/\Frm σ σ' po/\a'.tm.get 1=some bv/\a'.tm.get 2=some (.ptr po 0)/\a'.tm.get 3=some (.bx 0 (A5 e) 28)/\a'.tm.get 6=some (.int .i64 (P5 e))/\
   a'.tm.get 41=some (.sl .fz (e.kids.map A5))/\a'.tm.get 42=some (.int .i64 (e.kids.length:Int))/\a'.tm.get 43=some (.int .i64 (j:Int))) [] (B6 a41 b (A4 F O (N+1)) (N+1) B4F a σ):=by
 obtain ⟨tm,df,clk⟩:=a;simp only at hdf h1 h2 h3 h6 h41 h42 h43;subst hdf;have hlen:=he.len;unfold maxLen at hlen;have hw1:IntKind.i64.wrap ((e.kids.length:Int) - 1)=(e.kids.length:Int) - 1:=by rw [D7]<;>omega
 have hml:=A84 e;have hown:=hb.own;have hgiv:=hb.give;have h3':=h3;rw [A0] at h3;generalize hkid:e.kids[j]=kid at ih;have hkd:A5 kid=[.int .i64 kid.kind,.int .i64 kid.n,.int .i64 kid.m,.int .i64 kid.val.kind,.int .i64 kid.val.n,.sl .fz (kid.val.list.map C9),.sl .fz (kid.odds.map encI),.sl .fz (kid.kids.map A5)]:=A0 kid
 by_cases hlast:j+1=e.kids.length
 case neg=>
  rw [if_neg hlast];obtain ⟨σ'',hc,hO,hF⟩:=ih bv bd σ hb ho (by omega);have hne:¬(j:Int)=(e.kids.length:Int) - 1:=by omega
  rw [hkd] at hc
  by_cases hm:0<P5 e
  ·have hints:=hb.ints;rcases hints with _|_|_
   all_goals simp [B4F,B71,h1,h2,h3,h6,h41,h42,h43,hj,hkid,hkd,hm,hw1,hne,hc,A6,hO,hF,A0 e]
  ·have hints:=hb.ints;rcases hints with _|_|_
   all_goals simp [B4F,B71,h1,h2,h3,h6,h41,h42,h43,hj,hkid,hkd,hm,hw1,hne,hc,A6,hO,hF,A0 e]
 ·rw [if_pos hlast]
  by_cases hm:0<P5 e
  case neg=>
   have e0:Q5 bd e=bd:=by
    unfold Q5;rw [show (P5 e).toNat=0 by omega];simp [C0]
   rw [e0];obtain ⟨σ'',hc,hO,hF⟩:=ih bv bd σ hb ho (by omega);rw [hkd] at hc;have hints:=hb.ints;rcases hints with _|_|_
   all_goals simp [B4F,B71,h1,h2,h3,h6,h41,h42,h43,hj,hkid,hkd,hm,hw1,hc,A6,hO,hF,A0 e]
  have hjl:((j:Int)=(e.kids.length:Int) - 1)=True:=eq_true (by omega);obtain ⟨mk,hmk⟩:∃mk:Nat,P5 e=(mk:Int):=⟨(P5 e).toNat,by omega⟩;have hin:Q5 bd e=bd++C0 e.n mk:=by unfold Q5;rw [hmk,Int.toNat_natCast]
  rw [hin];rw [hmk] at h6 hm hml ⊢;have hm':0<mk:=by omega
  have hsl:=A2n e.n mk;have hbl2:(bd++C0 e.n mk).length<=bd.length+4:=by rw [List.length_append];omega
  have fin:∀(a':TAct) (σ'':Sto) (s8:Nat),a'.df=[]->Grn σ σ''->(∃v,BV σ.length σ'' v (bd++C0 e.n mk)/\a'.tm.get 9=some v)->a'.tm.get 1=some bv->a'.tm.get 2=some (.ptr po 0)->a'.tm.get 3=some (.bx 0 (A5 e) 28)->a'.tm.get 6=some (.int .i64 (mk:Int))->a'.tm.get 8=some (.bx s8 (A5 kid) 28)->
    a'.tm.get 41=some (.sl .fz (e.kids.map A5))->a'.tm.get 42=some (.int .i64 (e.kids.length:Int))->a'.tm.get 43=some (.int .i64 (j:Int))->
    Tw a41 b (A4 F O (N+1)) (N+1) (fun ex a' σ'=>ex=.normal/\a'.df=[]/\OutS σ' po (ol++freeC (bd++C0 e.n mk) kid)/\Frm σ σ' po/\a'.tm.get 1=some bv/\a'.tm.get 2=some (.ptr po 0)/\a'.tm.get 3=some (.bx 0 (A5 e) 28)/\a'.tm.get 6=some (.int .i64 (mk:Int))/\
     a'.tm.get 41=some (.sl .fz (e.kids.map A5))/\a'.tm.get 42=some (.int .i64 (e.kids.length:Int))/\a'.tm.get 43=some (.int .i64 (j:Int))) [] (B6 a41 b (A4 F O (N+1)) (N+1) (.region [⟨(some 80),.loadN 8 (.tmp 8),none⟩,⟨(some 81),.move (.tmp 9),none⟩,⟨(some 82),.move (.tmp 2),none⟩,⟨(some 83),.call 74 [(.tmp 80),(.tmp 81),(.tmp 82)],none⟩]) a' σ''):=by
   rintro ⟨tm,df,clk⟩ σ'' s8 rfl hg ⟨v,hbv,h9⟩ h1 h2 h3 h6 h8 h41 h42 h43;simp only at h9 h1 h2 h3 h6 h8 h41 h42 h43;obtain ⟨σ3,hc,hO,hF⟩:=ih (frz v) _ σ'' (hbv.bdv ho hg) (ho.grn hg) hbl2;have hF2:=(hg.frm ho.lt).trans hF;rw [hkd] at hc h8;generalize bd++C0 e.n mk=L at hbv hc hO;rcases hbv with _|_|_
   all_goals simp [h1,h2,h3,h6,h8,h9,h41,h42,h43,hkd]
   all_goals simp only [frz] at hc
   all_goals simp [hc,hO,hF2,h1,h2,h3,h6,h41,h42,h43]
  by_cases hbn:bd=[]
  ·have hv:bv=.sl .nl []:=by
    rcases hb.ne with h|h
    ·exact h
    ·exact absurd hbn h
   have hcl:=B9a (O:=O) h67 N b σ;subst hv;simp [B4F,B71,h1,h2,h3,h6,h41,h42,h43,hj,hkid,hkd,hm,hm',hw1,hjl,hcl,A6];apply E2
   ·apply C4y (N:=N+1) (σ0:=σ) e he mk (by omega) (by omega)
    ·exact Grn.refl σ
    ·show BV σ.length σ (.sl .nl []) bd
     rw [hbn];exact .nl
    ·exact hbl
    ·rfl
    ·simp [h1];rfl
    ·simp [h2];rfl
    ·simp [A0 e,h3]
    ·simp [h6];rfl
    ·simp;rfl
    ·simp [h41];rfl
    ·simp [h42];rfl
    ·simp [h43];rfl
    ·simp
    ·simp
    ·simp
   ·rintro ex a' σ' ⟨rfl,q0,q1,q2,q3,q4,q5,q6,q7,q8,q9,q10⟩;exact fin a' σ' _ q0 q1 q2 q3 q4 q5 q6 (by rw [hkd];exact q7) q8 q9 q10
  ·have hcl:=B5M (O:=O) h67 N b bv bd σ hb.ints hbn (by omega);have hgr:Grn σ (σ++[some (⟨0,.cells [] 3⟩:TObj)]++[some ⟨0,.cells (encZT bd) 3⟩]):=(Grn.app σ _).trans (Grn.app _ _);have hbv:BV σ.length (σ++[some (⟨0,.cells [] 3⟩:TObj)]++[some ⟨0,.cells (encZT bd) 3⟩]) (.ref (σ.length+1) 0 1 bd.length (D3+1)) bd:=by
    refine .ref bd (by omega) hbn ?_ (ver:=0);have:=A4a (σ++[some (⟨0,.cells [] 3⟩:TObj)]) ⟨0,.cells (encZT bd) 3⟩
    rwa [List.length_append] at this
   generalize σ++[some (⟨0,.cells [] 3⟩:TObj)]++[some ⟨0,.cells (encZT bd) 3⟩]=σ1 at hcl hgr hbv;have hints:=hb.ints;rcases hints with _|_|_
   ·exact absurd rfl hbn
   all_goals simp [B4F,B71,h1,h2,h3,h6,h41,h42,h43,hj,hkid,hkd,hm,hm',hw1,hjl,hcl,A6]
   ·apply E2
    ·apply C4y (N:=N+1) (σ0:=σ) e he mk (by omega) (by omega)
     ·exact hgr
     ·exact hbv
     ·exact hbl
     ·rfl
     ·simp [h1];rfl
     ·simp [h2];rfl
     ·simp [A0 e,h3]
     ·simp [h6];rfl
     ·simp;rfl
     ·simp [h41];rfl
     ·simp [h42];rfl
     ·simp [h43];rfl
     ·simp
     ·simp
     ·simp
    ·rintro ex a' σ' ⟨rfl,q0,q1,q2,q3,q4,q5,q6,q7,q8,q9,q10⟩;exact fin a' σ' _ q0 q1 q2 q3 q4 q5 q6 (by rw [hkd];exact q7) q8 q9 q10
   ·apply E2
    ·apply C4y (N:=N+1) (σ0:=σ) e he mk (by omega) (by omega)
     ·exact hgr
     ·exact hbv
     ·exact hbl
     ·rfl
     ·simp [h1];rfl
     ·simp [h2];rfl
     ·simp [A0 e,h3]
     ·simp [h6];rfl
     ·simp;rfl
     ·simp [h41];rfl
     ·simp [h42];rfl
     ·simp [h43];rfl
     ·simp
     ·simp
     ·simp
    ·rintro ex a' σ' ⟨rfl,q0,q1,q2,q3,q4,q5,q6,q7,q8,q9,q10⟩;exact fin a' σ' _ q0 q1 q2 q3 q4 q5 q6 (by rw [hkd];exact q7) q8 q9 q10
theorem B2W (h41:F 74=some f41) (h66:F 32=some f66) (h67:F 81=some f67) (h111:F 72=some f111):∀(M N:Nat) (e:PTerm) (b:Nat) (σ:Sto) (po:Nat) (ol:List Int) (bv:TV) (bd:List Int),E3 e<=M->M+100010<=N->OkTm e->BdV σ po bv bd->OutS σ po ol->b<=po->
  bd.length+4*cntT e<=100000->ol.length+cntT e<=100000->
  ∃σ',A4 F O N b 74 [.agg (A5 e),bv,.ptr po 0] σ=some (.ret (.tuple []),σ')/\OutS σ' po (ol++freeC bd e)/\Frm σ σ' po
 |0,N,e,b,σ,po,ol,bv,bd,h,_,_,_,_,_,_,_=>by rw [B5] at h;omega
 |M+1,N,e,b,σ,po,ol,bv,bd,h,hN,he,hb,ho,hbp,hbl,hol=>by
  have ih:=B2W h41 h66 h67 h111 M;have hk:=H8 e.kids;have hs:=B5 e;have hcd:=J8 e;have hfd:=B04 bd e;obtain ⟨N,rfl⟩:∃n,N=n+3:=⟨N - 3,by omega⟩
  suffices hh:∃e' σ',A4 F O (N+2+1) b 74 [.agg (A5 e),bv,.ptr po 0] σ=some (e',σ')/\e'=.ret (.tuple [])/\OutS σ' po (ol++freeC bd e)/\Frm σ σ' po by
   obtain ⟨e',σ',q1,rfl,q2⟩:=hh;exact ⟨σ',q1,q2⟩
  refine D5 h41 ?_;simp [C16,A0 e];apply E2
  ·apply D38 (N:=N) h66 h111 e _ σ po ol bv bd hb ho hbp
   ·omega
   ·unfold maxLen;omega
   ·omega
   ·rfl
   ·simp
   ·simp
   ·simp [A0 e]
  rintro ex ⟨tm,df,clk⟩ σ1 ⟨rfl,ho1,hf1,hdf,h1,h2,h3⟩;simp only at hdf h1 h2 h3;subst hdf;simp;apply E2
  ·apply D0L e
   ·rfl
   ·simp [h1];rfl
   ·simp [h2];rfl
   ·simp [h3]
   ·simp
  rintro ex ⟨tm,df,clk⟩ σ2 ⟨rfl,rfl,hdf,h1,h2,h3,h6⟩;simp only at hdf h1 h2 h3 h6;subst hdf;have h3e:=h3;rw [A0] at h3e;simp [h3e];generalize hL1:ol++(if e.kind=2/\e.n∉bd then [e.n] else [])=L1 at ho1;have hl1:L1.length<=ol.length+1:=by rw [<-hL1];split<;>simp
  have htot:ol++freeC bd e=L1++S5 bd (Q5 bd e) e.kids:=by rw [hfd,<-List.append_assoc,hL1]
  rw [htot];have hinl:(Q5 bd e).length<=bd.length+4:=by
   have:=A2n e.n (P5 e).toNat;have:=A84 e;unfold Q5;rw [List.length_append];omega
  obtain ⟨I,hI⟩:∃I:Nat->TAct->Sto->Prop,I=(fun j a' σ'=>a'.df=[]/\(∃L,OutS σ' po L/\L++S5 bd (Q5 bd e) (e.kids.drop j)=L1++S5 bd (Q5 bd e) e.kids/\L.length+F7 (e.kids.drop j)<=100000)/\Frm σ σ' po/\a'.tm.get 1=some bv/\a'.tm.get 2=some (.ptr po 0)/\a'.tm.get 3=some (.bx 0 (A5 e) 28)/\a'.tm.get 6=some (.int .i64 (P5 e))/\
   a'.tm.get 41=some (.sl .fz (e.kids.map A5))/\a'.tm.get 42=some (.int .i64 (e.kids.length:Int))/\a'.tm.get 43=some (.int .i64 (j:Int))):=⟨_,rfl⟩
  obtain ⟨R,hR⟩:∃R:TEx->TAct->Sto->Prop,R=(fun ex a' σ'=>ex=.exit 1/\a'.df=[]/\OutS σ' po (L1++S5 bd (Q5 bd e) e.kids)/\Frm σ σ' po):=⟨_,rfl⟩;refine A9 I e.kids.length R ?_ (by omega) ?_ ?_ ?_
  ·rw [hI];exact ⟨rfl,⟨L1,ho1,by rw [List.drop_zero],by rw [List.drop_zero];omega⟩,hf1,by simp [h1],by simp [h2],by simp [h3],by simp [h6],by simp,by simp,by simp⟩
  ·rw [hI];rintro j ⟨tm,df,clk⟩ σ' hj ⟨rfl,⟨L,hO,hLL,hln⟩,hF,h1,h2,h3,h6,h41,h42,h43⟩;rw [<-hI];have hw:=C8 hj he.len;rw [B2V hj,<-List.append_assoc] at hLL;have hmem:=List.getElem_mem hj;have hszk:=D9 _ _ hmem;have hck:=O1 _ _ hmem;rw [A47 hj] at hln;simp [h42,h43,hj];apply E2
   ·apply D39 (N:=N+1) h67 e he (by omega) _ σ' po L bv bd (hb.frm hF) hO (by omega) j hj
    ·intro v bd' σ3 hb3 ho3 hl3;exact ih (N+2) e.kids[j] b σ3 po L v bd' (by omega) (by omega) (he.sub _ hmem) hb3 ho3 hbp (by omega) (by omega)
    ·rfl
    ·simp [h1]
    ·simp [h2]
    ·simp [h3]
    ·simp [h6]
    ·simp [h41]
    ·simp [h42]
    ·simp [h43]
   rintro ex ⟨tm,df,clk⟩ σ4 ⟨rfl,hdf,hO4,hF4,h1,h2,h3,h6,h41,h42,h43⟩;simp only at hdf h1 h2 h3 h6 h41 h42 h43;subst hdf;simp [h43,hw];rw [hI];have hfl:(freeC (if j+1=e.kids.length then Q5 bd e else bd) e.kids[j]).length<=cntT e.kids[j]:=A5B _ _
   exact ⟨rfl,⟨_,hO4,hLL,by rw [List.length_append];omega⟩,hF.trans hF4,by simp [h1],by simp [h2],by simp [h3],by simp [h6],by simp [h41],by simp [h42],by simp⟩
  ·rw [hI];rintro ⟨tm,df,clk⟩ σ' ⟨rfl,⟨L,hO,hLL,hln⟩,hF,h1,h2,h3,h6,h41,h42,h43⟩;rw [List.drop_of_length_le (Nat.le_refl _)] at hLL;simp only [S5,List.append_nil] at hLL;subst hLL;simp [h42,h43];rw [hR];exact ⟨rfl,rfl,hO,hF⟩
  ·rw [hR];rintro ex ⟨tm,df,clk⟩ σ' ⟨rfl,rfl,hO,hF⟩;simp;exact ⟨hO,hF⟩
theorem A86:∀l:List Int,A40 (encZT l)=some l
 |[]=>rfl
 |x::l=>by
  have:=A86 l;unfold encZT at this;simp only [encZT,List.map_cons,A40,this]
theorem B73 {vs l:List TV} (h:l.length=vs.length):putAt vs 0 l=l:=by
 unfold putAt;simp [h]
theorem C2h {k ver e c:Nat} {σ:Sto} (mk:Mk) (l:List Int) (hne:l≠[]) (hl:l.length<=1073741824) (hk:σ.at k=some ⟨ver,.cells (encZT l) e⟩):
  B8j mk [.ref k 0 1 l.length c] σ=some (.ret (B5s mk k 0 1 l c),σ.set k (some ⟨ver+1,.cells (encZT (A0b mk l)) e⟩)):=by
 have h0:¬l.length=0:=fun e=>hne (List.length_eq_zero_iff.1 e)
 have hlen:(encZT l).length=l.length:=L7 l;have ht:(encZT l).take l.length=encZT l:=List.take_of_length_le (by omega);have hp:putAt (encZT l) 0 (encZT (A0b mk l))=encZT (A0b mk l):=B73 (by rw [L7,L7,A7v]);have hi:=A86 l;unfold B8j;simp only [C81,C80,decide_eq_false h0,hk,List.drop_zero,ht,hi,Nat.zero_add,hlen,decide_eq_true (Nat.le_refl _),decide_eq_true hl,Bool.and_self,hp]
theorem A97 (l:List Int):∃tl,A0b .compact l=F0 l++tl:=⟨_,rfl⟩
structure RowO (F:FuncId->Option TFun) (O:FuncId->List TV->Option TV):Prop where
 f42:F 75=none
 f43:F 76=none
 o42:∀args,O 75 args=some (.agg [])
 o43:∀args,O 76 args=some (.agg [.bool true])
theorem C4z (R:RowO F O) {k ver e c:Nat} {σ:Sto} (N b:Nat) (l:List Int) (hne:l≠[]) (hl:l.length<=1073741824) (hk:σ.at k=some ⟨ver,.cells (encZT l) e⟩):
  A4 F O (N+1) b 75 [.ref k 0 1 l.length c] σ=some (.ret (.tuple []),σ.set k (some ⟨ver+1,.cells (encZT (W3 l)) e⟩)):=by
 simp only [A4,R.f42,R.o42,A94,A4T];exact C2h .sort l hne hl hk
theorem B4H (R:RowO F O) (σ:Sto) (N b:Nat):A4 F O (N+1) b 75 [.sl .nl []] σ=some (.ret (.tuple []),σ):=by
 simp only [A4,R.f42,R.o42,A94,A4T];rfl
theorem B74 (R:RowO F O) {k ver e c:Nat} {σ:Sto} (N b:Nat) (l:List Int) (hne:l≠[]) (hl:l.length<=1073741824) (hk:σ.at k=some ⟨ver,.cells (encZT l) e⟩):
  A4 F O (N+1) b 76 [.ref k 0 1 l.length c] σ=some (.ret (.ref k 0 1 (F0 l).length c),σ.set k (some ⟨ver+1,.cells (encZT (A0b .compact l)) e⟩)):=by
 simp only [A4,R.f43,R.o43,A94,A4T];exact C2h .compact l hne hl hk
theorem A98 (R:RowO F O) (σ:Sto) (N b:Nat):A4 F O (N+1) b 76 [.sl .nl []] σ=some (.ret (.sl .nl []),σ):=by
 simp only [A4,R.f43,R.o43,A94,A4T];rfl
theorem A3j (l:List Int):(W3 l).length=l.length:=by unfold W3;simp
theorem B9d (h19:F 36=some f19) (h41:F 74=some f41) (h66:F 32=some f66) (h67:F 81=some f67) (h111:F 72=some f111) (R:RowO F O) (N:Nat) (e:PTerm) (b:Nat) (σ:Sto) (hN:E3 e+100010<=N) (he:OkTm e) (hc:cntT e<=3000) (hbσ:b<=σ.length):
  ∃v σ',A4 F O (N+1) b 36 [.agg (A5 e)] σ=some (.ret v,σ')/\IntsV σ' v (F0 (W3 (freeC [] e)))/\give v=some v/\Grn σ σ':=by
 suffices hh:∃e' σ',A4 F O (N+1) b 36 [.agg (A5 e)] σ=some (e',σ')/\∃v,e'=.ret v/\IntsV σ' v (F0 (W3 (freeC [] e)))/\give v=some v/\Grn σ σ' by
  obtain ⟨e',σ',q1,v,rfl,q2⟩:=hh;exact ⟨v,σ',q1,q2⟩
 refine D5 h19 ?_;obtain ⟨σ0,hσ0⟩:∃σ0,σ0=σ++[some (⟨0,.cells [.sl .nl []] 25⟩:TObj)]:=⟨_,rfl⟩;have hpo:σ0.at σ.length=some ⟨0,.cells [.sl .nl []] 25⟩:=by rw [hσ0];exact A4a _ _
 have hg0:Grn σ σ0:=by rw [hσ0];exact Grn.app _ _
 obtain ⟨M,rfl⟩:∃M,N=M+1:=⟨N - 1,by omega⟩;obtain ⟨σ1,hc1,⟨ver,ov,hp1,hov⟩,hF⟩:=B2W (O:=O) h41 h66 h67 h111 (E3 e) (M+1) e b σ0 σ.length [] (.sl .nl []) [] (Nat.le_refl _) hN he (B9c _ _) ⟨0,_,hpo,.nl⟩ hbσ (by simp;omega) (by simp;omega);rw [List.nil_append] at hov;have hlen:=A5B [] e;generalize freeC [] e=l at hov hlen ⊢;have hg1:Grn σ σ1:=by
  refine ⟨Nat.le_trans hg0.len hF.len,fun k hk=> ?_⟩;rw [hF.same k (Nat.lt_of_lt_of_le hk hg0.len) (by omega) ?_,hg0.same k hk];unfold rowOf;rw [hpo];intro h;cases h
 have hge:∀k,rowOf σ1 σ.length=some k->σ.length<=k:=fun k hr=>by
  rcases hF.row k hr with h|h
  ·unfold rowOf at h;rw [hpo] at h;cases h
  ·exact Nat.le_trans hg0.len h
 rw [A0 e] at hc1;rcases hov with _|⟨_,hne,hk⟩
 ·have h1:=B4H R σ1 M b;have h2:=A98 R σ1 M b;simp [x19,A0 e,<-hσ0,hc1,hp1,h1,h2];have e0:F0 (W3 [])=[]:=by
   have:W3 []=[]:=List.length_eq_zero_iff.1 (A3j []);rw [this];unfold F0;rfl
  rw [e0];exact ⟨.nl,hg1⟩
 ·rename_i k vk;have hkp:k≠σ.length:=by
   rintro rfl;rw [hp1] at hk;simp at hk
  have hkl:=hge k (by unfold rowOf;rw [hp1]);have hl2:l.length<=1073741824:=by omega
  have h1:=C4z (c:=D3+1) R M b l hne hl2 hk;have hs0:W3 l≠[]:=fun e=>hne (List.length_eq_zero_iff.1 (by rw [<-A3j,e];rfl))
  have hk2:Sto.at (σ1.set k (some ⟨vk+1,.cells (encZT (W3 l)) 3⟩)) k=some ⟨vk+1,.cells (encZT (W3 l)) 3⟩:=by
   simp only [Sto.at];rw [List.getElem?_set_self (Sto.lt hk)]
  have h2:=B74 (c:=D3+1) R M b (W3 l) hs0 (by rw [A3j];exact hl2) hk2;rw [A3j] at h2;have hp2:Sto.at (σ1.set k (some ⟨vk+1,.cells (encZT (W3 l)) 3⟩)) σ.length=_:=(A05 hkp).trans hp1;obtain ⟨tl,htl⟩:=A97 (W3 l);rw [htl] at h2;simp [x19,A0 e,<-hσ0,hc1,hp1,h1,h2,hp2];refine ⟨.ref _ tl ?_ (ver:=vk+1+1) (e:=3),⟨by simpa using hg1.len,fun j hj=> ?_⟩⟩
  ·simp only [Sto.at];rw [List.getElem?_set_self (Sto.lt hk)]
  ·rw [A05 (by omega)];exact hg1.same j hj
theorem C17 (h45:F 78=some f45) (N:Nat) (t:PTerm) (b:Nat) (σ:Sto):A4 F O (N+1) b 78 [.agg (A5 t)] σ=some (.ret (.int .i64 (P5 t)),σ):=by
 refine A3 h45 ?_;unfold P5
 by_cases k9:t.kind=9
 ·rw [if_neg (by omega),if_pos k9];simp [x45,A6,A0,k9]
 by_cases k7:t.kind=7
 case neg=>rw [if_neg k7,if_neg k9];simp [x45,A6,A0,k9,k7]
 rw [if_pos k7]
 by_cases h1:t.m<0
 ·rw [show min (max t.m 0) 4=0 by omega];simp [x45,A6,A0,k7,h1]
 by_cases h2:4<t.m
 ·rw [show min (max t.m 0) 4=4 by omega];simp [x45,A6,A0,k7,h1,h2]
 ·rw [show min (max t.m 0) 4=t.m by omega];simp [x45,A6,A0,k7,h1,h2]
theorem A2o {n:Int} {j:Nat} (h:9223372036854775807<n+(j:Int)):∀k,j<=k->C0 n k=C0 n j
 |0,hk=>by rw [show j=0 by omega]
 |k+1,hk=>by
  by_cases hj:j=k+1
  ·rw [hj]
  ·have:=A2o h k (by omega);simp only [C0];rw [if_neg (by omega),List.append_nil,this]
theorem A4b {n s:Int} {j k:Nat} (h:s∈C0 n j) (hk:j<=k):s∈C0 n k:=by
 induction k with
 |zero=>rw [show j=0 by omega] at h;exact h
 |succ k ih=>
  by_cases hj:j=k+1
  ·rw [hj] at h;exact h
  ·simp only [C0,List.mem_append];exact .inl (ih (by omega))
theorem C18 (h46:F 79=some f46) (N:Nat) (s n:Int) (hn:I64 n) (k:Nat) (hk:k<=4) (hN:5<=N) (b:Nat) (σ:Sto):
  A4 F O (N+1) b 79 [.int .i64 s,.int .i64 n,.int .i64 (k:Int)] σ=some (.ret (.bool (decide (s∈C0 n k))),σ):=by
 refine A3 h46 ?_;simp [x46];obtain ⟨I,hI⟩:∃I:Nat->TAct->Sto->Prop,I=(fun j a σ'=>a.df=[]/\σ'=σ/\s∉C0 n j/\a.tm.get 0=some (.int .i64 s)/\a.tm.get 1=some (.int .i64 n)/\a.tm.get 2=some (.int .i64 (k:Int))/\a.tm.get 7=some (.int .i64 (j:Int))):=⟨_,rfl⟩;obtain ⟨R,hR⟩:∃R:TEx->TAct->Sto->Prop,R=(fun ex a σ'=>a.df=[]/\σ'=σ/\(ex=.exit 0/\s∉C0 n k\/ex=.ret/\a.tm.get 6=some (.bool (decide (s∈C0 n k))))):=⟨_,rfl⟩
 refine A9 I k R ?_ (by omega) ?_ ?_ ?_
 ·rw [hI];exact ⟨rfl,rfl,by simp [C0],by simp,by simp,by simp,by simp⟩
 ·rw [hI];rintro j ⟨tm,df,clk⟩ σ' hj ⟨rfl,rfl,hd,h0,h1,h2,h7⟩;rw [<-hI];have hw:=C8 (n:=4) (j:=j) (by omega) (by unfold maxLen;omega);have hw2:IntKind.i64.wrap (9223372036854775807 - (j:Int))=9223372036854775807 - (j:Int):=by rw [D7]<;>omega
  unfold I64 at hn
  by_cases ho:9223372036854775807 - (j:Int)<n
  ·simp [h0,h1,h2,h7,hj,hw2,ho];rw [hR];have e1:=A2o (n:=n) (j:=j) (by omega) k (by omega);exact ⟨rfl,rfl,.inr ⟨rfl,by rw [e1,decide_eq_false hd];simp⟩⟩
  have hw3:IntKind.i64.wrap (n+(j:Int))=n+(j:Int):=by rw [D7]<;>omega
  have e2:C0 n (j+1)=C0 n j++[n+(j:Int)]:=by simp only [C0];rw [if_pos (by omega)]
  by_cases he:n+(j:Int)=s
  ·have heq:(n+(j:Int)=s)=True:=eq_true he;simp [h0,h1,h2,h7,hj,hw2,ho,hw3,heq];rw [hR];have hm:s∈C0 n k:=A4b (j:=j+1) (by rw [e2];simp [he]) (by omega);exact ⟨rfl,rfl,.inr ⟨rfl,by rw [decide_eq_true hm];simp⟩⟩
  ·simp [h0,h1,h2,h7,hj,hw2,ho,hw3,he,hw];rw [hI];refine ⟨rfl,rfl,?_,by simp [h0],by simp [h1],by simp [h2],by simp⟩;rw [e2];simp only [List.mem_append,List.mem_singleton];rintro (h|h)
   ·exact hd h
   ·exact he h.symm
 ·rw [hI];rintro ⟨tm,df,clk⟩ σ' ⟨rfl,rfl,hd,h0,h1,h2,h7⟩;simp [h2,h7];rw [hR];exact ⟨rfl,rfl,.inl ⟨rfl,hd⟩⟩
 ·rw [hR];rintro ex ⟨tm,df,clk⟩ σ' ⟨rfl,rfl,⟨rfl,h⟩|⟨rfl,h⟩⟩
  ·simp [h]
  ·simp [h]
theorem B1l (b:Nat) (l:List Int) (n:Int):below.belowss b (l.map encI++[[.int .i64 n]])=true:=by
 have:=A82 b (l++[n])
 rwa [List.map_append] at this
def A1l (n:Int):List Int->List Int
 |[]=>[n]
 |x::l=>if n<=x then (if n<x then n::x::l else x::l) else x::A1l n l
theorem A87 (n:Int):∀l,(A1l n l).length<=l.length+1
 |[]=>Nat.le_refl _
 |x::l=>by
  have:=A87 n l;simp only [A1l];split
  ·split<;>simp
  ·simp;omega
def A5C (d:Bool) (n:Int) (l:List Int):List Int:=match d with|true=>l|false=>A1l n l
theorem D0M (h44:F 77=some f44) (N:Nat) (va:TV) (l:List Int) (n:Int) (b:Nat) (σ:Sto) (hv:va=.sl .fz (l.map encI)) (hl:l.length<=1000000) (hN:l.length<N):
  A4 F O (N+1) b 77 [va,.int .i64 n] σ=some (.ret (.sl .fz ((A1l n l).map encI)),σ):=by
 refine A3 h44 ?_;have hva:=hv;simp [x44,hva];obtain ⟨I,hI⟩:∃I:Nat->TAct->Sto->Prop,I=(fun j a σ'=>a.df=[]/\σ'=σ/\(∃(L:List Int) (v:TV) (d:Bool),BldI L v/\L.length<=j+1/\(d=false->L.length<=j)/\L++A5C d n (l.drop j)=A1l n l/\a.tm.get 5=some v/\a.tm.get 6=some (.bool d))/\a.tm.get 0=some va/\a.tm.get 1=some (.int .i64 n)/\a.tm.get 7=some (.int .i64 (j:Int))):=⟨_,rfl⟩
 obtain ⟨R,hR⟩:∃R:TEx->TAct->Sto->Prop,R=(fun ex a σ'=>ex=.exit 0/\a.df=[]/\σ'=σ/\(∃(L:List Int) (v:TV) (d:Bool),BldI L v/\L.length<=l.length+1/\L++A5C d n []=A1l n l/\a.tm.get 5=some v/\a.tm.get 6=some (.bool d))/\a.tm.get 1=some (.int .i64 n)):=⟨_,rfl⟩;refine A9 I l.length R ?_ hN ?_ ?_ ?_
 ·rw [hI];exact ⟨rfl,rfl,⟨[],_,false,.nl,by simp,fun _=>by simp,rfl,by simp,by simp⟩,by simp [hva],by simp,by simp⟩
 ·rw [hI];rintro j ⟨tm,df,clk⟩ σ' hj ⟨rfl,rfl,⟨L,v,d,hB,hLl,hLf,hLL,h5,h6⟩,h0,h1,h7⟩;rw [<-hI];have hw:=C8 hj (by unfold maxLen;omega:l.length<=maxLen);rw [List.drop_eq_getElem_cons hj] at hLL;have hva2:=hva;rw [hva] at h0;skip;have hl1:L.length+1<=1073741824:=by omega
  have hl2:L.length+1+1<=1073741824:=by omega
  cases d with
  |true=>
   have hLL:(L++[l[j]])++A5C true n (l.drop (j+1))=A1l n l:=by rw [<-hLL];simp only [A5C];rw [List.append_assoc];rfl
   rcases hB with _|_
   ·simp [h0,h1,h5,h6,h7,hj,hw,A6,encI];rw [hI];exact ⟨rfl,rfl,⟨_,_,true,.own _,by simp only [List.length_append,List.length_cons,List.length_nil] at*;omega,fun h=>(by cases h),hLL,by simp [encI],by simp [h6]⟩,by simp [h0,hva],by simp [h1],by simp⟩
   ·simp [h0,h1,h5,h6,h7,hj,hw,A6,encI,hl1];rw [hI];exact ⟨rfl,rfl,⟨_,_,true,.own _,by simp only [List.length_append,List.length_cons,List.length_nil] at*;omega,fun h=>(by cases h),hLL,by simp [encI],by simp [h6]⟩,by simp [h0,hva],by simp [h1],by simp⟩
  |false=>
   simp only [A5C,A1l] at hLL
   by_cases hle:n<=l[j]
   ·rw [if_pos hle] at hLL
    by_cases hlt:n<l[j]
    ·rw [if_pos hlt] at hLL;have hLL:(L++[n]++[l[j]])++A5C true n (l.drop (j+1))=A1l n l:=by rw [<-hLL];simp only [A5C];rw [List.append_assoc,List.append_assoc];rfl
     have hl0:L.length<=j:=hLf rfl;rcases hB with _|_
     ·simp [h0,h1,h5,h6,h7,hj,hw,A6,encI,hle,hlt];rw [hI];exact ⟨rfl,rfl,⟨_,_,true,.own _,by simp only [List.length_append,List.length_cons,List.length_nil] at*;omega,fun h=>(by cases h),hLL,by simp [encI],by simp⟩,by simp [h0,hva],by simp [h1],by simp⟩
     ·simp [h0,h1,h5,h6,h7,hj,hw,A6,encI,hle,hlt,hl1,hl2];rw [hI];exact ⟨rfl,rfl,⟨_,_,true,.own _,by simp only [List.length_append,List.length_cons,List.length_nil] at*;omega,fun h=>(by cases h),hLL,by simp [encI],by simp⟩,by simp [h0,hva],by simp [h1],by simp⟩
    ·rw [if_neg hlt] at hLL;have hLL:(L++[l[j]])++A5C true n (l.drop (j+1))=A1l n l:=by rw [<-hLL];simp only [A5C];rw [List.append_assoc];rfl
     rcases hB with _|_
     ·simp [h0,h1,h5,h6,h7,hj,hw,A6,encI,hle,hlt];rw [hI];exact ⟨rfl,rfl,⟨_,_,true,.own _,by simp only [List.length_append,List.length_cons,List.length_nil] at*;omega,fun h=>(by cases h),hLL,by simp [encI],by simp⟩,by simp [h0,hva],by simp [h1],by simp⟩
     ·simp [h0,h1,h5,h6,h7,hj,hw,A6,encI,hle,hlt,hl1];rw [hI];exact ⟨rfl,rfl,⟨_,_,true,.own _,by simp only [List.length_append,List.length_cons,List.length_nil] at*;omega,fun h=>(by cases h),hLL,by simp [encI],by simp⟩,by simp [h0,hva],by simp [h1],by simp⟩
   ·rw [if_neg hle] at hLL;have hLL:(L++[l[j]])++A5C false n (l.drop (j+1))=A1l n l:=by rw [<-hLL];simp only [A5C];rw [List.append_assoc];rfl
    rcases hB with _|_
    ·simp [h0,h1,h5,h6,h7,hj,hw,A6,encI,hle];rw [hI];exact ⟨rfl,rfl,⟨_,_,false,.own _,by simp only [List.length_append,List.length_cons,List.length_nil] at*;omega,fun _=>by have:=hLf rfl;simp only [List.length_append,List.length_cons,List.length_nil] at*;omega,hLL,by simp [encI],by simp [h6]⟩,by simp [h0,hva],by simp [h1],by simp⟩
    ·simp [h0,h1,h5,h6,h7,hj,hw,A6,encI,hle,hl1];rw [hI];exact ⟨rfl,rfl,⟨_,_,false,.own _,by simp only [List.length_append,List.length_cons,List.length_nil] at*;omega,fun _=>by have:=hLf rfl;simp only [List.length_append,List.length_cons,List.length_nil] at*;omega,hLL,by simp [encI],by simp [h6]⟩,by simp [h0,hva],by simp [h1],by simp⟩
 ·rw [hI];rintro ⟨tm,df,clk⟩ σ' ⟨rfl,rfl,⟨L,v,d,hB,hLl,hLf,hLL,h5,h6⟩,h0,h1,h7⟩;rw [List.drop_of_length_le (Nat.le_refl _)] at hLL;rw [hva] at h0;simp [h0,h1,h7];rw [hR];exact ⟨rfl,rfl,rfl,⟨L,v,d,hB,hLl,hLL,by simp [h5],by simp [h6]⟩,by simp [h1]⟩
 ·rw [hR];rintro ex ⟨tm,df,clk⟩ σ' ⟨rfl,rfl,rfl,⟨L,v,d,hB,hLl,hLL,h5,h6⟩,h1⟩;have hl1:L.length+1<=1073741824:=by omega
  cases d with
  |true=>
   simp only [A5C,List.append_nil] at hLL;rw [<-hLL];rcases hB with _|_
   ·simp [h5,h6]
   ·simp [h5,h6]
  |false=>
   simp only [A5C,A1l] at hLL;rw [<-hLL];rcases hB with _|_
   ·simp [h1,h5,h6,encI]
   ·simp [h1,h5,h6,encI,hl1,B1l]
theorem B9e (h44:F 77=some f44) (N:Nat) (n:Int) (b:Nat) (σ:Sto) (hN:0<N):
  A4 F O (N+1) b 77 [.sl .nl [],.int .i64 n] σ=some (.ret (.sl .fz ([n].map encI)),σ):=by
 refine A3 h44 ?_;simp [x44];refine A9 (I:=fun j a σ'=>a.df=[]/\σ'=σ/\a.tm.get 0=some (.sl .nl [])/\a.tm.get 1=some (.int .i64 n)/\a.tm.get 5=some (.sl .nl [])/\a.tm.get 6=some (.bool false)/\a.tm.get 7=some (.int .i64 0)) 0
  (R:=fun ex a σ'=>ex=.exit 0/\a.df=[]/\σ'=σ/\a.tm.get 1=some (.int .i64 n)/\a.tm.get 5=some (.sl .nl [])/\a.tm.get 6=some (.bool false)) ?_ hN ?_ ?_ ?_
 ·simp
 ·intro j a σ' hj;omega
 ·rintro ⟨tm,df,clk⟩ σ' ⟨rfl,rfl,h0,h1,h5,h6,h7⟩;simp [h0,h1,h5,h6,h7]
 ·rintro ex ⟨tm,df,clk⟩ σ' ⟨rfl,rfl,rfl,h1,h5,h6⟩;simp [h1,h5,h6,encI]
inductive FzV:TV->List Int->Prop
 |nl:FzV (.sl .nl []) []
 |fz (l:List Int):FzV (.sl .fz (l.map encI)) l
theorem C4A (h44:F 77=some f44) (N:Nat) (va:TV) (l:List Int) (n:Int) (b:Nat) (σ:Sto) (hv:FzV va l) (hl:l.length<=1000000) (hN:l.length<N):
  A4 F O (N+1) b 77 [va,.int .i64 n] σ=some (.ret (.sl .fz ((A1l n l).map encI)),σ):=by
 cases hv with
 |nl=>exact B9e h44 N n b σ (by omega)
 |fz l=>exact D0M h44 N _ l n b σ rfl hl hN
def A2F (n:Int) (kk:Nat):List Int->List Int->List Int
 |out,[]=>out
 |out,s::l=>A2F n kk (if s∈C0 n kk then out else A1l s out) l
def B2X (kk:Nat):List PTerm->Nat
 |[]=>kk
 |_::_=>0
mutual
def refF:PTerm->List Int
 |.mk k n m v o ks=>A1B n (P5 (.mk k n m v o ks)).toNat (if k=2 then [n] else []) ks
def A1B (n:Int) (kk:Nat) (out:List Int):List PTerm->List Int
 |[]=>out
 |t::l=>A1B n kk (A2F n (B2X kk l) out (refF t)) l
end
theorem B2Y (t:PTerm):refF t=A1B t.n (P5 t).toNat (if t.kind=2 then [t.n] else []) t.kids:=by cases t;simp only [refF,PTerm.kind,PTerm.n,PTerm.kids];rfl
theorem B4I {n:Int} {kk:Nat} {out:List Int} {l:List PTerm} {j:Nat} (hj:j<l.length):A1B n kk out (l.drop j)=A1B n kk (A2F n (if j+1=l.length then kk else 0) out (refF l[j])) (l.drop (j+1)):=by
 rw [List.drop_eq_getElem_cons hj];simp only [A1B];congr 2
 by_cases h:j+1=l.length
 ·rw [if_pos h,List.drop_of_length_le (by omega)];rfl
 ·rw [if_neg h,List.drop_eq_getElem_cons (by omega)];rfl
theorem B75 {n:Int} {kk:Nat} {out l:List Int} {j:Nat} (hj:j<l.length):A2F n kk out (l.drop j)=A2F n kk (if l[j]∈C0 n kk then out else A1l l[j] out) (l.drop (j+1)):=by
 rw [List.drop_eq_getElem_cons hj];rfl
theorem A88 (n:Int) (kk:Nat):∀(l out:List Int),(A2F n kk out l).length<=out.length+l.length
 |[],out=>Nat.le_refl _
 |s::l,out=>by
  simp only [A2F,List.length_cons];have:=A88 n kk l (if s∈C0 n kk then out else A1l s out);have h2:=A87 s out;split at this<;>rename_i h
  ·rw [if_pos h];omega
  ·rw [if_neg h];omega
mutual
theorem A52:∀t,(refF t).length<=cntT t
 |.mk k n m v o ks=>by
  have:=B05 n (P5 (.mk k n m v o ks)).toNat (if k=2 then [n] else []) ks;simp only [refF,cntT];have h2:(if k=2 then [n] else []).length<=1:=by split<;>simp
  omega
theorem B05 (n:Int) (kk:Nat) (out:List Int):∀l,(A1B n kk out l).length<=out.length+F7 l
 |[]=>Nat.le_refl _
 |t::l=>by
  simp only [A1B,F7];have h1:=A52 t;have h2:=A88 n (B2X kk l) (refF t) out;have h3:=B05 n kk (A2F n (B2X kk l) out (refF t)) l;omega
end
def C19:XCode:=(by exact fun x _=>x:V0 (gT x20.body [1,1,1,0,1,0,0,1,0,0,1,1,1,1])) _ (by conv=>lhs;cbv)
def B9f:XCode:=(by exact fun x _=>x:V1 (fun a=>pT (gT x20.body [1,1,1,0,1,0,0,1,0,0]) [1,1,1,1] a)) _ (by intros;conv=>lhs;cbv) C19
theorem B5P:x20=(by exact fun x _=>x:V1 (fun a=>({x20 with body:=pT (x20.body) [1,1,1,0,1,0,0,1,0,0] a}:XFun))) _ (by intros;conv=>lhs;cbv) B9f:=rfl
theorem C4B {N b:Nat} (h44:F 77=some f44) (h46:F 79=some f46) (e:PTerm) (he:OkTm e) (kk:Nat) (hkk:kk<=4) (hN:20000<=N) (a:TAct) (σ:Sto) (v0:TV) (out0 L:List Int) (hv:FzV v0 out0) (hl:out0.length+L.length<=10000) (v4:TV)
  (hdf:a.df=[]) (h1:a.tm.get 1=some (.bx 0 (A5 e) 28)) (h3:a.tm.get 3=some v0) (h4:a.tm.get 4=some v4) (h5:a.tm.get 5=some (.int .i64 (kk:Int))) (h6:a.tm.get 6=some (.sl .fz (L.map encI))) (h7:a.tm.get 7=some (.int .i64 0)):
  Tw a20 b (A4 F O (N+1)) (N+1) (fun ex a' σ'=>ex=.normal/\a'.df=[]/\σ'=σ/\(∃v,FzV v (A2F e.n kk out0 L)/\a'.tm.get 3=some v)/\a'.tm.get 1=some (.bx 0 (A5 e) 28)/\a'.tm.get 4=some v4) [] (B6 a20 b (A4 F O (N+1)) (N+1) C19 a σ):=by
 obtain ⟨tm,df,clk⟩:=a;simp only at hdf h1 h3 h4 h5 h6 h7;subst hdf;simp [C19]
 obtain ⟨I,hI⟩:∃I:Nat->TAct->Sto->Prop,I=(fun j a' σ'=>a'.df=[]/\σ'=σ/\(∃v out,FzV v out/\A2F e.n kk out (L.drop j)=A2F e.n kk out0 L/\out.length<=out0.length+j/\a'.tm.get 3=some v)/\a'.tm.get 1=some (.bx 0 (A5 e) 28)/\a'.tm.get 4=some v4/\a'.tm.get 5=some (.int .i64 (kk:Int))/\a'.tm.get 6=some (.sl .fz (L.map encI))/\a'.tm.get 7=some (.int .i64 (j:Int))):=⟨_,rfl⟩
 obtain ⟨R,hR⟩:∃R:TEx->TAct->Sto->Prop,R=(fun ex a' σ'=>ex=.exit 2/\a'.df=[]/\σ'=σ/\(∃v,FzV v (A2F e.n kk out0 L)/\a'.tm.get 3=some v)/\a'.tm.get 1=some (.bx 0 (A5 e) 28)/\a'.tm.get 4=some v4):=⟨_,rfl⟩;refine A9 I L.length R ?_ (by omega) ?_ ?_ ?_
 ·rw [hI];exact ⟨rfl,rfl,⟨v0,out0,hv,by rw [List.drop_zero],by omega,h3⟩,h1,h4,h5,h6,by simpa using h7⟩
 ·rw [hI];rintro j ⟨tm,df,clk⟩ σ' hj ⟨rfl,rfl,⟨v,out,hv,hA,hlo,h3⟩,h1,h4,h5,h6,h7⟩;rw [<-hI];have hw:=C8 hj (by unfold maxLen;omega);rw [B75 hj] at hA;have hcm:=C18 (O:=O) h46 N L[j] e.n he.n kk hkk (by omega) b σ';have hpt:=C4A (O:=O) h44 N v out L[j] b σ' hv (by omega) (by omega);have hpl:=A87 L[j] out;have h1':=h1;rw [A0] at h1
  have hej:(L.map encI)[j]? =some [.int .i64 L[j]]:=by rw [List.getElem?_map,List.getElem?_eq_getElem hj];rfl
  by_cases hm:L[j]∈C0 e.n kk
  ·rw [decide_eq_true hm] at hcm;rw [if_pos hm] at hA;simp [h1,h3,h4,h5,h6,h7,hj,hw,hcm,encI];rw [hI];exact ⟨rfl,rfl,⟨v,out,hv,hA,by omega,by simp [h3]⟩,by simp [h1'],by simp [h4],by simp [h5],by simp [h6],by simp⟩
  ·rw [decide_eq_false hm] at hcm;rw [if_neg hm] at hA;rcases hv with _|_
   all_goals simp [h1,h3,h4,h5,h6,h7,hj,hw,hcm,hpt,encI]
   all_goals rw [hI]
   all_goals exact ⟨rfl,rfl,⟨_,_,.fz _,hA,by omega,by simp⟩,by simp [h1'],by simp [h4],by simp [h5],by simp [h6],by simp⟩
 ·rw [hI];rintro ⟨tm,df,clk⟩ σ' ⟨rfl,rfl,⟨v,out,hv,hA,hlo,h3⟩,h1,h4,h5,h6,h7⟩;rw [List.drop_of_length_le (Nat.le_refl _)] at hA;simp [h6,h7];rw [hR];have hA:out=A2F e.n kk out0 L:=hA;exact ⟨rfl,rfl,rfl,⟨v,by rw [<-hA];exact hv,by simp [h3]⟩,by simp [h1],by simp [h4]⟩
 ·rw [hR];rintro ex ⟨tm,df,clk⟩ σ' ⟨rfl,rfl,rfl,hv,h1,h4⟩;simp;exact ⟨hv,h1,h4⟩
theorem B2Z (h20:F 37=some f20) (h44:F 77=some f44) (h45:F 78=some f45) (h46:F 79=some f46):∀(M N:Nat) (e:PTerm) (b:Nat) (σ:Sto),E3 e<=M->M+20010<=N->OkTm e->cntT e<=3000->
  A4 F O N b 37 [.agg (A5 e)] σ=some (.ret (.sl .fz ((refF e).map encI)),σ)
 |0,N,e,b,σ,h,_,_,_=>by rw [B5] at h;omega
 |M+1,N,e,b,σ,h,hN,he,hc=>by
  have ih:=B2Z h20 h44 h45 h46 M;have hk:=H8 e.kids;have hs:=B5 e;have hcd:=J8 e;have hrd:=B2Y e;obtain ⟨N,rfl⟩:∃n,N=n+2:=⟨N - 2,by omega⟩;have hml:=A84 e;obtain ⟨mk,hmk⟩:∃mk:Nat,P5 e=(mk:Int):=⟨(P5 e).toNat,by omega⟩;rw [hmk,Int.toNat_natCast] at hrd;have hbi:=C17 (O:=O) h45 N e σ.length σ;rw [hmk,A0 e] at hbi;refine A3 h20 ?_;have hput:=B9e (O:=O) h44 N e.n σ.length σ (by omega)
  have hlen:=he.len;unfold maxLen at hlen;have hw1:IntKind.i64.wrap ((e.kids.length:Int) - 1)=(e.kids.length:Int) - 1:=by rw [D7]<;>omega
  obtain ⟨I,hI⟩:∃I:Nat->TAct->Sto->Prop,I=(fun j a' σ'=>a'.df=[]/\σ'=σ/\(∃v out,FzV v out/\A1B e.n mk out (e.kids.drop j)=refF e/\out.length+F7 (e.kids.drop j)<=3000/\a'.tm.get 3=some v)/\a'.tm.get 1=some (.bx 0 (A5 e) 28)/\a'.tm.get 4=some (.int .i64 (j:Int))):=⟨_,rfl⟩;obtain ⟨R,hR⟩:∃R:TEx->TAct->Sto->Prop,R=(fun ex a' σ'=>ex=.exit 0/\a'.df=[]/\σ'=σ/\(∃v,FzV v (refF e)/\a'.tm.get 3=some v)):=⟨_,rfl⟩
  have step:∀j a σ',j<e.kids.length->I j a σ'->Tw a20 σ.length (A4 F O (N+1)) (N+1) (fun ex a σ=>match ex with|.normal=>I (j+1) a σ|e=>R e a σ) [] (B6 a20 σ.length (A4 F O (N+1)) (N+1) (.seq (.seq (.region [
  ⟨(some 15),.move (.tmp 4),none⟩,
  ⟨(some 16),.addr 7 (.tmp 1),none⟩,
  ⟨(some 17),.load1 (.tmp 16),none⟩,
  ⟨(some 18),.lenSlice (.tmp 17),none⟩,
  ⟨(some 19),.bin .lss (.tmp 15) (.tmp 18),none⟩]) (.cond (.tmp 19) .skip (.exit 0))) (.seq (.block 1 B9f) (.region [
  ⟨(some 20),.move (.tmp 4),none⟩,
  ⟨(some 21),.bin .add (.tmp 20) (.const (Go.Value.int Go.IntKind.i64 1)),none⟩,
  ⟨(some 4),.move (.tmp 21),none⟩]))) a σ'):=by
   rw [hI];rintro j ⟨tm,df,clk⟩ σ' hj ⟨rfl,rfl,⟨v,out,hv,hA,hlo,h3⟩,h1,h4⟩;rw [<-hI];have hw:=C8 hj he.len;have hmem:=List.getElem_mem hj;have hszk:=D9 _ _ hmem;have hck:=O1 _ _ hmem;have hcc:=ih (N+1) e.kids[j] σ'.length σ' (by omega) (by omega) (he.sub _ hmem) (by omega);rw [B4I hj] at hA;rw [A47 hj] at hlo;have hrl:=A52 e.kids[j];have h1':=h1;rw [A0] at h1 hcc
   have hfin:∀(kk:Nat) (a:TAct),kk<=4->kk=(if j+1=e.kids.length then mk else 0)->a.df=[]->a.tm.get 1=some (.bx 0 (A5 e) 28)->a.tm.get 3=some v->a.tm.get 4=some (.int .i64 (j:Int))->a.tm.get 5=some (.int .i64 (kk:Int))->a.tm.get 6=some (.sl .fz ((refF e.kids[j]).map encI))->a.tm.get 7=some (.int .i64 0)->
     Tw a20 σ'.length (A4 F O (N+1)) (N+1) (fun ex a σ=>match ex with|.normal=>I (j+1) a σ|e=>R e a σ) [.blk 1,.seq (.region [
  ⟨(some 20),.move (.tmp 4),none⟩,
  ⟨(some 21),.bin .add (.tmp 20) (.const (Go.Value.int Go.IntKind.i64 1)),none⟩,
  ⟨(some 4),.move (.tmp 21),none⟩])] (B6 a20 σ'.length (A4 F O (N+1)) (N+1) C19 a σ'):=by
    intro kk a hk4 hke q0 q1 q3 q4 q5 q6 q7;apply E2
    ·exact C4B h44 h46 e he kk hk4 (by omega) a σ' v out (refF e.kids[j]) hv (by omega) _ q0 q1 q3 q4 q5 q6 q7
    rintro ex ⟨tm,df,clk⟩ σ2 ⟨rfl,hdf,rfl,⟨v2,hv2,h3⟩,h1,h4⟩;simp only at hdf h1 h3 h4;subst hdf;simp [h4,hw];rw [hI];have hal:=A88 e.n kk (refF e.kids[j]) out;exact ⟨rfl,rfl,⟨v2,_,hv2,by rw [hke];exact hA,by omega,by simp [h3]⟩,by simp [h1],by simp⟩
   by_cases hlast:j+1=e.kids.length
   ·have hjl:((j:Int)=(e.kids.length:Int) - 1)=True:=eq_true (by omega);simp [h1,h3,h4,hj,B9f,hw1,hjl,hbi,hcc,A0 e.kids[j]];apply hfin mk _ (by omega) (by rw [if_pos hlast]) rfl
    ·simp [A0 e,h1]
    ·simp [h3]
    ·simp [h4]
    ·simp
    ·simp
    ·simp
   ·have hjl:((j:Int)=(e.kids.length:Int) - 1)=False:=eq_false (by omega);simp [h1,h3,h4,hj,B9f,hw1,hjl,hcc,A0 e.kids[j]];apply hfin 0 _ (by omega) (by rw [if_neg hlast]) rfl
    ·simp [A0 e,h1]
    ·simp [h3]
    ·simp [h4]
    ·simp
    ·simp
    ·simp
  have stop:∀a σ',I e.kids.length a σ'->Tw a20 σ.length (A4 F O (N+1)) (N+1) (fun ex a σ=>match ex with|.normal=>False|e=>R e a σ) [] (B6 a20 σ.length (A4 F O (N+1)) (N+1) (.seq (.seq (.region [
  ⟨(some 15),.move (.tmp 4),none⟩,
  ⟨(some 16),.addr 7 (.tmp 1),none⟩,
  ⟨(some 17),.load1 (.tmp 16),none⟩,
  ⟨(some 18),.lenSlice (.tmp 17),none⟩,
  ⟨(some 19),.bin .lss (.tmp 15) (.tmp 18),none⟩]) (.cond (.tmp 19) .skip (.exit 0))) (.seq (.block 1 B9f) (.region [
  ⟨(some 20),.move (.tmp 4),none⟩,
  ⟨(some 21),.bin .add (.tmp 20) (.const (Go.Value.int Go.IntKind.i64 1)),none⟩,
  ⟨(some 4),.move (.tmp 21),none⟩]))) a σ'):=by
   rw [hI];rintro ⟨tm,df,clk⟩ σ' ⟨rfl,rfl,⟨v,out,hv,hA,hlo,h3⟩,h1,h4⟩;rw [List.drop_of_length_le (Nat.le_refl _)] at hA;have hA:out=refF e:=hA;rw [A0] at h1;simp [h1,h4];rw [hR];exact ⟨rfl,rfl,rfl,v,by rw [<-hA];exact hv,by simp [h3]⟩
  have next:∀ex a σ',R ex a σ'->ex=.exit 0/\a.df=[]/\σ'=σ/\∃v,FzV v (refF e)/\a.tm.get 3=some v:=by
   rw [hR];intro ex a σ' h;exact h
  by_cases k2:e.kind=2
  ·rw [if_pos k2] at hrd;simp [B5P,A0 e,k2,hput];refine A9 I e.kids.length R ?_ (by omega) step stop ?_
   ·rw [hI];exact ⟨rfl,rfl,⟨_,[e.n],.fz _,by rw [List.drop_zero,hrd],by rw [List.drop_zero];simp;omega,by simp⟩,by simp [A0 e,k2],by simp⟩
   ·intro ex a σ' h;obtain ⟨rfl,hdf,rfl,v,hv,h3⟩:=next ex a σ' h;obtain ⟨tm,df,clk⟩:=a;simp only at hdf h3;subst hdf;generalize refF e=L at hv;rcases hv with _|_
    ·simp [h3]
    ·simp [h3]
  ·rw [if_neg k2] at hrd;simp [B5P,A0 e,k2];refine A9 I e.kids.length R ?_ (by omega) step stop ?_
   ·rw [hI];exact ⟨rfl,rfl,⟨_,[],.nl,by rw [List.drop_zero,hrd],by rw [List.drop_zero];simp;omega,by simp⟩,by simp [A0 e],by simp⟩
   ·intro ex a σ' h;obtain ⟨rfl,hdf,rfl,v,hv,h3⟩:=next ex a σ' h;obtain ⟨tm,df,clk⟩:=a;simp only at hdf h3;subst hdf;generalize refF e=L at hv;rcases hv with _|_
    ·simp [h3]
    ·simp [h3]
end
section
open Go Go.Xe Go.Xt
abbrev Inc (l:List Int):Prop:=List.Pairwise (· < ·) l
theorem B5Q:∀(l m:List Int),Inc l->Inc m->(∀x,x∈l↔x∈m)->l=m
 |[],[],_,_,_=>rfl
 |[],b::m,_,_,h=>absurd ((h b).2 (by simp)) (by simp)
 |a::l,[],_,_,h=>absurd ((h a).1 (by simp)) (by simp)
 |a::l,b::m,hl,hm,h=>by
  obtain ⟨hl1,hl2⟩:=List.pairwise_cons.1 hl;obtain ⟨hm1,hm2⟩:=List.pairwise_cons.1 hm;have hab:a=b:=by
   rcases List.mem_cons.1 ((h a).1 (by simp)) with e|e
   ·exact e
   ·rcases List.mem_cons.1 ((h b).2 (by simp)) with e'|e'
    ·exact e'.symm
    ·have:=hm1 a e;have:=hl1 b e';omega
  subst hab;rw [B5Q l m hl2 hm2 fun x=>⟨fun hx=> ?_,fun hx=> ?_⟩]
  ·rcases List.mem_cons.1 ((h x).1 (by simp [hx])) with e|e
   ·have:=hl1 x hx;omega
   ·exact e
  ·rcases List.mem_cons.1 ((h x).2 (by simp [hx])) with e|e
   ·have:=hm1 x hx;omega
   ·exact e
theorem A89 (n x:Int):∀l,x∈A1l n l↔x=n\/x∈l
 |[]=>by simp [A1l]
 |a::l=>by
  have ih:=A89 n x l;simp only [A1l];split
  ·split
   ·simp
   ·have:n=a:=by omega
    subst this;simp
  ·simp only [List.mem_cons,ih];constructor
   ·rintro (h|h|h)
    ·exact .inr (.inl h)
    ·exact .inl h
    ·exact .inr (.inr h)
   ·rintro (h|h|h)
    ·exact .inr (.inl h)
    ·exact .inl h
    ·exact .inr (.inr h)
theorem B30 (n:Int):∀l,Inc l->Inc (A1l n l)
 |[],_=>by simp [A1l]
 |a::l,h=>by
  obtain ⟨h1,h2⟩:=List.pairwise_cons.1 h;have ih:=B30 n l h2;simp only [A1l];split
  ·split
   ·rename_i _ hlt;refine List.pairwise_cons.2 ⟨fun x hx=> ?_,h⟩;rcases List.mem_cons.1 hx with rfl|hx
    ·exact hlt
    ·have:=h1 x hx;omega
   ·exact h
  ·refine List.pairwise_cons.2 ⟨fun x hx=> ?_,ih⟩;rcases (A89 n x l).1 hx with rfl|hx
   ·omega
   ·exact h1 x hx
theorem B31 (n:Int) (kk:Nat):∀l out,Inc out->Inc (A2F n kk out l)
 |[],out,h=>h
 |s::l,out,h=>by
  simp only [A2F];refine B31 n kk l _ ?_;split
  ·exact h
  ·exact B30 s out h
theorem B32 (n:Int) (kk:Nat) (x:Int):∀l out,x∈A2F n kk out l↔x∈out\/(x∈l/\x∉C0 n kk)
 |[],out=>by simp [A2F]
 |s::l,out=>by
  simp only [A2F];rw [B32 n kk x l]
  by_cases h:s∈C0 n kk
  ·rw [if_pos h];constructor
   ·rintro (h1|⟨h1,h2⟩)
    ·exact .inl h1
    ·exact .inr ⟨by simp [h1],h2⟩
   ·rintro (h1|⟨h1,h2⟩)
    ·exact .inl h1
    ·rcases List.mem_cons.1 h1 with rfl|h1
     ·exact absurd h h2
     ·exact .inr ⟨h1,h2⟩
  ·rw [if_neg h,A89];constructor
   ·rintro ((rfl|h1)|⟨h1,h2⟩)
    ·exact .inr ⟨by simp,h⟩
    ·exact .inl h1
    ·exact .inr ⟨by simp [h1],h2⟩
   ·rintro (h1|⟨h1,h2⟩)
    ·exact .inl (.inr h1)
    ·rcases List.mem_cons.1 h1 with rfl|h1
     ·exact .inl (.inl rfl)
     ·exact .inr ⟨h1,h2⟩
theorem B06 (n:Int) (kk:Nat):∀l out,Inc out->Inc (A1B n kk out l)
 |[],out,h=>h
 |t::l,out,h=>by
  simp only [A1B];exact B06 n kk l _ (B31 n _ _ _ h)
theorem B9g (t:PTerm):Inc (refF t):=by
 rw [B2Y];refine B06 _ _ _ _ ?_;split<;>simp
def B33 (S:List Int) (x:Int):List PTerm->Prop
 |[]=>False
 |t::l=>(x∈refF t/\(l=[]->x∉S))\/B33 S x l
theorem B07 (n:Int) (kk:Nat) (x:Int):∀l out,x∈A1B n kk out l↔x∈out\/B33 (C0 n kk) x l
 |[],out=>by simp [A1B,B33]
 |t::l,out=>by
  simp only [A1B,B33];rw [B07 n kk x l,B32];cases l with
  |nil=>
   simp only [B2X,true_implies,or_assoc]
  |cons y l=>
   have:C0 n 0=[]:=rfl;simp only [B2X,this,List.not_mem_nil,not_false_eq_true,and_true,reduceCtorEq,false_implies,or_assoc]
theorem not_mem_append {x:Int} {l m:List Int}:x∉l++m↔x∉l/\x∉m:=by simp
mutual
theorem A5D (x:Int):∀(t:PTerm) (bd:List Int),x∈freeC bd t↔x∈refF t/\x∉bd
 |.mk k n m v o ks,bd=>by
  have ih:=A8a x ks bd (C0 n (P5 (.mk k n m v o ks)).toNat);simp only [freeC,refF,List.mem_append];have e:Q5 bd (.mk k n m v o ks)=bd++C0 n (P5 (.mk k n m v o ks)).toNat:=rfl;rw [e,ih,B07]
  by_cases hk:k=2
  ·rw [if_pos hk]
   by_cases hb:n∈bd
   ·rw [if_neg (fun h=>h.2 hb)];constructor
    ·rintro (h|⟨h1,h2⟩)
     ·cases h
     ·exact ⟨.inr h1,h2⟩
    ·rintro ⟨h1|h1,h2⟩
     ·simp at h1;subst h1;exact absurd hb h2
     ·exact .inr ⟨h1,h2⟩
   ·rw [if_pos ⟨hk,hb⟩];constructor
    ·rintro (h|⟨h1,h2⟩)
     ·simp at h;subst h;exact ⟨.inl (by simp),hb⟩
     ·exact ⟨.inr h1,h2⟩
    ·rintro ⟨h1|h1,h2⟩
     ·exact .inl h1
     ·exact .inr ⟨h1,h2⟩
  ·rw [if_neg hk,if_neg (fun h=>hk h.1)];simp
theorem A8a (x:Int):∀(l:List PTerm) (bd S:List Int),x∈S5 bd (bd++S) l↔B33 S x l/\x∉bd
 |[],bd,S=>by simp [S5,B33]
 |t::l,bd,S=>by
  simp only [S5,B33,List.mem_append];rw [A5D x t,A8a x l];cases l with
  |nil=>
   simp only [B5N,B33,not_mem_append,true_implies,false_and,or_false];exact ⟨fun ⟨h1,h2,h3⟩=>⟨⟨h1,h3⟩,h2⟩,fun ⟨⟨h1,h3⟩,h2⟩=>⟨h1,h2,h3⟩⟩
  |cons y l=>
   simp only [B5N,reduceCtorEq,false_implies,and_true];constructor
   ·rintro (⟨h1,h2⟩|⟨h1,h2⟩)
    ·exact ⟨.inl h1,h2⟩
    ·exact ⟨.inr h1,h2⟩
   ·rintro ⟨h1|h1,h2⟩
    ·exact .inl ⟨h1,h2⟩
    ·exact .inr ⟨h1,h2⟩
end
theorem A2p (x:Int):∀l,x∈F0 l↔x∈l
 |[]=>by unfold F0;rfl
 |[a]=>by unfold F0;rfl
 |a::b::l=>by
  have ih:=A2p x (b::l);rw [F0];split
  ·rename_i h;subst h;rw [ih];simp
  ·simp only [List.mem_cons] at ih ⊢;rw [ih]
theorem A53:∀l,List.Pairwise (fun x y:Int=>x<=y) l->Inc (F0 l)
 |[],_=>by unfold F0;simp
 |[a],_=>by unfold F0;simp
 |a::b::l,h=>by
  obtain ⟨h1,h2⟩:=List.pairwise_cons.1 h;have ih:=A53 (b::l) h2;rw [F0];split
  ·exact ih
  ·rename_i hab;refine List.pairwise_cons.2 ⟨fun x hx=> ?_,ih⟩;have hx:=(A2p x (b::l)).1 hx;have hb:=h1 b (by simp);rcases List.mem_cons.1 hx with rfl|hx
   ·omega
   ·have:=(List.pairwise_cons.1 h2).1 x hx;omega
theorem B76 (x:Int) (l:List Int):x∈W3 l↔x∈l:=by unfold W3;simp
theorem B1m (l:List Int):List.Pairwise (fun x y:Int=>x<=y) (W3 l):=by
 unfold W3;have:=List.pairwise_mergeSort (le:=fun x y:Int=>decide (x<=y)) (fun a b c h1 h2=>by simp at*;omega) (fun a b=>by simp;omega) l;refine this.imp ?_;intro a b h;simpa using h
theorem B9h (t:PTerm):F0 (W3 (freeC [] t))=refF t:=by
 refine B5Q _ _ (A53 _ (B1m _)) (B9g t) fun x=> ?_
 rw [A2p,B76,A5D];simp
end
section
open Go Go.Xe Go.Xt
variable {F:FuncId->Option TFun} {O:FuncId->List TV->Option TV}
theorem C1a (hF:F 114=some f108) (G N:Nat) (S:PTerm->PTerm->Bool) (b:Nat) (σ:Sto) (l m:List PTerm) (hl:l.length<=maxLen) (hm:m.length<=maxLen) (hn:l.length<N)
  (hc:∀x∈l,∀y∈m,∀b,A4 F O N b G [.agg (A5 x),.agg (A5 y)] σ=some (.ret (.bool (S x y)),σ)):
  A4 F O (N+1) b 114 [.sl .fz (l.map A5),.sl .fz (m.map A5),.func G [] []] σ=some (.ret (.bool (H0 S l m)),σ):=by
 refine A3 hF ?_
 by_cases hlm:(l.length:Int)=(m.length:Int)
 case neg=>
  have hne:l.length≠m.length:=by omega
  simp [x108,hlm,hne,X4 hne]
 have hlm':l.length=m.length:=by omega
 simp [x108,hlm'];obtain ⟨I,hI⟩:∃I:Nat->TAct->Sto->Prop,I=(fun j a σ'=>a.df=[]/\σ'=σ/\H0 S (l.drop j) (m.drop j)=H0 S l m/\a.tm.get 1=some (.sl .fz (m.map A5))/\a.tm.get 2=some (.func G [] [])/\a.tm.get 15=some (.sl .fz (l.map A5))/\a.tm.get 16=some (.int .i64 (m.length:Int))/\a.tm.get 17=some (.int .i64 j)):=⟨_,rfl⟩
 obtain ⟨R,hR⟩:∃R:TEx->TAct->Sto->Prop,R=(fun ex a σ'=>a.df=[]/\σ'=σ/\(ex=.exit 0/\H0 S l m=true\/ex=.ret/\H0 S l m=false/\a.tm.get 6=some (.bool false))):=⟨_,rfl⟩;refine A9 I m.length R ?_ ?_ ?_ ?_ ?_
 ·rw [hI];simp
 ·omega
 ·rw [hI];rintro j ⟨tm,df,clk⟩ σ' hj ⟨rfl,rfl,hd,h1,h2,h15,h16,h17⟩;rw [<-hI];have hjl:j<l.length:=by omega
  have hw:=C8 hj hm;rw [S0 hjl hj] at hd;have hcc:=hc l[j] (List.getElem_mem hjl) m[j] (List.getElem_mem hj) σ'.length;rw [A0,A0] at hcc;cases hs:S l[j] m[j] with
  |true=>
   rw [hs] at hd hcc;simp [h1,h2,h15,h16,h17,hj,hjl,hcc,hw,A0];rw [hI]
   simpa [h1,h2,h15,h16] using hd
  |false=>
   rw [hs] at hd hcc;simp [h1,h2,h15,h16,h17,hj,hjl,hcc,hw,A0];rw [hR]
   simpa using hd.symm
 ·rw [hI];rintro ⟨tm,df,clk⟩ σ' ⟨rfl,rfl,hd,h1,h2,h15,h16,h17⟩;rw [X0 (by omega) (by omega)] at hd;simp [h1,h2,h15,h16,h17];rw [hR];exact ⟨rfl,rfl,.inl ⟨rfl,hd.symm⟩⟩
 ·rw [hR];rintro ex ⟨tm,df,clk⟩ σ' ⟨rfl,rfl,⟨rfl,h⟩|⟨rfl,h,h6⟩⟩
  ·simp [h]
  ·simp [h,h6]
def X1 (a b:Int):Bool:=decide (a=b)
theorem B77 (hF:F 86=some f110) (N:Nat) (b:Nat) (σ:Sto) (l m:List Int) (hl:l.length<=maxLen) (hm:m.length<=maxLen) (hn:l.length<N):
  A4 F O (N+1) b 86 [.sl .fz (l.map encI),.sl .fz (m.map encI)] σ=some (.ret (.bool (H0 X1 l m)),σ):=by
 refine A3 hF ?_
 by_cases hlm:(l.length:Int)=(m.length:Int)
 case neg=>
  have hne:l.length≠m.length:=by omega
  simp [x110,hlm,hne,X4 hne]
 have hlm':l.length=m.length:=by omega
 simp [x110,hlm'];obtain ⟨I,hI⟩:∃I:Nat->TAct->Sto->Prop,I=(fun j a σ'=>a.df=[]/\σ'=σ/\H0 X1 (l.drop j) (m.drop j)=H0 X1 l m/\a.tm.get 0=some (.sl .fz (l.map encI))/\a.tm.get 1=some (.sl .fz (m.map encI))/\a.tm.get 5=some (.int .i64 j)):=⟨_,rfl⟩;obtain ⟨R,hR⟩:∃R:TEx->TAct->Sto->Prop,R=(fun ex a σ'=>a.df=[]/\σ'=σ/\(ex=.exit 0/\H0 X1 l m=true\/ex=.ret/\H0 X1 l m=false/\a.tm.get 4=some (.bool false))):=⟨_,rfl⟩
 refine A9 I m.length R ?_ ?_ ?_ ?_ ?_
 ·rw [hI];simp
 ·omega
 ·rw [hI];rintro j ⟨tm,df,clk⟩ σ' hj ⟨rfl,rfl,hd,h0,h1,h5⟩;rw [<-hI];have hjl:j<l.length:=by omega
  have hw:=C8 hj hm;have e1:(l.map encI)[j]? =some [.int .i64 l[j]]:=by simp [hjl,encI]
  have e2:(m.map encI)[j]? =some [.int .i64 m[j]]:=by simp [hj,encI]
  rw [S0 hjl hj] at hd
  by_cases hs:l[j]=m[j]
  ·have hs':X1 l[j] m[j]=true:=by simp [X1,hs]
   rw [hs',Bool.true_and] at hd;simp [h0,h1,h5,hj,hjl,hlm',hw,e1,e2,hs,encI];rw [hI]
   simpa [h0,h1] using hd
  ·have hs':X1 l[j] m[j]=false:=by simp [X1,hs]
   rw [hs',Bool.false_and] at hd;simp [h0,h1,h5,hj,hjl,hlm',hw,e1,e2,hs,encI];rw [hR]
   simpa using hd.symm
 ·rw [hI];rintro ⟨tm,df,clk⟩ σ' ⟨rfl,rfl,hd,h0,h1,h5⟩;rw [X0 (by omega) (by omega)] at hd;simp [h0,h1,h5,hlm'];rw [hR];exact ⟨rfl,rfl,.inl ⟨rfl,hd.symm⟩⟩
 ·rw [hR];rintro ex ⟨tm,df,clk⟩ σ' ⟨rfl,rfl,⟨rfl,h⟩|⟨rfl,h,h6⟩⟩
  ·simp [h]
  ·simp [h,h6]
theorem B9i (hF:F 113=some f107) (N:Nat) (b:Nat) (σ:Sto) (l m:List Int) (hl:l.length<=maxLen) (hm:m.length<=maxLen) (hn:l.length<N):
  A4 F O (N+1) b 113 [.sl .fz (l.map encI),.sl .fz (m.map encI)] σ=some (.ret (.bool (H0 X1 l m)),σ):=by
 refine A3 hF ?_
 by_cases hlm:(l.length:Int)=(m.length:Int)
 case neg=>
  have hne:l.length≠m.length:=by omega
  simp [x107,hlm,hne,X4 hne]
 have hlm':l.length=m.length:=by omega
 simp [x107,hlm'];obtain ⟨I,hI⟩:∃I:Nat->TAct->Sto->Prop,I=(fun j a σ'=>a.df=[]/\σ'=σ/\H0 X1 (l.drop j) (m.drop j)=H0 X1 l m/\a.tm.get 0=some (.sl .fz (l.map encI))/\a.tm.get 1=some (.sl .fz (m.map encI))/\a.tm.get 13=some (.int .i64 j)/\a.tm.get 11=some (.sl .fz (l.map encI))/\a.tm.get 12=some (.int .i64 (m.length:Int))):=⟨_,rfl⟩
 obtain ⟨R,hR⟩:∃R:TEx->TAct->Sto->Prop,R=(fun ex a σ'=>a.df=[]/\σ'=σ/\(ex=.exit 0/\H0 X1 l m=true\/ex=.ret/\H0 X1 l m=false/\a.tm.get 4=some (.bool false))):=⟨_,rfl⟩;refine A9 I m.length R ?_ ?_ ?_ ?_ ?_
 ·rw [hI];simp
 ·omega
 ·rw [hI];rintro j ⟨tm,df,clk⟩ σ' hj ⟨rfl,rfl,hd,h0,h1,h5,h11,h12⟩;rw [<-hI];have hjl:j<l.length:=by omega
  have hw:=C8 hj hm;have e1:(l.map encI)[j]? =some [.int .i64 l[j]]:=by simp [hjl,encI]
  have e2:(m.map encI)[j]? =some [.int .i64 m[j]]:=by simp [hj,encI]
  rw [S0 hjl hj] at hd
  by_cases hs:l[j]=m[j]
  ·have hs':X1 l[j] m[j]=true:=by simp [X1,hs]
   rw [hs',Bool.true_and] at hd;simp [h0,h1,h5,hj,hjl,hlm',hw,e1,e2,hs,encI,h11,h12];rw [hI]
   simpa [h0,h1,h11,h12] using hd
  ·have hs':X1 l[j] m[j]=false:=by simp [X1,hs]
   rw [hs',Bool.false_and] at hd;simp [h0,h1,h5,hj,hjl,hlm',hw,e1,e2,hs,encI,h11,h12];rw [hR]
   simpa using hd.symm
 ·rw [hI];rintro ⟨tm,df,clk⟩ σ' ⟨rfl,rfl,hd,h0,h1,h5,h11,h12⟩;rw [X0 (by omega) (by omega)] at hd;simp [h0,h1,h5,hlm',h11,h12];rw [hR];exact ⟨rfl,rfl,.inl ⟨rfl,hd.symm⟩⟩
 ·rw [hR];rintro ex ⟨tm,df,clk⟩ σ' ⟨rfl,rfl,⟨rfl,h⟩|⟨rfl,h,h6⟩⟩
  ·simp [h]
  ·simp [h,h6]
theorem C2i (hF:F 201=some f165) (N b:Nat) (σ:Sto) (x:Int):A4 F O (N+1) b 201 [.int .i64 x] σ=some (.ret (.bool false),σ):=by
 refine A3 hF ?_;simp [x165]
def cmpI (x y:Int):Int:=if x<y then -1 else if y<x then 1 else 0
theorem A1Y (x y:Int):decide (cmpI x y=0)=decide (x=y):=by
 unfold cmpI
 by_cases h:x<y
 ·have:x≠y:=by omega
  simp [h,this]
 ·by_cases h2:y<x
  ·have:x≠y:=by omega
   simp [h,h2,this]
  ·have:x=y:=by omega
   simp [this]
theorem C2j (hF:F 202=some f180) (h165:F 201=some f165) (N b:Nat) (σ:Sto) (x y:Int):A4 F O (N+2) b 202 [.int .i64 x,.int .i64 y] σ=some (.ret (.int .i64 (cmpI x y)),σ):=by
 have hx:=C2i (O:=O) h165 N σ.length σ x;have hy:=C2i (O:=O) h165 N σ.length σ y;refine A3 hF ?_;unfold cmpI
 by_cases h:x<y
 ·simp [x180,hx,hy,h]
 ·by_cases h2:y<x
  ·simp [x180,hx,hy,h,h2]
  ·simp [x180,hx,hy,h,h2]
theorem B1n (hF:F 163=some f182) (N b:Nat) (σ:Sto) (x y:Int):A4 F O (N+1) b 163 [.int .i64 x,.int .i64 y] σ=some (.ret (.int .i64 (cmpI x y)),σ):=by
 refine A3 hF ?_;unfold cmpI
 by_cases h:x<y
 ·simp [x182,h]
 ·by_cases h2:y<x
  ·simp [x182,h,h2]
  ·simp [x182,h,h2]
theorem C1b (hF:F 203=some f181) (G N:Nat) (S:PVal->PVal->Bool) (b:Nat) (σ:Sto) (l m:List PVal) (hl:l.length<=maxLen) (hm:m.length<=maxLen) (hn:l.length<N)
  (hc:∀x∈l,∀y∈m,∀b,∃r:Int,A4 F O N b G [.agg (C9 x),.agg (C9 y)] σ=some (.ret (.int .i64 r),σ)/\decide (r=0)=S x y):
  ∃r:Int,A4 F O (N+1) b 203 [.sl .fz (l.map C9),.sl .fz (m.map C9),.func G [] []] σ=some (.ret (.int .i64 r),σ)/\decide (r=0)=H0 S l m:=by
 suffices hh:∃e' σ',A4 F O (N+1) b 203 [.sl .fz (l.map C9),.sl .fz (m.map C9),.func G [] []] σ=some (e',σ')/\∃r:Int,e'=.ret (.int .i64 r)/\σ'=σ/\decide (r=0)=H0 S l m by
  grind
 refine D5 hF ?_;simp [x181];obtain ⟨I,hI⟩:∃I:Nat->TAct->Sto->Prop,I=(fun j a σ'=>a.df=[]/\σ'=σ/\H0 S (l.drop j) (m.drop j)=H0 S l m/\a.tm.get 0=some (.sl .fz (l.map C9))/\a.tm.get 1=some (.sl .fz (m.map C9))/\a.tm.get 2=some (.func G [] [])/\a.tm.get 11=some (.sl .fz (l.map C9))/\a.tm.get 12=some (.int .i64 (l.length:Int))/\a.tm.get 13=some (.int .i64 j)):=⟨_,rfl⟩
 obtain ⟨R,hR⟩:∃R:TEx->TAct->Sto->Prop,R=(fun ex a σ'=>a.df=[]/\σ'=σ/\(ex=.exit 0/\H0 S (l.drop l.length) (m.drop l.length)=H0 S l m/\a.tm.get 0=some (.sl .fz (l.map C9))/\a.tm.get 1=some (.sl .fz (m.map C9))\/ex=.ret/\∃r:Int,decide (r=0)=H0 S l m/\a.tm.get 6=some (.int .i64 r))):=⟨_,rfl⟩;refine A9 I l.length R ?_ ?_ ?_ ?_ ?_
 ·rw [hI];simp
 ·omega
 ·rw [hI];rintro j ⟨tm,df,clk⟩ σ' hj ⟨rfl,rfl,hd,h0,h1,h2,h11,h12,h13⟩;rw [<-hI];have hw:=C8 hj hl
  by_cases hjm:(m.length:Int)<=(j:Int)
  ·have hne:H0 S (l.drop j) (m.drop j)=false:=X4 (by rw [List.length_drop,List.length_drop];omega);simp_all [A2]
  ·have hjm2:j<m.length:=by omega
   have hjm':¬m.length<=j:=by omega
   rw [S0 hj hjm2] at hd;obtain ⟨r,hcc,hr⟩:=hc l[j] (List.getElem_mem hj) m[j] (List.getElem_mem hjm2) σ'.length;rw [A2,A2] at hcc
   by_cases h0r:r=0
   ·have hs:S l[j] m[j]=true:=by rw [<-hr];simp [h0r]
    rw [hs,Bool.true_and] at hd;simp [h0,h1,h2,h11,h12,h13,hj,hjm,hjm',hjm2,hcc,h0r,hw,A2];simp_all
   ·have hs:S l[j] m[j]=false:=by rw [<-hr];simp [h0r]
    rw [hs,Bool.false_and] at hd;simp [h0,h1,h2,h11,h12,h13,hj,hjm,hjm',hjm2,hcc,h0r,hw,A2];simp_all
 ·simp_all
 ·rw [hR];rintro ex ⟨tm,df,clk⟩ σ' ⟨rfl,rfl,⟨rfl,hd,h0,h1⟩|⟨rfl,r,hd,h6⟩⟩
  ·by_cases hlt:(l.length:Int)<(m.length:Int)
   ·simp_all [H0,X4]
   ·have hlt':¬l.length<m.length:=by omega
    rw [X0 (Nat.le_refl _) (by omega)] at hd;simp [h0,h1,hlt,hlt',<-hd]
  ·simp [h6,hd]
theorem B08 (h158:F 162=some f158) (h180:F 202=some f180) (h165:F 201=some f165) (h181:F 203=some f181):∀(N:Nat) (a c:PVal) (b:Nat) (σ:Sto),szV a<=N->OkV a->OkV c->
  ∃r:Int,A4 F O N b 162 [.agg (C9 a),.agg (C9 c)] σ=some (.ret (.int .i64 r),σ)/\decide (r=0)=I4 a c
 |0,a,c,b,σ,h,_,_=>by rw [D6] at h;omega
 |1,a,c,b,σ,h,_,_=>by rw [D6] at h;omega
 |2,a,c,b,σ,h,_,_=>by rw [D6] at h;omega
 |N+3,a,c,b,σ,h,ha,hc=>by
  have hs:=D6 a;have hk:=R8 a.list;obtain ⟨r,hq,hr⟩:=C1b (O:=O) h181 162 (N+1) I4 σ.length σ a.list c.list ha.len hc.len (by omega) (fun x hx y hy b=>B08 h158 h180 h165 h181 (N+1) x y b σ (by have:=G9 _ _ hx;omega) (ha.sub x hx) (hc.sub y hy));have h1:=C2j (O:=O) h180 h165 N σ.length σ a.kind c.kind;have h2:=C2j (O:=O) h180 h165 N σ.length σ a.n c.n;have z1:=A1Y a.kind c.kind
  have z2:=A1Y a.n c.n
  suffices hh:∃e' σ',A4 F O (N+3) b 162 [.agg (C9 a),.agg (C9 c)] σ=some (e',σ')/\∃r:Int,e'=.ret (.int .i64 r)/\σ'=σ/\decide (r=0)=I4 a c by
   grind
  refine D5 h158 ?_;generalize cmpI a.kind c.kind=r1 at h1 z1;generalize cmpI a.n c.n=r2 at h2 z2
  by_cases e1:r1=0
  case neg=>
   simp [x158,A2,A0n,h1,e1,<-z1]
  by_cases e2:r2=0
  case neg=>
   simp [x158,A2,A0n,h1,h2,e1,e2,<-z1,<-z2]
  simp [x158,A2,A0n,h1,h2,e1,e2,<-z1,<-z2,hq,hr]
theorem A54 (h159:F 115=some f159) (h182:F 163=some f182):∀(N:Nat) (a c:PVal) (b:Nat) (σ:Sto),szV a<=N->OkV a->OkV c->
  ∃r:Int,A4 F O N b 115 [.agg (C9 a),.agg (C9 c)] σ=some (.ret (.int .i64 r),σ)/\decide (r=0)=I4 a c
 |0,a,c,b,σ,h,_,_=>by rw [D6] at h;omega
 |1,a,c,b,σ,h,_,_=>by rw [D6] at h;omega
 |N+2,a,c,b,σ,h,ha,hc=>by
  have ih:=A54 h159 h182 (N+1);have hs:=D6 a;have hk:=R8 a.list;have h1:=B1n (O:=O) h182 N σ.length σ a.kind c.kind;have h2:=B1n (O:=O) h182 N σ.length σ a.n c.n;have h3:=B1n (O:=O) h182 N σ.length σ (a.list.length:Int) (c.list.length:Int);have z1:=A1Y a.kind c.kind;have z2:=A1Y a.n c.n;have z3:=A1Y (a.list.length:Int) (c.list.length:Int)
  suffices hh:∃e' σ',A4 F O (N+2) b 115 [.agg (C9 a),.agg (C9 c)] σ=some (e',σ')/\∃r:Int,e'=.ret (.int .i64 r)/\σ'=σ/\decide (r=0)=I4 a c by
   obtain ⟨e',σ',q1,r',rfl,rfl,q2⟩:=hh;exact ⟨r',q1,q2⟩
  refine D5 h159 ?_;generalize cmpI a.kind c.kind=r1 at h1 z1;generalize cmpI a.n c.n=r2 at h2 z2;generalize cmpI (a.list.length:Int) (c.list.length:Int)=r3 at h3 z3;have hdef:=A0n a c;rw [<-z1,<-z2] at hdef
  by_cases e1:r1=0
  case neg=>
   have hS:I4 a c=false:=by rw [hdef];simp [e1]
   simp [x159,A2,h1,e1];obtain ⟨I,hI⟩:∃I:Nat->TAct->Sto->Prop,I=(fun j a' σ'=>a'.df=[]/\σ'=σ/\∃v:Int,(v=0->I4 a c=H0 I4 (a.list.drop j) (c.list.drop j))/\(v≠0->I4 a c=false)/\a'.tm.get 2=some (.bx 0 (C9 a) 24)/\a'.tm.get 3=some (.bx 2 (C9 c) 24)/\a'.tm.get 5=some (.int .i64 v)/\a'.tm.get 6=some (.int .i64 j)):=⟨_,rfl⟩
   obtain ⟨R,hR⟩:∃R:TEx->TAct->Sto->Prop,R=(fun ex a' σ'=>ex=.exit 0/\a'.df=[]/\σ'=σ/\∃v:Int,(v=0->I4 a c=decide (a.list.length=c.list.length))/\(v≠0->I4 a c=false)/\a'.tm.get 2=some (.bx 0 (C9 a) 24)/\a'.tm.get 3=some (.bx 2 (C9 c) 24)/\a'.tm.get 5=some (.int .i64 v)):=⟨_,rfl⟩;refine A9 I (min a.list.length c.list.length) R ?_ ?_ ?_ ?_ ?_
   ·rw [hI];exact ⟨rfl,rfl,r1,fun h=>absurd h e1,fun _=>hS,by simp [A2],by simp [A2],by simp,by simp⟩
   ·omega
   ·rw [hI];rintro j ⟨tm,df,clk⟩ σ' hj ⟨rfl,rfl,v,hv0,hv1,g2,g3,g5,g6⟩;rw [<-hI];rw [A2] at g2 g3
    by_cases e0:v=0
    ·have hja:j<a.list.length:=by omega
     have hjc:j<c.list.length:=by omega
     have hw:=C8 hja ha.len;obtain ⟨r,hcc,hr⟩:=ih a.list[j] c.list[j] σ'.length σ' (by have:=G9 _ _ (List.getElem_mem hja);omega) (ha.sub _ (List.getElem_mem hja)) (hc.sub _ (List.getElem_mem hjc));rw [A2,A2 c.list[j]] at hcc;have hd:=hv0 e0;rw [S0 hja hjc,<-hr] at hd;subst e0;simp [g2,g3,g5,g6,hja,hjc,hcc,hw,A2];rw [hI]
     refine ⟨rfl,rfl,r,fun h=>by rw [hd];simp [h],fun h=>by rw [hd];simp [h],by simp [g2,A2],by simp [g3,A2],by simp,by simp⟩
    ·simp [g2,g3,g5,g6,e0];rw [hR];exact ⟨rfl,rfl,rfl,v,fun h=>absurd h e0,hv1,by simp [g2,A2],by simp [g3,A2],by simp [g5]⟩
   ·rw [hI];rintro ⟨tm,df,clk⟩ σ' ⟨rfl,rfl,v,hv0,hv1,g2,g3,g5,g6⟩;rw [A2] at g2 g3;have hend:v=0->I4 a c=decide (a.list.length=c.list.length):=fun h=>by
     rw [hv0 h]
     by_cases hlen:a.list.length=c.list.length
     ·rw [X0 (by omega) (by omega)];simp [hlen]
     ·rw [X4 (by rw [List.length_drop,List.length_drop];omega)];simp [hlen]
    by_cases e0:v=0
    ·subst e0
     by_cases hja:((min a.list.length c.list.length:Nat):Int)<(a.list.length:Int)
     ·have hjc:¬((min a.list.length c.list.length:Nat):Int)<(c.list.length:Int):=by omega
      generalize min a.list.length c.list.length=mn at g6 hja hjc;simp [g2,g3,g5,g6,hja,hjc];rw [hR];exact ⟨rfl,rfl,rfl,0,hend,hv1,by simp [g2,A2],by simp [g3,A2],by simp [g5]⟩
     ·generalize min a.list.length c.list.length=mn at g6 hja;simp [g2,g3,g5,g6,hja];rw [hR];exact ⟨rfl,rfl,rfl,0,hend,hv1,by simp [g2,A2],by simp [g3,A2],by simp [g5]⟩
    ·simp [g2,g3,g5,g6,e0];rw [hR];exact ⟨rfl,rfl,rfl,v,hend,hv1,by simp [g2,A2],by simp [g3,A2],by simp [g5]⟩
   ·rw [hR];rintro ex ⟨tm,df,clk⟩ σ' ⟨rfl,rfl,rfl,v,hv0,hv1,g2,g3,g5⟩;rw [A2] at g2 g3
    by_cases e0:v=0
    ·subst e0;have hd:=hv0 rfl;have z3':decide (r3=0)=decide (a.list.length=c.list.length):=by rw [z3];simp [Int.ofNat_inj]
     simp [g2,g3,g5,h3,hd];exact decide_eq_decide.1 z3'
    ·simp [g2,g3,g5,e0,hv1 e0]
  by_cases e2:r2=0
  case neg=>
   have hS:I4 a c=false:=by rw [hdef];simp [e2]
   simp [x159,A2,h1,h2,e1,e2];obtain ⟨I,hI⟩:∃I:Nat->TAct->Sto->Prop,I=(fun j a' σ'=>a'.df=[]/\σ'=σ/\∃v:Int,(v=0->I4 a c=H0 I4 (a.list.drop j) (c.list.drop j))/\(v≠0->I4 a c=false)/\a'.tm.get 2=some (.bx 0 (C9 a) 24)/\a'.tm.get 3=some (.bx 2 (C9 c) 24)/\a'.tm.get 5=some (.int .i64 v)/\a'.tm.get 6=some (.int .i64 j)):=⟨_,rfl⟩
   obtain ⟨R,hR⟩:∃R:TEx->TAct->Sto->Prop,R=(fun ex a' σ'=>ex=.exit 0/\a'.df=[]/\σ'=σ/\∃v:Int,(v=0->I4 a c=decide (a.list.length=c.list.length))/\(v≠0->I4 a c=false)/\a'.tm.get 2=some (.bx 0 (C9 a) 24)/\a'.tm.get 3=some (.bx 2 (C9 c) 24)/\a'.tm.get 5=some (.int .i64 v)):=⟨_,rfl⟩;refine A9 I (min a.list.length c.list.length) R ?_ ?_ ?_ ?_ ?_
   ·rw [hI];exact ⟨rfl,rfl,r2,fun h=>absurd h e2,fun _=>hS,by simp [A2],by simp [A2],by simp,by simp⟩
   ·omega
   ·rw [hI];rintro j ⟨tm,df,clk⟩ σ' hj ⟨rfl,rfl,v,hv0,hv1,g2,g3,g5,g6⟩;rw [<-hI];rw [A2] at g2 g3
    by_cases e0:v=0
    ·have hja:j<a.list.length:=by omega
     have hjc:j<c.list.length:=by omega
     have hw:=C8 hja ha.len;obtain ⟨r,hcc,hr⟩:=ih a.list[j] c.list[j] σ'.length σ' (by have:=G9 _ _ (List.getElem_mem hja);omega) (ha.sub _ (List.getElem_mem hja)) (hc.sub _ (List.getElem_mem hjc));rw [A2,A2 c.list[j]] at hcc;have hd:=hv0 e0;rw [S0 hja hjc,<-hr] at hd;subst e0;simp [g2,g3,g5,g6,hja,hjc,hcc,hw,A2];rw [hI]
     refine ⟨rfl,rfl,r,fun h=>by rw [hd];simp [h],fun h=>by rw [hd];simp [h],by simp [g2,A2],by simp [g3,A2],by simp,by simp⟩
    ·simp [g2,g3,g5,g6,e0];rw [hR];exact ⟨rfl,rfl,rfl,v,fun h=>absurd h e0,hv1,by simp [g2,A2],by simp [g3,A2],by simp [g5]⟩
   ·rw [hI];rintro ⟨tm,df,clk⟩ σ' ⟨rfl,rfl,v,hv0,hv1,g2,g3,g5,g6⟩;rw [A2] at g2 g3;have hend:v=0->I4 a c=decide (a.list.length=c.list.length):=fun h=>by
     rw [hv0 h]
     by_cases hlen:a.list.length=c.list.length
     ·rw [X0 (by omega) (by omega)];simp [hlen]
     ·rw [X4 (by rw [List.length_drop,List.length_drop];omega)];simp [hlen]
    by_cases e0:v=0
    ·subst e0
     by_cases hja:((min a.list.length c.list.length:Nat):Int)<(a.list.length:Int)
     ·have hjc:¬((min a.list.length c.list.length:Nat):Int)<(c.list.length:Int):=by omega
      generalize min a.list.length c.list.length=mn at g6 hja hjc;simp [g2,g3,g5,g6,hja,hjc];rw [hR];exact ⟨rfl,rfl,rfl,0,hend,hv1,by simp [g2,A2],by simp [g3,A2],by simp [g5]⟩
     ·generalize min a.list.length c.list.length=mn at g6 hja;simp [g2,g3,g5,g6,hja];rw [hR];exact ⟨rfl,rfl,rfl,0,hend,hv1,by simp [g2,A2],by simp [g3,A2],by simp [g5]⟩
    ·simp [g2,g3,g5,g6,e0];rw [hR];exact ⟨rfl,rfl,rfl,v,hend,hv1,by simp [g2,A2],by simp [g3,A2],by simp [g5]⟩
   ·rw [hR];rintro ex ⟨tm,df,clk⟩ σ' ⟨rfl,rfl,rfl,v,hv0,hv1,g2,g3,g5⟩;rw [A2] at g2 g3
    by_cases e0:v=0
    ·subst e0;have hd:=hv0 rfl;have z3':decide (r3=0)=decide (a.list.length=c.list.length):=by rw [z3];simp [Int.ofNat_inj]
     simp [g2,g3,g5,h3,hd];exact decide_eq_decide.1 z3'
    ·simp [g2,g3,g5,e0,hv1 e0]
  have hS:I4 a c=H0 I4 a.list c.list:=by rw [hdef];simp [e1,e2]
  simp [x159,A2,h1,h2,e1,e2];obtain ⟨I,hI⟩:∃I:Nat->TAct->Sto->Prop,I=(fun j a' σ'=>a'.df=[]/\σ'=σ/\∃v:Int,(v=0->I4 a c=H0 I4 (a.list.drop j) (c.list.drop j))/\(v≠0->I4 a c=false)/\a'.tm.get 2=some (.bx 0 (C9 a) 24)/\a'.tm.get 3=some (.bx 2 (C9 c) 24)/\a'.tm.get 5=some (.int .i64 v)/\a'.tm.get 6=some (.int .i64 j)):=⟨_,rfl⟩
  obtain ⟨R,hR⟩:∃R:TEx->TAct->Sto->Prop,R=(fun ex a' σ'=>ex=.exit 0/\a'.df=[]/\σ'=σ/\∃v:Int,(v=0->I4 a c=decide (a.list.length=c.list.length))/\(v≠0->I4 a c=false)/\a'.tm.get 2=some (.bx 0 (C9 a) 24)/\a'.tm.get 3=some (.bx 2 (C9 c) 24)/\a'.tm.get 5=some (.int .i64 v)):=⟨_,rfl⟩;refine A9 I (min a.list.length c.list.length) R ?_ ?_ ?_ ?_ ?_
  ·rw [hI];exact ⟨rfl,rfl,0,fun _=>hS,fun h=>absurd rfl h,by simp [A2],by simp [A2],by simp,by simp⟩
  ·omega
  ·rw [hI];rintro j ⟨tm,df,clk⟩ σ' hj ⟨rfl,rfl,v,hv0,hv1,g2,g3,g5,g6⟩;rw [<-hI];rw [A2] at g2 g3
   by_cases e0:v=0
   ·have hja:j<a.list.length:=by omega
    have hjc:j<c.list.length:=by omega
    have hw:=C8 hja ha.len;obtain ⟨r,hcc,hr⟩:=ih a.list[j] c.list[j] σ'.length σ' (by have:=G9 _ _ (List.getElem_mem hja);omega) (ha.sub _ (List.getElem_mem hja)) (hc.sub _ (List.getElem_mem hjc));rw [A2,A2 c.list[j]] at hcc;have hd:=hv0 e0;rw [S0 hja hjc,<-hr] at hd;subst e0;simp [g2,g3,g5,g6,hja,hjc,hcc,hw,A2];rw [hI]
    refine ⟨rfl,rfl,r,fun h=>by rw [hd];simp [h],fun h=>by rw [hd];simp [h],by simp [g2,A2],by simp [g3,A2],by simp,by simp⟩
   ·simp [g2,g3,g5,g6,e0];rw [hR];exact ⟨rfl,rfl,rfl,v,fun h=>absurd h e0,hv1,by simp [g2,A2],by simp [g3,A2],by simp [g5]⟩
  ·rw [hI];rintro ⟨tm,df,clk⟩ σ' ⟨rfl,rfl,v,hv0,hv1,g2,g3,g5,g6⟩;rw [A2] at g2 g3;have hend:v=0->I4 a c=decide (a.list.length=c.list.length):=fun h=>by
    rw [hv0 h]
    by_cases hlen:a.list.length=c.list.length
    ·rw [X0 (by omega) (by omega)];simp [hlen]
    ·rw [X4 (by rw [List.length_drop,List.length_drop];omega)];simp [hlen]
   by_cases e0:v=0
   ·subst e0
    by_cases hja:((min a.list.length c.list.length:Nat):Int)<(a.list.length:Int)
    ·have hjc:¬((min a.list.length c.list.length:Nat):Int)<(c.list.length:Int):=by omega
     generalize min a.list.length c.list.length=mn at g6 hja hjc;simp [g2,g3,g5,g6,hja,hjc];rw [hR];exact ⟨rfl,rfl,rfl,0,hend,hv1,by simp [g2,A2],by simp [g3,A2],by simp [g5]⟩
    ·generalize min a.list.length c.list.length=mn at g6 hja;simp [g2,g3,g5,g6,hja];rw [hR];exact ⟨rfl,rfl,rfl,0,hend,hv1,by simp [g2,A2],by simp [g3,A2],by simp [g5]⟩
   ·simp [g2,g3,g5,g6,e0];rw [hR];exact ⟨rfl,rfl,rfl,v,hend,hv1,by simp [g2,A2],by simp [g3,A2],by simp [g5]⟩
  ·rw [hR];rintro ex ⟨tm,df,clk⟩ σ' ⟨rfl,rfl,rfl,v,hv0,hv1,g2,g3,g5⟩;rw [A2] at g2 g3
   by_cases e0:v=0
   ·subst e0;have hd:=hv0 rfl;have z3':decide (r3=0)=decide (a.list.length=c.list.length):=by rw [z3];simp [Int.ofNat_inj]
    simp [g2,g3,g5,h3,hd];exact decide_eq_decide.1 z3'
   ·simp [g2,g3,g5,e0,hv1 e0]

theorem C4C (h106:F 112=some f106) (h158:F 162=some f158) (h180:F 202=some f180) (h165:F 201=some f165) (h181:F 203=some f181) (N:Nat) (a c:PVal) (b:Nat) (σ:Sto) (h:szV a<=N) (ha:OkV a) (hc:OkV c):
  A4 F O (N+1) b 112 [.agg (C9 a),.agg (C9 c)] σ=some (.ret (.bool (I4 a c)),σ):=by
 obtain ⟨r,hq,hr⟩:=B08 (O:=O) h158 h180 h165 h181 N a c σ.length σ h ha hc;rw [A2,A2 c] at hq;refine A3 h106 ?_;simp [x106,A2,hq,<-hr]
theorem B78 (h109:F 85=some f109) (h159:F 115=some f159) (h182:F 163=some f182) (N:Nat) (a c:PVal) (b:Nat) (σ:Sto) (h:szV a<=N) (ha:OkV a) (hc:OkV c):
  A4 F O (N+1) b 85 [.agg (C9 a),.agg (C9 c)] σ=some (.ret (.bool (I4 a c)),σ):=by
 obtain ⟨r,hq,hr⟩:=A54 (O:=O) h159 h182 N a c σ.length σ h ha hc;rw [A2,A2 c] at hq;refine A3 h109 ?_;simp [x109,A2,hq,<-hr]
structure VFits (F:FuncId->Option TFun):Prop where
 h106:F 112=some f106
 h158:F 162=some f158
 h180:F 202=some f180
 h165:F 201=some f165
 h181:F 203=some f181
 h107:F 113=some f107
 h109:F 85=some f109
 h159:F 115=some f159
 h182:F 163=some f182
 h110:F 86=some f110
theorem I9 (a b:PTerm):H5 a b=(decide (a.kind=b.kind)&&(decide (a.n=b.n)&&(decide (a.m=b.m)&&(I4 a.val b.val&&(H0 X1 a.odds b.odds&&H0 H5 a.kids b.kids))))):=A2l a b
theorem A1K (V:VFits F) (h65:F 45=some f65):∀(N:Nat) (a c:PTerm) (b:Nat) (σ:Sto),E3 a<=N->OkTm a->OkTm c->
  A4 F O N b 45 [.agg (A5 a),.agg (A5 c)] σ=some (.ret (.bool (H5 a c)),σ)
 |0,a,c,b,σ,h,_,_=>by rw [B5] at h;omega
 |1,a,c,b,σ,h,_,_=>by rw [B5] at h;omega
 |N+2,a,c,b,σ,h,ha,hc=>by
  have ih:=A1K V h65 (N+1);have hs:=B5 a;have hk:=H8 a.kids;have hV:=B78 (O:=O) V.h109 V.h159 V.h182 N a.val c.val σ.length σ (by omega) ha.val hc.val;have hI:=B77 (O:=O) V.h110 N σ.length σ a.odds c.odds ha.olen hc.olen (by omega);rw [A2,A2 c.val] at hV;refine A3 h65 ?_
  by_cases hk:a.kind=c.kind
  case neg=>simp [x65,A0,I9,hk]
  by_cases hn:a.n=c.n
  case neg=>simp [x65,A0,I9,hk,hn]
  by_cases hm:a.m=c.m
  case neg=>simp [x65,A0,I9,hk,hn,hm]
  cases hv:I4 a.val c.val with
  |false=>
   rw [hv] at hV;simp [x65,A0,I9,hk,hn,hm,hV,hv]
  |true=>
   rw [hv] at hV;cases hi:H0 X1 a.odds c.odds with
   |false=>
    rw [hi] at hI;simp [x65,A0,I9,hk,hn,hm,hV,hv,hI,hi]
   |true=>
    rw [hi] at hI
    by_cases hlm:(a.kids.length:Int)=(c.kids.length:Int)
    case neg=>
     have hne:a.kids.length≠c.kids.length:=by omega
     simp [x65,A0,I9,hk,hn,hm,hV,hv,hI,hi,hlm,hne,X4 hne]
    have hlm':a.kids.length=c.kids.length:=by omega
    simp [x65,A0,I9,hk,hn,hm,hV,hv,hI,hi,hlm'];obtain ⟨I,hI⟩:∃I:Nat->TAct->Sto->Prop,I=(fun j a' σ'=>a'.df=[]/\σ'=σ/\H0 H5 (a.kids.drop j) (c.kids.drop j)=H0 H5 a.kids c.kids/\a'.tm.get 2=some (.bx 0 (A5 a) 28)/\a'.tm.get 3=some (.bx 2 (A5 c) 28)/\a'.tm.get 5=some (.int .i64 j)):=⟨_,rfl⟩
    obtain ⟨R,hR⟩:∃R:TEx->TAct->Sto->Prop,R=(fun ex a' σ'=>a'.df=[]/\σ'=σ/\(ex=.exit 0/\H0 H5 a.kids c.kids=true\/ex=.ret/\H0 H5 a.kids c.kids=false/\a'.tm.get 4=some (.bool false))):=⟨_,rfl⟩;refine A9 I c.kids.length R ?_ ?_ ?_ ?_ ?_
    ·rw [hI];simp [A0,hk,hn,hm]
    ·omega
    ·rw [hI];rintro j ⟨tm,df,clk⟩ σ' hj ⟨rfl,rfl,hd,h2,h3,h5⟩;rw [<-hI];have hjl:j<a.kids.length:=by omega
     have hw:=C8 hj hc.len;rw [S0 hjl hj] at hd;have hcc:=ih a.kids[j] c.kids[j] σ'.length σ' (by have:=D9 _ _ (List.getElem_mem hjl);omega) (ha.sub _ (List.getElem_mem hjl)) (hc.sub _ (List.getElem_mem hj));rw [A0,A0 c.kids[j]] at hcc;rw [A0] at h2 h3;cases hs:H5 a.kids[j] c.kids[j] with
     |true=>
      rw [hs] at hd hcc;simp [h2,h3,h5,hj,hjl,hlm',hcc,hw,A0];rw [hI]
      simpa [h2,h3,A0] using hd
     |false=>
      rw [hs] at hd hcc;simp [h2,h3,h5,hj,hjl,hlm',hcc,hw,A0];rw [hR]
      simpa using hd.symm
    ·rw [hI];rintro ⟨tm,df,clk⟩ σ' ⟨rfl,rfl,hd,h2,h3,h5⟩;rw [X0 (by omega) (by omega)] at hd;rw [A0] at h2 h3;simp [h2,h3,h5,hlm'];rw [hR];exact ⟨rfl,rfl,.inl ⟨rfl,hd.symm⟩⟩
    ·rw [hR];rintro ex ⟨tm,df,clk⟩ σ' ⟨rfl,rfl,⟨rfl,h⟩|⟨rfl,h,h6⟩⟩
     ·simp [h]
     ·simp [h,h6]
theorem A55 {α:Type} {S:α->Bool} {l:List α} {j:Nat} (h:j<l.length):(l.drop j).any S=(S l[j]||(l.drop (j+1)).any S):=by
 rw [List.drop_eq_getElem_cons h,List.any_cons]
theorem C1c (hF:F 73=some f1073) (G:FuncId) (cap:List TV) (N:Nat) (S:PTerm->Bool) (b:Nat) (σ:Sto) (l:List PTerm) (hl:l.length<=maxLen) (hn:l.length<N)
  (hc:∀x∈l,∀b,A4 F O N b G (.agg (A5 x)::cap) σ=some (.ret (.bool (S x)),σ)):
  ∃r:Int,A4 F O (N+1) b 73 [.sl .fz (l.map A5),.func G [] cap] σ=some (.ret (.int .i64 r),σ)/\decide (0<=r)=l.any S:=by
 suffices hh:∃e' σ',A4 F O (N+1) b 73 [.sl .fz (l.map A5),.func G [] cap] σ=some (e',σ')/\∃r:Int,e'=.ret (.int .i64 r)/\σ'=σ/\decide (0<=r)=l.any S by
  obtain ⟨e',σ',q1,r,rfl,rfl,q2⟩:=hh;exact ⟨r,q1,q2⟩
 refine D5 hF ?_;simp [x1073];obtain ⟨I,hI⟩:∃I:Nat->TAct->Sto->Prop,I=(fun j a σ'=>a.df=[]/\σ'=σ/\(l.drop j).any S=l.any S/\a.tm.get 0=some (.sl .fz (l.map A5))/\a.tm.get 1=some (.func G [] cap)/\a.tm.get 7=some (.int .i64 (l.length:Int))/\a.tm.get 8=some (.int .i64 j)):=⟨_,rfl⟩
 obtain ⟨R,hR⟩:∃R:TEx->TAct->Sto->Prop,R=(fun ex a σ'=>a.df=[]/\σ'=σ/\(ex=.exit 0/\l.any S=false\/ex=.ret/\l.any S=true/\∃r:Int,0<=r/\a.tm.get 4=some (.int .i64 r))):=⟨_,rfl⟩;refine A9 I l.length R ?_ ?_ ?_ ?_ ?_
 ·rw [hI];simp
 ·omega
 ·rw [hI];rintro j ⟨tm,df,clk⟩ σ' hj ⟨rfl,rfl,hd,h0,h1,h7,h8⟩;rw [<-hI];have hw:=C8 hj hl;rw [A55 hj] at hd;have hcc:=hc l[j] (List.getElem_mem hj) σ'.length;rw [A0] at hcc;cases hs:S l[j] with
  |true=>
   rw [hs] at hd hcc;simp [h0,h1,h7,h8,hj,hcc,hw,A0];rw [hR];exact ⟨rfl,rfl,.inr ⟨rfl,by simpa using hd.symm,j,by omega,by simp⟩⟩
  |false=>
   rw [hs] at hd hcc;simp [h0,h1,h7,h8,hj,hcc,hw,A0];rw [hI]
   simpa [h0,h1,h7] using hd
 ·rw [hI];rintro ⟨tm,df,clk⟩ σ' ⟨rfl,rfl,hd,h0,h1,h7,h8⟩;rw [List.drop_of_length_le (Nat.le_refl _)] at hd;simp [h0,h1,h7,h8];rw [hR];exact ⟨rfl,rfl,.inl ⟨rfl,hd.symm⟩⟩
 ·rw [hR];rintro ex ⟨tm,df,clk⟩ σ' ⟨rfl,rfl,⟨rfl,h⟩|⟨rfl,h,r,hr,h4⟩⟩
  ·simp [h]
  ·simp [h,h4,hr]
theorem C2k (hF:F 33=some f1033) (hI:F 73=some f1073) (G:FuncId) (cap:List TV) (N:Nat) (S:PTerm->Bool) (b:Nat) (σ:Sto) (l:List PTerm) (hl:l.length<=maxLen) (hn:l.length<N)
  (hc:∀x∈l,∀b,A4 F O N b G (.agg (A5 x)::cap) σ=some (.ret (.bool (S x)),σ)):
  A4 F O (N+2) b 33 [.sl .fz (l.map A5),.func G [] cap] σ=some (.ret (.bool (l.any S)),σ):=by
 obtain ⟨r,hq,hr⟩:=C1c (O:=O) hI G cap N S σ.length σ l hl hn hc;refine A3 hF ?_;simp [x1033,hq,<-hr]
def A0S:List Int->Bool
 |[a,b]=>decide (a=b)&&decide (0<a)
 |_=>false
theorem B34 {o:List Int} (h:o.length≠2):A0S o=false:=by
 match o,h with
 |[],_=>rfl
 |[_],_=>rfl
 |[_,_],h=>exact absurd rfl h
 |_::_::_::_,_=>rfl
theorem B35 (hF:F 31=some f1031) (N:Nat) (e:PTerm) (b:Nat) (σ:Sto):A4 F O (N+1) b 31 [.agg (A5 e)] σ=some (.ret (.bool (A0S e.odds)),σ):=by
 refine A3 hF ?_
 by_cases h2:e.odds.length=2
 case neg=>
  have h2':¬(e.odds.length:Int)=2:=by omega
  simp [x1031,A0,h2,h2',B34 h2]
 obtain ⟨k,n,m,v,o,ks⟩:=e;simp only [PTerm.odds] at h2;obtain ⟨x,y,rfl⟩:∃x y,o=[x,y]:=by
  match o,h2 with|[x,y],_=>exact ⟨x,y,rfl⟩
 by_cases hxy:x=y
 ·by_cases hp:0<x
  ·simp [x1031,A0,PTerm.odds,encI,A0S,hxy,hp]
  ·simp [x1031,A0,PTerm.odds,encI,A0S,hxy,hp]
 ·simp [x1031,A0,PTerm.odds,encI,A0S,hxy]
theorem B36 (hF:F 35=some f1035) (N:Nat) (o:List Int) (b:Nat) (σ:Sto):A4 F O (N+1) b 35 [.sl .fz (o.map encI)] σ=some (.ret (.bool (A0S o)),σ):=by
 refine A3 hF ?_
 by_cases h2:o.length=2
 case neg=>
  have h2':¬(o.length:Int)=2:=by omega
  simp [x1035,h2,h2',B34 h2]
 obtain ⟨x,y,rfl⟩:∃x y,o=[x,y]:=by
  match o,h2 with|[x,y],_=>exact ⟨x,y,rfl⟩
 by_cases hxy:x=y
 ·by_cases hp:0<x
  ·simp [x1035,encI,A0S,hxy,hp]
  ·simp [x1035,encI,A0S,hxy,hp]
 ·simp [x1035,encI,A0S,hxy]
mutual
def A06:PTerm->Bool
 |.mk k n _ _ o ks=>if k=3\/k=10\/k=4 then false else if k=5 then decide (ks.length=0) else if k=11/\A0S o=false then false else if k=6/\n∈([1,2,3,4,5,13,9]:List Int) then false else S6 ks
def S6:List PTerm->Bool
 |[]=>true
 |t::l=>A06 t&&S6 l
end
theorem A8b:∀l,(!(l.any fun k=> !A06 k))=S6 l
 |[]=>rfl
 |t::l=>by rw [List.any_cons,Bool.not_or,Bool.not_not,A8b l];rfl
theorem B09 (t:PTerm):A06 t=if t.kind=3\/t.kind=10\/t.kind=4 then false else if t.kind=5 then decide (t.kids.length=0) else if t.kind=11/\A0S t.odds=false then false else if t.kind=6/\t.n∈([1,2,3,4,5,13,9]:List Int) then false else S6 t.kids:=by
 cases t;simp only [A06,PTerm.kind,PTerm.n,PTerm.odds,PTerm.kids];rfl
theorem A2Z {l:List PTerm} {j:Nat} (hj:j<l.length):S6 (l.drop j)=(A06 l[j]&&S6 (l.drop (j+1))):=by
 rw [List.drop_eq_getElem_cons hj];rfl
structure UFits (F:FuncId->Option TFun):Prop where
 h9:F 9=some f1009
 h31:F 31=some f1031
 h32:F 32=some f66
 h72:F 72=some f111
 h33:F 33=some f1033
 h73:F 73=some f1073
 h34:F 34=some f1034
theorem B9j:(([1,2,3,4,5,13,9]:List Int).map encI)=[[.int .i64 1],[.int .i64 2],[.int .i64 3],[.int .i64 4],[.int .i64 5],[.int .i64 13],[.int .i64 9]]:=rfl
theorem B1o (U:UFits F):∀(M N:Nat) (e:PTerm) (b:Nat) (σ:Sto),E3 e<=M->4*M+20<=N->OkTm e->A4 F O N b 9 [.agg (A5 e)] σ=some (.ret (.bool (A06 e)),σ)
 |0,N,e,b,σ,h,_,_=>by rw [B5] at h;omega
 |M+1,N,e,b,σ,h,hN,he=>by
  have ih:=B1o U M;have hs:=B5 e;have hk:=H8 e.kids;obtain ⟨N,rfl⟩:∃n,N=n+4:=⟨N - 4,by omega⟩;refine A3 U.h9 ?_;have hkl:=he.len;have hln:e.kids.length<N+1:=by omega
  have hev:=B35 (O:=O) U.h31 (N+2) e σ.length σ;have hcon:=A49 (O:=O) U.h32 U.h72 (N+1) (.sl .fz (([1,2,3,4,5,13,9]:List Int).map encI)) [1,2,3,4,5,13,9] e.n σ.length σ (.fz _) (by decide) (by simp;omega);rw [B9j] at hcon;have h34:∀x∈e.kids,∀b,A4 F O (N+1) b 34 (.agg (A5 x)::[]) σ=some (.ret (.bool (!A06 x)),σ):=fun x hx b=>by
   have:=D9 _ _ hx;have hq:=ih N x σ.length σ (by omega) (by omega) (he.sub x hx);refine A3 U.h34 ?_;rw [A0] at hq;simp [x1034,A0,hq]
  have hany:=C2k (O:=O) U.h33 U.h73 34 [] (N+1) (fun x=> !A06 x) σ.length σ e.kids hkl hln h34;rw [B09];have hsa:=A8b e.kids;rw [A0] at hev
  by_cases k3:e.kind=3
  ·simp [x1009,A0,k3]
  by_cases k10:e.kind=10
  ·simp [x1009,A0,k10]
  by_cases k4:e.kind=4
  ·simp [x1009,A0,k4]
  by_cases k5:e.kind=5
  ·simp [x1009,A0,k5]
  by_cases k11:e.kind=11
  ·cases hb:A0S e.odds with
   |false=>
    rw [hb,k11] at hev;simp [x1009,A0,k11,hev]
   |true=>
    rw [hb,k11] at hev;simp [x1009,A0,k11,hev,hany,hsa]
  by_cases k6:e.kind=6
  ·by_cases hm:e.n∈([1,2,3,4,5,13,9]:List Int)
   ·rw [decide_eq_true hm] at hcon;rw [if_neg (by simp [k6]),if_neg (by simp [k6]),if_neg (by simp [k6]),if_pos ⟨k6,hm⟩];simp [x1009,A0,k6,encI,hcon]
   ·rw [decide_eq_false hm] at hcon;rw [if_neg (by simp [k6]),if_neg (by simp [k6]),if_neg (by simp [k6]),if_neg (fun h=>hm h.2)];simp [x1009,A0,k6,encI,hcon,hany,hsa]
  simp [x1009,A0,k3,k10,k4,k5,k11,k6,hany,hsa]
theorem A8c (h10:F 10=some f1010) (h35:F 35=some f1035):∀(N:Nat) (e:PTerm) (b:Nat) (σ:Sto),E3 e<=N->OkTm e->A4 F O N b 10 [.agg (A5 e)] σ=some (.ret (.bool (A06 e)),σ)
 |0,e,b,σ,h,_=>by rw [B5] at h;omega
 |N+1,e,b,σ,h,he=>by
  have ih:=A8c h10 h35 N;have hs:=B5 e;have hk:=H8 e.kids;obtain ⟨N,rfl⟩:∃n,N=n+1:=⟨N - 1,by omega⟩;refine A3 h10 ?_;have hev:=B36 (O:=O) h35 N e.odds σ.length σ;rw [B09]
  by_cases k3:e.kind=3
  ·simp [x1010,A0,k3]
  by_cases k10:e.kind=10
  ·simp [x1010,A0,k10]
  by_cases k4:e.kind=4
  ·simp [x1010,A0,k4]
  by_cases k5:e.kind=5
  ·by_cases hl:e.kids.length=0
   ·have e0:e.kids=[]:=List.eq_nil_of_length_eq_zero hl;rw [if_neg (by simp [k5]),if_pos k5,decide_eq_true hl];simp [x1010,A0,k5,e0];refine A9 (fun j a σ'=>j=0/\a.df=[]/\σ'=σ/\a.tm.get 1=some (.bx 0 (A5 e) 28)/\a.tm.get 3=some (.int .i64 0)) 0 (fun ex a σ'=>ex=.exit 2/\a.df=[]/\σ'=σ) ?_ ?_ ?_ ?_ ?_
    ·exact ⟨rfl,rfl,rfl,by simp [A0,k5,e0],by simp⟩
    ·omega
    ·intro j a σ' hj;omega
    ·rintro ⟨tm,df,clk⟩ σ' ⟨_,rfl,rfl,h1,h3⟩;rw [A0] at h1;simp [h1,h3,e0]
    ·rintro ex ⟨tm,df,clk⟩ σ' ⟨rfl,rfl,rfl⟩;simp
   ·have hl2:0<e.kids.length:=by omega
    have hl3:e.kids≠[]:=fun h=>hl (by simp [h])
    simp [x1010,A0,k5,hl,hl2,hl3]
  by_cases k11:e.kind=11
  ·cases hb:A0S e.odds with
   |false=>
    rw [hb] at hev;simp [x1010,A0,k11,hev]
   |true=>
    rw [hb] at hev;rw [if_neg (by simp [k11]),if_neg (by simp [k11]),if_neg (by simp),if_neg (by simp [k11])];simp [x1010,A0,k11,hev];obtain ⟨I,hI⟩:∃I:Nat->TAct->Sto->Prop,I=(fun j a σ'=>a.df=[]/\σ'=σ/\S6 (e.kids.drop j)=S6 e.kids/\a.tm.get 1=some (.bx 0 (A5 e) 28)/\a.tm.get 3=some (.int .i64 j)):=⟨_,rfl⟩
    obtain ⟨R,hR⟩:∃R:TEx->TAct->Sto->Prop,R=(fun ex a σ'=>a.df=[]/\σ'=σ/\(ex=.exit 2/\S6 e.kids=true\/ex=.ret/\S6 e.kids=false/\a.tm.get 2=some (.bool false))):=⟨_,rfl⟩;refine A9 I e.kids.length R ?_ ?_ ?_ ?_ ?_
    ·rw [hI];exact ⟨rfl,rfl,by simp,by simp [A0,k11],by simp⟩
    ·omega
    ·rw [hI];rintro j ⟨tm,df,clk⟩ σ' hj ⟨rfl,rfl,ha,h1,h3⟩;rw [<-hI];have hw:=C8 hj he.len;rw [A2Z hj] at ha;have hcc:=ih e.kids[j] σ'.length σ' (by have:=D9 _ _ (List.getElem_mem hj);omega) (he.sub _ (List.getElem_mem hj));have h1':=h1;rw [A0] at hcc h1;cases hs:A06 e.kids[j] with
     |true=>
      rw [hs] at ha hcc;simp [h1,h3,hj,hcc,hw,A0];rw [hI];exact ⟨rfl,rfl,by simpa using ha,by simp [h1'],by simp⟩
     |false=>
      rw [hs] at ha hcc;simp [h1,h3,hj,hcc,hw,A0];rw [hR];exact ⟨rfl,rfl,.inr ⟨rfl,by simpa using ha.symm,by simp⟩⟩
    ·rw [hI];rintro ⟨tm,df,clk⟩ σ' ⟨rfl,rfl,ha,h1,h3⟩;rw [List.drop_of_length_le (Nat.le_refl _)] at ha;rw [A0] at h1;simp [h1,h3];rw [hR];exact ⟨rfl,rfl,.inl ⟨rfl,by rw [<-ha];rfl⟩⟩
    ·rw [hR];rintro ex ⟨tm,df,clk⟩ σ' ⟨rfl,rfl,⟨rfl,h⟩|⟨rfl,h,h6⟩⟩
     ·simp [h]
     ·simp [h,h6]
  by_cases k6:e.kind=6
  ·by_cases hm:e.n∈([1,2,3,4,5,13,9]:List Int)
   ·rw [if_neg (by simp [k6]),if_neg (by simp [k6]),if_neg (by simp [k6]),if_pos ⟨k6,hm⟩];simp only [List.mem_cons,List.not_mem_nil,or_false] at hm;rcases hm with q|q|q|q|q|q|q
    all_goals simp [x1010,A0,k6,q]
   ·rw [if_neg (by simp [k6]),if_neg (by simp [k6]),if_neg (by simp [k6]),if_neg (fun h=>hm h.2)];simp only [List.mem_cons,List.not_mem_nil,or_false,not_or] at hm;obtain ⟨q1,q2,q3,q4,q5,q6,q7⟩:=hm;simp [x1010,A0,k6,q1,q2,q3,q4,q5,q6,q7]
    obtain ⟨I,hI⟩:∃I:Nat->TAct->Sto->Prop,I=(fun j a σ'=>a.df=[]/\σ'=σ/\S6 (e.kids.drop j)=S6 e.kids/\a.tm.get 1=some (.bx 0 (A5 e) 28)/\a.tm.get 3=some (.int .i64 j)):=⟨_,rfl⟩;obtain ⟨R,hR⟩:∃R:TEx->TAct->Sto->Prop,R=(fun ex a σ'=>a.df=[]/\σ'=σ/\(ex=.exit 2/\S6 e.kids=true\/ex=.ret/\S6 e.kids=false/\a.tm.get 2=some (.bool false))):=⟨_,rfl⟩;refine A9 I e.kids.length R ?_ ?_ ?_ ?_ ?_
    ·rw [hI];exact ⟨rfl,rfl,by simp,by simp [A0,k6],by simp⟩
    ·omega
    ·rw [hI];rintro j ⟨tm,df,clk⟩ σ' hj ⟨rfl,rfl,ha,h1,h3⟩;rw [<-hI];have hw:=C8 hj he.len;rw [A2Z hj] at ha;have hcc:=ih e.kids[j] σ'.length σ' (by have:=D9 _ _ (List.getElem_mem hj);omega) (he.sub _ (List.getElem_mem hj));have h1':=h1;rw [A0] at hcc h1;cases hs:A06 e.kids[j] with
     |true=>
      rw [hs] at ha hcc;simp [h1,h3,hj,hcc,hw,A0];rw [hI];exact ⟨rfl,rfl,by simpa using ha,by simp [h1'],by simp⟩
     |false=>
      rw [hs] at ha hcc;simp [h1,h3,hj,hcc,hw,A0];rw [hR];exact ⟨rfl,rfl,.inr ⟨rfl,by simpa using ha.symm,by simp⟩⟩
    ·rw [hI];rintro ⟨tm,df,clk⟩ σ' ⟨rfl,rfl,ha,h1,h3⟩;rw [List.drop_of_length_le (Nat.le_refl _)] at ha;rw [A0] at h1;simp [h1,h3];rw [hR];exact ⟨rfl,rfl,.inl ⟨rfl,by rw [<-ha];rfl⟩⟩
    ·rw [hR];rintro ex ⟨tm,df,clk⟩ σ' ⟨rfl,rfl,⟨rfl,h⟩|⟨rfl,h,h6⟩⟩
     ·simp [h]
     ·simp [h,h6]
  rw [if_neg (by simp [k3,k10,k4]),if_neg k5,if_neg (fun h=>k11 h.1),if_neg (fun h=>k6 h.1)];simp [x1010,A0,k3,k10,k4,k5,k11,k6];obtain ⟨I,hI⟩:∃I:Nat->TAct->Sto->Prop,I=(fun j a σ'=>a.df=[]/\σ'=σ/\S6 (e.kids.drop j)=S6 e.kids/\a.tm.get 1=some (.bx 0 (A5 e) 28)/\a.tm.get 3=some (.int .i64 j)):=⟨_,rfl⟩
  obtain ⟨R,hR⟩:∃R:TEx->TAct->Sto->Prop,R=(fun ex a σ'=>a.df=[]/\σ'=σ/\(ex=.exit 2/\S6 e.kids=true\/ex=.ret/\S6 e.kids=false/\a.tm.get 2=some (.bool false))):=⟨_,rfl⟩;refine A9 I e.kids.length R ?_ ?_ ?_ ?_ ?_
  ·rw [hI];exact ⟨rfl,rfl,by simp,by simp [A0,k3],by simp⟩
  ·omega
  ·rw [hI];rintro j ⟨tm,df,clk⟩ σ' hj ⟨rfl,rfl,ha,h1,h3⟩;rw [<-hI];have hw:=C8 hj he.len;rw [A2Z hj] at ha;have hcc:=ih e.kids[j] σ'.length σ' (by have:=D9 _ _ (List.getElem_mem hj);omega) (he.sub _ (List.getElem_mem hj));have h1':=h1;rw [A0] at hcc h1;cases hs:A06 e.kids[j] with
   |true=>
    rw [hs] at ha hcc;simp [h1,h3,hj,hcc,hw,A0];rw [hI];exact ⟨rfl,rfl,by simpa using ha,by simp [h1'],by simp⟩
   |false=>
    rw [hs] at ha hcc;simp [h1,h3,hj,hcc,hw,A0];rw [hR];exact ⟨rfl,rfl,.inr ⟨rfl,by simpa using ha.symm,by simp⟩⟩
  ·rw [hI];rintro ⟨tm,df,clk⟩ σ' ⟨rfl,rfl,ha,h1,h3⟩;rw [List.drop_of_length_le (Nat.le_refl _)] at ha;rw [A0] at h1;simp [h1,h3];rw [hR];exact ⟨rfl,rfl,.inl ⟨rfl,by rw [<-ha];rfl⟩⟩
  ·rw [hR];rintro ex ⟨tm,df,clk⟩ σ' ⟨rfl,rfl,⟨rfl,h⟩|⟨rfl,h,h6⟩⟩
   ·simp [h]
   ·simp [h,h6]
theorem Grn.cut {σ σ':Sto} (g:Grn σ σ'):σ'.take σ.length=σ:=by
 apply List.ext_getElem?;intro i
 by_cases hi:i<σ.length
 ·have h1:=g.same i hi;have h2:i<σ'.length:=Nat.lt_of_lt_of_le hi g.len;rw [List.getElem?_take_of_lt hi];rw [List.getElem?_eq_getElem hi,List.getElem?_eq_getElem h2];unfold Sto.at at h1;rw [List.getElem?_eq_getElem hi,List.getElem?_eq_getElem h2] at h1;congr 1;generalize σ[i]=x at h1 ⊢;generalize σ'[i]=y at h1 ⊢;cases x<;>cases y<;>simp_all
 ·rw [List.getElem?_eq_none (by rw [List.length_take];omega),List.getElem?_eq_none (by omega)]
def A56 (t:PTerm) (s:Int):Bool:=decide (s∈refF t)
structure WFits (F:FuncId->Option TFun) (O:FuncId->List TV->Option TV):Prop where
 h11:F 11=some f1011
 h12:F 12=some f1012
 h32:F 32=some f66
 h72:F 72=some f111
 h36:F 36=some f19
 h74:F 74=some f41
 h81:F 81=some f67
 h37:F 37=some f20
 h77:F 77=some f44
 h78:F 78=some f45
 h79:F 79=some f46
 r:RowO F O
theorem B9k (U:WFits F O) (N:Nat) (e:PTerm) (s:Int) (b:Nat) (σ:Sto) (hN:E3 e+100012<=N) (he:OkTm e) (hc:cntT e<=3000):
  A4 F O (N+1) b 11 [.agg (A5 e),.int .i64 s] σ=some (.ret (.bool (A56 e s)),σ):=by
 obtain ⟨N,rfl⟩:∃n,N=n+2:=⟨N - 2,by omega⟩
 suffices hh:∃e' σ',A4 F O (N+2+1) b 11 [.agg (A5 e),.int .i64 s] σ=some (e',σ')/\e'=.ret (.bool (A56 e s))/\σ'=σ by
  obtain ⟨e',σ',q1,rfl,rfl⟩:=hh;exact q1
 refine D5 U.h11 ?_;obtain ⟨v,σ1,h1,hv,hgv,hgr⟩:=B9d (O:=O) U.h36 U.h74 U.h32 U.h81 U.h72 U.r (N+1) e σ.length σ (by omega) he hc (Nat.le_refl _);rw [B9h] at hv;have hlen:=A52 e;have h2:=A49 (O:=O) U.h32 U.h72 N v (refF e) s σ.length σ1 hv (by unfold maxLen;omega) (by omega);have hcut:=hgr.cut;rw [A0] at h1;unfold A56;generalize refF e=L at hv h2;rcases hv with _|_|_
 all_goals simp [x1011,A0,h1,h2,hcut]
theorem B37 (U:WFits F O) (N:Nat) (e:PTerm) (s:Int) (b:Nat) (σ:Sto) (hN:E3 e+20012<=N) (he:OkTm e) (hc:cntT e<=3000):
  A4 F O (N+1) b 12 [.agg (A5 e),.int .i64 s] σ=some (.ret (.bool (A56 e s)),σ):=by
 refine A3 U.h12 ?_;have h1:=B2Z (O:=O) U.h37 U.h77 U.h78 U.h79 (E3 e) N e σ.length σ (Nat.le_refl _) (by omega) he hc;have hlen:=A52 e;rw [A0] at h1;unfold A56;generalize refF e=L at h1 hlen;simp [x1012,A0,h1]
 obtain ⟨I,hI⟩:∃I:Nat->TAct->Sto->Prop,I=(fun j a σ'=>a.df=[]/\σ'=σ/\decide (s∈L.drop j)=decide (s∈L)/\a.tm.get 1=some (.int .i64 s)/\a.tm.get 5=some (.sl .fz (L.map encI))/\a.tm.get 6=some (.int .i64 j)):=⟨_,rfl⟩;obtain ⟨R,hR⟩:∃R:TEx->TAct->Sto->Prop,R=(fun ex a σ'=>a.df=[]/\σ'=σ/\(ex=.exit 0/\decide (s∈L)=false\/ex=.ret/\decide (s∈L)=true/\a.tm.get 4=some (.bool true))):=⟨_,rfl⟩
 refine A9 I L.length R ?_ (by omega) ?_ ?_ ?_
 ·rw [hI];exact ⟨rfl,rfl,by rw [List.drop_zero],by simp,by simp,by simp⟩
 ·rw [hI];rintro j ⟨tm,df,clk⟩ σ' hj ⟨rfl,rfl,ha,h1,h5,h6⟩;rw [<-hI];have hw:=C8 hj (by unfold maxLen;omega);rw [A83 hj] at ha
  by_cases hs:L[j]=s
  ·have hs':s=L[j]:=hs.symm;rw [decide_eq_true hs',Bool.true_or] at ha;simp [h1,h5,h6,hj,hw,hs,encI];rw [hR];exact ⟨rfl,rfl,.inr ⟨rfl,ha.symm,by simp⟩⟩
  ·have hs':¬s=L[j]:=fun h=>hs h.symm
   rw [decide_eq_false hs',Bool.false_or] at ha;simp [h1,h5,h6,hj,hw,hs,encI];rw [hI];exact ⟨rfl,rfl,ha,by simp [h1],by simp [h5],by simp⟩
 ·rw [hI];rintro ⟨tm,df,clk⟩ σ' ⟨rfl,rfl,ha,h1,h5,h6⟩;rw [List.drop_of_length_le (Nat.le_refl _)] at ha;simp [h1,h5,h6];rw [hR];exact ⟨rfl,rfl,.inl ⟨rfl,by rw [<-ha];rfl⟩⟩
 ·rw [hR];rintro ex ⟨tm,df,clk⟩ σ' ⟨rfl,rfl,⟨rfl,h⟩|⟨rfl,h,h6⟩⟩
  ·have h:=of_decide_eq_false h;simp [h]
  ·have h:=of_decide_eq_true h;simp [h,h6]
def Z3 (m:Int):Nat:=(min (max m 0) 4).toNat
theorem B1p (m:Int):Z3 m<=4:=by unfold Z3;omega
def Q8 (n:Int) (k:Nat) (c:PTerm):Bool:=decide (∀s∈C0 n k,s∉refF c)
theorem B4J (U:WFits F O) (h42:F 42=some f1042) (N:Nat) (e:PTerm) (b:Nat) (σ:Sto) (h2:1<e.kids.length) (he:OkTm e) (hc:∀x∈e.kids,E3 x+20013<=N/\cntT x<=3000):
  A4 F O (N+1) b 42 [.agg (A5 e)] σ=some (.ret (.bool (Q8 e.n (Z3 e.m) e.kids[1])),σ):=by
 have hm:=List.getElem_mem h2;have hcc:=hc _ hm;obtain ⟨N,rfl⟩:∃n,N=n+1:=⟨N - 1,by omega⟩;refine A3 h42 ?_;have hu:=fun s=>B37 U N e.kids[1] s σ.length σ (by omega) (he.sub _ hm) hcc.2
 have hn:=he.n;unfold I64 at hn;have hmI:=he.m;unfold I64 at hmI;have hkk:=B1p e.m;obtain ⟨c,hcE⟩:∃c,c=e.kids[1]:=⟨_,rfl⟩;simp only [<-hcE] at hu ⊢;have hkid:∀j (hj:j<e.kids.length),j=1->e.kids[j]=c:=fun j hj h=>by subst h;exact hcE.symm
 simp [x1042,A0];obtain ⟨I,hI⟩:∃I:Nat->TAct->Sto->Prop,I=(fun j a σ'=>a.df=[]/\σ'=σ/\(∀s∈C0 e.n j,s∉refF c)/\a.tm.get 1=some (.bx 0 (A5 e) 28)/\a.tm.get 3=some (.int .i64 j)):=⟨_,rfl⟩;obtain ⟨R,hR⟩:∃R:TEx->TAct->Sto->Prop,R=(fun ex a σ'=>a.df=[]/\σ'=σ/\(ex=.exit 0/\Q8 e.n (Z3 e.m) c=true\/ex=.ret/\Q8 e.n (Z3 e.m) c=false/\a.tm.get 2=some (.bool false))):=⟨_,rfl⟩;refine A9 I (Z3 e.m) R ?_ (by omega) ?_ ?_ ?_
 ·rw [hI];exact ⟨rfl,rfl,by simp [C0],by simp [A0],by simp⟩
 ·rw [hI];rintro j ⟨tm,df,clk⟩ σ' hj ⟨rfl,rfl,ha,h1,h3⟩;rw [<-hI];have hw:=C8 (n:=5) (j:=j) (by omega) (by unfold maxLen;omega);have hjm:(j:Int)<e.m:=by unfold Z3 at hj;omega
  have hj4:(j:Int)<4:=by omega
  have hwm:IntKind.i64.wrap (9223372036854775807 - (j:Int))=9223372036854775807 - (j:Int):=by rw [D7]<;>omega
  have h1':=h1;rw [A0] at h1
  by_cases hov:e.n<=9223372036854775807 - (j:Int)
  case neg=>
   simp [h1,h3,hjm,hj4,hwm,hov];rw [hR];refine ⟨rfl,rfl,.inl ⟨rfl,decide_eq_true ?_⟩⟩;rw [A2o (j:=j) (by omega) (Z3 e.m) (by omega)];exact ha
  have hwn:IntKind.i64.wrap (e.n+(j:Int))=e.n+(j:Int):=by rw [D7]<;>omega
  have hq:=hu (e.n+(j:Int));have hsl:C0 e.n (j+1)=C0 e.n j++[e.n+(j:Int)]:=by simp only [C0];rw [if_pos (by omega)]
  rw [A0] at hq;cases hs:A56 c (e.n+(j:Int)) with
  |true=>
   rw [hs] at hq;simp [h1,h3,hjm,hj4,hwm,hov,h2,hkid,A0 c,hwn,hq];rw [hR];refine ⟨rfl,rfl,.inr ⟨rfl,decide_eq_false fun h=> ?_,by simp⟩⟩;exact h _ (A4b (j:=j+1) (by rw [hsl];simp) (by omega)) (of_decide_eq_true hs)
  |false=>
   rw [hs] at hq;simp [h1,h3,hjm,hj4,hwm,hov,h2,hkid,A0 c,hwn,hq,hw];rw [hI];refine ⟨rfl,rfl,fun s h=> ?_,by simp [h1'],by simp⟩;rw [hsl,List.mem_append] at h;rcases h with h|h
   ·exact ha s h
   ·cases List.mem_singleton.1 h;exact of_decide_eq_false hs
 ·rw [hI];rintro ⟨tm,df,clk⟩ σ' ⟨rfl,rfl,ha,h1,h3⟩;rw [A0] at h1
  by_cases hjm:((Z3 e.m:Nat):Int)<e.m
  ·have hj4:¬((Z3 e.m:Nat):Int)<4:=by unfold Z3 at hjm ⊢;omega
   simp [h1,h3,hjm,hj4];rw [hR];exact ⟨rfl,rfl,.inl ⟨rfl,decide_eq_true ha⟩⟩
  ·simp [h1,h3,hjm];rw [hR];exact ⟨rfl,rfl,.inl ⟨rfl,decide_eq_true ha⟩⟩
 ·rw [hR];rintro ex ⟨tm,df,clk⟩ σ' ⟨rfl,rfl,⟨rfl,h⟩|⟨rfl,h,h6⟩⟩
  ·simp [h]
  ·simp [h,h6]
theorem B0a (h43:F 43=some f1043) (N:Nat) (v:PVal) (b:Nat) (σ:Sto):A4 F O (N+1) b 43 [.agg (C9 v)] σ=some (.ret (.bool (decide (v.n≠0))),σ):=by
 refine A3 h43 ?_;simp [x1043,A2]
theorem B0b (h82:F 82=some f1082) (N:Nat) (e:PTerm) (b:Nat) (σ:Sto):A4 F O (N+1) b 82 [.agg (A5 e)] σ=some (.ret (.tuple [.bool (decide (e.val.n≠0)),.bool (decide (e.kind=1))]),σ):=by
 refine A3 h82 ?_;simp [x1082,A0]
theorem A8d (V:VFits F) (h84:F 84=some f1084) (h108:F 114=some f108):∀(N:Nat) (a c:PTerm) (b:Nat) (σ:Sto),E3 a<=N->OkTm a->OkTm c->
  A4 F O N b 84 [.agg (A5 a),.agg (A5 c)] σ=some (.ret (.bool (H5 a c)),σ)
 |0,a,c,b,σ,h,_,_=>by rw [B5] at h;omega
 |1,a,c,b,σ,h,_,_=>by rw [B5] at h;omega
 |N+2,a,c,b,σ,h,ha,hc=>by
  have ih:=A8d V h84 h108 N;have hs:=B5 a;have hk:=H8 a.kids;have hV:=C4C (O:=O) V.h106 V.h158 V.h180 V.h165 V.h181 N a.val c.val σ.length σ (by omega) ha.val hc.val;have hI:=B9i (O:=O) V.h107 N σ.length σ a.odds c.odds ha.olen hc.olen (by omega)
  have hK:=C1a (O:=O) h108 84 N H5 σ.length σ a.kids c.kids ha.len hc.len (by omega) (fun x hx y hy b=>ih x y b σ (by have:=D9 _ _ hx;omega) (ha.sub x hx) (hc.sub y hy));rw [A2,A2 c.val] at hV;refine A3 h84 ?_
  by_cases hk:a.kind=c.kind
  case neg=>simp [x1084,A0,I9,hk]
  by_cases hn:a.n=c.n
  case neg=>simp [x1084,A0,I9,hk,hn]
  by_cases hm:a.m=c.m
  case neg=>simp [x1084,A0,I9,hk,hn,hm]
  cases hv:I4 a.val c.val with
  |false=>
   rw [hv] at hV;simp [x1084,A0,I9,hk,hn,hm,hV,hv]
  |true=>
   rw [hv] at hV;cases hi:H0 X1 a.odds c.odds with
   |false=>
    rw [hi] at hI;simp [x1084,A0,I9,hk,hn,hm,hV,hv,hI,hi]
   |true=>
    rw [hi] at hI;simp [x1084,A0,I9,hk,hn,hm,hV,hv,hI,hi,hK]
mutual
def cntV:PVal->Nat
 |.mk _ _ l=>A2A l+1
def A2A:List PVal->Nat
 |[]=>0
 |t::l=>cntV t+A2A l
end
theorem A8e (t:PVal):cntV t=A2A t.list+1:=by cases t;simp only [cntV,PVal.list]
theorem B4K {l:List PVal} {j:Nat} (hj:j<l.length):A2A (l.drop j)=cntV l[j]+A2A (l.drop (j+1)):=by
 rw [List.drop_eq_getElem_cons hj];rfl
theorem B0c:∀(l:List PVal) (t:PVal),t∈l->cntV t<=A2A l
 |x::l,t,h=>by
  simp only [A2A];rcases List.mem_cons.1 h with rfl|h
  ·omega
  ·have:=B0c l t h;omega
theorem B0d:∀l,l.length<=A2A l
 |[]=>Nat.le_refl _
 |t::l=>by have:=B0d l;have:=A8e t;simp only [A2A,List.length_cons];omega
inductive Lt (B:Nat):PTerm->Prop
 |mk {k n m:Int} {v:PVal} {o:List Int} {l:List PTerm}:cntV v<=B->o.length<=B->(∀t∈l,Lt B t)->Lt B (.mk k n m v o l)
theorem Lt.val {B:Nat} {t:PTerm} (h:Lt B t):cntV t.val<=B:=by cases h;assumption
theorem Lt.odds {B:Nat} {t:PTerm} (h:Lt B t):t.odds.length<=B:=by cases h;assumption
theorem Lt.sub {B:Nat} {t:PTerm} (h:Lt B t):∀x∈t.kids,Lt B x:=by cases h;assumption
theorem Lt.of {B:Nat} {t:PTerm} (h1:cntV t.val<=B) (h2:t.odds.length<=B) (h3:∀x∈t.kids,Lt B x):Lt B t:=by cases t;exact .mk h1 h2 h3
theorem B38 (hF:F 100=some f25) (B:Nat) (hB:B<=1000000):∀(N:Nat) (e:PVal) (b:Nat) (σ:Sto) (m:Int),szV e<=N->OkV e->0<=m->m<=B->
  ∃r:Int,A4 F O N b 100 [.agg (C9 e),.int .i64 m,.int .i64 B] σ=some (.ret (.int .i64 r),σ)/\0<=r/\(r<=B->m+(cntV e:Int)<=r)
 |0,e,b,σ,m,h,_,_,_=>by rw [D6] at h;omega
 |N+1,e,b,σ,m,h,hb,hm0,hm1=>by
  have ih:=B38 hF B hB N;have hk:=R8 e.list;have hs:=D6 e;have hw0:IntKind.i64.wrap (m+1)=m+1:=by rw [D7]<;>omega
  suffices hh:∃e' σ',A4 F O (N+1) b 100 [.agg (C9 e),.int .i64 m,.int .i64 B] σ=some (e',σ')/\∃r:Int,e'=.ret (.int .i64 r)/\σ'=σ/\0<=r/\(r<=B->m+(cntV e:Int)<=r) by
   obtain ⟨e',σ',h1,r,rfl,rfl,h2⟩:=hh;exact ⟨r,h1,h2⟩
  refine D5 hF ?_;simp [x25,A2,hw0];obtain ⟨I,hI⟩:∃I:Nat->TAct->Sto->Prop,I=(fun j a σ'=>a.df=[]/\σ'=σ/\∃acc:Int,0<=acc/\(acc<=B->m+(cntV e:Int)<=acc+(A2A (e.list.drop j):Int))/\a.tm.get 1=some (.int .i64 acc)/\a.tm.get 2=some (.int .i64 B)/\a.tm.get 3=some (.bx 0 (C9 e) 24)/\a.tm.get 7=some (.int .i64 j)):=⟨_,rfl⟩
  obtain ⟨R,hR⟩:∃R:TEx->TAct->Sto->Prop,R=(fun ex a σ'=>ex=.exit 0/\a.df=[]/\σ'=σ/\∃acc:Int,0<=acc/\(acc<=B->m+(cntV e:Int)<=acc)/\a.tm.get 1=some (.int .i64 acc)):=⟨_,rfl⟩;refine A9 I e.list.length R ?_ (by omega) ?_ ?_ ?_
  ·rw [hI];exact ⟨rfl,rfl,m+1,by omega,fun _=>by rw [A8e,List.drop_zero];omega,by simp,by simp,by simp [A2],by simp⟩
  ·rw [hI];rintro j ⟨tm,df,clk⟩ σ' hj ⟨rfl,rfl,acc,ha0,hac,h1,h2,h3,h7⟩;rw [<-hI];have hm:=G9 e.list e.list[j] (List.getElem_mem hj);have hw:=C8 hj hb.len;have h3':=h3;rw [A2] at h3
   by_cases ha:acc<=B
   ·obtain ⟨r,hc,hr0,hr1⟩:=ih e.list[j] σ'.length σ' acc (by omega) (hb.sub _ (List.getElem_mem hj)) ha0 ha;rw [A2] at hc;rw [B4K hj] at hac;simp [h1,h2,h3,h7,hj,ha,hc,hw,A2];rw [hI];exact ⟨rfl,rfl,r,hr0,fun h=>by have:=hr1 h;have:=hac ha;omega,by simp,by simp [h2],by simp [h3'],by simp⟩
   ·simp [h1,h2,h3,h7,hj,ha];rw [hR];exact ⟨rfl,rfl,rfl,acc,ha0,fun h=>absurd h ha,by simp [h1]⟩
  ·rw [hI];rintro ⟨tm,df,clk⟩ σ' ⟨rfl,rfl,acc,ha0,hac,h1,h2,h3,h7⟩;rw [List.drop_of_length_le (Nat.le_refl _)] at hac;rw [A2] at h3;simp [h1,h2,h3,h7,A6];rw [hR];exact ⟨rfl,rfl,rfl,acc,ha0,fun h=>by have:=hac h;simp only [A2A] at this;omega,by simp [h1]⟩
  ·rw [hR];rintro ex ⟨tm,df,clk⟩ σ' ⟨rfl,rfl,rfl,acc,ha0,hac,h1⟩;simp [h1];exact ⟨ha0,hac⟩
theorem C4D (hF:F 69=some f7) (hS:F 100=some f25) (B:Nat) (hB:B<=1000000) (N:Nat) (v:PVal) (b:Nat) (σ:Sto) (h:szV v+1<N) (hok:OkV v):
  ∃r:Bool,A4 F O (N+1) b 69 [.int .i64 B,.sl .fz [C9 v]] σ=some (.ret (.bool r),σ)/\(r=true->cntV v<=B):=by
 suffices hh:∃e σ',A4 F O (N+1) b 69 [.int .i64 B,.sl .fz [C9 v]] σ=some (e,σ')/\∃r:Bool,e=.ret (.bool r)/\σ'=σ/\(r=true->cntV v<=B) by
  obtain ⟨e,σ',h1,r,rfl,rfl,h2⟩:=hh;exact ⟨r,h1,h2⟩
 refine D5 hF ?_;obtain ⟨r,hc,hr0,hr1⟩:=B38 (O:=O) hS B hB N v σ.length σ 0 (by omega) hok (by omega) (by omega);rw [A2] at hc;simp [x7,A2];refine A9 (fun j a σ'=>a.df=[]/\σ'=σ/\a.tm.get 0=some (.int .i64 B)/\a.tm.get 1=some (.sl .fz [C9 v])/\a.tm.get 5=some (.int .i64 (if j=0 then 0 else r))/\a.tm.get 6=some (.int .i64 j)) 1
  (fun ex a σ'=>ex=.exit 0/\a.df=[]/\σ'=σ/\a.tm.get 0=some (.int .i64 B)/\a.tm.get 5=some (.int .i64 r)) ?_ (by omega) ?_ ?_ ?_
 ·simp [A2]
 ·rintro j ⟨tm,df,clk⟩ σ' hj ⟨rfl,rfl,h0,h1,h5,h6⟩;obtain rfl:j=0:=by omega
  rw [A2] at h1;have hw:IntKind.i64.wrap 1=1:=by rw [D7]<;>omega
  simp at h5 h6;simp [h0,h1,h5,h6,hc,A2,hw]
 ·rintro ⟨tm,df,clk⟩ σ' ⟨rfl,rfl,h0,h1,h5,h6⟩;simp at h5 h6;rw [A2] at h1;simp [h0,h1,h5,h6]
 ·rintro ex ⟨tm,df,clk⟩ σ' ⟨rfl,rfl,rfl,h0,h5⟩;simp [h0,h5]
  by_cases hh:r<=B
  ·have:=hr1 hh;omega
  ·omega
theorem A5E (hF:F 29=some f24) (h7:F 69=some f7) (h25:F 100=some f25) (B:Nat) (hB:B<=1000000):∀(N:Nat) (e:PTerm) (b:Nat) (σ:Sto) (m:Int),E3 e<=N->OkTm e->Sm reachBytes (A5 e)->0<=m->m<=B->
  ∃r:Int,A4 F O N b 29 [.agg (A5 e),.int .i64 m,.int .i64 B] σ=some (.ret (.int .i64 r),σ)/\0<=r/\(r<=B->m+(cntT e:Int)<=r/\Lt B e)
 |0,e,b,σ,m,h,_,_,_,_=>by rw [B5] at h;omega
 |N+1,e,b,σ,m,h,hb,hsm,hm0,hm1=>by
  have ih:=A5E hF h7 h25 B hB N;have hk:=H8 e.kids;have hs:=B5 e;have hv:=D6 e.val;have hol:=C14 hsm;have hrb:reachBytes=140737488351232:=rfl;have hw0:IntKind.i64.wrap (IntKind.i64.wrap (m+1)+(e.odds.length:Int))=m+1+(e.odds.length:Int):=by
   rw [D7 (m+1)]<;>first|omega|(rw [D7]<;>omega)
  obtain ⟨M,rfl⟩:∃M,N=M+1:=⟨N - 1,by omega⟩;obtain ⟨rf,hf,hfv⟩:=C4D (O:=O) h7 h25 B hB M e.val σ.length σ (by omega) hb.val
  suffices hh:∃e' σ',A4 F O (M+1+1) b 29 [.agg (A5 e),.int .i64 m,.int .i64 B] σ=some (e',σ')/\∃r:Int,e'=.ret (.int .i64 r)/\σ'=σ/\0<=r/\(r<=B->m+(cntT e:Int)<=r/\Lt B e) by
   obtain ⟨e',σ',h1,r,rfl,rfl,h2⟩:=hh;exact ⟨r,h1,h2⟩
  refine D5 hF ?_;simp [A2] at hf;have hw1:IntKind.i64.wrap ((B:Int)+1)=(B:Int)+1:=by rw [D7]<;>omega
  cases rf with
  |false=>
   simp [x24,A0,hf,hw0,hw1];exact ⟨by omega,fun h=>by omega⟩
  |true=>
   have hvv:=hfv rfl;simp [x24,A0,hf,hw0,hw1];obtain ⟨I,hI⟩:∃I:Nat->TAct->Sto->Prop,I=(fun j a σ'=>a.df=[]/\σ'=σ/\∃acc:Int,0<=acc/\(acc<=B->m+(cntT e:Int)+(e.odds.length:Int)<=acc+(F7 (e.kids.drop j):Int)/\∀i,(hi:i<e.kids.length)->i<j->Lt B e.kids[i])/\a.tm.get 1=some (.int .i64 acc)/\a.tm.get 2=some (.int .i64 B)/\a.tm.get 3=some (.bx 0 (A5 e) 28)/\a.tm.get 7=some (.int .i64 j)):=⟨_,rfl⟩
   obtain ⟨R,hR⟩:∃R:TEx->TAct->Sto->Prop,R=(fun ex a σ'=>ex=.exit 0/\a.df=[]/\σ'=σ/\∃acc:Int,0<=acc/\(acc<=B->m+(cntT e:Int)<=acc/\Lt B e)/\a.tm.get 1=some (.int .i64 acc)):=⟨_,rfl⟩;refine A9 I e.kids.length R ?_ (by omega) ?_ ?_ ?_
   ·rw [hI];exact ⟨rfl,rfl,m+1+(e.odds.length:Int),by omega,fun _=>⟨by rw [J8,List.drop_zero];omega,fun i _ hi=>by omega⟩,by simp,by simp,by simp [A0],by simp⟩
   ·rw [hI];rintro j ⟨tm,df,clk⟩ σ' hj ⟨rfl,rfl,acc,ha0,hac,h1,h2,h3,h7'⟩;rw [<-hI];have hm:=D9 e.kids e.kids[j] (List.getElem_mem hj);have hw:=C8 hj hb.len;have h3':=h3;rw [A0] at h3
    by_cases ha:acc<=B
    ·obtain ⟨r,hc,hr0,hr1⟩:=ih e.kids[j] σ'.length σ' acc (by omega) (hb.sub _ (List.getElem_mem hj)) (C4v hsm (List.getElem_mem hj)) ha0 ha;rw [A0] at hc;rw [A47 hj] at hac;simp [h1,h2,h3,h7',hj,ha,hc,hw,A0];rw [hI];refine ⟨rfl,rfl,r,hr0,fun h=> ?_,by simp,by simp [h2],by simp [h3'],by simp⟩;obtain ⟨q1,q2⟩:=hr1 h;obtain ⟨q3,q4⟩:=hac ha;refine ⟨by omega,fun i hi hij=> ?_⟩
     by_cases hh:i=j
     ·subst hh;exact q2
     ·exact q4 i hi (by omega)
    ·simp [h1,h2,h3,h7',hj,ha];rw [hR];exact ⟨rfl,rfl,rfl,acc,ha0,fun h=>absurd h ha,by simp [h1]⟩
   ·rw [hI];rintro ⟨tm,df,clk⟩ σ' ⟨rfl,rfl,acc,ha0,hac,h1,h2,h3,h7'⟩;rw [List.drop_of_length_le (Nat.le_refl _)] at hac;rw [A0] at h3;simp [h1,h2,h3,h7',A6];rw [hR];refine ⟨rfl,rfl,rfl,acc,ha0,fun h=> ?_,by simp [h1]⟩;obtain ⟨q1,q2⟩:=hac h;simp only [F7] at q1;refine ⟨by omega,.of hvv (by omega) fun x hx=> ?_⟩;obtain ⟨i,hi,rfl⟩:=List.getElem_of_mem hx;exact q2 i hi hi
   ·rw [hR];rintro ex ⟨tm,df,clk⟩ σ' ⟨rfl,rfl,rfl,acc,ha0,hac,h1⟩;simp [h1];exact ⟨ha0,hac⟩
end
end Go.Xe.YtlgknghehgmodaaGreatDoor
