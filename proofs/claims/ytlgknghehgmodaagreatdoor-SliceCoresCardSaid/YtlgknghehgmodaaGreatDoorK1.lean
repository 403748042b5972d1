/-
  A part of the proof: it is imported by YtlgknghehgmodaaGreatDoorTop. Nothing here is a claim of its own.
-/
import Derived.Recover
import Derived.Laws.Cells
import Derived.Laws.Entries
import Derived.Laws.NewFold
import Derived.Laws.Slices
import Derived.Laws.Append
import Derived.ChangeKeysEq
import Derived.Laws.Strings
import Derived.Lib.Strings
import Derived.Lib.SmallJoins
import Derived.Laws.StructEq
set_option linter.unusedVariables false
set_option linter.unusedSimpArgs false
set_option linter.unusedSectionVars false
set_option maxRecDepth 100000
namespace Go.Xe
section
inductive Tri (α:Type) where
 |nil
 |node (l:Tri α) (v:Option α) (r:Tri α)
namespace Tri
variable {α:Type}
def get:Tri α->Nat->Option α
 |.nil,_=>none
 |.node l v r,k=>
  match k with
  |0=>v
  |k+1=>match Nat.beq (Nat.mod k 2) 0 with
   |true=>l.get (Nat.div k 2)
   |false=>r.get (Nat.div k 2)
def setAux (x:α):Nat->Tri α->Nat->Tri α
 |0,t,_=>t
 |n+1,t,k=>
  match t with
  |.nil=>match k with
   |0=>.node .nil (some x) .nil
   |k+1=>match Nat.beq (Nat.mod k 2) 0 with
    |true=>.node (setAux x n .nil (Nat.div k 2)) none .nil
    |false=>.node .nil none (setAux x n .nil (Nat.div k 2))
  |.node l v r=>match k with
   |0=>.node l (some x) r
   |k+1=>match Nat.beq (Nat.mod k 2) 0 with
    |true=>.node (setAux x n l (Nat.div k 2)) v r
    |false=>.node l v (setAux x n r (Nat.div k 2))
def set (t:Tri α) (k:Nat) (x:α):Tri α:=setAux x (k+1) t k
def ofList:List α->Nat->Tri α->Tri α
 |[],_,t=>t
 |x::l,k,t=>ofList l (k+1) (t.set k x)
end Tri
inductive ABody where
 |cells (vals:List Value) (elem:TypeId) (ro:Bool)
 |map (es:List MapEntry) (clock:Nat)
 |iter (s:ByteArray) (pos:Nat)
structure AObj where
 ver:Nat
 body:ABody
structure AS where
 base:Nat->Option AObj
 tri:Tri (Option AObj)
 next:Nat
def AS.get (s:AS) (k:Nat):Option AObj:=
 match s.tri.get k with
 |some o=>o
 |none=>s.base k
def A5h:Tri (Option AObj)->List (Nat×Option AObj)->Tri (Option AObj)
 |t,[]=>t
 |t,(k,o)::r=>A5h (t.set k o) r
def AS.upd (s:AS) (δ:List (Nat×Option AObj)) (nx:Nat):AS:=⟨s.base,A5h s.tri δ,nx⟩
def D3:Nat:=9223372036854775808 -- and more:'D3+k',k the cells of an element
inductive EqK where
 |int|bool|str|ptr|ifaceNil|sliceNil|mapNil|funcNil
 |agg (parts:List (Nat×EqK))
inductive XOp where
 |move (x:Operand)
 |pick (c a b:Operand)
 |alloc (elem:TypeId) (zero:List Value)
 |box (elem:TypeId) (x:Operand)
 |build (zero:List Value) (parts:List (Nat×Nat×Operand))
 |buildSlice (elem:TypeId) (size:Nat) (zero:List Value) (len:Nat) (parts:List (Nat×Nat×Operand))
 |load1 (a:Operand)
 |loadN (n:Nat) (a:Operand)
 |store (n:Nat) (a x:Operand)
 |nilCheck (x:Operand)
 |bin (op:BinOp) (x y:Operand)
 |eq (k:EqK) (neg:Bool) (x y:Operand)
 |un (op:UnOp) (x:Operand)
 |toInt (k:IntKind) (x:Operand)
 |keep (x:Operand)
 |bytesToStr (x:Operand)
 |strToBytes (elem:TypeId) (x:Operand)
 |mkIface (t:TypeId) (x:Operand)
 |mkFunc (fn:Fn) (first captured:List Operand)
 |mkMap
 |mkSlice (elem:TypeId) (zero:List Value) (bytes:Nat) (l c:Operand)
 |sliceStr (x:Operand) (lo hi:Option Operand)
 |slice (size:Nat) (x:Operand) (lo hi mx:Option Operand)
 |sliceArr (n size:Nat) (x:Operand) (lo hi mx:Option Operand)
 |addr (off:Nat) (x:Operand)
 |field1 (off:Nat) (x:Operand)
 |fieldN (off n:Nat) (x:Operand)
 |indexAddr (size:Nat) (x i:Operand)
 |indexArrAddr (len size:Nat) (x i:Operand)
 |indexStr (x i:Operand)
 |index1 (len:Nat) (x i:Operand)
 |indexN (len size:Nat) (x i:Operand)
 |lookup (k:EqK) (zero:Value) (m x:Operand) (ok:Bool)
 |mapUpdate (k:EqK) (m x v:Operand)
 |assertT (t:TypeId) (zero:Value) (x:Operand) (ok:Bool)
 |extract (x:Operand) (i:Nat)
 |lenStr (x:Operand)|lenSlice (x:Operand)|lenArr (n:Nat)|lenMap (x:Operand)
 |capSlice (x:Operand)
 |append (elem:TypeId) (size bytes:Nat) (x y:Operand)
 |appendZ (elem:TypeId) (zero:List Value) (bytes:Nat) (x n:Operand)
 |copy (size:Nat) (x y:Operand)
 |maxI (xs:List Operand)|minI (xs:List Operand)
 |rangeStr (x:Operand)
 |nextStr (x:Operand)
 |call (f:FuncId) (args:List Operand)
 |callV (x:Operand) (args:List Operand)
 |panic (x:Operand)
 |defer (x:Operand) (args:List Operand)
 |recover
structure XOper where
 dst:Option Nat
 op:XOp
 guard:Option (Nat×Bool)
inductive XCode where
 |skip
 |region (ops:List XOper)
 |regionD (ops:List XOper) (pairs:List (Nat×Nat))
 |seq (x y:XCode)
 |cond (c:Operand) (x y:XCode)
 |block (id:Nat) (c:XCode)
 |loop (c:XCode)
 |exit (id:Nat)
 |ret
inductive XRes where
 |tmp (t:Nat)
 |cell1 (t:Nat)
 |cellN (t n:Nat)
structure XFun where
 nt:Nat
 results:List XRes
 body:XCode
structure PR where
 v:Value
 δ:List (Nat×Option AObj)
 nx:Nat
def N4:List UInt8->List UInt8->Bool
 |[],[]=>true
 |a::x,b::y=>match Nat.beq a.toNat b.toNat with
  |true=>N4 x y
  |false=>false
 |_,_=>false
def Z6:List UInt8->List UInt8->Bool
 |_,[]=>false
 |[],_::_=>true
 |a::x,b::y=>match Nat.blt a.toNat b.toNat with
  |true=>true
  |false=>match Nat.beq a.toNat b.toNat with
   |true=>Z6 x y
   |false=>false
def A0F:Int->Int->Bool
 |.ofNat a,.ofNat b=>Nat.beq a b
 |.negSucc a,.negSucc b=>Nat.beq a b
 |_,_=>false
def ltInt:Int->Int->Bool
 |.ofNat a,.ofNat b=>Nat.blt a b
 |.negSucc a,.negSucc b=>Nat.blt b a
 |.negSucc _,.ofNat _=>true
 |.ofNat _,.negSucc _=>false
def A3y (a b:Int):Bool:= !(ltInt b a)
def B6b (op:BinOp) (k:IntKind) (a b:Int):Option Value:=
 match op with
 |.add=>some (.int k (k.wrap (a+b)))
 |.sub=>some (.int k (k.wrap (a - b)))
 |.mul=>some (.int k (k.wrap (a*b)))
 |.quo=>if A0F b 0 then none else some (.int k (k.wrap (a.tdiv b)))
 |.rem=>if A0F b 0 then none else some (.int k (a.tmod b))
 |.and=>some (.int k (k.wrap (BitVec.ofInt k.bits a &&& BitVec.ofInt k.bits b).toNat))
 |.or=>some (.int k (k.wrap (BitVec.ofInt k.bits a ||| BitVec.ofInt k.bits b).toNat))
 |.xor=>some (.int k (k.wrap (BitVec.ofInt k.bits a ^^^ BitVec.ofInt k.bits b).toNat))
 |.andNot=>some (.int k (k.wrap (BitVec.ofInt k.bits a &&& ~~~(BitVec.ofInt k.bits b)).toNat))
 |.eql=>some (.bool (A0F a b))
 |.neq=>some (.bool (!(A0F a b)))
 |.lss=>some (.bool (ltInt a b))
 |.leq=>some (.bool (A3y a b))
 |.gtr=>some (.bool (ltInt b a))
 |.geq=>some (.bool (A3y b a))
 |_=>none
def B6c (op:BinOp) (x y:ByteArray):Option Value:=
 match op with
 |.add=>if Nat.ble (x.data.toList.length+y.data.toList.length) 9223372036854775807 then some (.string ⟨(x.data.toList++y.data.toList).toArray⟩) else none
 |.eql=>some (.bool (N4 x.data.toList y.data.toList))
 |.neq=>some (.bool (!(N4 x.data.toList y.data.toList)))
 |.lss=>some (.bool (Z6 x.data.toList y.data.toList))
 |.leq=>some (.bool (Z6 x.data.toList y.data.toList||N4 x.data.toList y.data.toList))
 |.gtr=>some (.bool (!(Z6 x.data.toList y.data.toList||N4 x.data.toList y.data.toList)))
 |.geq=>some (.bool (!(Z6 x.data.toList y.data.toList)))
 |_=>none
def A38:IntKind->IntKind->Bool
 |.i8,.i8|.i16,.i16|.i32,.i32|.i64,.i64|.u8,.u8|.u16,.u16|.u32,.u32|.u64,.u64=>true
 |_,_=>false
def A6S (op:BinOp) (x y:Value):Option Value:=
 match op,x,y with
 |.shl,.int k a,.int _ b=>match ltInt b 0 with
  |true=>none
  |false=>some (.int k (k.wrap (a*2^(min b.toNat k.bits))))
 |.shr,.int k a,.int _ b=>match ltInt b 0 with
  |true=>none
  |false=>some (.int k (a.fdiv (2^(min b.toNat k.bits))))
 |op,.int k a,.int k' b=>match A38 k k' with
  |true=>B6b op k a b
  |false=>none
 |op,.string a,.string b=>B6c op a b
 |_,_,_=>none
def xun (op:UnOp) (x:Value):Option Value:=
 match op,x with
 |.neg,.int k n=>some (.int k (k.wrap (0 - n)))
 |.xor,.int k n=>B6b .xor k (if k.signed then -1 else k.max) n
 |.not,.bool b=>some (.bool !b)
 |_,_=>none
section
variable (g:Nat->Option AObj)
def R0 (k o:Nat):Bool:=
 match g k with
 |some ⟨_,.cells vs _ false⟩=>Nat.blt o vs.length
 |_=>false
mutual
def xeq:EqK->Value->Value->Option Bool
 |.int,.int k a,.int k' b=>match A38 k k' with
  |true=>some (A0F a b)
  |false=>none
 |.bool,.bool a,.bool b=>some (a==b)
 |.str,.string a,.string b=>some (N4 a.data.toList b.data.toList)
 |.ptr,.pointer none,.pointer b=>some b.isNone
 |.ptr,.pointer _,.pointer none=>some false
 |.ptr,.pointer (some ⟨b,o,none⟩),.pointer (some ⟨b',o',none⟩)=>
  match R0 g b o&&R0 g b' o' with
  |true=>some (Nat.beq b b'&&Nat.beq o o')
  |false=>none
 |.ifaceNil,.nilIface,.nilIface=>some true
 |.ifaceNil,.nilIface,.iface _ _=>some false
 |.ifaceNil,.iface _ _,.nilIface=>some false
 |.sliceNil,.slice none _ _,.slice b _ _=>some b.isNone
 |.sliceNil,.slice _ _ _,.slice none _ _=>some false
 |.mapNil,.map none,.map b=>some b.isNone
 |.mapNil,.map _,.map none=>some false
 |.funcNil,.nilFunc,.nilFunc=>some true
 |.funcNil,.nilFunc,.func _ _ _=>some false
 |.funcNil,.func _ _ _,.nilFunc=>some false
 |.agg ps,.agg xs,.agg ys=>A6v ps xs.toList ys.toList
 |_,_,_=>none
def A6v:List (Nat×EqK)->List Value->List Value->Option Bool
 |[],_,_=>some true
 |(i,k)::r,xs,ys=>
  match xs[i]?,ys[i]? with
  |some x,some y=>match xeq k x y with
   |some true=>A6v r xs ys
   |some false=>some false
   |none=>none
  |_,_=>none
end
def B8 (a:Addr) (n:Nat):Option (List Value):=
 match a with
 |⟨b,o,none⟩=>match g b with
  |some ⟨_,.cells vs _ _⟩=>match Nat.ble (o+n) vs.length with
   |true=>some ((vs.drop o).take n)
   |false=>none
  |_=>none
 |_=>none
def setList:List Value->Nat->List Value->List Value
 |vs,_,[]=>vs
 |vs,i,x::r=>setList (vs.set i x) (i+1) r
def F8 (a:Addr) (xs:List Value):Option (List (Nat×Option AObj)):=
 match a with
 |⟨b,o,none⟩=>match g b with
  |some ⟨ver,.cells vs e false⟩=>match Nat.ble (o+xs.length) vs.length with
   |true=>some [(b,some ⟨ver+1,.cells (setList vs o xs) e false⟩)]
   |false=>none
  |_=>none
 |_=>none
def A1M (cells:List Value):List (Nat×Nat×Value)->Option (List Value)
 |[]=>some cells
 |(off,size,v)::r=>
  match Nat.beq v.cells.toList.length size&&Nat.ble (off+size) cells.length with
  |true=>A1M (setList cells off v.cells.toList) r
  |false=>none
def ones:List Value->Bool
 |[]=>true
 |.agg _::_=>false
 |.tuple _::_=>false
 |_::r=>ones r
def rep (zero:List Value):Nat->List Value
 |0=>[]
 |n+1=>zero++rep zero n
def bound (x:Value) (y:Nat):Option Nat:=
 match x with
 |.int _ (.ofNat i)=>match Nat.ble i y with
  |true=>some i
  |false=>none
 |_=>none
def bounds (len cap:Nat) (lo hi mx:Option Value):Option (Nat×Nat×Nat):=
 match (match mx with|some v=>bound v cap|none=>some cap) with
 |none=>none
 |some m=>match (match hi,mx with|some v,_=>bound v m|none,none=>some len|none,some _=>none) with
  |none=>none
  |some h=>match (match lo with|some v=>bound v h|none=>some 0) with
   |none=>none
   |some l=>some (l,h,m)
def A6T (a:Option Addr) (n:Nat):Option Addr:=a.map (·.add n)
def A0G (size:Nat) (x:Value) (lo hi mx:Option Value):Option Value:=
 match x with
 |.slice a len cap=>match Nat.ble D3 cap with
  |true=>match mx,Nat.beq cap (D3+size) with
   |none,true=>match bounds len len lo hi none with
    |some (l,h,_)=>some (.slice (A6T a (l*size)) (h - l) (D3+size))
    |none=>none
   |_,_=>none
  |false=>match bounds len cap lo hi mx with
   |some (l,h,m)=>some (.slice (match Nat.beq m l with|true=>a|false=>A6T a (l*size)) (h - l) (m - l))
   |none=>none
 |_=>none
def S8 (k:EqK) (x:Value):List MapEntry->Nat->Option (Option (Nat×Value))
 |[],_=>some none
 |e::es,i=>match xeq g k x e.key with
  |some true=>some (some (i,e.val))
  |some false=>S8 k x es (i+1)
  |none=>none
def U1:List Value->Option (List (IntKind×Int))
 |[]=>some []
 |.int k n::r=>match U1 r with
  |some l=>some ((k,n)::l)
  |none=>none
 |_=>none
def Z7:List Value->Option (List UInt8)
 |[]=>some []
 |.int .u8 (.ofNat n)::r=>match Z7 r with
  |some l=>some (UInt8.ofNat n::l)
  |none=>none
 |_=>none
def L9 (size:Nat):Value->Option (Nat×List Value)
 |.slice none n _=>match n with
  |0=>some (0,[])
  |_=>none
 |.slice (some a) n _=>match n with
  |0=>some (0,[])
  |n+1=>match B8 g a ((n+1)*size) with
   |some l=>some (n+1,l)
   |none=>none
 |.string s=>match size with
  |1=>some (s.data.toList.length,s.data.toList.map fun b=>.int .u8 b.toNat)
  |_=>none
 |_=>none
def small:Nat:=1073741824
def A17 (k:Nat) (elem:TypeId):Bool:=
 match g k with
 |some ⟨_,.cells _ e false⟩=>Nat.beq e elem
 |_=>false
def I1 (nx:Nat) (elem:TypeId) (size bytes:Nat) (x:Value) (n:Nat) (new:List Value):Option PR:=
 match x with
 |.slice base len cap=>
  match n with
  |0=>some ⟨x,[],nx⟩
  |_=>match Nat.ble D3 cap with
   |true=>match base with
    |some a=>match B8 g a (len*size) with
     |some old=>match Nat.ble (len+n) small&&Nat.ble bytes 65536&&Nat.beq cap (D3+size)&&A17 g a.block elem with
      |true=>some ⟨.slice (some ⟨nx,0,none⟩) (len+n) (D3+size),[(a.block,none),(nx,some ⟨0,.cells (old++new) elem false⟩)],nx+1⟩
      |false=>none
     |none=>none
    |none=>none
   |false=>match Nat.ble (len+n) cap with
    |true=>match base with
     |some a=>match F8 g (a.add (len*size)) new with
      |some δ=>some ⟨.slice base (len+n) cap,δ,nx⟩
      |none=>none
     |none=>none
    |false=>match (match base with|some a=>B8 g a (len*size)|none=>(match len with|0=>some []|_=>none)) with
     |some old=>match Nat.ble (len+n) small&&Nat.ble bytes 65536 with
      |true=>some ⟨.slice (some ⟨nx,0,none⟩) (len+n) (D3+size),[(nx,some ⟨0,.cells (old++new) elem false⟩)],nx+1⟩
      |false=>none
     |none=>none
 |_=>none
def A3z (nx:Nat):Option Value->Option PR
 |some v=>some ⟨v,[],nx⟩
 |none=>none
def B0 (nx:Nat) (ρ:Operand->Value):XOp->Option PR
 |.move x=>some ⟨ρ x,[],nx⟩
 |.keep x=>match ρ x with
  |.string s=>some ⟨.string s,[],nx⟩
  |_=>none
 |.pick c a b=>match ρ c with
  |.bool true=>some ⟨ρ a,[],nx⟩
  |.bool false=>some ⟨ρ b,[],nx⟩
  |_=>none
 |.alloc e z=>match ones z with
  |false=>none
  |true=>some ⟨.pointer (some ⟨nx,0,none⟩),[(nx,some ⟨0,.cells z e false⟩)],nx+1⟩
 |.box e x=>match ones (ρ x).cells.toList with
  |false=>none
  |true=>some ⟨.pointer (some ⟨nx,0,none⟩),[(nx,some ⟨0,.cells (ρ x).cells.toList e false⟩)],nx+1⟩
 |.build z ps=>match A1M z (ps.map fun (o,n,x)=>(o,n,ρ x)) with
  |some cs=>some ⟨.agg cs.toArray,[],nx⟩
  |none=>none
 |.buildSlice e size z len ps=>match A1M (rep z len) (ps.map fun (o,n,x)=>(o,n,ρ x)) with
  |some cs=>match ones cs with
   |false=>none
   |true=>some ⟨.slice (some ⟨nx,0,none⟩) len len,[(nx,some ⟨0,.cells cs e false⟩)],nx+1⟩
  |none=>none
 |.load1 a=>match ρ a with
  |.pointer (some a)=>match B8 g a 1 with
   |some [v]=>some ⟨v,[],nx⟩
   |_=>none
  |_=>none
 |.loadN n a=>match ρ a with
  |.pointer (some a)=>match B8 g a n with
   |some l=>some ⟨.agg l.toArray,[],nx⟩
   |none=>none
  |_=>none
 |.store n a x=>match ρ a with
  |.pointer (some a)=>match Nat.beq (ρ x).cells.toList.length n&&ones (ρ x).cells.toList with
   |true=>match F8 g a (ρ x).cells.toList with
    |some δ=>some ⟨undef,δ,nx⟩
    |none=>none
   |false=>none
  |_=>none
 |.nilCheck x=>match ρ x with
  |.pointer (some a)=>some ⟨.pointer (some a),[],nx⟩
  |.func (.func f) a b=>some ⟨.func (.func f) a b,[],nx⟩
  |_=>none
 |.bin op x y=>A3z nx (A6S op (ρ x) (ρ y))
 |.eq k neg x y=>match xeq g k (ρ x) (ρ y) with
  |some b=>some ⟨.bool (xor b neg),[],nx⟩
  |none=>none
 |.un op x=>A3z nx (xun op (ρ x))
 |.toInt k x=>match ρ x with
  |.int _ n=>some ⟨.int k (k.wrap n),[],nx⟩
  |_=>none
 |.bytesToStr x=>match ρ x with
  |.slice none _ _=>some ⟨.string ⟨#[]⟩,[],nx⟩
  |.slice (some a) n _=>match B8 g a n with
   |some l=>match Z7 l with
    |some bs=>some ⟨.string ⟨bs.toArray⟩,[],nx⟩
    |none=>none
   |none=>none
  |_=>none
 |.strToBytes e x=>match ρ x with
  |.string s=>match Nat.ble s.data.toList.length small with
   |true=>some ⟨.slice (some ⟨nx,0,none⟩) s.data.toList.length (D3+1),[(nx,some ⟨0,.cells (s.data.toList.map fun b=>.int .u8 b.toNat) e true⟩)],nx+1⟩
   |false=>none
  |_=>none
 |.mkIface t x=>some ⟨.iface t (ρ x),[],nx⟩
 |.mkFunc fn first cap=>some ⟨.func fn (first.map ρ).toArray (cap.map ρ).toArray,[],nx⟩
 |.mkMap=>some ⟨.map (some nx),[(nx,some ⟨0,.map [] 0⟩)],nx+1⟩
 |.mkSlice e z bytes l c=>match ρ l,ρ c with
  |.int .i64 (.ofNat l),.int .i64 (.ofNat c)=>match Nat.ble l c&&Nat.ble (bytes*c) 281474976710656&&Nat.ble c 9223372036854775807&&ones z with
   |true=>some ⟨.slice (some ⟨nx,0,none⟩) l c,[(nx,some ⟨0,.cells (rep z c) e false⟩)],nx+1⟩
   |false=>none
  |_,_=>none
 |.sliceStr x lo hi=>match ρ x with
  |.string s=>match bounds s.data.toList.length s.data.toList.length (lo.map ρ) (hi.map ρ) none with
   |some (l,h,_)=>some ⟨.string ⟨((s.data.toList.drop l).take (h - l)).toArray⟩,[],nx⟩
   |none=>none
  |_=>none
 |.slice size x lo hi mx=>A3z nx (A0G size (ρ x) (lo.map ρ) (hi.map ρ) (mx.map ρ))
 |.sliceArr n size x lo hi mx=>match ρ x with
  |.pointer (some a)=>match bounds n n (lo.map ρ) (hi.map ρ) (mx.map ρ) with
   |some (l,h,m)=>some ⟨.slice (some (match Nat.beq m l with|true=>a|false=>a.add (l*size))) (h - l) (m - l),[],nx⟩
   |none=>none
  |_=>none
 |.addr off x=>match ρ x with
  |.pointer (some a)=>some ⟨.pointer (some (a.add off)),[],nx⟩
  |_=>none
 |.field1 off x=>match ρ x with
  |.agg cs=>match cs.toList[off]? with
   |some v=>some ⟨v,[],nx⟩
   |none=>none
  |_=>none
 |.fieldN off n x=>match ρ x with
  |.agg cs=>some ⟨.agg ((cs.toList.drop off).take n).toArray,[],nx⟩
  |_=>none
 |.indexAddr size x i=>match ρ x,ρ i with
  |.slice (some a) len _,.int _ (.ofNat i)=>match Nat.blt i len with
   |true=>some ⟨.pointer (some (a.add (i*size))),[],nx⟩
   |false=>none
  |_,_=>none
 |.indexArrAddr len size x i=>match ρ x,ρ i with
  |.pointer (some a),.int _ (.ofNat i)=>match Nat.blt i len with
   |true=>some ⟨.pointer (some (a.add (i*size))),[],nx⟩
   |false=>none
  |_,_=>none
 |.indexStr x i=>match ρ x,ρ i with
  |.string s,.int _ (.ofNat i)=>match s.data.toList[i]? with
   |some b=>some ⟨.int .u8 b.toNat,[],nx⟩
   |none=>none
  |_,_=>none
 |.index1 len x i=>match ρ x,ρ i with
  |.agg cs,.int _ (.ofNat i)=>match Nat.blt i len with
   |true=>match cs.toList[i]? with
    |some v=>some ⟨v,[],nx⟩
    |none=>none
   |false=>none
  |_,_=>none
 |.indexN len size x i=>match ρ x,ρ i with
  |.agg cs,.int _ (.ofNat i)=>match Nat.blt i len with
   |true=>some ⟨.agg ((cs.toList.drop (i*size)).take size).toArray,[],nx⟩
   |false=>none
  |_,_=>none
 |.lookup k z m x ok=>
  match (match ρ m with
   |.map none=>some (some none)
   |.map (some r)=>match g r with
    |some ⟨_,.map es _⟩=>some (S8 g k (ρ x) es 0)
    |_=>none
   |_=>none) with
  |some (some (some (_,v)))=>some ⟨match ok with|true=>.tuple #[v,.bool true]|false=>v,[],nx⟩
  |some (some none)=>some ⟨match ok with|true=>.tuple #[z,.bool false]|false=>z,[],nx⟩
  |_=>none
 |.mapUpdate k m x v=>match ρ m with
  |.map (some r)=>match g r with
   |some ⟨ver,.map es clock⟩=>match S8 g k (ρ x) es 0 with
    |some (some (i,_))=>some ⟨undef,[(r,some ⟨ver+1,.map (es.modify i fun e=>{ e with key:=ρ x,val:=ρ v }) clock⟩)],nx⟩
    |some none=>some ⟨undef,[(r,some ⟨ver+1,.map (es++[{ key:=ρ x,val:=ρ v,born:=clock }]) (clock+1)⟩)],nx⟩
    |none=>none
   |_=>none
  |_=>none
 |.assertT t z x ok=>match ρ x with
  |.iface u v=>match Nat.beq u t with
   |true=>some ⟨match ok with|true=>.tuple #[v,.bool true]|false=>v,[],nx⟩
   |false=>match ok with
    |true=>some ⟨.tuple #[z,.bool false],[],nx⟩
    |false=>none
  |.nilIface=>match ok with
   |true=>some ⟨.tuple #[z,.bool false],[],nx⟩
   |false=>none
  |_=>none
 |.extract x i=>match ρ x with
  |.tuple vs=>match vs.toList[i]? with
   |some v=>some ⟨v,[],nx⟩
   |none=>none
  |_=>none
 |.lenStr x=>match ρ x with
  |.string s=>some ⟨.int .i64 (.ofNat s.data.toList.length),[],nx⟩
  |_=>none
 |.lenSlice x=>match ρ x with
  |.slice _ n _=>some ⟨.int .i64 (.ofNat n),[],nx⟩
  |_=>none
 |.lenArr n=>some ⟨.int .i64 (.ofNat n),[],nx⟩
 |.lenMap x=>match ρ x with
  |.map none=>some ⟨.int .i64 0,[],nx⟩
  |.map (some r)=>match g r with
   |some ⟨_,.map es _⟩=>some ⟨.int .i64 (.ofNat es.length),[],nx⟩
   |_=>none
  |_=>none
 |.capSlice x=>match ρ x with
  |.slice _ _ c=>match Nat.ble D3 c with
   |true=>none
   |false=>some ⟨.int .i64 (.ofNat c),[],nx⟩
  |_=>none
 |.append e size bytes x y=>match L9 g size (ρ y) with
  |some (n,l)=>I1 g nx e size bytes (ρ x) n l
  |none=>none
 |.appendZ e z bytes x n=>match ρ n with
  |.int .i64 (.ofNat n)=>match Nat.ble n small&&Nat.ble bytes 65536&&ones z with
   |true=>I1 g nx e z.length bytes (ρ x) n (rep z n)
   |false=>none
  |_=>none
 |.copy size x y=>match ρ x,ρ y with
  |.slice base n _,.slice src m _=>
   match Nat.min m n with
   |0=>some ⟨.int .i64 0,[],nx⟩
   |k=>match base,src with
    |some a,some b=>match B8 g b (k*size) with
     |some l=>match F8 g a l with
      |some δ=>some ⟨.int .i64 (.ofNat k),δ,nx⟩
      |none=>none
     |none=>none
    |_,_=>none
  |_,_=>none
 |.maxI xs=>match U1 (xs.map ρ) with
  |some ((k,n)::r)=>some ⟨.int k (r.foldl (fun a b=>match ltInt a b.2 with|true=>b.2|false=>a) n),[],nx⟩
  |_=>none
 |.minI xs=>match U1 (xs.map ρ) with
  |some ((k,n)::r)=>some ⟨.int k (r.foldl (fun a b=>match ltInt b.2 a with|true=>b.2|false=>a) n),[],nx⟩
  |_=>none
 |_=>none
def S4:Value->List Nat
 |.pointer (some a)=>[a.block]
 |.slice (some a) _ _=>[a.block]
 |.map (some r)=>[r]
 |_=>[]
def A2C:EqK->Value->List Nat
 |.ptr,v=>S4 v
 |.agg _,.agg cs=>cs.toList.flatMap S4
 |_,_=>[]
def A6B (k:EqK):Value->List Nat
 |.map (some r)=>match k with
  |.ptr=>match g r with
   |some ⟨_,.map es _⟩=>es.flatMap fun e=>S4 e.key
   |_=>[]
  |_=>[]
 |_=>[]
def A18 (ρ:Operand->Value):XOp->List Nat
 |.load1 a|.loadN _ a|.store _ a _=>S4 (ρ a)
 |.eq k _ x y=>A2C k (ρ x)++A2C k (ρ y)
 |.bytesToStr x|.lenMap x=>S4 (ρ x)
 |.lookup k _ m x _=>S4 (ρ m)++A2C k (ρ x)++A6B g k (ρ m)
 |.mapUpdate k m x _=>S4 (ρ m)++A2C k (ρ x)++A6B g k (ρ m)
 |.append _ _ _ x y=>S4 (ρ x)++S4 (ρ y)
 |.appendZ _ _ _ x _=>S4 (ρ x)
 |.copy _ x y=>S4 (ρ x)++S4 (ρ y)
 |_=>[]
end
inductive Ex where
 |normal
 |exit (id:Nat)
 |ret
 |panic (v:Value)
inductive End where
 |ret (v:Value)
 |panic (v:Value)
structure Dfr where
 f:FuncId
 args:List Value
structure Act where
 tm:Tri Value
 df:List Dfr
def Act.ev (a:Act):Operand->Value
 |.tmp t=>match a.tm.get t with
  |some v=>v
  |none=>undef
 |.const v=>v
 |.global g=>.pointer (some ⟨g,0,none⟩)
 |.func f=>.func (.func f) #[] #[]
def Act.put (a:Act) (d:Option Nat) (v:Value):Act:=
 match d with
 |some t=>⟨a.tm.set t v,a.df⟩
 |none=>a
def J4 (a:Act):Option (Nat×Bool)->Bool
 |none=>true
 |some (t,b)=>match a.tm.get t with
  |some (.bool c)=>c==b
  |_=>false
abbrev Callee:=FuncId->List Value->AS->Option (End×AS)
def target (v:Value) (args:List Value):Option (FuncId×List Value):=
 match v with
 |.func (.func f) first cap=>some (f,first.toList++args++cap.toList)
 |_=>none
def A0g (C:Callee):List XOper->Act->AS->Option (Ex×Act×AS)
 |[],a,s=>some (.normal,a,s)
 |o::r,a,s=>
  match J4 a o.guard with
  |false=>A0g C r (a.put o.dst undef) s
  |true=>match o.op with
   |.call f args=>match C f (args.map a.ev) s with
    |some (.ret v,s)=>A0g C r (a.put o.dst v) s
    |some (.panic v,s)=>some (.panic v,a,s)
    |none=>none
   |.callV x args=>match target (a.ev x) (args.map a.ev) with
    |some (f,l)=>match C f l s with
     |some (.ret v,s)=>A0g C r (a.put o.dst v) s
     |some (.panic v,s)=>some (.panic v,a,s)
     |none=>none
    |none=>none
   |.panic x=>match a.ev x with
    |.iface t v=>some (.panic (.iface t v),a,s)
    |_=>none
   |.defer x args=>match target (a.ev x) (args.map a.ev) with
    |some (f,l)=>A0g C r (Act.put ⟨a.tm,⟨f,l⟩::a.df⟩ o.dst undef) s
    |none=>none
   |op=>match B0 s.get s.next a.ev op with
    |some p=>A0g C r (a.put o.dst p.v) (s.upd p.δ p.nx)
    |none=>none
structure Rec where
 call:Bool
 touched:List Nat
 wrote:List Nat
 s0:AS
 s1:AS
def Z8 (C:Callee):List XOper->Act->AS->List Rec->Option (Act×AS×List Rec)
 |[],a,s,l=>some (a,s,l.reverse)
 |o::r,a,s,l=>
  match J4 a o.guard with
  |false=>Z8 C r (a.put o.dst undef) s (⟨false,[],[],s,s⟩::l)
  |true=>match o.op with
   |.call f args=>match C f (args.map a.ev) s with
    |some (.ret v,s')=>Z8 C r (a.put o.dst v) s' (⟨true,[],[],s,s'⟩::l)
    |_=>none
   |.callV x args=>match target (a.ev x) (args.map a.ev) with
    |some (f,l')=>match C f l' s with
     |some (.ret v,s')=>Z8 C r (a.put o.dst v) s' (⟨true,[],[],s,s'⟩::l)
     |_=>none
    |none=>none
   |op=>match B0 s.get s.next a.ev op with
    |some p=>Z8 C r (a.put o.dst p.v) (s.upd p.δ p.nx) (⟨false,A18 s.get a.ev op,p.δ.map (·.1),s,s.upd p.δ p.nx⟩::l)
    |none=>none
def A1E (k:Nat):List Nat->Bool
 |[]=>false
 |x::r=>match Nat.beq x k with
  |true=>true
  |false=>A1E k r
def apart:List Nat->List Nat->Bool
 |[],_=>true
 |x::r,l=>match A1E x l with
  |true=>false
  |false=>apart r l
def U2 (s s':AS):List Nat->Bool
 |[]=>true
 |k::r=>match s.get k,s'.get k with
  |some o,some o'=>match Nat.beq o.ver o'.ver with
   |true=>U2 s s' r
   |false=>false
  |_,_=>false
def V9 (x y:Rec):Bool:=
 match x.call,y.call with
 |false,false=>apart x.touched y.wrote&&apart y.touched x.wrote
 |true,false=>U2 x.s0 x.s1 y.touched
 |false,true=>U2 y.s0 y.s1 x.touched
 |true,true=>false
def A1o (l:List Rec):List (Nat×Nat)->Bool
 |[]=>true
 |(i,j)::r=>match l[i]?,l[j]? with
  |some x,some y=>match V9 x y with
   |true=>A1o l r
   |false=>false
  |_,_=>false
def A2u (body:Act->AS->Option (Ex×Act×AS)):Nat->Act->AS->Option (Ex×Act×AS)
 |0,_,_=>none
 |n+1,a,s=>match body a s with
  |some (.normal,a,s)=>A2u body n a s
  |r=>r
def G1 (C:Callee) (n:Nat):XCode->Act->AS->Option (Ex×Act×AS)
 |.skip,a,s=>some (.normal,a,s)
 |.region ops,a,s=>A0g C ops a s
 |.regionD ops ps,a,s=>match Z8 C ops a s [] with
  |some (a,s,l)=>match A1o l ps with
   |true=>some (.normal,a,s)
   |false=>none
  |none=>none
 |.seq x y,a,s=>match G1 C n x a s with
  |some (.normal,a,s)=>G1 C n y a s
  |r=>r
 |.cond c x y,a,s=>match a.ev c with
  |.bool true=>G1 C n x a s
  |.bool false=>G1 C n y a s
  |_=>none
 |.block id c,a,s=>match G1 C n c a s with
  |some (.exit k,a,s)=>match Nat.beq k id with
   |true=>some (.normal,a,s)
   |false=>some (.exit k,a,s)
  |r=>r
 |.loop c,a,s=>A2u (G1 C n c) n a s
 |.exit id,a,s=>some (.exit id,a,s)
 |.ret,a,s=>some (.ret,a,s)
def A5i (a:Act) (s:AS):XRes->Option Value
 |.tmp t=>some (a.ev (.tmp t))
 |.cell1 t=>match a.ev (.tmp t) with
  |.pointer (some p)=>match B8 s.get p 1 with
   |some [v]=>some v
   |_=>none
  |_=>none
 |.cellN t n=>match a.ev (.tmp t) with
  |.pointer (some p)=>match B8 s.get p n with
   |some l=>some (.agg l.toArray)
   |none=>none
  |_=>none
def K4 (a:Act) (s:AS):List XRes->Option (List Value)
 |[]=>some []
 |r::l=>match A5i a s r,K4 a s l with
  |some v,some vs=>some (v::vs)
  |_,_=>none
def packed:List Value->Value
 |[v]=>v
 |l=>.tuple l.toArray
inductive Mode where
 |ret
 |panicking (v:Value)
 |recovered
def xopsR (C:Callee):List XOper->Act->AS->Mode->Option (Ex×Act×AS×Mode)
 |[],a,s,m=>some (.normal,a,s,m)
 |o::r,a,s,m=>
  match J4 a o.guard with
  |false=>xopsR C r (a.put o.dst undef) s m
  |true=>match o.op with
   |.recover=>match m with
    |.panicking v=>xopsR C r (a.put o.dst v) s .recovered
    |m=>xopsR C r (a.put o.dst .nilIface) s m
   |_=>match A0g C [o] a s with
    |some (.normal,a,s)=>xopsR C r a s m
    |some (e,a,s)=>some (e,a,s,m)
    |none=>none
def xcodeR (C:Callee) (n:Nat):XCode->Act->AS->Mode->Option (Ex×Act×AS×Mode)
 |.region ops,a,s,m=>xopsR C ops a s m
 |.seq x y,a,s,m=>match xcodeR C n x a s m with
  |some (.normal,a,s,m)=>xcodeR C n y a s m
  |r=>r
 |.cond c x y,a,s,m=>match a.ev c with
  |.bool true=>xcodeR C n x a s m
  |.bool false=>xcodeR C n y a s m
  |_=>none
 |.block id c,a,s,m=>match xcodeR C n c a s m with
  |some (.exit k,a,s,m)=>match Nat.beq k id with
   |true=>some (.normal,a,s,m)
   |false=>some (.exit k,a,s,m)
  |r=>r
 |c,a,s,m=>match G1 C n c a s with
  |some (e,a,s)=>some (e,a,s,m)
  |none=>none
def A0H (args:List Value):Act:=⟨Tri.ofList args 0 .nil,[]⟩
def Mode.settle:Mode->Mode
 |.recovered=>.ret
 |m=>m
def J0 (C:Callee) (F:FuncId->Option XFun) (n:Nat):List Dfr->AS->Mode->Option (AS×Mode)
 |[],s,m=>some (s,m)
 |d::r,s,m=>match F d.f with
  |some fn=>match xcodeR C n fn.body (A0H d.args) s m with
   |some (e,a,s,m)=>match a.df,e,K4 a s fn.results with
    |[],.normal,some _=>J0 C F n r s m.settle
    |[],.ret,some _=>J0 C F n r s m.settle
    |_,_,_=>none
   |none=>none
  |none=>none
def O3 (a:Act) (fn:XFun) (s:AS):Mode->Option (End×AS)
 |.panicking v=>some (.panic v,s)
 |_=>match K4 a s fn.results with
  |some l=>some (.ret (packed l),s)
  |none=>none
inductive Mk where
 |sort
 |compact
def A0I:Value->Option Mk
 |.agg ⟨[]⟩=>some .sort
 |.agg ⟨[.bool true]⟩=>some .compact
 |_=>none
def A5V:List Value->Option (List Int)
 |[]=>some []
 |.int .i64 z::l=>match A5V l with
  |some zs=>some (z::zs)
  |none=>none
 |_=>none
def W3 (zs:List Int):List Int:=zs.mergeSort fun x y=>decide (x<=y)
def F0:List Int->List Int
 |[]=>[]
 |x::l=>match l with
  |[]=>[x]
  |y::_=>if x=y then F0 l else x::F0 l
def A0b:Mk->List Int->List Int
 |.sort,zs=>W3 zs
 |.compact,zs=>F0 zs++List.replicate (zs.length - (F0 zs).length) 0
def P6 (zs:List Int):List Value:=zs.map fun z=>.int .i64 z
def A5j:Mk->Addr->List Int->Nat->Value
 |.sort,_,_,_=>.tuple #[]
 |.compact,a,zs,c=>.slice (some a) (F0 zs).length c
def A4m:Mk->Value->Value
 |.sort,_=>.tuple #[]
 |.compact,v=>v
def B3P (mk:Mk) (args:List Value) (s:AS):Option (End×AS):=
 match args with
 |[.slice p n c]=>match Nat.beq n 0,p with
  |true,_=>some (.ret (A4m mk (.slice p n c)),s)
  |false,some a=>match B8 s.get a n with
   |some l=>match A5V l,Nat.ble n 1073741824 with
    |some zs,true=>match F8 s.get a (P6 (A0b mk zs)) with
     |some δ=>some (.ret (A5j mk a zs c),s.upd δ s.next)
     |none=>none
    |_,_=>none
   |none=>none
  |false,none=>none
 |_=>none
def A8P (v:Value) (args:List Value) (s:AS):Option (End×AS):=
 match A0I v with
 |some mk=>B3P mk args s
 |none=>some (.ret v,s)
def P4 (F:FuncId->Option XFun) (O:FuncId->List Value->Option Value):Nat->Callee
 |0,_,_,_=>none
 |n+1,f,args,s=>match F f with
  |some fn=>match G1 (P4 F O n) n fn.body (A0H args) s with
   |some (.normal,a,s)=>match J0 (P4 F O n) F n a.df s .ret with
    |some (s,m)=>O3 a fn s m
    |none=>none
   |some (.ret,a,s)=>match J0 (P4 F O n) F n a.df s .ret with
    |some (s,m)=>O3 a fn s m
    |none=>none
   |some (.panic v,a,s)=>match J0 (P4 F O n) F n a.df s (.panicking v) with
    |some (s,m)=>O3 a fn s m
    |none=>none
   |_=>none
  |none=>match O f args with
   |some v=>A8P v args s
   |none=>none
end
section
open Go
namespace Tri
variable {α:Type}
theorem get_nil (k:Nat):(Tri.nil:Tri α).get k=none:=by cases k<;>rfl
theorem A39 (k n:Nat) (h:k+1<n+1):Nat.div k 2<n:=by
 have:Nat.div k 2=k / 2:=rfl;omega
theorem A0J (x:α):∀(n:Nat) (t:Tri α) (k:Nat),k<n->(setAux x n t k).get k=some x
 |0,_,_,h=>by omega
 |n+1,.nil,0,_=>rfl
 |n+1,.nil,k+1,h=>by
  simp only [setAux];cases hb:Nat.beq (Nat.mod k 2) 0<;>simp only [get,hb]<;>exact A0J x n _ _ (A39 k n h)
 |n+1,.node l v r,0,_=>rfl
 |n+1,.node l v r,k+1,h=>by
  simp only [setAux];cases hb:Nat.beq (Nat.mod k 2) 0<;>simp only [get,hb]<;>exact A0J x n _ _ (A39 k n h)
theorem A6C {k j:Nat} (hb:Nat.beq (Nat.mod k 2) 0=Nat.beq (Nat.mod j 2) 0) (h:k+1≠j+1):Nat.div k 2≠Nat.div j 2:=by
 have e1:Nat.div k 2=k / 2:=rfl;have e2:Nat.div j 2=j / 2:=rfl;have e3:Nat.mod k 2=k%2:=rfl;have e4:Nat.mod j 2=j%2:=rfl;rw [e3,e4] at hb;rw [e1,e2];have hk:Nat.beq (k%2) 0=decide (k%2=0):=by
  rcases Nat.mod_two_eq_zero_or_one k with h|h<;>rw [h]<;>rfl
 have hj:Nat.beq (j%2) 0=decide (j%2=0):=by
  rcases Nat.mod_two_eq_zero_or_one j with h|h<;>rw [h]<;>rfl
 grind
theorem W4 (x:α):∀(n:Nat) (t:Tri α) (k j:Nat),k<n->k≠j->(setAux x n t k).get j=t.get j
 |0,_,_,_,h,_=>by omega
 |n+1,.nil,0,0,_,hn=>absurd rfl hn
 |n+1,.nil,0,j+1,_,_=>by
  grind [setAux,get,get_nil]
 |n+1,.nil,k+1,0,_,_=>by
  simp only [setAux];cases Nat.beq (Nat.mod k 2) 0<;>rfl
 |n+1,.nil,k+1,j+1,h,hn=>by
  simp only [setAux];cases hk:Nat.beq (Nat.mod k 2) 0<;>cases hj:Nat.beq (Nat.mod j 2) 0<;>simp only [get,hj,get_nil]
  ·rw [W4 x n _ _ _ (A39 k n h) (A6C (by rw [hk,hj]) hn),get_nil]
  ·rw [W4 x n _ _ _ (A39 k n h) (A6C (by rw [hk,hj]) hn),get_nil]
 |n+1,.node l v r,0,0,_,hn=>absurd rfl hn
 |n+1,.node l v r,0,j+1,_,_=>by simp only [setAux,get]
 |n+1,.node l v r,k+1,0,_,_=>by
  simp only [setAux];cases Nat.beq (Nat.mod k 2) 0<;>rfl
 |n+1,.node l v r,k+1,j+1,h,hn=>by
  simp only [setAux];cases hk:Nat.beq (Nat.mod k 2) 0<;>cases hj:Nat.beq (Nat.mod j 2) 0<;>simp only [get,hj]
  ·rw [W4 x n _ _ _ (A39 k n h) (A6C (by rw [hk,hj]) hn)]
  ·rw [W4 x n _ _ _ (A39 k n h) (A6C (by rw [hk,hj]) hn)]
theorem get_set_same (t:Tri α) (k:Nat) (x:α):(t.set k x).get k=some x:=A0J x (k+1) t k (Nat.lt_succ_self k)
theorem get_set_ne (t:Tri α) {k j:Nat} (x:α) (h:k≠j):(t.set k x).get j=t.get j:=W4 x (k+1) t k j (Nat.lt_succ_self k) h
theorem get_set (t:Tri α) (k j:Nat) (x:α):(t.set k x).get j=if k=j then some x else t.get j:=by
 grind [get_set_same,get_set_ne]
end Tri
abbrev Hp:=Nat->Option AObj
def Hp.set1 (g:Hp) (k:Nat) (o:Option AObj):Hp:=fun j=>if k=j then o else g j
def Hp.upd (g:Hp):List (Nat×Option AObj)->Hp
 |[]=>g
 |(k,o)::r=>Hp.upd (g.set1 k o) r
theorem A6U (base:Nat->Option AObj):∀(δ:List (Nat×Option AObj)) (t:Tri (Option AObj)) (nx nx':Nat),
  (AS.mk base (A5h t δ) nx).get=Hp.upd (AS.mk base t nx').get δ
 |[],t,_,_=>rfl
 |(k,o)::r,t,nx,nx'=>by
  rw [A5h,Hp.upd,A6U base r (t.set k o) nx nx'];congr 1
  funext j
  simp only [AS.get,Hp.set1,Tri.get_set];grind
theorem AS.upd_get (s:AS) (δ:List (Nat×Option AObj)) (nx:Nat):(s.upd δ nx).get=Hp.upd s.get δ:=A6U s.base δ s.tri nx s.next
theorem AS.upd_next (s:AS) (δ:List (Nat×Option AObj)) (nx:Nat):(s.upd δ nx).next=nx:=rfl
abbrev Loc:=Nat->Option (Nat×Nat×Nat)
mutual
inductive VRel (φ:Loc):Value->Value->Prop
 |bool (b:Bool):VRel φ (.bool b) (.bool b)
 |int (k:IntKind) (n:Int):VRel φ (.int k n) (.int k n)
 |float (k:FloatKind) (n:Nat):VRel φ (.float k n) (.float k n)
 |string (s:ByteArray):VRel φ (.string s) (.string s)
 |ptrN:VRel φ (.pointer none) (.pointer none)
 |ptr {i o b d t:Nat}:φ i=some (b,d,t)->VRel φ (.pointer (some ⟨i,o,none⟩)) (.pointer (some ⟨b,d+o,none⟩))
 |sliceN:VRel φ (.slice none 0 0) (.slice none 0 0)
 |slice {i o b d t:Nat} (n c:Nat):φ i=some (b,d,t)->n<=c->c<D3->VRel φ (.slice (some ⟨i,o,none⟩) n c) (.slice (some ⟨b,d+o,none⟩) n c)
 |sliceU {i o b d t:Nat} (n c o' k:Nat):φ i=some (b,d,t)->n<=c->(o'=d+o\/c=0)->(c=0\/o'+c*k<=t)->VRel φ (.slice (some ⟨i,o,none⟩) n (D3+k)) (.slice (some ⟨b,o',none⟩) n c)
 |slice0 (i o:Nat) (a:Addr):VRel φ (.slice (some ⟨i,o,none⟩) 0 0) (.slice (some a) 0 0)
 |mapN:VRel φ (.map none) (.map none)
 |map {i b t:Nat}:φ i=some (b,0,t)->VRel φ (.map (some i)) (.map (some b))
 |func (fn:Fn) {x x' y y':Array Value}:VRels φ x.toList x'.toList->VRels φ y.toList y'.toList->VRel φ (.func fn x y) (.func fn x' y')
 |nilFunc:VRel φ .nilFunc .nilFunc
 |iface (t:TypeId) {v v':Value}:VRel φ v v'->VRel φ (.iface t v) (.iface t v')
 |nilIface:VRel φ .nilIface .nilIface
 |agg {x x':Array Value}:VRels φ x.toList x'.toList->VRel φ (.agg x) (.agg x')
 |tuple {x x':Array Value}:VRels φ x.toList x'.toList->VRel φ (.tuple x) (.tuple x')
inductive VRels (φ:Loc):List Value->List Value->Prop
 |nil:VRels φ [] []
 |cons {v v':Value} {l l':List Value}:VRel φ v v'->VRels φ l l'->VRels φ (v::l) (v'::l')
end
def Loc.le (φ ψ:Loc):Prop:=∀i x,φ i=some x->ψ i=some x
theorem Loc.le_refl (φ:Loc):φ.le φ:=fun _ _ h=>h
theorem Loc.le_trans {φ ψ χ:Loc} (h:φ.le ψ) (k:ψ.le χ):φ.le χ:=fun i x e=>k i x (h i x e)
mutual
theorem VRel.mono {φ ψ:Loc} (h:φ.le ψ):∀{v v':Value},VRel φ v v'->VRel ψ v v'
 |_,_,.bool b=>.bool b
 |_,_,.int k n=>.int k n
 |_,_,.float k n=>.float k n
 |_,_,.string s=>.string s
 |_,_,.ptrN=>.ptrN
 |_,_,.ptr e=>.ptr (h _ _ e)
 |_,_,.sliceN=>.sliceN
 |_,_,.slice n c e k l=>.slice n c (h _ _ e) k l
 |_,_,.sliceU n c o k e l m p=>.sliceU n c o k (h _ _ e) l m p
 |_,_,.slice0 i o a=>.slice0 i o a
 |_,_,.mapN=>.mapN
 |_,_,.map e=>.map (h _ _ e)
 |_,_,.func fn x y=>.func fn (x.mono h) (y.mono h)
 |_,_,.nilFunc=>.nilFunc
 |_,_,.iface t v=>.iface t (v.mono h)
 |_,_,.nilIface=>.nilIface
 |_,_,.agg x=>.agg (x.mono h)
 |_,_,.tuple x=>.tuple (x.mono h)
theorem VRels.mono {φ ψ:Loc} (h:φ.le ψ):∀{l l':List Value},VRels φ l l'->VRels ψ l l'
 |_,_,.nil=>.nil
 |_,_,.cons v l=>.cons (v.mono h) (l.mono h)
end
namespace VRels
variable {φ:Loc}
theorem length {l l':List Value} (h:VRels φ l l'):l'.length=l.length:=by
 induction l generalizing l' with
 |nil=>cases h;rfl
 |cons v l ih=>cases h with|cons _ h=>simp [ih h]
theorem get {l l':List Value} (h:VRels φ l l'):∀{i:Nat} {v:Value},l[i]? =some v->∃v',l'[i]? =some v'/\VRel φ v v':=by
 induction l generalizing l' with
 |nil=>intro i v e;simp at e
 |cons x l ih=>
  intro i v e;cases h with
  |cons hx h=>
   cases i with
   |zero=>simp_all<;>grind
   |succ i=>simp_all<;>grind
theorem append {l l' m m':List Value} (h:VRels φ l l') (k:VRels φ m m'):VRels φ (l++m) (l'++m'):=by
 induction l generalizing l' with
 |nil=>cases h;exact k
 |cons x l ih=>cases h with|cons hx h=>exact .cons hx (ih h)
theorem drop {l l':List Value} (h:VRels φ l l'):∀n,VRels φ (l.drop n) (l'.drop n):=by
 induction l generalizing l' with
 |nil=>cases h;intro n;simp;exact .nil
 |cons x l ih=>
  intro n;cases h with
  |cons hx h=>
   cases n with
   |zero=>exact .cons hx h
   |succ n=>exact ih h n
theorem take {l l':List Value} (h:VRels φ l l'):∀n,VRels φ (l.take n) (l'.take n):=by
 induction l generalizing l' with
 |nil=>cases h;intro n;simp;exact .nil
 |cons x l ih=>
  intro n;cases h with
  |cons hx h=>
   cases n with
   |zero=>exact .nil
   |succ n=>exact .cons hx (ih h n)
theorem set {l l':List Value} (h:VRels φ l l') {v v':Value} (hv:VRel φ v v'):∀i,VRels φ (l.set i v) (l'.set i v'):=by
 induction l generalizing l' with
 |nil=>cases h;intro n;exact .nil
 |cons x l ih=>
  intro n;cases h with
  |cons hx h=>
   cases n with
   |zero=>exact .cons hv h
   |succ n=>exact .cons hx (ih h n)
theorem of_get {l l':List Value} (hl:l'.length=l.length) (h:∀(i:Nat) (v:Value),l[i]? =some v->∃v',l'[i]? =some v'/\VRel φ v v'):VRels φ l l':=by
 induction l generalizing l' with
 |nil=>cases l' with|nil=>exact .nil|cons=>simp at hl
 |cons x l ih=>
  cases l' with
  |nil=>simp at hl
  |cons x' l'=>
   obtain ⟨v',e,r⟩:=h 0 x rfl;simp at e;subst e;exact .cons r (ih (by simpa using hl) fun i v e=>by simpa using h (i+1) v (by simpa using e))
theorem map_same {α:Type} {f:α->Value} (h:∀a,VRel φ (f a) (f a)):∀l:List α,VRels φ (l.map f) (l.map f)
 |[]=>.nil
 |a::l=>.cons (h a) (map_same h l)
end VRels
theorem VRel.cells {φ:Loc} {v v':Value} (h:VRel φ v v'):VRels φ v.cells.toList v'.cells.toList:=by
 cases h with
 |agg x=>exact x
 |_=>exact .cons (by constructor<;>assumption) .nil
theorem VRel.undef (φ:Loc):VRel φ undef undef:=.tuple .nil
def plainV:Value->Bool
 |.bool _|.int _ _|.string _|.pointer none|.slice none 0 0|.map none|.nilFunc|.nilIface|.float _ _=>true
 |.iface _ v=>plainV v
 |.agg ⟨xs⟩=>plainVs xs
 |.tuple ⟨xs⟩=>plainVs xs
 |.func _ ⟨xs⟩ ⟨ys⟩=>plainVs xs&&plainVs ys
 |_=>false
where
 plainVs:List Value->Bool
  |[]=>true
  |v::l=>plainV v&&plainVs l
mutual
theorem VRel.plain (φ:Loc):∀(v:Value),plainV v=true->VRel φ v v
 |.bool b,_=>.bool b
 |.int k n,_=>.int k n
 |.float k n,_=>.float k n
 |.complex _ _ _,h=>by simp [plainV] at h
 |.string s,_=>.string s
 |.pointer none,_=>.ptrN
 |.pointer (some _),h=>by simp [plainV] at h
 |.slice none 0 0,_=>.sliceN
 |.slice none (_+1) _,h=>by simp [plainV] at h
 |.slice none 0 (_+1),h=>by simp [plainV] at h
 |.slice (some _) _ _,h=>by simp [plainV] at h
 |.map none,_=>.mapN
 |.map (some _),h=>by simp [plainV] at h
 |.chan _,h=>by simp [plainV] at h
 |.func fn ⟨xs⟩ ⟨ys⟩,h=>by
  simp only [plainV,Bool.and_eq_true] at h;exact .func fn (VRels.plain φ xs h.1) (VRels.plain φ ys h.2)
 |.nilFunc,_=>.nilFunc
 |.iface t v,h=>.iface t (VRel.plain φ v (by simpa [plainV] using h))
 |.nilIface,_=>.nilIface
 |.agg ⟨xs⟩,h=>.agg (VRels.plain φ xs (by simpa [plainV] using h))
 |.tuple ⟨xs⟩,h=>.tuple (VRels.plain φ xs (by simpa [plainV] using h))
theorem VRels.plain (φ:Loc):∀(l:List Value),plainV.plainVs l=true->VRels φ l l
 |[],_=>.nil
 |v::l,h=>by
  simp only [plainV.plainVs,Bool.and_eq_true] at h;exact .cons (VRel.plain φ v h.1) (VRels.plain φ l h.2)
end
def ERels (φ:Loc):List MapEntry->List MapEntry->Prop
 |[],[]=>True
 |e::l,e'::l'=>VRel φ e.key e'.key/\VRel φ e.val e'.val/\e'.born=e.born/\ERels φ l l'
 |_,_=>False
theorem ERels.mono {φ ψ:Loc} (h:φ.le ψ):∀{l l':List MapEntry},ERels φ l l'->ERels ψ l l'
 |[],[],_=>trivial
 |_::_,_::_,⟨a,b,c,d⟩=>⟨a.mono h,b.mono h,c,ERels.mono h d⟩
 |[],_::_,h=>h.elim
 |_::_,[],h=>h.elim
def ORel (φ:Loc) (d t:Nat):ABody->Obj->Prop
 |.cells vs e ro,.cells c e' fr=>c.size=t/\e'=e/\(ro=false->fr=(0,0))/\ones vs=true/\VRels φ vs ((c.toList.drop d).take vs.length)
 |.map es k,.map es' k'=>d=0/\k'=k/\ERels φ es es'.toList
 |.iter s p,.stringIter s' p'=>d=0/\s'=s/\p'=p
 |_,_=>False
theorem ORel.mono {φ ψ:Loc} (h:φ.le ψ) {d t:Nat} {o:ABody} {ob:Obj} (r:ORel φ d t o ob):ORel ψ d t o ob:=by
 cases o<;>cases ob<;>simp only [ORel] at r ⊢
 ·exact ⟨r.1,r.2.1,r.2.2.1,r.2.2.2.1,r.2.2.2.2.mono h⟩
 ·exact ⟨r.1,r.2.1,r.2.2.mono h⟩
 ·exact r
def ABody.isRo:ABody->Bool
 |.cells _ _ ro=>ro
 |_=>false
structure Rel (W0:World) (N0:Nat) (φ:Loc) (g:Hp) (w:World):Prop where
 n0:N0<=w.heap.size
 fixed:∀b,b<N0->w.heap[b]? =W0.heap[b]?
 os:w.os=W0.os
 tape:w.tape=W0.tape
 output:w.output=W0.output
 obj:∀i o,g i=some o->∃b d t ob,φ i=some (b,d,t)/\w.heap[b]? =some ob/\ORel φ d t o.body ob/\(b<N0->o.body.isRo=true)
 inj:∀i j b d d' t t',g i≠none->g j≠none->φ i=some (b,d,t)->φ j=some (b,d',t')->b<N0\/i=j
structure Stp (φ:Loc) (g:Hp) (w:World) (ψ:Loc) (h:Hp) (w':World) (lo hi:Nat):Prop where
 le:φ.le ψ
 out:∀i,¬(lo<=i/\i<hi)->ψ i=φ i
 size:w.heap.size<=w'.heap.size
 away:∀b,b<w.heap.size->(∀i d t,g i≠none->φ i≠some (b,d,t))->w'.heap[b]? =w.heap[b]?
 own:∀i b d t,h i≠none->ψ i=some (b,d,t)->w.heap.size<=b\/∃j d' t',g j≠none/\φ j=some (b,d',t')
theorem Stp.refl (φ:Loc) (g:Hp) (w:World) (lo:Nat):Stp φ g w φ g w lo lo:=
 ⟨Loc.le_refl φ,fun _ _=>rfl,Nat.le_refl _,fun _ _ _=>rfl,fun i b d t hg hφ=>.inr ⟨i,d,t,hg,hφ⟩⟩
theorem Stp.trans {φ ψ χ:Loc} {g h k:Hp} {w w1 w2:World} {lo mid hi:Nat} (a:Stp φ g w ψ h w1 lo mid) (b:Stp ψ h w1 χ k w2 mid hi) (h1:lo<=mid) (h2:mid<=hi):Stp φ g w χ k w2 lo hi:=by
 refine ⟨Loc.le_trans a.le b.le,fun i hi=> ?_,Nat.le_trans a.size b.size,fun x hx ha=> ?_,fun i x d t hk hχ=> ?_⟩
 ·rw [b.out i (by omega),a.out i (by omega)]
 ·rw [b.away x (Nat.lt_of_lt_of_le hx a.size) ?_,a.away x hx ha];intro i d t hh hψ;rcases a.own i x d t hh hψ with h|⟨j,d',t',hj,hφ⟩
  ·omega
  grind
 ·rcases b.own i x d t hk hχ with h|⟨j,d',t',hj,hψ⟩
  ·exact .inl (Nat.le_trans a.size h)
  ·exact a.own j x d' t' hj hψ
theorem Rel.less {W0:World} {N0:Nat} {φ:Loc} {g g':Hp} {w:World} (r:Rel W0 N0 φ g w) (h:∀i o,g' i=some o->g i=some o):Rel W0 N0 φ g' w:=
 ⟨r.n0,r.fixed,r.os,r.tape,r.output,fun i o e=>r.obj i o (h i o e),fun i j b d d' t t' hi hj=>by
  refine r.inj i j b d d' t t' ?_ ?_
  ·intro e;apply hi;cases e':g' i with|none=>rfl|some o=>rw [h i o e'] at e;cases e
  ·intro e;apply hj;cases e':g' j with|none=>rfl|some o=>rw [h j o e'] at e;cases e⟩
def K1 (w:World) (b:Nat) (o:Obj):World:={ w with heap:=w.heap.setIfInBounds b o }
theorem T2:∀{l:List Value},ones l=true->∀v∈l,v.oneCell'=true
 |[],_,v,h=>by cases h
 |x::l,ho,v,h=>by
  have hx:x.oneCell'=true/\ones l=true:=by cases x<;>simp_all [ones,Value.oneCell']
  rcases List.mem_cons.1 h with rfl|h
  ·exact hx.1
  ·exact T2 hx.2 v h
theorem Z9:∀{l:List Value},(∀v∈l,v.oneCell'=true)->ones l=true
 |[],_=>rfl
 |x::l,h=>by
  have h0:=h x (by simp);have h1:=Z9 (l:=l) fun v hv=>h v (by simp [hv])
  cases x<;>simp_all [ones,Value.oneCell']
theorem Y3 {l m:List Value} (h:ones l=true) (k:ones m=true):ones (l++m)=true:=
 Z9 fun v hv=>by rcases List.mem_append.1 hv with h'|h'<;>exact T2 (by assumption) v h'
theorem VRel.one {φ:Loc} {v v':Value} (h:VRel φ v v'):v'.oneCell'=v.oneCell':=by cases h<;>rfl
theorem VRels.ones {φ:Loc} {l l':List Value} (h:VRels φ l l') (o:ones l=true):ones l'=true:=by
 induction l generalizing l' with
 |nil=>cases h;rfl
 |cons x l ih=>
  cases h with
  |cons hx h=>
   have hx1:x.oneCell'=true:=T2 o x (by simp);have hl:Xe.ones l=true:=Z9 fun v hv=>T2 o v (by simp [hv])
   refine Z9 fun v hv=> ?_
   rcases List.mem_cons.1 hv with rfl|hv
   ·rw [hx.one];exact hx1
   grind [T2]
theorem A4n:∀(xs vs:List Value) (i:Nat),ones vs=true->ones xs=true->ones (setList vs i xs)=true
 |[],vs,i,h,_=>h
 |x::xs,vs,i,h,k=>by
  rw [setList];refine A4n xs _ (i+1) (Z9 fun v hv=> ?_) (Z9 fun v hv=>T2 k v (by simp [hv]));grind [T2]
theorem B6d {l:List Value} (h:ones l=true) (n:Nat):ones (l.take n)=true:=Z9 fun v hv=>T2 h v (List.mem_of_mem_take hv)
theorem B6e {l:List Value} (h:ones l=true) (n:Nat):ones (l.drop n)=true:=Z9 fun v hv=>T2 h v (List.mem_of_mem_drop hv)
theorem A6V {z:List Value} (h:ones z=true):∀n,ones (rep z n)=true
 |0=>rfl
 |n+1=>Y3 h (A6V h n)
theorem J5:∀(xs vs:List Value) (i:Nat),(setList vs i xs).length=vs.length
 |[],_,_=>rfl
 |x::xs,vs,i=>by rw [setList,J5 xs];simp
theorem VRels.setList {φ:Loc}:∀{xs xs':List Value},VRels φ xs xs'->∀{vs vs':List Value},VRels φ vs vs'->∀i,VRels φ (Xe.setList vs i xs) (Xe.setList vs' i xs')
 |_,_,.nil,_,_,h,_=>h
 |_,_,.cons hx h',_,_,h,i=>VRels.setList h' (h.set hx i) (i+1)
theorem S9:∀(xs c:List Value) (d o n:Nat),o+xs.length<=n->((Xe.setList c (d+o) xs).drop d).take n=Xe.setList ((c.drop d).take n) o xs
 |[],_,_,_,_,_=>rfl
 |x::xs,c,d,o,n,h=>by
  simp only [List.length_cons] at h;rw [Xe.setList,show d+o+1=d+(o+1) by omega,S9 xs (c.set (d+o) x) d (o+1) n (by omega),Xe.setList];congr 1;apply List.ext_getElem?;grind
theorem R1 (w:World) (b j:Nat) (o:Obj) (h:b<w.heap.size):(K1 w b o).heap[j]? =if b=j then some o else w.heap[j]? :=by
 grind [K1]
theorem A1p (w:World) (b:Nat) (o:Obj):(K1 w b o).heap.size=w.heap.size:=by simp [K1]
theorem A6W (w:World) (b k:Nat) (c:Array Value) (e:TypeId) (f:Nat×Nat) (v:Value) (h:w.heap[b]? =some (.cells c e f)):
  w.setCell ⟨b,k,none⟩ v=K1 w b (.cells (c.setIfInBounds k v) e f):=by
 obtain ⟨hb,hge⟩:=Array.getElem?_eq_some_iff.1 h;have:w.heap.modify b (fun|.cells c elem frozen=>.cells (if (none:Option Nat).isSome then c else c.setIfInBounds k v) elem frozen|o=>o)=w.heap.setIfInBounds b (.cells (c.setIfInBounds k v) e f):=by
  grind
 simp only [World.setCell,K1];congr 1
theorem A8Q (w:World) (b:Nat) (o o':Obj):K1 (K1 w b o) b o'=K1 w b o':=by
 simp_all [K1]
theorem T3 (w:World) (b:Nat) (o:Obj) (h:w.heap[b]? =some o):K1 w b o=w:=by
 have:w.heap.setIfInBounds b o=w.heap:=by
  grind
 simp_all [K1]
theorem A1q {w:World} {b:Nat} {c:Array Value} {e:TypeId} {f:Nat×Nat} (h:w.heap[b]? =some (.cells c e f)) (k:Nat):w.cell? ⟨b,k,none⟩=c[k]? :=by
 simp [World.cell?,h]
theorem W5 {w:World} {b:Nat} {c:Array Value} {e:TypeId} (h:w.heap[b]? =some (.cells c e (0,0))) (k:Nat):w.frozen? ⟨b,k,none⟩=false:=by
 simp [World.frozen?,h]
theorem E0 (b o n:Nat):(⟨b,o,none⟩:Addr).add n=⟨b,o+n,none⟩:=Addr.add_lit b o n
theorem N5 (P:Program) (b off:Nat) (e:TypeId):∀(vs:List Value) (i:Nat) (c:Array Value) (w:World),w.heap[b]? =some (.cells c e (0,0))->
  off+i+vs.length<=c.size->ones vs=true->(storeCells ⟨b,off,none⟩ vs i).run P w=.ok () (K1 w b (.cells (setList c.toList (off+i) vs).toArray e (0,0)))
 |[],i,c,w,h,hl,ho=>by
  simp only [storeCells,Sem.run_pure,setList];simp_all [T3]
 |v::vs,i,c,w,h,hl,ho=>by
  simp only [List.length_cons] at hl;have hv:v.oneCell'=true:=T2 ho v (by simp);have hc:w.cell? ⟨b,off+i,none⟩=some c[off+i]:=by rw [A1q h];exact Array.getElem?_eq_getElem (by omega)
  simp only [storeCells,Sem.run_bind,E0,run_store P w _ v .plain hv,hc,W5 h,Bool.false_eq_true,if_false,Result.andThen_ok];rw [A6W w b _ c e (0,0) v h];have hb:b<w.heap.size:=(Array.getElem?_eq_some_iff.1 h).1;have h1:(K1 w b (.cells (c.setIfInBounds (off+i) v) e (0,0))).heap[b]? =some (.cells (c.setIfInBounds (off+i) v) e (0,0)):=by rw [R1 _ _ _ _ hb,if_pos rfl]
  rw [N5 P b off e vs (i+1) _ _ h1 (by simp;omega) (Z9 fun x hx=>T2 ho x (by simp [hx])),A8Q];grind [setList]
theorem P0 {g:Hp} {a:Addr} {n:Nat} {l:List Value} (h:B8 g a n=some l):
  ∃i o ver vs e ro,a=⟨i,o,none⟩/\g i=some ⟨ver,.cells vs e ro⟩/\o+n<=vs.length/\l=(vs.drop o).take n:=by
 unfold B8 at h;split at h
 ·rename_i i o;split at h
  ·rename_i ver vs e ro hg;split at h
   ·rename_i hb;exact ⟨i,o,ver,vs,e,ro,rfl,hg,Nat.le_of_ble_eq_true hb,(Option.some.inj h).symm⟩
   ·cases h
  ·cases h
 ·cases h
theorem Q1 {g:Hp} {a:Addr} {xs:List Value} {δ:List (Nat×Option AObj)} (h:F8 g a xs=some δ):
  ∃i o ver vs e,a=⟨i,o,none⟩/\g i=some ⟨ver,.cells vs e false⟩/\o+xs.length<=vs.length/\δ=[(i,some ⟨ver+1,.cells (setList vs o xs) e false⟩)]:=by
 unfold F8 at h;split at h
 ·rename_i i o;split at h
  ·rename_i ver vs e hg;split at h
   ·simp_all<;>grind
   ·cases h
  ·cases h
 ·cases h
section
variable {W0:World} {N0:Nat} {φ:Loc} {g:Hp} {w:World}
theorem Rel.cells (r:Rel W0 N0 φ g w) {i ver:Nat} {vs:List Value} {e:TypeId} {ro:Bool} (h:g i=some ⟨ver,.cells vs e ro⟩) {b d t:Nat} (hφ:φ i=some (b,d,t)):
  ∃c fr,w.heap[b]? =some (.cells c e fr)/\c.size=t/\(ro=false->fr=(0,0))/\ones vs=true/\VRels φ vs ((c.toList.drop d).take vs.length)/\d+vs.length<=c.size+(if vs.length=0 then d else 0):=by
 obtain ⟨b',d',t',ob,hφ',hb,ho,_⟩:=r.obj i _ h;rw [hφ] at hφ';cases hφ';cases ob<;>simp only [ORel] at ho
 rename_i c e' fr;obtain ⟨h0,rfl,h1,h2,h3⟩:=ho;refine ⟨c,fr,hb,h0,h1,h2,h3,?_⟩;have:=h3.length;grind
theorem Rel.loads (r:Rel W0 N0 φ g w) {a:Addr} {n:Nat} {l:List Value} (h:B8 g a n=some l) {i o b d t:Nat} (ha:a=⟨i,o,none⟩) (hφ:φ i=some (b,d,t)):
  ∃l',VRels φ l l'/\l'.length=n/\ones l=true/\∀j v,l'[j]? =some v->w.cell? ⟨b,d+o+j,none⟩=some v:=by
 obtain ⟨i',o',ver,vs,e,ro,ha',hg,hle,rfl⟩:=P0 h;rw [ha] at ha';cases ha';obtain ⟨c,fr,hb,_,_,h1,hv,_⟩:=r.cells hg hφ;refine ⟨_,(hv.drop o).take n,?_,B6d (B6e h1 o) n,?_⟩
 ·grind
 grind [A1q]
structure Drawn (w w':World):Prop where
 heap:w'.heap=w.heap
 os:w'.os=w.os
 tape:w'.tape=w.tape
 output:w'.output=w.output
theorem Drawn.refl (w:World):Drawn w w:=⟨rfl,rfl,rfl,rfl⟩
theorem Drawn.drew (w:World):Drawn w w.drew:=⟨rfl,rfl,rfl,rfl⟩
theorem Rel.drawn (r:Rel W0 N0 φ g w) {w':World} (h:Drawn w w'):Rel W0 N0 φ g w':=by
 obtain ⟨h1,h2,h3,h4⟩:=h;exact ⟨h1▸r.n0,fun b hb=>by rw [h1];exact r.fixed b hb,h2.trans r.os,h3.trans r.tape,h4.trans r.output,fun i o e=>by rw [h1];exact r.obj i o e,r.inj⟩
theorem Stp.drawn {h:Hp} {ψ:Loc} {w1 w2:World} {lo hi:Nat} (s:Stp φ g w ψ h w1 lo hi) (d:Drawn w1 w2):Stp φ g w ψ h w2 lo hi:=by
 have:=d.heap;exact ⟨s.le,s.out,this▸s.size,fun b hb ha=>by rw [this];exact s.away b hb ha,s.own⟩
theorem Stp.drawn0 {h:Hp} {ψ:Loc} {w0 w1:World} {lo hi:Nat} (d:Drawn w w0) (s:Stp φ g w0 ψ h w1 lo hi):Stp φ g w ψ h w1 lo hi:=by
 have:=d.heap;exact ⟨s.le,s.out,this▸s.size,fun b hb ha=>by rw [s.away b (this▸hb) ha,this],fun i b d t hi hb=>by rw [<-this];exact s.own i b d t hi hb⟩
def Loc.put (φ:Loc) (i b d t:Nat):Loc:=fun j=>if i=j then some (b,d,t) else φ j
theorem Loc.put_le {φ:Loc} {i b d t:Nat} (h:φ i=none):φ.le (φ.put i b d t):=fun j x e=>by
 grind [Loc.put]
theorem Loc.put_same (φ:Loc) (i b d t:Nat):φ.put i b d t i=some (b,d,t):=by simp [Loc.put]
theorem Loc.put_ne (φ:Loc) {i j:Nat} (b d t:Nat) (h:i≠j):φ.put i b d t j=φ j:=by simp [Loc.put,h]
theorem Rel.block_lt (r:Rel W0 N0 φ g w) {k b d t:Nat} (hk:g k≠none) (hb:φ k=some (b,d,t)):b<w.heap.size:=by
 cases hgk:g k with
 |none=>exact absurd hgk hk
 |some o=>
  obtain ⟨b',d',t',ob',e1,e2,_⟩:=r.obj k o hgk;grind
theorem Rel.new (r:Rel W0 N0 φ g w) {i:Nat} (hφ:φ i=none) {body:ABody} {ob:Obj} {ver t:Nat}
  (ho:ORel (φ.put i w.heap.size 0 t) 0 t body ob):
  Rel W0 N0 (φ.put i w.heap.size 0 t) (Hp.set1 g i (some ⟨ver,body⟩)) (w.alloc ob)/\
  Stp φ g w (φ.put i w.heap.size 0 t) (Hp.set1 g i (some ⟨ver,body⟩)) (w.alloc ob) i (i+1):=by
 have hle:=Loc.put_le (b:=w.heap.size) (d:=0) (t:=t) hφ;have hsize:(w.alloc ob).heap.size=w.heap.size+1:=World.size_alloc w ob;have hold:∀b,b<w.heap.size->(w.alloc ob).heap[b]? =w.heap[b]? :=fun b hb=>by
  simp only [World.alloc,Array.getElem?_push];rw [if_neg (by omega)]
 have hnew:(w.alloc ob).heap[w.heap.size]? =some ob:=by show (w.heap.push ob)[w.heap.size]? =some ob;simp
 constructor
 ·refine ⟨by rw [hsize];have:=r.n0;omega,fun b hb=>by rw [hold b (Nat.lt_of_lt_of_le hb r.n0)];exact r.fixed b hb,r.os,r.tape,r.output,fun j o e=> ?_,fun j k b d d' t1 t2 hj hk hjb hkb=> ?_⟩
  ·unfold Hp.set1 at e;split at e
   ·rename_i hij;subst hij;cases e;exact ⟨_,_,_,ob,Loc.put_same _ _ _ _ _,hnew,ho,fun hb=>by have:=r.n0;omega⟩
   ·obtain ⟨b,d,t',ob',h1,h2,h3,h4⟩:=r.obj j o e;have hb:=(Array.getElem?_eq_some_iff.1 h2).1;exact ⟨b,d,t',ob',hle _ _ h1,by rw [hold b hb];exact h2,h3.mono hle,h4⟩
  ·by_cases h1:i=j<;>by_cases h2:i=k
   ·exact .inr (by omega)
   ·subst h1;rw [Loc.put_same] at hjb;cases hjb;have hk':g k≠none:=by simpa [Hp.set1,h2] using hk
    have hkb':φ k=some (w.heap.size,d',t2):=by rwa [Loc.put_ne _ _ _ _ h2] at hkb
    have:=r.block_lt hk' hkb';omega
   ·subst h2;rw [Loc.put_same] at hkb;cases hkb;have hk':g j≠none:=by simpa [Hp.set1,h1] using hj
    have hkb':φ j=some (w.heap.size,d,t1):=by rwa [Loc.put_ne _ _ _ _ h1] at hjb
    have:=r.block_lt hk' hkb';omega
   ·exact r.inj j k b d d' t1 t2 (by simpa [Hp.set1,h1] using hj) (by simpa [Hp.set1,h2] using hk) (by rwa [Loc.put_ne _ _ _ _ h1] at hjb) (by rwa [Loc.put_ne _ _ _ _ h2] at hkb)
 constructor<;>grind [Loc.put,Loc.put_same,Hp.set1,Loc.put_ne]
theorem Rel.write (r:Rel W0 N0 φ g w) {i b d t ver:Nat} {o:AObj} (hg:g i=some o) (hφ:φ i=some (b,d,t)) (hro:o.body.isRo=false) {body:ABody} {ob:Obj}
  (ho:ORel φ d t body ob) (lo:Nat):
  Rel W0 N0 φ (Hp.set1 g i (some ⟨ver,body⟩)) (K1 w b ob)/\Stp φ g w φ (Hp.set1 g i (some ⟨ver,body⟩)) (K1 w b ob) lo lo:=by
 obtain ⟨b',d',t',ob0,h1,h2,h3,h4⟩:=r.obj i o hg;rw [hφ] at h1;cases h1;have hb:=(Array.getElem?_eq_some_iff.1 h2).1;have hn:¬b<N0:=fun hb'=>by rw [h4 hb'] at hro;cases hro
 have live:∀j,Hp.set1 g i (some ⟨ver,body⟩) j≠none->g j≠none:=fun j hj=>by
  grind [Hp.set1]
 constructor
 ·refine ⟨by rw [A1p];exact r.n0,fun k hk=>by rw [R1 _ _ _ _ hb,if_neg (by omega)];exact r.fixed k hk,r.os,r.tape,r.output,fun j o' e=> ?_,fun j k b d d' t1 t2 hj hk=>r.inj j k b d d' t1 t2 (live j hj) (live k hk)⟩;unfold Hp.set1 at e;split at e
  ·grind [R1]
  ·rename_i hij;obtain ⟨b',d',t',ob',e1,e2,e3,e4⟩:=r.obj j o' e;refine ⟨b',d',t',ob',e1,?_,e3,e4⟩;rw [R1 _ _ _ _ hb,if_neg];exact e2;intro hbb;subst hbb;exact hij ((r.inj i j b d d' t t' (by rw [hg];simp) (by rw [e];simp) hφ e1).resolve_left hn)
 constructor<;>grind [Loc.le_refl,A1p,R1]
theorem Rel.drop (r:Rel W0 N0 φ g w) (i:Nat):Rel W0 N0 φ (Hp.set1 g i none) w:=
 r.less fun j o e=>by
  unfold Hp.set1 at e;split at e
  · cases e
  · exact e
theorem Stp.drop (i lo:Nat):Stp φ g w φ (Hp.set1 g i none) w lo lo:=
 ⟨Loc.le_refl _,fun _ _=>rfl,Nat.le_refl _,fun _ _ _=>rfl,fun j b d t hj hb=>.inr ⟨j,d,t,by
  unfold Hp.set1 at hj;split at hj; · exact absurd rfl hj
  ·exact hj,hb⟩⟩
theorem Rel.turn (r:Rel W0 N0 φ g w) {i k b d t d' ver:Nat} {o:AObj} (hg:g i=some o) (hφ:φ i=some (b,d,t)) (hro:o.body.isRo=false) (hk:φ k=none) (hgk:g k=none) {body:ABody} {ob:Obj}
  (ho:ORel (φ.put k b d' t) d' t body ob):
  Rel W0 N0 (φ.put k b d' t) (Hp.set1 (Hp.set1 g i none) k (some ⟨ver,body⟩)) (K1 w b ob)/\
  Stp φ g w (φ.put k b d' t) (Hp.set1 (Hp.set1 g i none) k (some ⟨ver,body⟩)) (K1 w b ob) k (k+1):=by
 obtain ⟨b',d'',t',ob0,h1,h2,h3,h4⟩:=r.obj i o hg;rw [hφ] at h1;cases h1;have hb:=(Array.getElem?_eq_some_iff.1 h2).1;have hn:¬b<N0:=fun hb'=>by rw [h4 hb'] at hro;cases hro
 have hle:=Loc.put_le (b:=b) (d:=d') (t:=t) hk;have hik:i≠k:=fun h=>by subst h;rw [hg] at hgk;cases hgk
 have gi:g i≠none:=by rw [hg];simp
 have live:∀j,k≠j->Hp.set1 (Hp.set1 g i none) k (some ⟨ver,body⟩) j≠none->g j≠none/\i≠j:=fun j hkj hj=>by
  grind [Hp.set1]
 constructor
 ·refine ⟨by rw [A1p];exact r.n0,fun j hj=>by rw [R1 _ _ _ _ hb,if_neg (by omega)];exact r.fixed j hj,r.os,r.tape,r.output,fun j o' e=> ?_,fun j l b1 d1 d2 t1 t2 hj hl hjb hlb=> ?_⟩
  ·by_cases hkj:k=j
   ·grind [Hp.set1,Loc.put_same,R1]
   ·obtain ⟨hj,hij⟩:=live j hkj (by rw [e];simp);simp only [Hp.set1,if_neg hkj,if_neg hij] at e;obtain ⟨b1,d1,t1,ob1,e1,e2,e3,e4⟩:=r.obj j o' e;refine ⟨b1,d1,t1,ob1,hle _ _ e1,?_,e3.mono hle,e4⟩;rw [R1 _ _ _ _ hb,if_neg];exact e2;intro hbb;subst hbb;exact hij ((r.inj i j b d d1 t t1 gi hj hφ e1).resolve_left hn)
  ·by_cases h1:k=j<;>by_cases h2:k=l
   ·exact .inr (by omega)
   ·subst h1;rw [Loc.put_same] at hjb;cases hjb;obtain ⟨hl',hil⟩:=live l h2 hl;rw [Loc.put_ne _ _ _ _ h2] at hlb;exact absurd ((r.inj i l b d d2 t t2 gi hl' hφ hlb).resolve_left hn) hil
   ·subst h2;rw [Loc.put_same] at hlb;cases hlb;obtain ⟨hl',hil⟩:=live j h1 hj;rw [Loc.put_ne _ _ _ _ h1] at hjb;exact absurd ((r.inj i j b d d1 t t1 gi hl' hφ hjb).resolve_left hn) hil
   ·rw [Loc.put_ne _ _ _ _ h1] at hjb;rw [Loc.put_ne _ _ _ _ h2] at hlb;exact r.inj j l b1 d1 d2 t1 t2 (live j h1 hj).1 (live l h2 hl).1 hjb hlb
 constructor<;>grind [Loc.put_ne,A1p,R1,Loc.put_same]
end
section
variable (P:Program)
def A3s (t:TypeId):Option Bool:=
 match P.underlying t with
 |none=>none
 |some (.struct _)=>some true
 |some (.array _ _)=>some true
 |some _=>some false
def G2 (t:TypeId):Option Nat:=(P.info? t).map (·.size)
def X5 (t:TypeId):Option Nat:=(P.info? t).map (·.bytes)
def V6 (t:TypeId):Option Value:=
 match (P.info? t).bind (·.zero) with
 |some z=>if plainV z then some z else none
 |none=>none
def placeOf (fs:Array Field) (i:Nat):Option (Nat×Nat):=
 match fs[i]? with
 |some f=>match G2 P f.type with
  |some s=>some (f.offset,s)
  |none=>none
 |none=>none
def W6 (pl:Nat->Option (Nat×Nat)):List (Nat×Operand)->Option (List (Nat×Nat×Operand))
 |[]=>some []
 |(i,x)::r=>match pl i,W6 pl r with
  |some (o,s),some l=>some ((o,s,x)::l)
  |_,_=>none
def isConst:Operand->Bool
 |.const _=>true
 |_=>false
def eqT (t:TypeId):Option EqK:=
 match P.underlying t with
 |some (.int _)=>some .int
 |some .bool=>some .bool
 |some .string=>some .str
 |some (.pointer e)=>match G2 P e with
  |some (_+1)=>some .ptr
  |_=>none
 |_=>none
def A27 (eq:TypeId->Option EqK) (base:Nat):List Field->Option (List (Nat×EqK))
 |[]=>some []
 | f :: r => match f.name == "_", A27 eq base r with
  |true,some l=>some l
  |false,some l=>match eq f.type with
   |some k=>some ((base+f.offset,k)::l)
   |none=>none
  |_,none=>none
def A6w (t:TypeId) (x y:Operand):Option EqK:=
 match P.underlying t with
 |some (.interface _)=>if isConst x||isConst y then some .ifaceNil else none
 |some (.slice _)=>some .sliceNil
 |some (.map _ _)=>some .mapNil
 |some (.func _ _ _)=>some .funcNil
 |some (.struct fs)=>if P.stoodInHeld t||P.eqGuardType P.depth t then none else (A27 (eqT P) 0 fs.toList).map .agg
 |_=>eqT P t
def B57 (op:BinOp) (t:TypeId) (x y:Operand):Option XOp:=
 match P.underlying t with
 |some (.int _)=>some (.bin op x y)
 |some .string=>some (.bin op x y)
 |_=>match op with
  |.eql=>(A6w P t x y).map fun k=>.eq k false x y
  |.neq=>(A6w P t x y).map fun k=>.eq k true x y
  |_=>none
def A1r (s d:TypeId) (x:Operand):Option XOp:=
 match P.underlying s,P.underlying d with
 |some (.int _),some (.int k)=>some (.toInt k x)
 |some .string,some .string=>some (.keep x)
 |some (.slice e),some .string=>match P.underlying e with
  |some (.int .u8)=>some (.bytesToStr x)
  |_=>none
 |some .string,some (.slice e)=>match P.underlying e with
  |some (.int .u8)=>some (.strToBytes e x)
  |_=>none
 |_,_=>none
def A9a (t:TypeId) (x:Operand) (lo hi mx:Option Operand):Option XOp:=
 match P.underlying t with
 |some .string=>match mx with
  |none=>some (.sliceStr x lo hi)
  |some _=>none
 |some (.slice e)=>(G2 P e).map fun s=>.slice s x lo hi mx
 |some (.array n e)=>if n<D3 then (G2 P e).map fun s=>.sliceArr n s x lo hi mx else none
 |some (.pointer r)=>match P.underlying r with
  |some (.array n e)=>if n<D3 then (G2 P e).map fun s=>.sliceArr n s x lo hi mx else none
  |_=>none
 |_=>none
def A5W (b:Builtin) (args:List Operand) (at_:List TypeId):Option XOp:=
 match b,args,at_ with
 |.len,[x],[t]=>match P.underlying t with
  |some .string=>some (.lenStr x)
  |some (.slice _)=>some (.lenSlice x)
  |some (.array n _)=>some (.lenArr n)
  |some (.map _ _)=>some (.lenMap x)
  |some (.pointer r)=>match P.underlying r with
   |some (.array n _)=>some (.lenArr n)
   |_=>none
  |_=>none
 |.cap,[x],[t]=>match P.underlying t with
  |some (.slice _)=>some (.capSlice x)
  |_=>none
 |.append,[x,y],[t,u]=>match P.underlying t,P.underlying u with
  |some (.slice e),some (.int _)=>match V6 P e,G2 P e,X5 P e with
   |some z,some s,some b=>if z.cells.toList.length=s then some (.appendZ e z.cells.toList b x y) else none
   |_,_,_=>none
  |some (.slice e),some _=>match V6 P e,G2 P e,X5 P e with
   |some z,some s,some b=>if z.cells.toList.length=s then some (.append e s b x y) else none
   |_,_,_=>none
  |_,_=>none
 |.copy,[x,y],[t,_]=>match P.underlying t with
  |some (.slice e)=>(G2 P e).map fun s=>.copy s x y
  |_=>none
 |.max,xs,_=>some (.maxI xs)
 |.min,xs,_=>some (.minI xs)
 |.recover,[],_=>some .recover
 |.clear,[_],_=>some (.maxI [])
 |_,_,_=>none
def F4 (op:Op):Option XOp:=
 match op with
 |.move x=>some (.move x)
 |.assign x=>some (.move x)
 |.pick c a b=>some (.pick c a b)
 |.alloc e=>(V6 P e).map fun z=>.alloc e z.cells.toList
 |.box e x=>some (.box e x)
 |.build t ps=>match V6 P t,P.underlying t with
  |some z,some (.struct fs)=>if fs.toList.all (fun f=>(P.info? f.type).isSome) then (W6 (placeOf P fs) ps.toList).map fun l=>.build z.cells.toList l else none
  |some z,some (.array _ e)=>match G2 P e with
   |some s=>(W6 (fun i=>some (i*s,s)) ps.toList).map fun l=>.build z.cells.toList l
   |none=>none
  |_,_=>none
 |.buildSlice t n ps=>match P.underlying t with
  |some (.slice e)=>match V6 P e,G2 P e with
   |some z,some s=>if z.cells.toList.length=s/\n*s<=2^24/\n<=2^24 then (W6 (fun i=>some (i*s,s)) ps.toList).map fun l=>.buildSlice e s z.cells.toList n l else none
   |_,_=>none
  |_=>none
 |.load t a=>match A3s P t,G2 P t with
  |some true,some n=>some (.loadN n a)
  |some false,some 1=>some (.load1 a)
  |_,_=>none
 |.store t a x=>(G2 P t).map fun n=>.store n a x
 |.nilCheck x=>some (.nilCheck x)
 |.binOp op t x y _=>B57 P op t x y
 |.unOp op _ x=>some (.un op x)
 |.convert s d x=>A1r P s d x
 |.makeInterface t x=>match P.underlying t with
  |some (.interface _)=>none
  |none=>none
  |some _=>some (.mkIface t x)
 |.makeFunc fn first cap=>some (.mkFunc fn first.toList cap.toList)
 |.makeMap _ none=>some .mkMap
 |.makeSlice t l c=>match P.underlying t with
  |some (.slice e)=>match V6 P e,G2 P e,X5 P e with
   |some z,some s,some b=>if z.cells.toList.length=s then some (.mkSlice e z.cells.toList b l c) else none
   |_,_,_=>none
  |_=>none
 |.slice t x lo hi mx=>A9a P t x lo hi mx
 |.fieldAddr s x f=>match P.underlying s with
  |some (.struct fs)=>match fs[f]? with
   |some fd=>match G2 P fd.type with
    |some (_+1)=>some (.addr fd.offset x)
    |_=>none
   |none=>none
  |_=>none
 |.field s x f=>match P.underlying s with
  |some (.struct fs)=>match fs[f]? with
   |some fd=>match A3s P fd.type,G2 P fd.type with
    |some true,some n=>some (.fieldN fd.offset n x)
    |some false,some _=>some (.field1 fd.offset x)
    |_,_=>none
   |none=>none
  |_=>none
 |.indexAddr t x i=>match P.underlying t with
  |some (.slice e)=>(G2 P e).map fun s=>.indexAddr s x i
  |some (.array n e)=>(G2 P e).map fun s=>.indexArrAddr n s x i
  |_=>none
 |.index t x i=>match P.underlying t with
  |some .string=>some (.indexStr x i)
  |some (.array n e)=>match A3s P e,G2 P e with
   |some true,some s=>some (.indexN n s x i)
   |some false,some 1=>some (.index1 n x i)
   |_,_=>none
  |_=>none
 |.lookup t m k ok=>match P.underlying t with
  |some (.map kt et)=>match eqT P kt,V6 P et with
   |some e,some z=>some (.lookup e z m k ok)
   |_,_=>none
  |_=>none
 |.mapUpdate t m k v=>match P.underlying t with
  |some (.map kt _)=>(eqT P kt).map fun e=>.mapUpdate e m k v
  |_=>none
 |.insert t m k v=>match P.underlying t with
  |some (.map kt _)=>(eqT P kt).map fun e=>.mapUpdate e m k v
  |_=>none
 |.typeAssert x _ t ok=>match P.underlying t,V6 P t with
  |some (.interface _),_=>none
  |some _,some z=>some (.assertT t z x ok)
  |_,_=>none
 |.extract x i=>some (.extract x i)
 |.panic x=>some (.panic x)
 |.call c=>match c.callee with
  |.builtin b=>A5W P b c.args.toList c.argTypes.toList
  |.value (.func f)=>some (.call f c.args.toList)
  |.value x=>some (.callV x c.args.toList)
  |.invoke _ _=>none
 |.defer c=>match c.callee with
  |.value x=>some (.defer x c.args.toList)
  |_=>none
 |_=>none
end
section
variable (P:Program) (W0:World) (N0:Nat)
def Did (φ:Loc) (g:Hp) (w:World) (nx:Nat) (p:PR) (r:Result Next):Prop:=
 ∃ψ w' v',(r=.ok (.value v') w'\/(r=.ok .skip w'/\v'=undef))/\VRel ψ p.v v'/\Rel W0 N0 ψ (Hp.upd g p.δ) w'/\Stp φ g w ψ (Hp.upd g p.δ) w' nx p.nx
end
section
variable {P:Program} {W0:World} {N0:Nat} {φ:Loc} {g:Hp} {w:World} {nx:Nat}
theorem H4 (r:Rel W0 N0 φ g w) {v v':Value} (hv:VRel φ v v') {x:Result Next} (hx:x=.ok (.value v') w):Did W0 N0 φ g w nx ⟨v,[],nx⟩ x:=
 ⟨φ,w,v',.inl hx,hv,r,Stp.refl φ g w nx⟩
theorem B3Q {t:TypeId} {n:Nat} (h:G2 P t=some n):∃i,P.info? t=some i/\i.size=n/\P.cellsOf t=n:=by
 unfold G2 at h;cases hi:P.info? t with
 |none=>rw [hi] at h;cases h
 |some i=>rw [hi] at h;exact ⟨i,rfl,Option.some.inj h,by simp [Program.cellsOf,hi];exact Option.some.inj h⟩
theorem E8 {t:TypeId} {n:Nat} (h:G2 P t=some n) (w:World):(sizeOf t).run P w=.ok n w:=by
 obtain ⟨i,hi,hs,hc⟩:=B3Q h;rw [run_sizeOf (P:=P) (w:=w) hi,hc]
theorem M8 {t:TypeId} {z:Value} (h:V6 P t=some z) (w:World):(zeroValue t).run P w=.ok z w:=by
 unfold V6 at h;cases hi:P.info? t with
 |none=>rw [hi] at h;cases h
 |some i=>
  rw [hi] at h;have hz:i.zero=some z:=by
   grind
  simp only [zeroValue,Sem.run_bind,run_typeInfo (P:=P) (w:=w) hi,Result.andThen_ok,hz,Sem.run_pure]
theorem T4 {t:TypeId} {z:Value} (h:V6 P t=some z):plainV z=true:=by
 grind [V6]
theorem A28 {t:TypeId} {n:Nat} (h:X5 P t=some n) (w:World):∃i,(typeInfo t).run P w=.ok i w/\i.bytes=n:=by
 unfold X5 at h;cases hi:P.info? t with
 |none=>rw [hi] at h;cases h
 |some i=>rw [hi] at h;exact ⟨i,run_typeInfo (P:=P) (w:=w) hi,Option.some.inj h⟩
theorem T5 {t:TypeId} {b:Bool} (h:A3s P t=some b) (w:World):(isAgg t).run P w=.ok b w:=by
 unfold A3s at h;cases hu:P.underlying t with
 |none=>rw [hu] at h;cases h
 |some d=>
  rw [hu] at h;simp only [isAgg,Sem.run_bind,run_underlying hu,Result.andThen_ok];cases d<;>simp at h<;>subst h<;>rfl
theorem A29 {t:TypeId} {b o n:Nat} {l:List Value} (hn:G2 P t=some n) (hl:l.length=n) (hc:∀j v,l[j]? =some v->w.cell? ⟨b,o+j,none⟩=some v):
  (A3s P t=some true->(loadVar t ⟨b,o,none⟩).run P w=.ok (.agg l.toArray) w)/\
  (A3s P t=some false->∀v,l=[v]->(loadVar t ⟨b,o,none⟩).run P w=.ok v w):=by
 constructor
 ·intro ha;have:=run_loadCells_list (P:=P) w ⟨b,o,none⟩ l (fun j v hj=>by rw [E0];exact hc j v hj);simp only [loadVar,Sem.run_bind,T5 ha,Result.andThen_ok,if_true,E8 hn,<-hl,this,Sem.run_pure]
 ·rintro ha v rfl;have:=hc 0 v rfl;simp only [Nat.add_zero] at this;simp [loadVar,Sem.run_bind,T5 ha,this]
theorem B1B (r:Rel W0 N0 φ g w) {t:TypeId} {n:Nat} (hn:G2 P t=some n) {a:Addr} {x':Value} (hx:VRel φ (.pointer (some a)) x') {l:List Value} (hl:B8 g a n=some l):
  (A3s P t=some true->Did W0 N0 φ g w nx ⟨.agg l.toArray,[],nx⟩ ((do pure (.value (<-Instr.loadAt t x')):Sem Next).run P w))/\
  (A3s P t=some false->∀v,l=[v]->Did W0 N0 φ g w nx ⟨v,[],nx⟩ ((do pure (.value (<-Instr.loadAt t x')):Sem Next).run P w)):=by
 cases hx with
 |@ptr i o b d t' hφ=>
  obtain ⟨l',hv,hlen,_,hc⟩:=r.loads hl rfl hφ;have h2:=A29 (P:=P) hn hlen hc;constructor
  ·intro ha;refine H4 r (.agg hv) ?_;simp only [Instr.loadAt,Instr.sureAddr,Sem.run_bind,Sem.run_pure,Result.andThen_ok,h2.1 ha]
  ·rintro ha v rfl;cases hv with
   |cons hv h=>
    cases h;refine H4 r hv ?_;simp only [Instr.loadAt,Instr.sureAddr,Sem.run_bind,Sem.run_pure,Result.andThen_ok,h2.2 ha _ rfl]
theorem A8R {t:TypeId} {n:Nat} (hn:G2 P t=some n) {b o:Nat} {c:Array Value} {e:TypeId} (hb:w.heap[b]? =some (.cells c e (0,0))) {v:Value} (hv:v.cells.toList.length=n)
  (ho:ones v.cells.toList=true) (hle:o+n<=c.size):
  (storeVar t ⟨b,o,none⟩ v).run P w=.ok () (K1 w b (.cells (setList c.toList o v.cells.toList).toArray e (0,0))):=by
 have hs:v.cells.size=n:=by rw [<-hv,Array.length_toList]
 have h1:=N5 P b o e v.cells.toList 0 c w hb (by omega) ho;simp only [storeVar,Sem.run_bind,E8 hn,Result.andThen_ok,hs,ne_eq,not_true,if_false,h1,Nat.add_zero,Sem.run_ite,Sem.run_pure]
theorem ORel.stored {d t o:Nat} {vs xs xs':List Value} {e:TypeId} {c:Array Value} (hs:c.size=t) (hv:VRels φ vs ((c.toList.drop d).take vs.length)) (h1:ones vs=true) (hx:VRels φ xs xs') (h2:ones xs=true)
  (hle:o+xs.length<=vs.length):
  ORel φ d t (.cells (setList vs o xs) e false) (.cells (setList c.toList (d+o) xs').toArray e (0,0)):=by
 refine ⟨by simp [J5,hs],rfl,fun _=>rfl,A4n _ _ _ h1 h2,?_⟩;rw [J5];show VRels φ _ (((setList c.toList (d+o) xs').drop d).take vs.length);rw [S9 _ _ _ _ _ (by rw [hx.length];exact hle)];grind [VRels.setList]
theorem B6f (r:Rel W0 N0 φ g w) {t:TypeId} {n:Nat} (hn:G2 P t=some n) {a:Addr} {x' v v':Value} (hx:VRel φ (.pointer (some a)) x') (hv:VRel φ v v') (hvn:v.cells.toList.length=n) (ho:ones v.cells.toList=true)
  {δ:List (Nat×Option AObj)} (hδ:F8 g a v.cells.toList=some δ):Did W0 N0 φ g w nx ⟨undef,δ,nx⟩ ((do Instr.storeAt t x' v';pure .skip:Sem Next).run P w):=by
 obtain ⟨i,o,ver,vs,e,rfl,hg,hle,rfl⟩:=Q1 hδ;cases hx with
 |@ptr _ _ b d t' hφ=>
  obtain ⟨c,fr,hb,hs,hfr,h1,hvs,hsz⟩:=r.cells hg hφ;obtain rfl:=hfr rfl;have hc:=hv.cells;have hlen:=hc.length;have hn0:vs.length=0->n=0:=by omega
  have hle':d+o+n<=c.size\/n=0:=by
   grind
  have hw:=r.write (ver:=ver+1) hg hφ rfl (ORel.stored (e:=e) hs hvs h1 hc ho hle) nx;rcases Nat.eq_zero_or_pos n with h0|hpos
  ·-- nothing is written
   have he:v.cells.toList=[]:=List.eq_nil_of_length_eq_zero (by omega);have he':v'.cells.toList=[]:=List.eq_nil_of_length_eq_zero (by omega);have hcs:v'.cells.size=0:=by rw [<-Array.length_toList,he'];rfl
   refine ⟨φ,w,undef,.inr ⟨?_,rfl⟩,VRel.undef φ,?_,?_⟩
   ·subst h0;simp [Instr.storeAt,Instr.sureAddr,Sem.run_bind,Sem.run_pure,Result.andThen_ok,storeVar,E8 hn,hcs,he',storeCells]
   ·simp_all [setList,T3,Hp.upd]
   simp_all [setList,T3,Hp.upd]
  ·have hle2:d+o+n<=c.size:=by omega
   have hrun:=A8R (P:=P) hn (o:=d+o) hb (v:=v') (by omega) (hc.ones ho) hle2;refine ⟨φ,_,undef,.inr ⟨?_,rfl⟩,VRel.undef φ,hw.1,hw.2⟩;simp only [Instr.storeAt,Instr.sureAddr,Sem.run_bind,Sem.run_pure,Result.andThen_ok,hrun]
theorem A2a (r:Rel W0 N0 φ g w) (hφ:φ nx=none) {vs vs':List Value} {e:TypeId} {ro:Bool} (hv:VRels φ vs (vs'.take vs.length)) (ho:ones vs=true) {fr:Nat×Nat} (hfr:ro=false->fr=(0,0))
  {v v':Value} (hv2:VRel (φ.put nx w.heap.size 0 vs'.length) v v') {x:Result Next} {w1:World} (hw1:Drawn w w1) (hx:x=.ok (.value v') (w1.alloc (.cells vs'.toArray e fr))):
  Did W0 N0 φ g w nx ⟨v,[(nx,some ⟨0,.cells vs e ro⟩)],nx+1⟩ x:=by
 have hh:w1.heap.size=w.heap.size:=by rw [hw1.heap]
 have hle:φ.le (φ.put nx w.heap.size 0 vs'.length):=Loc.put_le hφ;have h:=(r.drawn hw1).new (i:=nx) hφ (body:=.cells vs e ro) (ob:=.cells vs'.toArray e fr) (ver:=0) (t:=vs'.length) ⟨by simp,rfl,hfr,ho,by simpa [hh] using hv.mono hle⟩;rw [hh] at h;exact ⟨_,_,v',.inl hx,hv2,h.1,Stp.drawn0 hw1 h.2⟩
end
theorem D8 (a b:Nat):Nat.beq a b=decide (a=b):=by
 by_cases h:a=b
 ·simp_all
 ·rw [decide_eq_false h];cases e:Nat.beq a b with
  |false=>rfl
  |true=>simp_all
theorem G6 (a b:Nat):Nat.blt a b=decide (a<b):=by
 by_cases h:a<b
 ·simp_all
 ·rw [decide_eq_false h];cases e:Nat.blt a b with
  |false=>rfl
  |true=>simp_all<;>grind
theorem D4 (a b:Nat):Nat.ble a b=decide (a<=b):=by
 by_cases h:a<=b
 ·simp_all
 ·rw [decide_eq_false h];cases e:Nat.ble a b with
  |false=>rfl
  |true=>simp_all<;>grind
theorem U3 (a b:Int):A0F a b=decide (a=b):=by
 cases a<;>cases b<;>simp only [A0F,D8]<;>simp<;>omega
theorem G7 (a b:Int):ltInt a b=decide (a<b):=by
 cases a<;>cases b<;>simp only [ltInt,G6]
 ·grind
 ·grind
 ·grind
 grind
theorem B1C (a b:Int):A3y a b=decide (a<=b):=by
 grind [A3y,G7]
theorem beqBytes_eq:∀x y:List UInt8,N4 x y=(x==y)
 |[],[]=>rfl
 |[],_::_=>rfl
 |_::_,[]=>rfl
 |a::x,b::y=>by
  rw [N4,D8]
  by_cases h:a=b
  ·simp_all [beqBytes_eq]
  ·rw [decide_eq_false (fun e=>h (UInt8.toNat_inj.1 e))];simp [h]
theorem A6X:∀x y:List UInt8,Z6 x y=Op.bytesLess x y
 |[],[]=>rfl
 |[],_::_=>rfl
 |_::_,[]=>rfl
 |a::x,b::y=>by
  rw [Z6,Op.bytesLess,G6,D8]
  by_cases h:a<b
  ·have h':a.toNat<b.toNat:=UInt8.lt_iff_toNat_lt.1 h;grind
  ·have h':¬a.toNat<b.toNat:=fun e=>h (UInt8.lt_iff_toNat_lt.2 e)
   rw [decide_eq_false h']
   by_cases e:a=b
   ·simp_all [A6X]
   ·rw [decide_eq_false (fun q=>e (UInt8.toNat_inj.1 q))];simp [h,e]
theorem B3R (j k:IntKind):A38 j k=decide (j=k):=by cases j<;>cases k<;>rfl
def flat:Value->Bool
 |.bool _|.int _ _|.string _=>true
 |_=>false
theorem VRel.flat {φ:Loc} {v:Value} (h:flat v=true):VRel φ v v:=by
 cases v<;>simp [Xe.flat] at h<;>constructor
section
variable {P:Program} {w:World}
theorem B1D {op:BinOp} {k:IntKind} {a b:Int} {v:Value} (h:B6b op k a b=some v):flat v=true/\
  (op=.shl\/op=.shr\/(match op with
  |.add|.sub|.mul=>Op.intArith op k a b
  |.quo|.rem=>Op.intDiv op k a b
  |.and|.or|.xor|.andNot=>Op.intBits op k a b
  |_=>Op.intCmp op a b).run P w=.ok v w):=by
 cases op<;>simp only [B6b] at h
 case add=>cases h;exact ⟨rfl,.inr (.inr rfl)⟩
 case sub=>cases h;exact ⟨rfl,.inr (.inr rfl)⟩
 case mul=>cases h;exact ⟨rfl,.inr (.inr rfl)⟩
 case quo=>
  rw [U3] at h
  by_cases hb:b=0
  ·simp [hb] at h
  ·simp only [decide_eq_false hb,Bool.false_eq_true,if_false] at h;cases h;exact ⟨rfl,.inr (.inr (by simp [Op.intDiv,hb]))⟩
 case rem=>
  rw [U3] at h
  by_cases hb:b=0
  ·simp [hb] at h
  ·simp only [decide_eq_false hb,Bool.false_eq_true,if_false] at h;cases h;exact ⟨rfl,.inr (.inr (by simp [Op.intDiv,hb]))⟩
 case and=>cases h;exact ⟨rfl,.inr (.inr rfl)⟩
 case or=>cases h;exact ⟨rfl,.inr (.inr rfl)⟩
 case xor=>cases h;exact ⟨rfl,.inr (.inr rfl)⟩
 case shl=>cases h
 case shr=>cases h
 case andNot=>cases h;exact ⟨rfl,.inr (.inr rfl)⟩
 case eql=>cases h;refine ⟨rfl,.inr (.inr ?_)⟩;simp only [Op.intCmp,U3,Sem.run_pure];congr 2
 case neq=>cases h;refine ⟨rfl,.inr (.inr ?_)⟩;simp only [Op.intCmp,U3,Sem.run_pure];congr 2
 case lss=>cases h;refine ⟨rfl,.inr (.inr ?_)⟩;simp only [Op.intCmp,G7,Sem.run_pure]
 case leq=>cases h;refine ⟨rfl,.inr (.inr ?_)⟩;simp only [Op.intCmp,B1C,Sem.run_pure]
 case gtr=>cases h;refine ⟨rfl,.inr (.inr ?_)⟩;simp only [Op.intCmp,G7,Sem.run_pure,gt_iff_lt]
 case geq=>cases h;refine ⟨rfl,.inr (.inr ?_)⟩;simp only [Op.intCmp,B1C,Sem.run_pure,ge_iff_le]
theorem B7F {op:BinOp} {a b:ByteArray} {v:Value} (h:B6c op a b=some v):flat v=true/\(Op.stringOp op a b).run P w=.ok v w:=by
 have hs:∀x:ByteArray,x.data.toList.length=x.size:=fun x=>by rw [Array.length_toList];rfl
 cases op<;>simp only [B6c] at h
 case add=>
  rw [D4] at h;split at h
  ·rename_i hle;cases h;have hle:=of_decide_eq_true hle;rw [hs,hs] at hle;refine ⟨rfl,?_⟩;have h1:¬(((a.size+b.size:Nat):Int)>IntKind.i64.max):=by
    simp_all<;>grind
   simp only [Op.stringOp,if_neg h1,Sem.run_pure];congr 2
  ·cases h
 all_goals first
  |(cases h;done)
  |(cases h;refine ⟨rfl,?_⟩;simp only [Op.stringOp,ByteArray.toList_eq,beqBytes_eq,A6X,Sem.run_pure])
end
section
variable {P:Program} {W0:World} {N0:Nat} {φ:Loc} {g:Hp} {w:World} {nx:Nat}
theorem A0U {j k:IntKind} (h:A38 j k=true):j=k:=by rw [B3R] at h;exact of_decide_eq_true h
theorem B7G {op:BinOp} {a b v a' b':Value} (h:A6S op a b=some v) (ha:VRel φ a a') (hb:VRel φ b b') (t:TypeId):
  flat v=true/\(binOp op t a' b').run P w=.ok v w/\∀x y,(eqGuard op t x y a' b').run P w=.ok () w:=by
 unfold A6S at h;split at h
 ·-- shl
  rename_i k x kk y;cases ha;cases hb;rw [G7] at h;split at h
  ·cases h
  ·rename_i hlt;cases h;have hlt:¬y<0:=by simpa using hlt
   refine ⟨rfl,?_,fun _ _=>rfl⟩;simp [binOp,Op.shift,hlt]
 ·rename_i k x kk y;cases ha;cases hb;rw [G7] at h;split at h
  ·cases h
  ·rename_i hlt;cases h;have hlt:¬y<0:=by simpa using hlt
   refine ⟨rfl,?_,fun _ _=>rfl⟩;simp [binOp,Op.shift,hlt]
 ·rename_i k x kk y hn1 hn2;cases ha;cases hb;split at h
  ·rename_i hk;have hk:=A0U hk;subst hk;obtain ⟨h1,h2⟩:=B1D (P:=P) (w:=w) h;rcases h2 with rfl|rfl|h2
   ·exact (hn1 rfl).elim
   ·exact (hn2 rfl).elim
   ·refine ⟨h1,?_,fun _ _=> ?_⟩
    ·cases op<;>simp [binOp]<;>first|exact h2|exact (hn1 rfl).elim|exact (hn2 rfl).elim
    ·cases op<;>rfl
  ·cases h
 ·rename_i x y;cases ha;cases hb;obtain ⟨h1,h2⟩:=B7F (P:=P) (w:=w) h;refine ⟨h1,?_,fun _ _=> ?_⟩
  ·cases op<;>simp [binOp]<;>exact h2
  ·cases op<;>rfl
 ·cases h
theorem C0r (r:Rel W0 N0 φ g w) {op:BinOp} {t:TypeId} {x y:Operand} {a a' b b' v:Value} (ha:VRel φ a a') (hb:VRel φ b b') (h:A6S op a b=some v):
  Did W0 N0 φ g w nx ⟨v,[],nx⟩ ((do pure (.value (<-(do eqGuard op t x y a' b';binOp op t a' b'))):Sem Next).run P w):=by
 obtain ⟨h1,h2,h3⟩:=B7G (P:=P) (w:=w) h ha hb t;refine H4 r (VRel.flat h1) ?_;simp_all
theorem C2z (r:Rel W0 N0 φ g w) {op:UnOp} {a a' v:Value} (ha:VRel φ a a') (h:xun op a=some v):
  Did W0 N0 φ g w nx ⟨v,[],nx⟩ ((do pure (.value (<-Op.unary op a')):Sem Next).run P w):=by
 unfold xun at h;split at h
 ·cases ha;cases h;exact H4 r (.int _ _) rfl
 ·cases ha;obtain ⟨h1,h2⟩:=B1D (P:=P) (w:=w) h;rcases h2 with h2|h2|h2
  ·cases h2
  ·cases h2
  ·refine H4 r (VRel.flat h1) ?_;simp only [Op.unary,Sem.run_bind];rw [h2];rfl
 ·cases ha;cases h;exact H4 r (.bool _) rfl
 ·cases h
theorem A2v {k o:Nat} (h:R0 g k o=true):∃ver vs e,g k=some ⟨ver,.cells vs e false⟩/\o<vs.length:=by
 grind [R0,G6]
theorem A3U {b o b' o':Nat} (hne:b≠b') {c c':Array Value} {e e':TypeId} (h:w.heap[b]? =some (.cells c e (0,0))) (h':w.heap[b']? =some (.cells c' e' (0,0))):
  (sameAddr ⟨b,o,none⟩ ⟨b',o',none⟩).run P w=.ok false w:=by
 have f1:=W5 h o;have f2:=W5 h' o';have s1:w.shape? b=some (e,c.size):=by simp [World.shape?,h]
 have s2:w.shape? b'=some (e',c'.size):=by simp [World.shape?,h']
 have v1:(noView ⟨b,o,none⟩).run P w=.ok () w:=by simp [noView,viewAt,s1]
 have v2:(noView ⟨b',o',none⟩).run P w=.ok () w:=by simp [noView,viewAt,s2]
 have m:(mayBeOne ⟨b,o,none⟩ ⟨b',o',none⟩).run P w=.ok false w:=by
  simp [mayBeOne,stringish,f1,f2,s1,s2,W5 h c.size,W5 h' c'.size]
 have hb:(b==b')=false:=by simpa using hne
 simp [sameAddr,hb,f1,f2,v1,v2,m]
theorem A4p {b o o':Nat}:(sameAddr ⟨b,o,none⟩ ⟨b,o',none⟩).run P w=.ok (decide (o=o')) w:=by
 have:((⟨b,o,none⟩:Addr)==⟨b,o',none⟩)=decide (o=o'):=by
  grind
 simp [sameAddr,this]
theorem A6Y (r:Rel W0 N0 φ g w) {t:TypeId} {k:EqK} (hk:eqT P t=some k) {a a' b b':Value} {v:Bool} (ha:VRel φ a a') (hb:VRel φ b b') (h:xeq g k a b=some v) (d:Nat):
  (Op.equalIn (d+1) t a' b').run P w=.ok v w:=by
 unfold eqT at hk;cases hu:P.underlying t with
 |none=>rw [hu] at hk;cases hk
 |some u=>
  rw [hu] at hk;cases u<;>simp only at hk<;>try (cases hk;done)
  case bool=>
   cases hk;unfold xeq at h;split at h<;>first|(cases h;done)|skip
   all_goals first|contradiction|skip
   cases ha;cases hb;simp only [Op.equalIn,Sem.run_bind,run_underlying hu,Result.andThen_ok,Sem.run_pure];cases h;rfl
  case int kk=>
   cases hk;unfold xeq at h;split at h<;>first|(cases h;done)|skip
   all_goals first|contradiction|skip
   cases ha;cases hb;split at h
   ·rename_i hkk;have:=A0U hkk;subst this;simp only [Op.equalIn,Sem.run_bind,run_underlying hu,Result.andThen_ok,if_true,Sem.run_pure];grind [U3]
   ·cases h
  case string=>
   cases hk;unfold xeq at h;split at h<;>first|(cases h;done)|skip
   all_goals first|contradiction|skip
   rename_i x y _;cases ha;cases hb;simp only [Op.equalIn,Sem.run_bind,run_underlying hu,Result.andThen_ok,Sem.run_pure];rw [beqBytes_eq] at h;cases h;rw [beq_toListBytes,ByteArray.toList_eq,ByteArray.toList_eq]
  case pointer e=>
   cases hs:G2 P e with
   |none=>rw [hs] at hk;cases hk
   |some n=>
    cases n with
    |zero=>rw [hs] at hk;cases hk
    |succ n=>
     rw [hs] at hk;cases hk;unfold xeq at h;split at h<;>first|(cases h;done)|skip
     all_goals first|contradiction|skip
     ·cases ha;cases h;cases hb<;>simp only [Op.equalIn,Sem.run_bind,run_underlying hu,Result.andThen_ok,Sem.run_pure]<;>rfl
     ·cases hb;cases h;cases ha with
      |ptrN=>grind
      |ptr hφ=>simp only [Op.equalIn,Sem.run_bind,run_underlying hu,Result.andThen_ok,Sem.run_pure]
     ·rename_i i o j o' _;cases ha with
      |@ptr _ _ b1 d1 t1 hφ=>
       cases hb with
       |@ptr _ _ b2 d2 t2 hψ=>
        split at h
        ·rename_i hp;rw [Bool.and_eq_true] at hp;obtain ⟨ver1,vs1,e1,hg1,hl1⟩:=A2v hp.1;obtain ⟨ver2,vs2,e2,hg2,hl2⟩:=A2v hp.2;obtain ⟨c1,fr1,hb1,_,hf1,_⟩:=r.cells hg1 hφ;obtain ⟨c2,fr2,hb2,_,hf2,_⟩:=r.cells hg2 hψ;obtain rfl:=hf1 rfl;obtain rfl:=hf2 rfl;have hn:(n+1≠0):=by omega
         simp only [Op.equalIn,Sem.run_bind,run_underlying hu,Result.andThen_ok,E8 hs,ne_eq,hn,not_false_eq_true,if_true];rw [D8,D8] at h;cases h
         by_cases hij:i=j
         ·grind [A4p]
         ·have hbne:b1≠b2:=fun hbb=>by
           subst hbb;obtain ⟨b3,d3,t3,ob3,q1,_,_,q4⟩:=r.obj i _ hg1;rw [hφ] at q1;cases q1;rcases r.inj i j b1 d1 d2 t1 t2 (by rw [hg1];simp) (by rw [hg2];simp) hφ hψ with h|h
           ·grind [ABody.isRo]
           ·exact hij h
          grind [A3U]
        ·cases h
end
section
variable {P:Program} {W0:World} {N0:Nat} {φ:Loc} {g:Hp} {w:World} {nx:Nat}
theorem A6Z {t:TypeId} {k:EqK} (h:eqT P t=some k):A3s P t=some false:=by
 grind [eqT,A3s]
theorem A70 (r:Rel W0 N0 φ g w) (d:Nat) {xs xs' ys ys':Array Value} (hx:VRels φ xs.toList xs'.toList) (hy:VRels φ ys.toList ys'.toList):∀(fs:List Field) (l:List (Nat×EqK)) (v:Bool),
  A27 (eqT P) 0 fs=some l->A6v g l xs.toList ys.toList=some v->(Op.eqFields (d+1) xs' ys' fs).run P w=.ok v w
 |[],l,v,hl,h=>by
  cases hl;simp only [A6v] at h;cases h;rfl
 |f::fs,l,v,hl,h=>by
  simp only [A27] at hl;cases hn : f.name == "_" with
  |true=>
   rw [hn] at hl;have hnn : f.name = "_" := by simpa using hn
   cases hr:A27 (eqT P) 0 fs with
   |none=>rw [hr] at hl;cases hl
   |some l'=>
    rw [hr] at hl;cases hl;simp only [Op.eqFields,hnn,ne_eq,not_true,if_false];exact A70 r d hx hy fs _ v hr h
  |false=>
   rw [hn] at hl;have hnn : f.name ≠ "_" := by simpa using hn
   cases hr:A27 (eqT P) 0 fs with
   |none=>rw [hr] at hl;cases hl
   |some l'=>
    rw [hr] at hl;cases hk:eqT P f.type with
    |none=>rw [hk] at hl;cases hl
    |some k=>
     rw [hk] at hl;simp only [Nat.zero_add,Option.some.injEq] at hl;subst hl;simp only [A6v] at h;split at h
     ·rename_i x y ex ey;obtain ⟨x',ex',rx⟩:=hx.get ex;obtain ⟨y',ey',ry⟩:=hy.get ey;rw [Array.getElem?_toList] at ex' ey';have px:(part f.type xs' f.offset).run P w=.ok x' w:=by
       simp [part,T5 (A6Z hk),ex']
      have py:(part f.type ys' f.offset).run P w=.ok y' w:=by
       simp [part,T5 (A6Z hk),ey']
      cases he:xeq g k x y with
      |none=>rw [he] at h;cases h
      |some b=>
       rw [he] at h;have hrun:=A6Y r hk rx ry he d;simp only [Op.eqFields,ne_eq,hnn,not_false_eq_true,if_true,Sem.run_bind,px,py,hrun,Result.andThen_ok];cases b
       ·simp_all
       ·simp only at h
        simpa using A70 r d hx hy fs _ v hr h
     ·cases h
theorem N9 {t:TypeId} {a b:Value} {v:Bool} (h:∀d,(Op.equalIn (d+1) t a b).run P w=.ok v w):(Op.equal t a b).run P w=.ok v w:=h 9999
theorem M9 (r:Rel W0 N0 φ g w) {op:BinOp} {neg:Bool} (hop:op=.eql/\neg=false\/op=.neq/\neg=true) {t:TypeId} {x y:Operand} {a' b':Value} {v:Bool}
  (h1:(Op.equal t a' b').run P w=.ok v w) (h2:∀o:BinOp,(eqGuard o t x y a' b').run P w=.ok () w) (h3:binOp .eql t a' b'=(do pure (.bool (<-Op.equal t a' b')))) (h4:binOp .neq t a' b'=(do pure (.bool (!(<-Op.equal t a' b'))))):
  Did W0 N0 φ g w nx ⟨.bool (xor v neg),[],nx⟩ ((do pure (.value (<-(do eqGuard op t x y a' b';binOp op t a' b'))):Sem Next).run P w):=by
 refine H4 r (.bool _) ?_;rcases hop with ⟨rfl,rfl⟩|⟨rfl,rfl⟩
 ·simp_all
 simp_all
theorem B1E {x y:Operand} (hc:(isConst x||isConst y)=true) (o:BinOp) (t:TypeId):(eqGuard o t x y .nilIface .nilIface).run P w=.ok () w:=by
 cases o<;>first
  |rfl
  |(cases x<;>cases y<;>first|(simp [isConst] at hc;done)|rfl)
theorem B6g {t:TypeId} {u:TypeDesc} (hu:P.underlying t=some u) (x y:Operand) (h:(match u with|.interface _|.slice _|.map _ _|.func _ _ _|.struct _=>true|_=>false)=false):A6w P t x y=eqT P t:=by
 grind [A6w]
theorem B1F (r:Rel W0 N0 φ g w) {op:BinOp} {neg:Bool} (hop:op=.eql/\neg=false\/op=.neq/\neg=true) {t:TypeId} {x y:Operand} {k:EqK} (hk:eqT P t=some k) {a a' b b':Value} {v:Bool}
  (ha:VRel φ a a') (hb:VRel φ b b') (h:xeq g k a b=some v):
  Did W0 N0 φ g w nx ⟨.bool (xor v neg),[],nx⟩ ((do pure (.value (<-(do eqGuard op t x y a' b';binOp op t a' b'))):Sem Next).run P w):=by
 have hl:(Op.equal t a' b').run P w=.ok v w:=N9 fun d=>A6Y r hk ha hb h d
 have hk0:=hk;unfold eqT at hk;cases hu:P.underlying t with
 |none=>rw [hu] at hk;cases hk
 |some u=>
  rw [hu] at hk;cases u<;>simp only at hk<;>try (cases hk;done)
  case bool=>
   cases hk;unfold xeq at h;split at h<;>first|(cases h;done)|skip
   all_goals first|contradiction|skip
   cases ha;cases hb;exact M9 r hop hl (fun o=>by cases o<;>rfl) rfl rfl
  case int kk=>
   cases hk;unfold xeq at h;split at h<;>first|(cases h;done)|skip
   all_goals first|contradiction|skip
   cases ha;cases hb;split at h
   ·rename_i hkk;have:=A0U hkk;subst this;refine H4 r (.bool _) ?_;rw [U3] at h;cases h;rcases hop with ⟨rfl,rfl⟩|⟨rfl,rfl⟩
    ·simp [Sem.run_bind,eqGuard,binOp,Op.intCmp];congr 1
    ·simp [Sem.run_bind,eqGuard,binOp,Op.intCmp];congr 1
   ·cases h
  case string=>
   cases hk;unfold xeq at h;split at h<;>first|(cases h;done)|skip
   all_goals first|contradiction|skip
   cases ha;cases hb;cases h;refine H4 r (.bool _) ?_;rcases hop with ⟨rfl,rfl⟩|⟨rfl,rfl⟩
   ·simp [Sem.run_bind,eqGuard,binOp,Op.stringOp,ByteArray.toList_eq,beqBytes_eq]
   ·simp [Sem.run_bind,eqGuard,binOp,Op.stringOp,ByteArray.toList_eq,beqBytes_eq]
  case pointer e=>
   have hcase:(∃p,a'=.pointer p)/\∃q,b'=.pointer q:=by
    cases hs:G2 P e with
    |none=>rw [hs] at hk;cases hk
    |some n=>
     cases n with
     |zero=>rw [hs] at hk;cases hk
     |succ n=>
      rw [hs] at hk;cases hk;unfold xeq at h;split at h<;>first|(cases h;done)|skip
      all_goals first|contradiction|skip
      all_goals (cases ha<;>cases hb<;>exact ⟨⟨_,rfl⟩,⟨_,rfl⟩⟩)
   obtain ⟨⟨p,rfl⟩,⟨q,rfl⟩⟩:=hcase;exact M9 r hop hl (fun o=>by cases o<;>rfl) rfl rfl
theorem C2A (r:Rel W0 N0 φ g w) {op:BinOp} {neg:Bool} (hop:op=.eql/\neg=false\/op=.neq/\neg=true) {t:TypeId} {x y:Operand} {k:EqK} (hk:A6w P t x y=some k) {a a' b b':Value} {v:Bool}
  (ha:VRel φ a a') (hb:VRel φ b b') (h:xeq g k a b=some v):
  Did W0 N0 φ g w nx ⟨.bool (xor v neg),[],nx⟩ ((do pure (.value (<-(do eqGuard op t x y a' b';binOp op t a' b'))):Sem Next).run P w):=by
 cases hu:P.underlying t with
 |none=>
  grind [A6w,eqT]
 |some u=>
  cases u
  case interface ms=>
   unfold A6w at hk;rw [hu] at hk;simp only at hk;split at hk
   ·rename_i hc;cases hk;unfold xeq at h;split at h<;>first|(cases h;done)|skip
    all_goals first|contradiction|skip
    all_goals (cases ha;cases hb;cases h)
    ·refine M9 r hop (N9 fun d=>by simp only [Op.equalIn,Sem.run_bind,run_underlying hu,Result.andThen_ok,Sem.run_pure]) (fun o=>B1E hc o t) rfl rfl
    ·exact M9 r hop (N9 fun d=>by simp only [Op.equalIn,Sem.run_bind,run_underlying hu,Result.andThen_ok,Sem.run_pure]) (fun o=>by cases o<;>rfl) rfl rfl
    ·exact M9 r hop (N9 fun d=>by simp only [Op.equalIn,Sem.run_bind,run_underlying hu,Result.andThen_ok,Sem.run_pure]) (fun o=>by cases o<;>rfl) rfl rfl
   ·cases hk
  case slice e=>
   unfold A6w at hk;rw [hu] at hk;cases hk;unfold xeq at h;split at h<;>first|(cases h;done)|skip
   all_goals first|contradiction|skip
   all_goals (cases h)
   ·cases ha;cases hb<;>exact M9 r hop (N9 fun d=>by simp only [Op.equalIn,Sem.run_bind,run_underlying hu,Result.andThen_ok,Sem.run_pure]<;>rfl) (fun o=>by cases o<;>rfl) rfl rfl
   ·rename_i hne _;cases hb;cases ha with
    |sliceN=>grind
    |slice n c _ _ _=>exact M9 r hop (N9 fun d=>by simp only [Op.equalIn,Sem.run_bind,run_underlying hu,Result.andThen_ok,Sem.run_pure]) (fun o=>by cases o<;>rfl) rfl rfl
    |sliceU n c _ _ _ _ _ _=>exact M9 r hop (N9 fun d=>by simp only [Op.equalIn,Sem.run_bind,run_underlying hu,Result.andThen_ok,Sem.run_pure]) (fun o=>by cases o<;>rfl) rfl rfl
    |slice0 _ _ _=>exact M9 r hop (N9 fun d=>by simp only [Op.equalIn,Sem.run_bind,run_underlying hu,Result.andThen_ok,Sem.run_pure]) (fun o=>by cases o<;>rfl) rfl rfl
  case map kt et=>
   unfold A6w at hk;rw [hu] at hk;cases hk;unfold xeq at h;split at h<;>first|(cases h;done)|skip
   all_goals first|contradiction|skip
   all_goals (cases h)
   ·cases ha;cases hb<;>exact M9 r hop (N9 fun d=>by simp only [Op.equalIn,Sem.run_bind,run_underlying hu,Result.andThen_ok,Sem.run_pure]<;>rfl) (fun o=>by cases o<;>rfl) rfl rfl
   ·rename_i hne _;cases hb;cases ha with
    |mapN=>exact (hne rfl).elim
    |map _=>exact M9 r hop (N9 fun d=>by simp only [Op.equalIn,Sem.run_bind,run_underlying hu,Result.andThen_ok,Sem.run_pure]) (fun o=>by cases o<;>rfl) rfl rfl
  case func p q s=>
   unfold A6w at hk;rw [hu] at hk;cases hk;unfold xeq at h;split at h<;>first|(cases h;done)|skip
   all_goals first|contradiction|skip
   all_goals (cases h;cases ha;cases hb)
   all_goals exact M9 r hop (N9 fun d=>by simp only [Op.equalIn,Sem.run_bind,run_underlying hu,Result.andThen_ok,Sem.run_pure]) (fun o=>by cases o<;>rfl) rfl rfl
  case struct fs=>
   unfold A6w at hk;rw [hu] at hk;simp only at hk;split at hk
   ·cases hk
   ·rename_i hc;cases hl:A27 (eqT P) 0 fs.toList with
    |none=>rw [hl] at hk;cases hk
    |some l=>
     rw [hl] at hk;cases hk;have hc1:P.stoodInHeld t=false:=by cases h0:P.stoodInHeld t<;>simp_all
     have hc2:P.eqGuardType P.depth t=false:=by cases h0:P.eqGuardType P.depth t<;>simp_all
     unfold xeq at h;split at h<;>first|(cases h;done)|skip
     all_goals first|contradiction|skip
     rename_i ps xs ys he;cases he;cases ha with
     |@agg _ xs' hxs=>
      cases hb with
      |@agg _ ys' hys=>
       have hf:P.fieldsOf t=fs:=by simp [Program.fieldsOf,hu]
       have hrun:(Op.equal t (.agg xs') (.agg ys')).run P w=.ok v w:=by
        refine (run_equalIn_agg w 9999 t xs' ys' (by rw [hf];exact hu) hc1).trans ?_;grind [A70]
       exact M9 r hop hrun (fun o=>run_eqGuard_agg w o t x y xs' ys' hc2) rfl rfl
  all_goals exact B1F r hop (by rw [<-B6g hu x y rfl];exact hk) ha hb h
end
theorem X6 (z:List Value):∀n,(rep z n).length=n*z.length
 |0=>by simp [rep]
 |n+1=>by rw [rep,List.length_append,X6 z n,Nat.add_mul];omega
theorem B58 (z:List Value):∀(n i:Nat),i<n*z.length->(rep z n)[i]? =z[i%z.length]?
 |0,i,h=>by omega
 |n+1,i,h=>by
  rw [rep]
  by_cases hi:i<z.length
  ·rw [List.getElem?_append_left hi,Nat.mod_eq_of_lt hi]
  ·rw [List.getElem?_append_right (by omega),B58 z n (i - z.length) (by rw [Nat.add_mul] at h;omega)];have:z.length<=i:=by omega
   rw [Nat.mod_eq_sub_mod this]
theorem A5k (z:Array Value) (n:Nat):(Array.range (n*z.size)).map (z[· %z.size]!)=(rep z.toList n).toArray:=by
 apply Array.ext';apply List.ext_getElem?;intro i;have hl:z.toList.length=z.size:=Array.length_toList
 by_cases hi:i<n*z.size
 ·have hz:0<z.size:=by
   rcases Nat.eq_zero_or_pos z.size with h|h
   · rw [h] at hi;omega
   · exact h
  have hm:i%z.size<z.size:=Nat.mod_lt _ hz;rw [B58 z.toList n i (by rw [hl];exact hi),hl];simp [hi,hm]
 ·have h1:(rep z.toList n).length<=i:=by rw [X6,hl];omega
  grind
theorem A4q (z:List Value) (n:Nat) (h:n*z.length=0):rep z n=[]:=List.eq_nil_of_length_eq_zero (by rw [X6];exact h)
theorem A1F (z:Array Value) (n:Nat):Builtin.zeroCells z n=(rep z.toList n).toArray:=A5k z n
section
variable {P:Program} {W0:World} {N0:Nat} {φ:Loc} {g:Hp} {w:World} {nx:Nat}
theorem VRels.refl_plain {z:Value} (h:plainV z=true):VRels φ z.cells.toList z.cells.toList:=(VRel.plain φ z h).cells
theorem VRels.rep {z z':List Value} (h:VRels φ z z'):∀n,VRels φ (Xe.rep z n) (Xe.rep z' n)
 |0=>.nil
 |n+1=>h.append (VRels.rep h n)
theorem B59 (φ:Loc) (i b t:Nat):VRel (φ.put i b 0 t) (.pointer (some ⟨i,0,none⟩)) (.pointer (some ⟨b,0,none⟩)):=by
 have:=VRel.ptr (φ:=φ.put i b 0 t) (o:=0) (Loc.put_same φ i b 0 t)
 simpa using this
theorem C0s (r:Rel W0 N0 φ g w) (hφ:φ nx=none) {e:TypeId} {a a':Value} (ha:VRel φ a a') (ho:ones a.cells.toList=true):
  Did W0 N0 φ g w nx ⟨.pointer (some ⟨nx,0,none⟩),[(nx,some ⟨0,.cells a.cells.toList e false⟩)],nx+1⟩ ((do pure (.value (<-Instr.box e a')):Sem Next).run P w):=by
 have hc:=ha.cells;refine A2a (vs':=a'.cells.toList) (fr:=(0,0)) r hφ (by rw [<-hc.length,List.take_length];exact hc) ho (fun _=>rfl) (B59 _ _ _ _) (Drawn.refl w) ?_;constructor<;>grind
theorem B6h (r:Rel W0 N0 φ g w) (hφ:φ nx=none) {e:TypeId} {z:Value} (hz:V6 P e=some z) (ho:ones z.cells.toList=true):
  Did W0 N0 φ g w nx ⟨.pointer (some ⟨nx,0,none⟩),[(nx,some ⟨0,.cells z.cells.toList e false⟩)],nx+1⟩ ((do pure (.value (<-Instr.alloc e true (.tuple #[]))):Sem Next).run P w):=by
 have hc:=VRels.refl_plain (φ:=φ) (T4 hz);refine A2a (vs':=z.cells.toList) (fr:=(0,0)) r hφ (by rw [List.take_length];exact hc) ho (fun _=>rfl) (B59 _ _ _ _) (Drawn.refl w) ?_;simp only [Instr.alloc,Sem.run_bind,M8 hz,newVar,newRow,run_newObj_alloc,Result.andThen_ok,Sem.run_pure,Array.toArray_toList]
theorem A9b (off:Nat):∀(xs:List Value) (j:Nat) (cs:Array Value),((xs.zipIdx j).foldl (fun cs (p:Value×Nat)=>cs.setIfInBounds (off+p.2) p.1) cs).toList=setList cs.toList (off+j) xs
 |[],_,_=>rfl
 |x::xs,j,cs=>by
  simp_all [A9b,setList]<;>grind
theorem B3S (off:Nat) (v:Array Value) (cs:Array Value):(v.zipIdx.foldl (fun cs (c,j)=>cs.setIfInBounds (off+j) c) cs).toList=setList cs.toList off v.toList:=by
 have:=A9b off v.toList 0 cs;rw [Nat.add_zero] at this;rw [<-this,<-Array.foldl_toList,Array.toList_zipIdx]
theorem A4r {pl:Nat->Option (Nat×Nat)} {ρ ρ':Operand->Value}:∀(ps:List (Nat×Operand)) (l:List (Nat×Nat×Operand)) (cs:List Value) (cs':Array Value) (out:List Value),
  W6 pl ps=some l->(∀p∈ps,VRel φ (ρ p.2) (ρ' p.2))->VRels φ cs cs'.toList->A1M cs (l.map fun (o,n,x)=>(o,n,ρ x))=some out->
  ∃out',Instr.fill pl cs' (ps.map fun (i,x)=>(i,ρ' x))=some out'/\VRels φ out out'.toList
 |[],l,cs,cs',out,hm,hr,hc,h=>by
  cases hm;simp only [List.map_nil,A1M] at h
  (repeat constructor)<;>grind
 |(i,x)::ps,l,cs,cs',out,hm,hr,hc,h=>by
  simp only [W6] at hm;cases hp:pl i with
  |none=>rw [hp] at hm;cases hm
  |some p=>
   obtain ⟨o,s⟩:=p;rw [hp] at hm;cases hm2:W6 pl ps with
   |none=>grind
   |some l2=>
    rw [hm2] at hm;cases hm;simp only [List.map_cons,A1M] at h;split at h
    ·rename_i hb;rw [Bool.and_eq_true,D8,D4,decide_eq_true_eq,decide_eq_true_eq] at hb;have hx:=hr (i,x) (by simp);have hxc:=hx.cells;have hxl:=hxc.length;simp only [Array.length_toList] at hxl hb;have hcl:=hc.length;simp only [Array.length_toList] at hcl;have hset:VRels φ (setList cs o (ρ x).cells.toList) (((ρ' x).cells.zipIdx.foldl (fun cs (c,j)=>cs.setIfInBounds (o+j) c) cs')).toList:=by
      rw [B3S];exact VRels.setList hxc hc o
     obtain ⟨out',h1,h2⟩:=A4r ps l2 _ _ out hm2 (fun p hp=>hr p (by simp [hp])) hset h;refine ⟨out',?_,h2⟩;have hcond:((decide ((ρ' x).cells.size≠s))||decide (o+(ρ' x).cells.size>cs'.size))=false:=by
      simp;omega
     simp only [List.map_cons,Instr.fill,hp];grind
    ·cases h
theorem run_places {fs:Array Field} (h:fs.toList.all (fun f=>(P.info? f.type).isSome)=true):∃pl:Array (Nat×Nat),(fs.mapM (fun f=>(do pure (f.offset,<-sizeOf f.type):Sem (Nat×Nat)))).run P w=.ok pl w/\∀i,pl[i]? =placeOf P fs i:=by
 have key:∀l:List Field,l.all (fun f=>(P.info? f.type).isSome)=true->∃pl:List (Nat×Nat),(l.mapM (fun f=>(do pure (f.offset,<-sizeOf f.type):Sem (Nat×Nat)))).run P w=.ok pl w/\∀i,pl[i]? =placeOf P l.toArray i:=by
  intro l
  induction l with
  |nil=>simp_all [placeOf]
  |cons f l ih=>
   intro h;simp only [List.all_cons,Bool.and_eq_true] at h;obtain ⟨pl,h1,h2⟩:=ih h.2;obtain ⟨inf,hi⟩:=Option.isSome_iff_exists.1 h.1;have hs:G2 P f.type=some inf.size:=by simp [G2,hi]
   refine ⟨(f.offset,inf.size)::pl,?_,?_⟩
   ·simp_all [E8]
   grind [placeOf]
 obtain ⟨pl,h1,h2⟩:=key fs.toList h;refine ⟨pl.toArray,?_,fun i=>by simpa using h2 i⟩;rw [<-Array.toArray_toList (xs:=fs),List.mapM_toArray];simp_all
theorem B6i (r:Rel W0 N0 φ g w) {t:TypeId} {ps:Array (Nat×Operand)} {x:XOp} {ρ ρ':Operand->Value} {zl:List Value} {l:List (Nat×Nat×Operand)} (hx:F4 P (.build t ps)=some x) (he:x=.build zl l)
  (hr:∀p∈ps,VRel φ (ρ p.2) (ρ' p.2)) {out:List Value} (h:A1M zl (l.map fun (o,n,x)=>(o,n,ρ x))=some out):
  Did W0 N0 φ g w nx ⟨.agg out.toArray,[],nx⟩ ((do pure (.value (<-Instr.build t (ps.map fun (i,x)=>(i,ρ' x)))):Sem Next).run P w):=by
 subst he;simp only [F4] at hx;cases hz:V6 P t with
 |none=>rw [hz] at hx;cases hx
 |some z=>
  rw [hz] at hx;cases hu:P.underlying t with
  |none=>rw [hu] at hx;cases hx
  |some u=>
   rw [hu] at hx;have hc:=VRels.refl_plain (φ:=φ) (T4 hz);have hr':∀p∈ps.toList,VRel φ (ρ p.2) (ρ' p.2):=fun p hp=>hr p (Array.mem_toList_iff.1 hp)
   cases u<;>simp only at hx<;>try (cases hx;done)
   case struct fs=>
    split at hx
    ·rename_i hall;cases hm:W6 (placeOf P fs) ps.toList with
     |none=>rw [hm] at hx;cases hx
     |some l'=>
      rw [hm] at hx;cases hx;obtain ⟨out',h1,h2⟩:=A4r (φ:=φ) ps.toList l _ z.cells out hm hr' hc h;obtain ⟨pl,p1,p2⟩:=run_places (P:=P) (w:=w) hall;refine H4 r (.agg h2) ?_;have hpl:(fun i=>pl[i]?)=placeOf P fs:=funext p2;simp only [Instr.build,Sem.run_bind,M8 hz,Result.andThen_ok,run_underlying hu,p1];simp_all
    ·cases hx
   case array n e=>
    cases hs:G2 P e with
    |none=>rw [hs] at hx;cases hx
    |some s=>
     rw [hs] at hx;simp only at hx;cases hm:W6 (fun i=>some (i*s,s)) ps.toList with
     |none=>rw [hm] at hx;cases hx
     |some l'=>
      rw [hm] at hx;cases hx;obtain ⟨out',h1,h2⟩:=A4r (φ:=φ) ps.toList l _ z.cells out hm hr' hc h;refine H4 r (.agg h2) ?_;simp only [Instr.build,Sem.run_bind,M8 hz,Result.andThen_ok,run_underlying hu,E8 hs];simp_all
theorem A9c (φ:Loc) (i b t n c:Nat) (hn:n<=c) (hc:c<D3):VRel (φ.put i b 0 t) (.slice (some ⟨i,0,none⟩) n c) (.slice (some ⟨b,0,none⟩) n c):=by
 have:=VRel.slice (φ:=φ.put i b 0 t) (o:=0) n c (Loc.put_same φ i b 0 t) hn hc
 simpa using this
theorem A71 (r:Rel W0 N0 φ g w) (hφ:φ nx=none) {t:TypeId} {n:Nat} {ps:Array (Nat×Operand)} {x:XOp} {ρ ρ':Operand->Value} {e:TypeId} {s len:Nat} {zl:List Value} {l:List (Nat×Nat×Operand)} (hx:F4 P (.buildSlice t n ps)=some x) (he:x=.buildSlice e s zl len l)
  (hr:∀p∈ps,VRel φ (ρ p.2) (ρ' p.2)) {out:List Value} (h:A1M (rep zl len) (l.map fun (o,n,x)=>(o,n,ρ x))=some out) (ho:ones out=true):
  Did W0 N0 φ g w nx ⟨.slice (some ⟨nx,0,none⟩) len len,[(nx,some ⟨0,.cells out e false⟩)],nx+1⟩ ((do pure (.value (<-Instr.buildSlice t n (ps.map fun (i,x)=>(i,ρ' x)))):Sem Next).run P w):=by
 subst he;simp only [F4] at hx;cases hu:P.underlying t with
 |none=>rw [hu] at hx;cases hx
 |some u=>
  rw [hu] at hx;cases u<;>simp only at hx<;>try (cases hx;done)
  case slice e'=>
   cases hz:V6 P e' with
   |none=>rw [hz] at hx;cases hx
   |some z=>
    rw [hz] at hx;cases hs:G2 P e' with
    |none=>rw [hs] at hx;cases hx
    |some s'=>
     rw [hs] at hx;simp only at hx;split at hx
     ·rename_i hcond;obtain ⟨hzs,hle,hle2⟩:=hcond;have hcap:n<D3:=by unfold D3;omega
      cases hm:W6 (fun i=>some (i*s',s')) ps.toList with
      |none=>rw [hm] at hx;cases hx
      |some l'=>
       rw [hm] at hx;cases hx;have hr':∀p∈ps.toList,VRel φ (ρ p.2) (ρ' p.2):=fun p hp=>hr p (Array.mem_toList_iff.1 hp)
       have hc:=VRels.refl_plain (φ:=φ) (T4 hz);have hzsz:z.cells.size=s:=by rw [<-hzs,Array.length_toList]
       obtain ⟨out',h1,h2⟩:=A4r (φ:=φ) ps.toList l _ (rep z.cells.toList n).toArray out hm hr' (hc.rep n) h;refine A2a (vs':=out'.toList) (fr:=(0,0)) r hφ (by rw [<-h2.length,List.take_length];exact h2) ho (fun _=>rfl) (A9c _ _ _ _ _ _ (Nat.le_refl _) hcap) (Drawn.refl w) ?_;have hnot:¬n*s>2^24:=by omega
       simp only [Instr.buildSlice,Sem.run_bind,run_underlying hu,Result.andThen_ok,E8 hs,if_neg hnot]
       by_cases h0:n*s=0
       ·have hrep:(rep z.cells.toList n).toArray=#[]:=by rw [A4q _ _ (by rw [hzs];exact h0)]
        rw [hrep] at h1;simp only [h0,if_true,Sem.run_bind,Sem.run_pure,Result.andThen_ok,Array.range_zero',Array.map_empty];simp only [Array.toList_map,h1,newRow,Sem.run_bind,run_newObj_alloc,Result.andThen_ok,Sem.run_pure,Array.toArray_toList]
       ·have hrep:(Array.range (n*s)).map (z.cells[· %z.cells.size]!)=(rep z.cells.toList n).toArray:=by
         rw [<-hzsz];exact A5k z.cells n
        simp only [if_neg h0,Sem.run_bind,M8 hz,Sem.run_pure,Result.andThen_ok,hrep];simp only [Array.toList_map,h1,newRow,Sem.run_bind,run_newObj_alloc,Result.andThen_ok,Sem.run_pure,Array.toArray_toList]
     ·cases hx
end
section
variable {P:Program} {W0:World} {N0:Nat} {φ:Loc} {g:Hp} {w:World} {nx:Nat}
theorem B1G (r:Rel W0 N0 φ g w) (hφ:φ nx=none) {t e:TypeId} {z:Value} {s b:Nat} (hu:P.underlying t=some (.slice e)) (hz:V6 P e=some z) (hs:G2 P e=some s) (hb:X5 P e=some b)
  (hzs:z.cells.toList.length=s) {l c:Nat} (hlc:l<=c) (hbc:b*c<=281474976710656) (hc:c<=9223372036854775807) (ho:ones z.cells.toList=true):
  Did W0 N0 φ g w nx ⟨.slice (some ⟨nx,0,none⟩) l c,[(nx,some ⟨0,.cells (rep z.cells.toList c) e false⟩)],nx+1⟩ ((do pure (.value (<-Instr.makeSlice t (.int .i64 (.ofNat l)) (.int .i64 (.ofNat c)))):Sem Next).run P w):=by
 have hcp:=VRels.refl_plain (φ:=φ) (T4 hz);have hzsz:z.cells.size=s:=by rw [<-hzs,Array.length_toList]
 refine A2a (vs':=rep z.cells.toList c) (fr:=(0,0)) r hφ (by rw [List.take_length];exact hcp.rep c) (A6V ho c) (fun _=>rfl) (A9c _ _ _ _ _ _ hlc (by unfold D3;omega)) (Drawn.refl w) ?_;obtain ⟨inf,hinf,hib⟩:=A28 hb w;have hwl:IntKind.i64.wrap (Int.ofNat l)=l:=by rw [IntKind.wrap_i64];show ((l:Int)+_)%_ - _=(l:Int);omega
 have hwc:IntKind.i64.wrap (Int.ofNat c)=c:=by rw [IntKind.wrap_i64];show ((c:Int)+_)%_ - _=(c:Int);omega
 have hbc':¬((b:Int)*(c:Int)>281474976710656):=by
  grind
 have hcond:((decide ((c:Int)<0)||decide ((inf.bytes:Int)*(c:Int)>2^48))||decide ((l:Int)<0)||decide ((l:Int)>(c:Int)))=false:=by
  grind
 simp only [Instr.makeSlice,Sem.run_bind,run_underlying hu,Result.andThen_ok,asInt,asIntOf,Sem.run_pure,hinf,hwl,hwc];rw [if_neg]
 ·simp only [Sem.run_bind,run_askRoom,Result.andThen_ok,E8 hs,Int.toNat_natCast]
  by_cases h0:c*s=0
  ·simp only [h0,if_true,Sem.run_bind,Sem.run_pure,Result.andThen_ok,Array.range_zero',Array.map_empty,newRow,run_newObj_alloc];grind [A4q]
  ·have hrep:(Array.range (c*s)).map (z.cells[· %z.cells.size]!)=(rep z.cells.toList c).toArray:=by
    grind [A5k]
   simp only [if_neg h0,Sem.run_bind,M8 hz,Sem.run_pure,Result.andThen_ok,hrep,newRow,run_newObj_alloc]
 grind
inductive ORelV (φ:Loc):Option Value->Option Value->Prop
 |none:ORelV φ none none
 |some {v v':Value}:VRel φ v v'->ORelV φ (some v) (some v')
theorem ORelV.map {ρ ρ':Operand->Value} {x:Option Operand} (h:∀y∈x,VRel φ (ρ y) (ρ' y)):ORelV φ (x.map ρ) (x.map ρ'):=by
 cases x with
 |none=>exact .none
 |some y=>exact .some (h y rfl)
theorem U4 {v v':Value} {y i:Nat} (hv:VRel φ v v') (h:bound v y=some i):i<=y/\∀y' code,y<=y'->(Instr.sliceBound v' y' code).run P w=.ok i w:=by
 unfold bound at h;split at h
 ·rename_i k j;cases hv;rw [D4] at h;split at h
  ·rename_i hle;have hle:=of_decide_eq_true hle;cases h;refine ⟨hle,fun y' code hy=> ?_⟩;have:=run_sliceBound (P:=P) (w:=w) k (Int.ofNat i) y' code (by exact Int.natCast_nonneg i) (by show (i:Int)<=(y':Int);omega)
   simpa using this
  ·cases h
 ·cases h
theorem A3V {isSlice:Bool} {len cap:Nat} {lo hi mx lo' hi' mx':Option Value} (h1:ORelV φ lo lo') (h2:ORelV φ hi hi') (h3:ORelV φ mx mx') {l h m:Nat} (hb:bounds len cap lo hi mx=some (l,h,m)) (hlc:len<=cap):
  l<=h/\h<=m/\m<=cap/\(Instr.sliceBounds isSlice len cap lo' hi' mx').run P w=.ok (l,h,m) w:=by
 unfold bounds at hb;cases h3 with
 |none=>
  simp only at hb;cases h2 with
  |none=>
   simp only at hb;cases h1 with
   |none=>
    simp only at hb;cases hb;exact ⟨Nat.zero_le _,hlc,Nat.le_refl _,rfl⟩
   |@some v v' hv=>
    simp only at hb;cases hbv:bound v len with
    |none=>grind
    |some i=>
     rw [hbv] at hb;cases hb;obtain ⟨q1,q2⟩:=U4 (P:=P) (w:=w) hv hbv;refine ⟨q1,hlc,Nat.le_refl _,?_⟩;simp [Instr.sliceBounds,q2 _ _ (Nat.le_refl _)]
  |@some u u' hu=>
   simp only at hb;cases hbu:bound u cap with
   |none=>grind
   |some j=>
    rw [hbu] at hb;obtain ⟨p1,p2⟩:=U4 (P:=P) (w:=w) hu hbu;cases h1 with
    |none=>
     simp only at hb;cases hb;refine ⟨Nat.zero_le _,p1,Nat.le_refl _,?_⟩;simp [Instr.sliceBounds,p2 _ _ (Nat.le_refl _)]
    |@some v v' hv=>
     simp only at hb;cases hbv:bound v j with
     |none=>grind
     |some i=>
      rw [hbv] at hb;cases hb;obtain ⟨q1,q2⟩:=U4 (P:=P) (w:=w) hv hbv;refine ⟨q1,p1,Nat.le_refl _,?_⟩;simp [Instr.sliceBounds,p2 _ _ (Nat.le_refl _),q2 _ _ (Nat.le_refl _)]
 |@some x x' hx=>
  simp only at hb;cases hbx:bound x cap with
  |none=>grind
  |some mm=>
   rw [hbx] at hb;obtain ⟨s1,s2⟩:=U4 (P:=P) (w:=w) hx hbx;cases h2 with
   |none=>grind
   |@some u u' hu=>
    simp only at hb;cases hbu:bound u mm with
    |none=>grind
    |some j=>
     rw [hbu] at hb;obtain ⟨p1,p2⟩:=U4 (P:=P) (w:=w) hu hbu;cases h1 with
     |none=>
      simp only at hb;cases hb;refine ⟨Nat.zero_le _,p1,s1,?_⟩;simp [Instr.sliceBounds,s2 _ _ (Nat.le_refl _),p2 _ _ (Nat.le_refl _)]
     |@some v v' hv=>
      simp only at hb;cases hbv:bound v j with
      |none=>grind
      |some i=>
       rw [hbv] at hb;cases hb;obtain ⟨q1,q2⟩:=U4 (P:=P) (w:=w) hv hbv;refine ⟨q1,p1,s1,?_⟩;simp [Instr.sliceBounds,s2 _ _ (Nat.le_refl _),p2 _ _ (Nat.le_refl _),q2 _ _ (Nat.le_refl _)]
theorem B1H {isSlice:Bool} {len cap:Nat} {lo hi lo' hi':Option Value} (h1:ORelV φ lo lo') (h2:ORelV φ hi hi') {l h m:Nat} (hb:bounds len len lo hi none=some (l,h,m)) (hlc:len<=cap):
  l<=h/\h<=len/\(Instr.sliceBounds isSlice len cap lo' hi' none).run P w=.ok (l,h,cap) w:=by
 unfold bounds at hb;simp only at hb;cases h2 with
 |none=>
  simp only at hb;cases h1 with
  |none=>
   simp only at hb;cases hb;exact ⟨Nat.zero_le _,Nat.le_refl _,rfl⟩
  |@some v v' hv=>
   simp only at hb;cases hbv:bound v len with
   |none=>grind
   |some i=>
    rw [hbv] at hb;cases hb;obtain ⟨q1,q2⟩:=U4 (P:=P) (w:=w) hv hbv;refine ⟨q1,Nat.le_refl _,?_⟩;simp [Instr.sliceBounds,q2 _ _ (Nat.le_refl _)]
 |@some u u' hu=>
  simp only at hb;cases hbu:bound u len with
  |none=>grind
  |some j=>
   rw [hbu] at hb;obtain ⟨p1,p2⟩:=U4 (P:=P) (w:=w) hu hbu;cases h1 with
   |none=>
    simp only at hb;cases hb;refine ⟨Nat.zero_le _,p1,?_⟩;simp [Instr.sliceBounds,p2 _ _ hlc]
   |@some v v' hv=>
    simp only at hb;cases hbv:bound v j with
    |none=>grind
    |some i=>
     rw [hbv] at hb;cases hb;obtain ⟨q1,q2⟩:=U4 (P:=P) (w:=w) hv hbv;refine ⟨q1,p1,?_⟩;simp [Instr.sliceBounds,p2 _ _ hlc,q2 _ _ (Nat.le_refl _)]
theorem B0K (r:Rel W0 N0 φ g w) {t:TypeId} (hu:P.underlying t=some .string) {s:ByteArray} {lo hi lo' hi':Option Value} (h1:ORelV φ lo lo') (h2:ORelV φ hi hi') {l h m:Nat}
  (hb:bounds s.data.toList.length s.data.toList.length lo hi none=some (l,h,m)):
  Did W0 N0 φ g w nx ⟨.string ⟨((s.data.toList.drop l).take (h - l)).toArray⟩,[],nx⟩ ((do pure (.value (<-Instr.sliceAt t (.string s) lo' hi' none)):Sem Next).run P w):=by
 have hs:s.data.toList.length=s.size:=by rw [Array.length_toList];rfl
 rw [hs] at hb;obtain ⟨q1,q2,q3,q4⟩:=A3V (P:=P) (w:=w) (isSlice:=false) h1 h2 (.none (φ:=φ)) hb (Nat.le_refl _);refine H4 r (.string _) ?_;have he:s.extract l h=⟨((s.data.toList.drop l).take (h - l)).toArray⟩:=by
  have:=Lib.extract_data s l h;generalize s.extract l h=y at this;obtain ⟨⟨y⟩⟩:=y;grind
 simp only [Instr.sliceAt,Instr.slice,Sem.run_bind,run_underlying hu,Result.andThen_ok];simp [q4,he]
theorem B6j (r:Rel W0 N0 φ g w) {t e:TypeId} (hu:P.underlying t=some (.slice e)) {s:Nat} (hs:G2 P e=some s) {x x' v:Value} (hx:VRel φ x x') {lo hi mx lo' hi' mx':Option Value} (h1:ORelV φ lo lo') (h2:ORelV φ hi hi') (h3:ORelV φ mx mx')
  (h:A0G s x lo hi mx=some v):
  Did W0 N0 φ g w nx ⟨v,[],nx⟩ ((do pure (.value (<-Instr.sliceAt t x' lo' hi' mx')):Sem Next).run P w):=by
 have base:∀a len cap,(∀l hh m,(Instr.sliceBounds true len cap lo' hi' mx').run P w=.ok (l,hh,m) w->(Instr.sliceAt t (.slice a len cap) lo' hi' mx').run P w=.ok (.slice (if m=l then a else a.map (·.add (l*s))) (hh - l) (m - l)) w):=by
  intro a len cap l hh m hrun;simp only [Instr.sliceAt,Instr.slice,Sem.run_bind,run_underlying hu,Result.andThen_ok,hrun,E8 hs,Sem.run_pure]
 have fin:∀y,VRel φ v y->(Instr.sliceAt t x' lo' hi' mx').run P w=.ok y w->Did W0 N0 φ g w nx ⟨v,[],nx⟩ ((do pure (.value (<-Instr.sliceAt t x' lo' hi' mx')):Sem Next).run P w):=fun y hy hr=>by
  simp_all<;>grind [H4]
 unfold A0G at h;split at h
 ·rename_i a len cap;rw [D4] at h;split at h
  ·-- not known
   rename_i hcap;have hcap:=of_decide_eq_true hcap;rw [D8] at h;split at h
   ·rename_i heq;have heq:=of_decide_eq_true heq;cases h3;cases hb:bounds len len lo hi none with
    |none=>rw [hb] at h;cases h
    |some p=>
     obtain ⟨l,hh,m⟩:=p;rw [hb] at h;cases h;cases hx with
     |sliceN=>grind [D3]
     |slice0 i o a=>grind [D3]
     |slice n c hφ _ hlt=>omega
     |@sliceU i o b d t' n c o' k hφ hn ho hk=>
      have hks:k=s:=by omega
      subst hks;obtain ⟨q1,q2,q3⟩:=B1H (P:=P) (w:=w) (isSlice:=true) (cap:=c) h1 h2 hb hn;refine fin _ ?_ (base _ _ _ _ _ _ q3);simp only [A6T,Option.map_some,E0]
      by_cases hcl:c=l
      ·rw [if_pos hcl];subst hcl;rw [Nat.sub_self];have:hh - c=0:=by omega
       rw [this];exact VRel.sliceU (t:=t') 0 0 o' k hφ (Nat.le_refl _) (.inr rfl) (.inl rfl)
      ·rw [if_neg hcl];refine VRel.sliceU (t:=t') _ _ _ k hφ (by omega) ?_ ?_
       ·grind
       ·rcases hk with hk|hk
        ·omega
        ·right;have:o'+l*k+(c - l)*k=o'+c*k:=by rw [Nat.add_assoc,<-Nat.add_mul];congr 2;omega
         omega
   ·cases h
  ·rename_i hcap;have hcap:¬D3<=cap:=by simpa using hcap
   cases hb:bounds len cap lo hi mx with
   |none=>rw [hb] at h;cases h
   |some p=>
    obtain ⟨l,hh,m⟩:=p;rw [hb] at h;cases h;have hlc:len<=cap:=by cases hx with
     |sliceN=>exact Nat.le_refl _
     |slice0 _ _ _=>exact Nat.le_refl _
     |slice n c hφ hn hlt=>exact hn
     |sliceU n c o' k hφ hn ho hk=>omega
    obtain ⟨q1,q2,q3,q4⟩:=A3V (P:=P) (w:=w) (isSlice:=true) h1 h2 h3 hb hlc;cases hx with
    |sliceN=>
     obtain rfl:m=0:=by omega
     obtain rfl:hh=0:=by omega
     obtain rfl:l=0:=by omega
     refine fin _ ?_ (base _ _ _ _ _ _ q4);constructor<;>grind
    |slice0 i o a'=>
     obtain rfl:m=0:=by omega
     obtain rfl:hh=0:=by omega
     obtain rfl:l=0:=by omega
     refine fin _ ?_ (base _ _ _ _ _ _ q4);constructor<;>grind
    |@slice i o b d t' n c hφ hn hlt=>
     refine fin _ ?_ (base _ _ _ _ _ _ q4);rw [D8]
     by_cases hml:m=l
     ·simp only [hml,decide_true,if_true];exact VRel.slice (t:=t') _ _ hφ (by omega) (by omega)
     ·simp only [decide_eq_false hml,if_neg hml,A6T,Option.map_some,E0,Nat.add_assoc];exact VRel.slice (t:=t') _ _ hφ (by omega) (by omega)
    |sliceU n c o' k hφ hn ho hk=>omega
 ·cases h
end
section
variable {P:Program} {W0:World} {N0:Nat} {φ:Loc} {g:Hp} {w:World} {nx:Nat}
theorem I0 (r:Rel W0 N0 φ g w) {v y:Value} {s:Sem Value} (hy:VRel φ v y) (hr:s.run P w=.ok y w):Did W0 N0 φ g w nx ⟨v,[],nx⟩ ((do pure (.value (<-s)):Sem Next).run P w):=
 H4 r hy (by simp only [Sem.run_bind,hr,Result.andThen_ok,Sem.run_pure])
theorem VRel.ptr_add {a:Addr} {x':Value} (h:VRel φ (.pointer (some a)) x') (n:Nat):∃b o,x'=.pointer (some ⟨b,o,none⟩)/\a.spot=none/\VRel φ (.pointer (some (a.add n))) (.pointer (some ⟨b,o+n,none⟩)):=by
 cases h with
 |@ptr i o b d t hφ=>
  refine ⟨b,d+o,rfl,rfl,?_⟩;rw [E0,Nat.add_assoc];exact .ptr hφ
theorem B0L (r:Rel W0 N0 φ g w) {t:TypeId} {n:Nat} {e:TypeId} (hu:P.underlying t=some (.array n e)\/∃r,P.underlying t=some (.pointer r)/\P.underlying r=some (.array n e)) {s:Nat} (hs:G2 P e=some s) {a:Addr} {x':Value} (hx:VRel φ (.pointer (some a)) x')
  {lo hi mx lo' hi' mx':Option Value} (h1:ORelV φ lo lo') (h2:ORelV φ hi hi') (h3:ORelV φ mx mx') {l h m:Nat} (hb:bounds n n lo hi mx=some (l,h,m)) (hn:n<D3):
  Did W0 N0 φ g w nx ⟨.slice (some (match Nat.beq m l with|true=>a|false=>a.add (l*s))) (h - l) (m - l),[],nx⟩ ((do pure (.value (<-Instr.sliceAt t x' lo' hi' mx')):Sem Next).run P w):=by
 obtain ⟨q1,q2,q3,q4⟩:=A3V (P:=P) (w:=w) (isSlice:=false) h1 h2 h3 hb (Nat.le_refl _);cases hx with
 |@ptr i o b d t' hφ=>
  have hr:(Instr.sliceAt t (.pointer (some ⟨b,d+o,none⟩)) lo' hi' mx').run P w=.ok (.slice (some (if m=l then ⟨b,d+o,none⟩ else (⟨b,d+o,none⟩:Addr).add (l*s))) (h - l) (m - l)) w:=by
   rcases hu with hu|⟨q,hu,hu2⟩
   ·simp only [Instr.sliceAt,Sem.run_bind,run_underlying hu,Result.andThen_ok,Instr.sureAddr,Sem.run_pure,q4,E8 hs]
   ·simp only [Instr.sliceAt,Instr.slice,Sem.run_bind,run_underlying hu,run_underlying hu2,Result.andThen_ok,asAddr,Sem.run_pure,q4,E8 hs]
  refine I0 r ?_ hr;rw [D8]
  by_cases hml:m=l
  ·simp only [hml,decide_true,if_true];exact .slice _ _ hφ (by omega) (by omega)
  ·simp only [decide_eq_false hml,if_neg hml,E0,Nat.add_assoc];exact .slice _ _ hφ (by omega) (by omega)
theorem B7H (r:Rel W0 N0 φ g w) {s f:Nat} {fs:Array Field} {fd:Field} {n:Nat} (hu:P.underlying s=some (.struct fs)) (hf:fs[f]? =some fd) (hs:G2 P fd.type=some (n+1)) {a:Addr} {x':Value} (hx:VRel φ (.pointer (some a)) x'):
  Did W0 N0 φ g w nx ⟨.pointer (some (a.add fd.offset)),[],nx⟩ ((do pure (.value (<-Instr.fieldAt s x' f)):Sem Next).run P w):=by
 obtain ⟨b,o,rfl,hsp,hv⟩:=hx.ptr_add fd.offset;refine I0 r hv ?_;have:¬(n+1=0):=by omega
 simp only [Instr.fieldAt,Sem.run_bind,run_underlying hu,Result.andThen_ok,hf,Instr.sureAddr,Sem.run_pure,fieldPlace,E8 hs,if_neg this,E0]
theorem A9d (r:Rel W0 N0 φ g w) {s f:Nat} {fs:Array Field} {fd:Field} {n:Nat} (hu:P.underlying s=some (.struct fs)) (hf:fs[f]? =some fd) (hs:G2 P fd.type=some n) {cs:Array Value} {x':Value} (hx:VRel φ (.agg cs) x'):
  (A3s P fd.type=some true->Did W0 N0 φ g w nx ⟨.agg ((cs.toList.drop fd.offset).take n).toArray,[],nx⟩ ((do pure (.value (<-Instr.field s x' f)):Sem Next).run P w))/\
  (A3s P fd.type=some false->∀v,cs.toList[fd.offset]? =some v->Did W0 N0 φ g w nx ⟨v,[],nx⟩ ((do pure (.value (<-Instr.field s x' f)):Sem Next).run P w)):=by
 cases hx with
 |@agg _ cs' hc=>
  constructor
  ·intro ha;refine I0 r (.agg ((hc.drop fd.offset).take n)) ?_;simp only [Instr.field,Sem.run_bind,run_underlying hu,Result.andThen_ok,hf,asAgg,Sem.run_pure,part,T5 ha,if_true,E8 hs];congr 2;grind
  ·intro ha v hv;obtain ⟨v',e',rv⟩:=hc.get hv;rw [Array.getElem?_toList] at e';refine I0 r rv ?_;simp [Instr.field,Sem.run_bind,run_underlying hu,hf,asAgg,part,T5 ha,e']
theorem A8S (r:Rel W0 N0 φ g w) {t e:TypeId} (hu:P.underlying t=some (.slice e)) {s:Nat} (hs:G2 P e=some s) {a:Addr} {len cap:Nat} {x':Value} (hx:VRel φ (.slice (some a) len cap) x') {k:IntKind} {i:Nat} (hi:i<len):
  Did W0 N0 φ g w nx ⟨.pointer (some (a.add (i*s))),[],nx⟩ ((do pure (.value (<-Instr.indexAt t x' (.int k (.ofNat i)))):Sem Next).run P w):=by
 have h0:(0:Int)<=Int.ofNat i:=Int.natCast_nonneg i;have h1:Int.ofNat i<(len:Int):=by show (i:Int)<len;omega
 have fin:∀b o c,VRel φ (.pointer (some (a.add (i*s)))) (.pointer (some ⟨b,o+i*s,none⟩))->x'=.slice (some ⟨b,o,none⟩) len c->Did W0 N0 φ g w nx ⟨.pointer (some (a.add (i*s))),[],nx⟩ ((do pure (.value (<-Instr.indexAt t x' (.int k (.ofNat i)))):Sem Next).run P w):=by
  rintro b o c hv rfl;refine I0 r hv ?_;simp only [Instr.indexAt,asIntOf,Sem.run_bind,Sem.run_pure,Result.andThen_ok,run_underlying hu];simp_all [E8,E0]
 cases hx with
 |@slice j o b d t' n c hφ hn hlt=>
  refine fin b (d+o) _ ?_ rfl;rw [E0,Nat.add_assoc];exact .ptr hφ
 |@sliceU j o b d t' n c o' k' hφ hn ho hk=>
  have:o'=d+o:=by omega
  subst this;refine fin b (d+o) _ ?_ rfl;rw [E0,Nat.add_assoc];exact .ptr hφ
 |slice0 _ _ _=>omega
theorem A5l (r:Rel W0 N0 φ g w) {t e:TypeId} {n:Nat} (hu:P.underlying t=some (.array n e)) {s:Nat} (hs:G2 P e=some s) {a:Addr} {x':Value} (hx:VRel φ (.pointer (some a)) x') {k:IntKind} {i:Nat} (hi:i<n):
  Did W0 N0 φ g w nx ⟨.pointer (some (a.add (i*s))),[],nx⟩ ((do pure (.value (<-Instr.indexAt t x' (.int k (.ofNat i)))):Sem Next).run P w):=by
 have h0:(0:Int)<=Int.ofNat i:=Int.natCast_nonneg i;have h1:Int.ofNat i<(n:Int):=by show (i:Int)<n;omega
 obtain ⟨b,o,rfl,hsp,hv⟩:=hx.ptr_add (i*s);refine I0 r hv ?_;simp only [Instr.indexAt,asIntOf,Sem.run_bind,Sem.run_pure,Result.andThen_ok,run_underlying hu,Instr.sureAddr];simp_all [E8,E0]
theorem B0M (r:Rel W0 N0 φ g w) {t:TypeId} (hu:P.underlying t=some .string) {s:ByteArray} {k:IntKind} {i:Nat} {b:UInt8} (hb:s.data.toList[i]? =some b):
  Did W0 N0 φ g w nx ⟨.int .u8 b.toNat,[],nx⟩ ((do pure (.value (<-Instr.index t (.string s) (.int k (.ofNat i)))):Sem Next).run P w):=by
 have h0:(0:Int)<=Int.ofNat i:=Int.natCast_nonneg i;refine I0 r (.int _ _) ?_;have hb':s[i]? =some b:=by
  rw [Array.getElem?_toList] at hb;obtain ⟨hlt,he⟩:=Array.getElem?_eq_some_iff.1 hb;have hlt':i<s.size:=hlt;rw [getElem?_pos s i hlt'];exact congrArg some he
 simp only [Instr.index,asIntOf,Sem.run_bind,Sem.run_pure,Result.andThen_ok,run_underlying hu];simp_all
theorem A4s (r:Rel W0 N0 φ g w) {t e:TypeId} {n:Nat} (hu:P.underlying t=some (.array n e)) {s:Nat} (hs:G2 P e=some s) {cs:Array Value} {x':Value} (hx:VRel φ (.agg cs) x') {k:IntKind} {i:Nat} (hi:i<n):
  (A3s P e=some true->Did W0 N0 φ g w nx ⟨.agg ((cs.toList.drop (i*s)).take s).toArray,[],nx⟩ ((do pure (.value (<-Instr.index t x' (.int k (.ofNat i)))):Sem Next).run P w))/\
  (A3s P e=some false->s=1->∀v,cs.toList[i]? =some v->Did W0 N0 φ g w nx ⟨v,[],nx⟩ ((do pure (.value (<-Instr.index t x' (.int k (.ofNat i)))):Sem Next).run P w)):=by
 have h0:(0:Int)<=Int.ofNat i:=Int.natCast_nonneg i;have h1:Int.ofNat i<(n:Int):=by show (i:Int)<n;omega
 have hn:(Int.ofNat i).toNat=i:=rfl;cases hx with
 |@agg _ cs' hc=>
  constructor
  ·intro ha;refine I0 r (.agg ((hc.drop (i*s)).take s)) ?_;simp only [Instr.index,asIntOf,Sem.run_bind,Sem.run_pure,Result.andThen_ok,run_underlying hu];rw [if_pos ⟨h0,h1⟩];simp only [Sem.run_bind,E8 hs,Result.andThen_ok,part,T5 ha,if_true,Sem.run_pure,hn];congr 2;grind
  ·rintro ha rfl v hv;obtain ⟨v',e',rv⟩:=hc.get hv;rw [Array.getElem?_toList] at e';refine I0 r rv ?_;simp only [Instr.index,asIntOf,Sem.run_bind,Sem.run_pure,Result.andThen_ok,run_underlying hu];rw [if_pos ⟨h0,h1⟩];simp only [Sem.run_bind,E8 hs,Result.andThen_ok,part,T5 ha,Bool.false_eq_true,if_false,Sem.run_pure,hn,Nat.mul_one,e']
theorem W7 {a:Addr} {l:List Value} (h:B8 g a 0=some l):l=[]:=by
 grind [P0]
theorem A2G (a:Addr):loadCells a 0=pure #[]:=rfl
theorem B1I (r:Rel W0 N0 φ g w) {s d:TypeId} {o:Operand} {x:XOp} (hx:A1r P s d o=some x) {a a':Value} (ha:VRel φ a a'):
  (∀k n,x=.toInt k o->(∃j,a=.int j n)->Did W0 N0 φ g w nx ⟨.int k (k.wrap n),[],nx⟩ ((do pure (.value (<-convert s d a')):Sem Next).run P w))/\
  (x=.keep o->(∃b,a=.string b)->Did W0 N0 φ g w nx ⟨a,[],nx⟩ ((do pure (.value (<-convert s d a')):Sem Next).run P w))/\
  (x=.bytesToStr o->a=.slice none 0 0->Did W0 N0 φ g w nx ⟨.string ⟨#[]⟩,[],nx⟩ ((do pure (.value (<-convert s d a')):Sem Next).run P w))/\
  (∀ad n c l bs,x=.bytesToStr o->a=.slice (some ad) n c->B8 g ad n=some l->Z7 l=some bs->Did W0 N0 φ g w nx ⟨.string ⟨bs.toArray⟩,[],nx⟩ ((do pure (.value (<-convert s d a')):Sem Next).run P w))/\
  (∀e (b:ByteArray),x=.strToBytes e o->a=.string b->b.data.toList.length<=small->φ nx=none->
   Did W0 N0 φ g w nx ⟨.slice (some ⟨nx,0,none⟩) b.data.toList.length (D3+1),[(nx,some ⟨0,.cells (b.data.toList.map fun b=>.int .u8 b.toNat) e true⟩)],nx+1⟩ ((do pure (.value (<-convert s d a')):Sem Next).run P w)):=by
 unfold A1r at hx;cases hs:P.underlying s with
 |none=>rw [hs] at hx;cases hx
 |some us=>
  cases hd:P.underlying d with
  |none=>grind
  |some ud=>
   rw [hs,hd] at hx;refine ⟨?_,?_,?_,?_,?_⟩
   ·rintro k n rfl ⟨j,rfl⟩;cases ha;refine I0 r (.int _ _) ?_;cases us<;>cases ud<;>simp only at hx<;>try (cases hx;done)
    ·cases hx;simp only [convert,Sem.run_bind,run_underlying hs,run_underlying hd,Result.andThen_ok,Conv.intToInt,Sem.run_pure]
    all_goals (split at hx<;>cases hx)
   ·rintro rfl ⟨b,rfl⟩;cases ha;refine I0 r (.string _) ?_;cases us<;>cases ud<;>simp only at hx<;>try (cases hx;done)
    ·simp only [convert,Sem.run_bind,run_underlying hs,run_underlying hd,Result.andThen_ok,Sem.run_pure]
    all_goals (split at hx<;>cases hx)
   ·rintro rfl rfl;cases ha;refine I0 r (.string _) ?_;cases us<;>cases ud<;>simp only at hx<;>try (cases hx;done)
    all_goals (split at hx<;>try (cases hx;done))
    rename_i he;simp only [convert,Sem.run_bind,run_underlying hs,run_underlying hd,run_underlying he,Result.andThen_ok,Conv.bytesToString,Sem.run_pure];rfl
   ·rintro ad n c l bs rfl rfl hl hb;cases us<;>cases ud<;>simp only at hx<;>try (cases hx;done)
    all_goals (split at hx<;>try (cases hx;done))
    rename_i he;have key:∀bb o' c',(∃l',VRels φ l l'/\l'.length=n/\∀j v,l'[j]? =some v->w.cell? ⟨bb,o'+j,none⟩=some v)->a'=.slice (some ⟨bb,o',none⟩) n c'->
      Did W0 N0 φ g w nx ⟨.string ⟨bs.toArray⟩,[],nx⟩ ((do pure (.value (<-convert s d a')):Sem Next).run P w):=by
     rintro bb o' c' ⟨l',hv,hlen,hc⟩ rfl;refine I0 r (.string _) ?_;have hload:=run_loadCells_list (P:=P) w ⟨bb,o',none⟩ l' (fun j v hj=>by rw [E0];exact hc j v hj);rw [hlen] at hload;simp only [convert,Sem.run_bind,run_underlying hs,run_underlying hd,run_underlying he,Result.andThen_ok,Conv.bytesToString,hload]
     have loop:∀(l l':List Value) (bs:List UInt8) (acc:ByteArray),VRels φ l l'->Z7 l=some bs->
       (forIn l' acc (fun c r => (match c with | .int .u8 n => pure (ForInStep.yield (r.push (UInt8.ofNat n.toNat))) | _ => stuck "bytesToString: byte expected" : Sem (ForInStep ByteArray)))).run P w = .ok ⟨(acc.data.toList ++ bs).toArray⟩ w := by
      intro l
      induction l with
      |nil=>
       intro l' bs acc hv hb;cases hv;cases hb;simp
      |cons x l ih=>
       intro l' bs acc hv hb;cases hv with
       |@cons _ x' _ l'' hx hv=>
        unfold Z7 at hb;split at hb
        ·cases hb;rename_i h;cases h
        ·rename_i n r heq;cases heq;cases hx;split at hb
         ·rename_i l2 hl2;cases hb;have:=ih l'' l2 (acc.push (UInt8.ofNat n)) hv hl2;simp only [List.forIn_cons,Sem.run_bind,Sem.run_pure,Result.andThen_ok];refine this.trans ?_;congr 2;simp [ByteArray.push]
         ·cases hb
        ·cases hb
     have hl2:=loop l l' bs ByteArray.empty hv hb;have he0:ByteArray.empty.data.toList=[]:=rfl;rw [he0,List.nil_append] at hl2;rw [<-Array.forIn_toList];simp only [Sem.run_bind];refine (congrArg (fun r=>Result.andThen r _) hl2).trans ?_;rfl
    cases ha with
    |@slice i o b d' t' n c hφ hn hlt=>
     obtain ⟨l',hv,hlen,_,hc⟩:=r.loads hl rfl hφ;grind
    |@sliceU i o b d' t' n c o' k hφ hn ho hk=>
     obtain ⟨l',hv,hlen,_,hc⟩:=r.loads hl rfl hφ;grind
    |slice0 i o a2=>
     have hl0:=W7 hl;subst hl0;simp only [Z7] at hb;cases hb;refine I0 r (.string _) ?_;simp only [convert,Sem.run_bind,run_underlying hs,run_underlying hd,run_underlying he,Result.andThen_ok,Conv.bytesToString,A2G,Sem.run_pure];rfl
   ·rintro e b rfl rfl hlen hφ;cases ha;cases us<;>cases ud<;>simp only at hx<;>try (cases hx;done)
    all_goals (split at hx<;>try (cases hx;done))
    rename_i he;cases hx;have hsz:b.data.toList.length=b.size:=by rw [Array.length_toList];rfl
    have hcap:∃cap,b.size<=cap/\(choose (.appendCap b.size 0 e)).run P w=.ok cap w.drew:=by
     refine ⟨_,?_,by simp only [run_choose,Question.forced,Bool.false_eq_true,if_false];rfl⟩;simp only [Question.cut];omega
    obtain ⟨cap,hle,hch⟩:=hcap;have hlist:(b.data.map (fun x=>Value.int .u8 x.toNat)).toList=b.data.toList.map fun x=>.int .u8 x.toNat:=by simp
    refine A2a (vs':=(b.data.toList.map fun x=>.int .u8 x.toNat)++List.replicate (cap - b.size) (.int .u8 0)) (fr:=(cap,cap+1)) r hφ ?_ ?_ (fun h=>by cases h) ?_ (Drawn.drew w) ?_
     (v':=.slice (some ⟨w.heap.size,0,none⟩) b.size cap)
    ·rw [List.length_map,List.take_append_of_le_length (by simp),List.take_of_length_le (by simp)];exact VRels.map_same (fun _=>.int _ _) _
    ·refine Z9 fun v hv=> ?_
     obtain ⟨x,_,rfl⟩:=List.mem_map.1 hv;rfl
    ·have hl:((b.data.toList.map fun x=>Value.int .u8 x.toNat)++List.replicate (cap - b.size) (Value.int .u8 0)).length=cap:=by simp;omega
     rw [hl,hsz];have:=VRel.sliceU (φ:=φ.put nx w.heap.size 0 cap) (i:=nx) (o:=0) b.size cap 0 1 (Loc.put_same _ _ _ _ _) hle (.inl rfl) (.inr (by omega));exact this
    ·obtain ⟨L,hL⟩:∃L:List Value,L=(b.data.toList.map fun x=>Value.int .u8 x.toNat)++List.replicate (cap - b.size) (Value.int .u8 0):=⟨_,rfl⟩;have harr:(b.data.map (fun x=>Value.int .u8 x.toNat))++Array.replicate (cap - b.size) (Value.int .u8 0)=L.toArray:=by
      grind
     have hLl:L.length=cap:=by rw [hL];simp;omega
     rw [<-hL];have hfz:(w.drew.alloc (.cells L.toArray e)).freeze ⟨w.heap.size,cap,none⟩ 1=w.drew.alloc (.cells L.toArray e (cap,cap+1)):=by
      have hh:(w.heap.push (Obj.cells L.toArray e)).modify w.heap.size (fun|.cells c elem (lo,hi)=>.cells c elem (if lo==hi then (cap,cap+1) else (min lo cap,max hi (cap+1)))|o=>o)=w.heap.push (Obj.cells L.toArray e (cap,cap+1)):=by
       grind
      simp only [World.freeze,Nat.one_ne_zero,if_false];exact congrArg (fun h=>({ w.drew with heap:=h }:World)) hh
     have hshape:(w.drew.alloc (.cells L.toArray e)).shape? w.heap.size=some (e,cap):=by
      have:(w.drew.alloc (.cells L.toArray e)).heap[w.heap.size]? =some (.cells L.toArray e):=by
       show (w.heap.push _)[w.heap.size]? =_;simp
      unfold World.shape?;grind
     have hdsz:w.drew.heap.size=w.heap.size:=rfl;simp only [convert,Sem.run_bind,run_underlying hs,run_underlying hd,run_underlying he,Result.andThen_ok,Conv.stringToBytes,hch,harr,newRow,run_newObj_alloc,Sem.run_pure,markStringish,run_shape,hdsz,hshape,run_freeze,hfz]
end
section
variable {P:Program} {W0:World} {N0:Nat} {φ:Loc} {g:Hp} {w:World} {nx:Nat}
structure AppArgs (P:Program) (t u e:TypeId) (z:Value) (s b:Nat) (w:World) (x' y':Value) (len c:Nat) (base:Option Addr) (n:Nat) (new:List Value):Prop where
 ht:P.underlying t=some (.slice e)
 hz:V6 P e=some z
 hs:G2 P e=some s
 hb:X5 P e=some b
 hzs:z.cells.toList.length=s
 hx:x'=.slice base len c
 zeros:∃du,P.underlying u=some du/\
  (((∀k,du≠.int k)/\(Builtin.lenOf y').run P w=.ok n w/\∀w1,w1.heap=w.heap->(Builtin.firstCells s n y').run P w1=.ok new.toArray w1)\/
   (∃k,du=.int k/\y'=.int .i64 (.ofNat n)/\n<=small/\b<=65536/\new=rep z.cells.toList n))
theorem run_append_room {t u ty e:TypeId} {z x' y':Value} {s b len c n:Nat} {base:Option Addr} {new:List Value} (h:AppArgs P t u e z s b w x' y' len c base n new) (hle:len+n<=c)
  {w':World} (hst:match base with|none=>w'=w|some a=>(storeCells (a.add (len*s)) new).run P w=.ok () w'):
  (Builtin.append_ #[t,u] ty #[x',y']).run P w=.ok (.slice base (len+n) c) w':=by
 obtain ⟨ht,hz,hs,hb,hzs,rfl,du,hu,hcase⟩:=h;rcases hcase with ⟨hd,hlen,happ⟩|⟨k,rfl,rfl,hsm,hbb,rfl⟩
 ·have hzz:(match du with|.int _=>true|_=>false)=false:=by cases du<;>first|rfl|exact absurd rfl (hd _)
  simp only [Builtin.append_,List.getElem?_toArray,List.getElem?_cons_zero,List.getElem?_cons_succ,Sem.run_bind,run_underlying ht,E8 hs,run_underlying hu,Result.andThen_ok,Sem.run_pure,hzz,Bool.false_eq_true,if_false,hlen,hle,if_true,Bool.not_false,happ w rfl];cases base with
  |none=>simp only at hst;simp [hst]
  |some a=>simp [hst]
 ·obtain ⟨inf,hinf,hib⟩:=A28 hb w;have hw:IntKind.i64.wrap (Int.ofNat n)=n:=by
   unfold small at hsm;rw [IntKind.wrap_i64];show ((n:Int)+_)%_ - _=(n:Int);omega
  have hneg:¬((n:Int)<0):=by omega
  have hbig:¬((n:Int)*(inf.bytes:Int)>2^48):=by
   have e1:(2:Int)^48=281474976710656:=by decide
   rw [e1,hib];have:(n:Int)*(b:Int)=((n*b:Nat):Int):=by push_cast;rfl
   rw [this];have:n*b<=small*65536:=Nat.mul_le_mul hsm hbb;grind [small]
  have hzsz:z.cells.size=s:=by rw [<-hzs,Array.length_toList]
  have hnew:((if n*s=0 then pure #[] else do pure (Builtin.zeroCells (<-zeroValue e).cells n):Sem (Array Value)).run P w)=.ok (rep z.cells.toList n).toArray w:=by
   by_cases h0:n*s=0
   ·simp_all [A4q]
   simp_all [M8,A1F]
  simp only [Builtin.append_,List.getElem?_toArray,List.getElem?_cons_zero,List.getElem?_cons_succ,Sem.run_bind,run_underlying ht,E8 hs,run_underlying hu,Result.andThen_ok,Sem.run_pure,if_true,asInt,asIntOf,hw,hneg,if_false,hinf,hbig,Int.toNat_natCast,hle,
   Bool.not_true,Bool.false_eq_true,hnew]
  cases base with
  |none=>simp_all
  |some a=>simp [hst]
theorem A1N {t u ty e:TypeId} {z x' y':Value} {s b len c n:Nat} {base:Option Addr} {new old:List Value} (h:AppArgs P t u e z s b w x' y' len c base n new) (hlt:c<len+n) (hsmall:len+n<=small) (hbb:b<=65536)
  (hold:∀w1,w1.heap=w.heap->(Builtin.firstCells s len x').run P w1=.ok old.toArray w1):
  ∃cap,len+n<=cap/\(Builtin.append_ #[t,u] ty #[x',y']).run P w=.ok (.slice (some ⟨w.heap.size,0,none⟩) (len+n) cap) (w.drew.alloc (.cells (old++new++rep z.cells.toList (cap - (len+n))).toArray e)):=by
 obtain ⟨ht,hz,hs,hb,hzs,rfl,du,hu,hcase⟩:=h;have hcap:∃cap,len+n<=cap/\(choose (.appendCap (len+n) c e)).run P w=.ok cap w.drew:=by
  refine ⟨_,?_,by simp only [run_choose,Question.forced,Bool.false_eq_true,if_false];rfl⟩;simp only [Question.cut];omega
 obtain ⟨cap,hle,hch⟩:=hcap;refine ⟨cap,hle,?_⟩;obtain ⟨inf,hinf,hib⟩:=A28 hb w;have hinf':(typeInfo e).run P w.drew=.ok inf w.drew:=by
  obtain ⟨inf2,h2,_⟩:=A28 hb w.drew;have e1:∀w1 i,(typeInfo e).run P w1=.ok i w1->P.info? e=some i:=fun w1 i h=>by
   cases hi:P.info? e with
   |none=>simp [typeInfo,Sem.run_bind,hi] at h
   |some j=>rw [run_typeInfo (P:=P) (w:=w1) hi] at h;cases h;rfl
  grind
 have hmax:¬(((len+n:Nat):Int)>IntKind.i64.max/\True):=by
  simp_all<;>grind [small]
 have hmax2:∀q:Prop,¬(((len+n:Nat):Int)>IntKind.i64.max/\q):=fun q hq=>hmax ⟨hq.1,trivial⟩
 have hgrow:¬(Builtin.nextslicecap (len+n) c*inf.bytes>2^48):=by
  have h1:=nextslicecap_le hlt;have h2:Builtin.nextslicecap (len+n) c*inf.bytes<=(2*small)*65536:=Nat.mul_le_mul (Nat.le_trans h1 (by omega)) (hib▸hbb);grind [small]
 have hnle:¬(len+n<=c):=by omega
 have hzc:∀m,Builtin.zeroCells z.cells m=(rep z.cells.toList m).toArray:=A1F z.cells;have hdsz:w.drew.heap.size=w.heap.size:=rfl;rcases hcase with ⟨hd,hlen,happ⟩|⟨k,rfl,rfl,hsm,hbb',rfl⟩
 ·have hzz:(match du with|.int _=>true|_=>false)=false:=by cases du<;>first|rfl|exact absurd rfl (hd _)
  simp only [Builtin.append_,List.getElem?_toArray,List.getElem?_cons_zero,List.getElem?_cons_succ,Sem.run_bind,run_underlying ht,E8 hs,run_underlying hu,Result.andThen_ok,Sem.run_pure,hzz,Bool.false_eq_true,if_false,hlen,hnle,Bool.not_false,if_true,
   hinf,hmax2,hgrow,hch,run_askRoom,hold w.drew rfl,happ w.drew rfl,M8 hz,hzc,newRow,run_newObj_alloc,hdsz,hinf']
  grind
 ·have hw:IntKind.i64.wrap (Int.ofNat n)=n:=by
   unfold small at hsm;rw [IntKind.wrap_i64];show ((n:Int)+_)%_ - _=(n:Int);omega
  have hneg:¬((n:Int)<0):=by omega
  have hbig:¬((n:Int)*(inf.bytes:Int)>2^48):=by
   have e1:(2:Int)^48=281474976710656:=by decide
   rw [e1,hib];have:(n:Int)*(b:Int)=((n*b:Nat):Int):=by push_cast;rfl
   rw [this];have:n*b<=small*65536:=Nat.mul_le_mul hsm hbb;grind [small]
  have hnew:((if n*s=0 then pure #[] else do pure (Builtin.zeroCells (<-zeroValue e).cells n):Sem (Array Value)).run P w.drew)=.ok (rep z.cells.toList n).toArray w.drew:=by
   by_cases h0:n*s=0
   ·simp_all [A4q]
   simp_all [M8,A1F]
  simp only [Builtin.append_,List.getElem?_toArray,List.getElem?_cons_zero,List.getElem?_cons_succ,Sem.run_bind,run_underlying ht,E8 hs,run_underlying hu,Result.andThen_ok,Sem.run_pure,if_true,asInt,asIntOf,hw,hneg,if_false,hinf,hbig,Int.toNat_natCast,hnle,
   Bool.not_true,Bool.false_eq_true,hmax2,hgrow,hch,run_askRoom,hinf',hold w.drew rfl,hnew,M8 hz,hzc,newRow,run_newObj_alloc,hdsz]
  grind
end
theorem A2b (c:List Value):∀(new:List Value) (o m:Nat),o+m+new.length<=c.length->((setList c (o+m) new).drop o).take (m+new.length)=((c.drop o).take m)++new
 |[],o,m,h=>by simp [setList]
 |x::new,o,m,h=>by
  simp only [List.length_cons] at h;have ih:=A2b (c.set (o+m) x) new o (m+1) (by simp;omega);rw [setList,show o+m+1=o+(m+1) by omega,show m+(x::new).length=m+1+new.length by simp;omega,ih];have:((c.set (o+m) x).drop o).take (m+1)=(c.drop o).take m++[x]:=by
   apply List.ext_getElem?;grind
  rw [this];simp
section
variable {P:Program} {W0:World} {N0:Nat} {φ:Loc} {g:Hp} {w:World} {nx:Nat}
theorem K9 {s n:Nat} {a:Addr} {len c:Nat} {l:List Value} (hl:l.length=n*s) {b o:Nat} (ha:a=⟨b,o,none⟩) (h:∀j v,l[j]? =some v->w.cell? ⟨b,o+j,none⟩=some v):
  ∀w1:World,w1.heap=w.heap->(Builtin.firstCells s n (.slice (some a) len c)).run P w1=.ok l.toArray w1:=by
 intro w1 hw;refine run_firstCells_some (P:=P) w1 s n a len c l hl (fun j v hj=> ?_);rw [ha,E0];have:w1.cell? ⟨b,o+j,none⟩=w.cell? ⟨b,o+j,none⟩:=by simp only [World.cell?,hw]
 grind
theorem X2 (s:Nat) (a:Addr) (c:Nat) (w1:World):(Builtin.firstCells s 0 (.slice (some a) 0 c)).run P w1=.ok #[] w1:=by
 simp only [Builtin.firstCells,Nat.zero_mul,A2G,Sem.run_pure]
theorem B0N (r:Rel W0 N0 φ g w) {s:Nat} {y y':Value} (hy:VRel φ y y') {n:Nat} {l:List Value} (h:L9 g s y=some (n,l)):
  ∃l',VRels φ l l'/\l'.length=n*s/\ones l=true/\(Builtin.lenOf y').run P w=.ok n w/\∀w1,w1.heap=w.heap->(Builtin.firstCells s n y').run P w1=.ok l'.toArray w1:=by
 unfold L9 at h;split at h
 ·rename_i m c;split at h
  ·cases h;cases hy;exact ⟨[],.nil,by simp,rfl,rfl,fun w1 _=>rfl⟩
  ·cases h
 ·rename_i a m0 c;split at h
  ·cases h;have key:∀a' cc,y'=.slice (some a') 0 cc->∃l',VRels φ [] l'/\l'.length=0*s/\ones []=true/\(Builtin.lenOf y').run P w=.ok 0 w/\∀w1,w1.heap=w.heap->(Builtin.firstCells s 0 y').run P w1=.ok l'.toArray w1:=by
    rintro a' cc rfl;exact ⟨[],.nil,by simp,rfl,rfl,fun w1 _=>X2 s a' cc w1⟩
   cases hy with
   |slice _ _ _ _ _=>exact key _ _ rfl
   |sliceU _ _ _ _ _ _ _ _=>exact key _ _ rfl
   |slice0 _ _ _=>exact key _ _ rfl
  rename_i m1;have hy:VRel φ (.slice (some a) (m1+1) c) y':=hy;generalize m1+1=m at h hy;cases hl:B8 g a (m*s) with
  |none=>rw [hl] at h;cases h
  |some l2=>
   rw [hl] at h;cases h;cases hy with
   |@slice i o b d t _ _ hφ hn hlt=>
    obtain ⟨l',hv,hlen,ho,hc⟩:=r.loads hl rfl hφ;exact ⟨l',hv,hlen,ho,rfl,K9 hlen rfl hc⟩
   |@sliceU i o b d t _ c' o' k hφ hn ho' hk=>
    obtain ⟨l',hv,hlen,ho,hc⟩:=r.loads hl rfl hφ;rcases ho' with rfl|rfl
    ·exact ⟨l',hv,hlen,ho,rfl,K9 hlen rfl hc⟩
    ·obtain rfl:n=0:=by omega
     have:l'=[]:=List.eq_nil_of_length_eq_zero (by simpa using hlen);subst this;exact ⟨[],hv,hlen,ho,rfl,K9 hlen rfl (fun j v h=>by simp at h)⟩
   |slice0 i o a2=>
    rw [Nat.zero_mul] at hl;have hl0:=W7 hl;subst hl0;exact ⟨[],.nil,by simp,rfl,rfl,fun w1 _=>X2 s a2 0 w1⟩
 ·rename_i b;split at h
  ·cases h;cases hy;have hsz:b.data.toList.length=b.size:=by rw [Array.length_toList];rfl
   refine ⟨_,VRels.map_same (fun _=>.int _ _) _,by simp,Z9 fun v hv=> ?_,?_,fun w1 _=> ?_⟩
   ·obtain ⟨x,_,rfl⟩:=List.mem_map.1 hv;rfl
   ·rw [hsz];rfl
   ·simp only [Builtin.firstCells,Sem.run_pure];simp_all<;>grind
  ·cases h
 ·cases h
theorem A72 (r:Rel W0 N0 φ g w) {t u ty e:TypeId} {z:Value} {s b:Nat} {x x' y':Value} (hx:VRel φ x x') {n:Nat} {new new':List Value} (hv:VRels φ new new') (hnl:new'.length=n*s) (ho:ones new=true)
  (hargs:∀len c base,x'=.slice base len c->AppArgs P t u e z s b w x' y' len c base n new') {p:PR} (h:I1 g nx e s b x n new=some p) (hφ0:nx<p.nx->φ nx=none) (hg0:nx<p.nx->g nx=none):
  Did W0 N0 φ g w nx p ((do pure (.value (<-Builtin.append_ #[t,u] ty #[x',y'])):Sem Next).run P w):=by
 have hnl2:new.length=n*s:=by rw [<-hv.length];exact hnl
 unfold I1 at h;split at h
 ·rename_i base len cap;split at h
  ·-- nothing
   cases h;have hnil:new'=[]:=List.eq_nil_of_length_eq_zero (by simpa using hnl);have key:∀base' c',x'=.slice base' len c'->len<=c'->Did W0 N0 φ g w nx ⟨.slice base len cap,[],nx⟩ ((do pure (.value (<-Builtin.append_ #[t,u] ty #[x',y'])):Sem Next).run P w):=by
    intro base' c' hx' hle;refine I0 r (hx'▸hx) ?_;rw [hx'];refine (run_append_room (hx'▸hargs len c' base' hx') (by omega) (w':=w) ?_);cases base' with
    |none=>rfl
    |some a=>simp [hnil,storeCells]
   cases hx with
   |sliceN=>grind
   |slice0 _ _ _=>grind
   |slice n c hφ hn hlt=>exact key _ _ rfl hn
   |sliceU n c o' k hφ hn ho' hk=>exact key _ _ rfl hn
  ·rename_i hn0;have hn1:1<=n:=by cases n with|zero=>exact absurd rfl hn0|succ n=>omega
   rw [D4] at h;split at h
   ·-- the capacity is not known
    rename_i hcap;have hcap:=of_decide_eq_true hcap;split at h
    ·rename_i a;cases hl:B8 g a (len*s) with
     |none=>rw [hl] at h;cases h
     |some old=>
      rw [hl] at h;simp only at h;split at h
      ·rename_i hc;simp only [Bool.and_eq_true,D4,D8,decide_eq_true_eq] at hc;obtain ⟨⟨⟨hsm,hbb⟩,hck⟩,hwr⟩:=hc;cases h;have hφ:=hφ0 (Nat.lt_succ_self nx);have hg:=hg0 (Nat.lt_succ_self nx);cases hx with
       |slice n c hφ hn hlt=>omega
       |slice0 _ _ _=>grind [D3]
       |@sliceU i o bb d tt _ c o' k hφi hn ho' hk=>
        obtain rfl:k=s:=by omega
        obtain ⟨i',oo,ver,vs,ee,ro,hai,hgi,hle,hold⟩:=P0 hl;cases hai;have hro:ro=false/\ee=e:=by
         grind [A17,D8]
        obtain ⟨rfl,rfl⟩:=hro;obtain ⟨old',hvo,hol,hoo,hcell⟩:=r.loads hl rfl hφi;obtain ⟨cc,fr,hb,hst,hfr,h1,hvs,hsz⟩:=r.cells hgi hφi;obtain rfl:=hfr rfl;have hA:=hargs len c _ rfl;have hgn:nx≠i:=fun e=>by subst e;rw [hg] at hgi;cases hgi
        have holdl:old.length=len*k:=by rw [<-hvo.length];exact hol
        by_cases hroom:len+n<=c
        ·-- in place
         have hc0:¬c=0:=by omega
         obtain rfl:o'=d+o:=by
          rcases ho' with h|h
          · exact h
          · exact absurd h hc0
         have hkt:d+o+c*k<=tt:=by
          rcases hk with h|h
          · exact absurd h hc0
          · exact h
         have hmul:(len+n)*k<=c*k:=Nat.mul_le_mul_right k hroom;rw [Nat.add_mul] at hmul;have hfit:d+o+len*k+new'.length<=cc.size:=by rw [hnl,hst];omega
         have hstore:=N5 P bb (d+o+len*k) ee new' 0 cc w hb (by omega) (hv.ones ho);rw [Nat.add_zero] at hstore
         have hrun:=run_append_room (ty:=ty) hA hroom (w':=K1 w bb (.cells (setList cc.toList (d+o+len*k) new').toArray ee (0,0))) (by
          show (storeCells ((⟨bb,d+o,none⟩:Addr).add (len*k)) new').run P w=_
          rw [E0];exact hstore)
         have hsetl:(setList cc.toList (d+o+len*k) new').length=cc.size:=by rw [J5,Array.length_toList]
         have htail:=A2b cc.toList new' (d+o) (len*k) (by rw [Array.length_toList];omega);have hold':(cc.toList.drop (d+o)).take (len*k)=old':=by
          apply List.ext_getElem?;grind [A1q]
         have ht:=r.turn (k:=nx) (d':=d+o) (ver:=0) hgi hφi rfl hφ hg (body:=.cells (old++new) ee false) (ob:=.cells (setList cc.toList (d+o+len*k) new').toArray ee (0,0)) (by
          refine ⟨by simp [hsetl,hst],rfl,fun _=>rfl,Y3 hoo ho,?_⟩;have hl2:(old++new).length=len*k+new'.length:=by rw [List.length_append,holdl,hv.length]
          rw [hl2];show VRels _ _ (((setList cc.toList (d+o+len*k) new').drop (d+o)).take (len*k+new'.length));rw [htail,hold']
          exact (hvo.append hv).mono (Loc.put_le hφ))
         refine ⟨_,_,.slice (some ⟨bb,d+o,none⟩) (len+n) c,.inl (by simp only [Sem.run_bind,hrun,Result.andThen_ok,Sem.run_pure]),?_,ht.1,ht.2⟩;exact VRel.sliceU (len+n) c (d+o) k (Loc.put_same φ nx bb (d+o) tt) hroom (.inl rfl) (.inr hkt)
        ·-- a new block
         obtain ⟨cap2,hle2,hrun⟩:=A1N (ty:=ty) hA (by omega) hsm hbb (old:=old') (fun w1 hw1=>by
          rcases ho' with rfl|rfl
          ·exact K9 hol rfl hcell w1 hw1
          ·obtain rfl:len=0:=by omega
           have:old'=[]:=List.eq_nil_of_length_eq_zero (by simpa using hol);subst this
           exact K9 hol rfl (fun j v h=>by simp at h) w1 hw1)
         have hcells:VRels φ (old++new) ((old'++new'++rep z.cells.toList (cap2 - (len+n))).take (old++new).length):=by
          rw [List.length_append,<-hvo.length,<-hv.length,<-List.length_append,List.take_left];exact hvo.append hv
         have hd:=A2a (r.drop i) hφ hcells (Y3 hoo ho) (e:=ee) (ro:=false) (fr:=(0,0)) (fun _=>rfl)
          (v:=.slice (some ⟨nx,0,none⟩) (len+n) (D3+k)) (v':=.slice (some ⟨w.heap.size,0,none⟩) (len+n) cap2) (by
           refine VRel.sliceU (len+n) cap2 0 k (Loc.put_same _ _ _ _ _) hle2 (.inl rfl) (.inr ?_);have hzl:=hA.hzs;rw [List.length_append,List.length_append,X6,hzl,hol,hnl,Nat.zero_add,<-Nat.add_mul,<-Nat.add_mul]
           exact Nat.mul_le_mul_right k (by omega)) (Drawn.drew w) rfl
         obtain ⟨ψ,w',v',hr,hvv,hrel,hstp⟩:=hd;refine ⟨ψ,w',v',?_,hvv,hrel,?_⟩
         ·simp_all
         ·exact (Stp.drop i nx).trans hstp (Nat.le_refl _) (Nat.le_succ _)
      ·cases h
    ·cases h
   ·-- the capacity is known
    rename_i hcap;have hcap:¬D3<=cap:=by simpa using hcap
    rw [D4] at h;split at h
    ·-- there is room
     rename_i hroom;have hroom:=of_decide_eq_true hroom;split at h
     ·rename_i a;cases hst:F8 g (a.add (len*s)) new with
      |none=>rw [hst] at h;cases h
      |some δ=>
       rw [hst] at h;cases h;obtain ⟨i,o2,ver,vs,ee,hai,hgi,hle,rfl⟩:=Q1 hst;cases hx with
       |sliceU n c o' k hφi hn ho' hk=>omega
       |slice0 _ _ _=>omega
       |@slice i2 o bb d tt _ _ hφi hn hlt=>
        rw [E0] at hai;cases hai;obtain ⟨cc,fr,hb,hsz,hfr,h1,hvs,hszle⟩:=r.cells hgi hφi;obtain rfl:=hfr rfl;have hA:=hargs len cap _ rfl
        by_cases h0:new.length=0
        ·-- no cells
         have e1:new=[]:=List.eq_nil_of_length_eq_zero h0;have e2:new'=[]:=List.eq_nil_of_length_eq_zero (by rw [hv.length];exact h0);have hrun:=run_append_room (ty:=ty) hA hroom (w':=w) (by subst e2;rfl);have hw:=r.write (ver:=ver+1) hgi hφi rfl (body:=.cells vs ee false) (ob:=.cells cc ee (0,0)) ⟨hsz,rfl,fun _=>rfl,h1,hvs⟩ nx;rw [T3 _ _ _ hb] at hw;subst e1
         exact ⟨φ,w,.slice (some ⟨bb,d+o,none⟩) (len+n) cap,.inl (by simp only [Sem.run_bind,hrun,Result.andThen_ok,Sem.run_pure]),.slice _ _ hφi hroom hlt,hw.1,hw.2⟩
        ·have hpos:¬vs.length=0:=by omega
         rw [if_neg hpos] at hszle;have hfit:d+(o+len*s)+new'.length<=cc.size:=by rw [hv.length];omega
         have hstore:=N5 P bb (d+(o+len*s)) ee new' 0 cc w hb (by omega) (hv.ones ho);rw [Nat.add_zero] at hstore
         have hrun:=run_append_room (ty:=ty) hA hroom (w':=K1 w bb (.cells (setList cc.toList (d+(o+len*s)) new').toArray ee (0,0))) (by
          show (storeCells ((⟨bb,d+o,none⟩:Addr).add (len*s)) new').run P w=_
          rw [E0,Nat.add_assoc];exact hstore)
         have hw:=r.write (ver:=ver+1) hgi hφi rfl (ORel.stored (e:=ee) hsz hvs h1 hv ho hle) nx;exact ⟨φ,_,.slice (some ⟨bb,d+o,none⟩) (len+n) cap,.inl (by simp only [Sem.run_bind,hrun,Result.andThen_ok,Sem.run_pure]),.slice _ _ hφi hroom hlt,hw.1,hw.2⟩
     ·cases h
    ·-- a new block
     rename_i hroom;have hroom:¬len+n<=cap:=by simpa using hroom
     split at h
     ·rename_i old hold;split at h
      ·rename_i hc;simp only [Bool.and_eq_true,D4,decide_eq_true_eq] at hc;obtain ⟨hsm,hbb⟩:=hc;cases h;have hφ:=hφ0 (Nat.lt_succ_self nx);have hg:=hg0 (Nat.lt_succ_self nx);have key:∀base' c' old',x'=.slice base' len c'->¬len+n<=c'->VRels φ old old'->old'.length=len*s->ones old=true->(∀w1,w1.heap=w.heap->(Builtin.firstCells s len x').run P w1=.ok old'.toArray w1)->
         Did W0 N0 φ g w nx ⟨.slice (some ⟨nx,0,none⟩) (len+n) (D3+s),[(nx,some ⟨0,.cells (old++new) e false⟩)],nx+1⟩ ((do pure (.value (<-Builtin.append_ #[t,u] ty #[x',y'])):Sem Next).run P w):=by
        intro base' c' old' hx' hnr hvo hol hoo hfc;have hA:=hargs len c' base' hx';obtain ⟨cap2,hle2,hrun⟩:=A1N (ty:=ty) hA (by omega) hsm hbb (old:=old') hfc;have hcells:VRels φ (old++new) ((old'++new'++rep z.cells.toList (cap2 - (len+n))).take (old++new).length):=by
         rw [List.length_append,<-hvo.length,<-hv.length,<-List.length_append,List.take_left];exact hvo.append hv
        refine A2a r hφ hcells (Y3 hoo ho) (e:=e) (ro:=false) (fr:=(0,0)) (fun _=>rfl)
         (v:=.slice (some ⟨nx,0,none⟩) (len+n) (D3+s)) (v':=.slice (some ⟨w.heap.size,0,none⟩) (len+n) cap2) (by
          refine VRel.sliceU (len+n) cap2 0 s (Loc.put_same _ _ _ _ _) hle2 (.inl rfl) (.inr ?_);have hzl:=hA.hzs;rw [List.length_append,List.length_append,X6,hzl,hol,hnl,Nat.zero_add,<-Nat.add_mul,<-Nat.add_mul]
          exact Nat.mul_le_mul_right s (by omega)) (Drawn.drew w) (by simp only [Sem.run_bind,hrun,Result.andThen_ok,Sem.run_pure])
       cases hx with
       |sliceN=>
        simp only at hold;cases hold;exact key none 0 [] rfl (by omega) .nil (by simp) rfl (fun w1 _=>rfl)
       |sliceU n c o' k hφi hn ho' hk=>omega
       |slice0 i o a2=>
        simp only [Nat.zero_mul] at hold;have hl0:=W7 hold;subst hl0;exact key (some a2) 0 [] rfl (by omega) .nil (by simp) rfl (fun w1 _=>X2 s a2 0 w1)
       |@slice i o bb d tt _ _ hφi hn hlt=>
        simp only at hold;obtain ⟨old',hvo,hol,hoo,hcell⟩:=r.loads hold rfl hφi;grind [K9]
      ·cases h
     ·cases h
 ·cases h
end
section
variable {P:Program} {W0:World} {N0:Nat} {φ:Loc} {g:Hp} {w:World} {nx:Nat}
theorem B7I (r:Rel W0 N0 φ g w) {t u ty e:TypeId} (ht:P.underlying t=some (.slice e)) {s:Nat} (hs:G2 P e=some s) {base src:Option Addr} {n m c c2:Nat} {x' y':Value} (hx:VRel φ (.slice base n c) x') (hy:VRel φ (.slice src m c2) y'):
  (Nat.min m n=0->Did W0 N0 φ g w nx ⟨.int .i64 0,[],nx⟩ ((do pure (.value (<-Builtin.copy_ #[t,u] ty #[x',y'])):Sem Next).run P w))/\
  (∀a b l δ,base=some a->src=some b->B8 g b (Nat.min m n*s)=some l->F8 g a l=some δ->
   Did W0 N0 φ g w nx ⟨.int .i64 (.ofNat (Nat.min m n)),δ,nx⟩ ((do pure (.value (<-Builtin.copy_ #[t,u] ty #[x',y'])):Sem Next).run P w)):=by
 constructor
 ·intro h0;refine I0 r (.int _ _) ?_;have hx':∃b' c',x'=.slice b' n c':=by cases hx<;>exact ⟨_,_,rfl⟩
  have hy':∃b' c',y'=.slice b' m c':=by cases hy<;>exact ⟨_,_,rfl⟩
  obtain ⟨b1,c1,rfl⟩:=hx';obtain ⟨b2,c3,rfl⟩:=hy';have hf:(Builtin.firstCells s 0 (.slice b2 m c3)).run P w=.ok #[] w:=by
   cases b2<;>simp [Builtin.firstCells,loadCells,loadCellsFrom]
  simp only [Builtin.copy_,List.getElem?_toArray,List.getElem?_cons_zero,List.getElem?_cons_succ,Sem.run_bind,run_underlying ht,Result.andThen_ok,Builtin.lenOf,Sem.run_pure,E8 hs,h0,hf];cases b1<;>simp [storeCells,goInt]
 ·rintro a b l δ rfl rfl hl hδ;obtain ⟨i,o2,ver,vs,ee,rfl,hgi,hle,rfl⟩:=Q1 hδ;have key:∀b' o' c1,x'=.slice (some ⟨b',o',none⟩) n c1->∀d tt,φ i=some (b',d,tt)->o'=d+o2->∀l',VRels φ l l'->ones l=true->(∃bb cc,y'=.slice bb m cc)->(∀w1,w1.heap=w.heap->(Builtin.firstCells s (Nat.min m n) y').run P w1=.ok l'.toArray w1)->
    Did W0 N0 φ g w nx ⟨.int .i64 (.ofNat (Nat.min m n)),[(i,some ⟨ver+1,.cells (setList vs o2 l) ee false⟩)],nx⟩ ((do pure (.value (<-Builtin.copy_ #[t,u] ty #[x',y'])):Sem Next).run P w):=by
   rintro b' o' c1 rfl d tt hφi rfl l' hv hol ⟨bb,cc2,rfl⟩ hf;obtain ⟨cc,fr,hb,hsz,hfr,h1,hvs,hszle⟩:=r.cells hgi hφi;obtain rfl:=hfr rfl;have hw:=r.write (ver:=ver+1) hgi hφi rfl (ORel.stored (e:=ee) hsz hvs h1 hv hol hle) nx;have hrun:∃w',(storeCells ⟨b',d+o2,none⟩ l').run P w=.ok () w'/\w'=K1 w b' (.cells (setList cc.toList (d+o2) l').toArray ee (0,0)):=by
    by_cases h0:l.length=0
    ·have e1:l'=[]:=List.eq_nil_of_length_eq_zero (by rw [hv.length];exact h0);subst e1;refine ⟨w,rfl,?_⟩;simp_all [setList,T3]
    ·have hpos:¬vs.length=0:=by omega
     rw [if_neg hpos] at hszle;have:=N5 P b' (d+o2) ee l' 0 cc w hb (by rw [hv.length];omega) (hv.ones hol);grind
   obtain ⟨w',hst,rfl⟩:=hrun;refine ⟨φ,_,.int .i64 (.ofNat (Nat.min m n)),.inl ?_,.int _ _,hw.1,hw.2⟩;simp only [Builtin.copy_,List.getElem?_toArray,List.getElem?_cons_zero,List.getElem?_cons_succ,Sem.run_bind,run_underlying ht,Result.andThen_ok,Builtin.lenOf,Sem.run_pure,E8 hs,hf w rfl,hst];rfl
  have src':∃l',VRels φ l l'/\ones l=true/\(∃bb cc,y'=.slice bb m cc)/\∀w1,w1.heap=w.heap->(Builtin.firstCells s (Nat.min m n) y').run P w1=.ok l'.toArray w1:=by
   cases hy with
   |@slice i2 o b2 d tt _ _ hφ2 hn hlt=>
    obtain ⟨l',hv,hlen,ho,hc⟩:=r.loads hl rfl hφ2;grind [K9]
   |@sliceU i2 o b2 d tt _ c' o' k hφ2 hn ho' hk=>
    obtain ⟨l',hv,hlen,ho,hc⟩:=r.loads hl rfl hφ2;rcases ho' with rfl|rfl
    ·grind [K9]
    ·have h0:Nat.min m n=0:=by have:=Nat.min_le_left m n;show min m n=0;omega
     grind [K9]
   |slice0 i2 o a2=>
    have h0:Nat.min 0 n=0:=Nat.zero_min n;rw [h0,Nat.zero_mul] at hl;have hl0:=W7 hl;subst hl0;exact ⟨[],.nil,rfl,⟨_,_,rfl⟩,fun w1 _=>by rw [h0];exact X2 s a2 0 w1⟩
  obtain ⟨l',hv,ho,hyy,hf⟩:=src';cases hx with
  |slice0 i3 o3 a3=>
   have h0:Nat.min m 0=0:=Nat.min_zero m;rw [h0] at hl hf ⊢;rw [Nat.zero_mul] at hl;have hl0:=W7 hl;subst hl0;have hl1:l'=[]:=by cases hv;rfl
   subst hl1;obtain ⟨b5,d5,t5,ob5,q1,q2,q3,q4⟩:=r.obj _ _ hgi;have hwr:Hp.upd g [(i,some ⟨ver+1,.cells (setList vs o2 []) ee false⟩)]=Hp.set1 g i (some ⟨ver+1,.cells vs ee false⟩):=rfl;have hw:=r.write (ver:=ver+1) hgi q1 rfl (body:=.cells vs ee false) (ob:=ob5) q3 nx;rw [T3 _ _ _ q2] at hw;obtain ⟨bb,cc2,rfl⟩:=hyy;refine ⟨φ,w,.int .i64 (.ofNat 0),.inl ?_,.int _ _,hw.1,hw.2⟩
   simp only [Builtin.copy_,List.getElem?_toArray,List.getElem?_cons_zero,List.getElem?_cons_succ,Sem.run_bind,run_underlying ht,Result.andThen_ok,Builtin.lenOf,Sem.run_pure,E8 hs,h0,hf w rfl,storeCells];rfl
  |@slice _ _ b1 d tt _ _ hφi hn hlt=>grind
  |@sliceU _ _ b1 d tt _ c' o' k hφi hn ho' hk=>
   rcases ho' with rfl|rfl
   ·grind
   ·-- nothing fits
    have hn0:n=0:=by omega
    subst hn0;have h0:Nat.min m 0=0:=Nat.min_zero m;rw [h0] at hl hf ⊢;obtain ⟨i5,o5,ver5,vs5,e5,ro5,he5,hg5,hle5,hl5⟩:=P0 hl;have hl0:l=[]:=by rw [hl5];simp
    subst hl0;have hl1:l'=[]:=by cases hv;rfl
    subst hl1;obtain ⟨cc,fr,hb,hsz,hfr,h1,hvs,hszle⟩:=r.cells hgi hφi;obtain rfl:=hfr rfl;have hw:=r.write (ver:=ver+1) hgi hφi rfl (body:=.cells vs ee false) (ob:=.cells cc ee (0,0)) ⟨hsz,rfl,fun _=>rfl,h1,hvs⟩ nx;rw [T3 _ _ _ hb] at hw;obtain ⟨bb,cc2,rfl⟩:=hyy;refine ⟨φ,w,.int .i64 (.ofNat 0),.inl ?_,.int _ _,hw.1,hw.2⟩
    simp only [Builtin.copy_,List.getElem?_toArray,List.getElem?_cons_zero,List.getElem?_cons_succ,Sem.run_bind,run_underlying ht,Result.andThen_ok,Builtin.lenOf,Sem.run_pure,E8 hs,h0,hf w rfl,storeCells];rfl
theorem ERels.length {l l':List MapEntry} (h:ERels φ l l'):l'.length=l.length:=by
 induction l generalizing l' with
 |nil=>cases l' with|nil=>rfl|cons=>exact h.elim
 |cons x l ih=>cases l' with|nil=>exact h.elim|cons y l'=>simp [ih h.2.2.2]
theorem ERels.get {l l':List MapEntry} (h:ERels φ l l'):∀{i:Nat} {e:MapEntry},l[i]? =some e->∃e',l'[i]? =some e'/\VRel φ e.key e'.key/\VRel φ e.val e'.val:=by
 induction l generalizing l' with
 |nil=>grind
 |cons x l ih=>
  cases l' with
  |nil=>exact h.elim
  |cons y l'=>
   intro i e he;cases i with
   |zero=>simp at he;subst he;exact ⟨y,rfl,h.1,h.2.1⟩
   |succ i=>simp at he;obtain ⟨e',h1,h2⟩:=ih h.2.2.2 he;exact ⟨e',by simpa using h1,h2⟩
theorem ERels.push {l l':List MapEntry} (h:ERels φ l l') {e e':MapEntry} (hk:VRel φ e.key e'.key) (hv:VRel φ e.val e'.val) (hb:e'.born=e.born):ERels φ (l++[e]) (l'++[e']):=by
 induction l generalizing l' with
 |nil=>cases l' with|nil=>exact ⟨hk,hv,hb,trivial⟩|cons=>exact h.elim
 |cons x l ih=>cases l' with|nil=>exact h.elim|cons y l'=>exact ⟨h.1,h.2.1,h.2.2.1,ih h.2.2.2⟩
theorem ERels.modify {l l':List MapEntry} (h:ERels φ l l') {k k' v v':Value} (hk:VRel φ k k') (hv:VRel φ v v'):∀i,ERels φ (l.modify i fun e=>{ e with key:=k,val:=v }) (l'.modify i fun e=>{ e with key:=k',val:=v' }):=by
 induction l generalizing l' with
 |nil=>cases l' with|nil=>intro i;simp;trivial|cons=>exact h.elim
 |cons x l ih=>
  cases l' with
  |nil=>exact h.elim
  |cons y l'=>
   intro i;cases i with
   |zero=>exact ⟨hk,hv,h.2.2.1,h.2.2.2⟩
   |succ i=>exact ⟨h.1,h.2.1,h.2.2.1,ih h.2.2.2 i⟩
def C70 (φ:Loc):Option (Nat×Value)->Option (Nat×Value)->Prop
 |none,none=>True
 |some (i,v),some (j,v')=>j=i/\VRel φ v v'
 |_,_=>False
theorem A2H (r:Rel W0 N0 φ g w) {kt:TypeId} {k:EqK} (hk:eqT P kt=some k) {x x':Value} (hx:VRel φ x x'):∀(es es':List MapEntry) (i:Nat) (q:Option (Nat×Value)),ERels φ es es'->S8 g k x es i=some q->
  ∃q',(Instr.findAsking kt x' es' i).run P w=.ok q' w/\C70 φ q q'
 |[],[],i,q,_,h=>by simp only [S8] at h;cases h;exact ⟨none,rfl,trivial⟩
 |e::es,e'::es',i,q,hr,h=>by
  simp only [S8] at h;cases he:xeq g k x e.key with
  |none=>rw [he] at h;cases h
  |some b=>
   rw [he] at h;have hrun:(Op.equal kt x' e'.key).run P w=.ok b w:=N9 fun d=>A6Y r hk hx hr.1 he d
   cases b with
   |true=>simp only at h;cases h;exact ⟨some (i,e'.val),by simp only [Instr.findAsking,Sem.run_bind,hrun,Result.andThen_ok,if_true,Sem.run_pure],rfl,hr.2.1⟩
   |false=>
    simp only at h;obtain ⟨q',h1,h2⟩:=A2H r hk hx es es' (i+1) q hr.2.2.2 h;exact ⟨q',by simp only [Instr.findAsking,Sem.run_bind,hrun,Result.andThen_ok,Bool.false_eq_true,if_false];exact h1,h2⟩
 |[],_::_,_,_,h,_=>h.elim
 |_::_,[],_,_,h,_=>h.elim
theorem A5X {kt:TypeId} {u:TypeDesc} (hu:P.underlying kt=some u) {x y:Value} {b:Bool} (h:Instr.sameNow u x y=some b):(Op.equal kt x y).run P w=.ok b w:=by
 unfold Instr.sameNow at h;split at h
 ·split at h
  ·rename_i hkk;subst hkk;refine (run_equalIn_int w 9999 kt _ _ _ _ hu).trans ?_;grind
  ·cases h
 ·refine (run_equalIn_string w 9999 kt _ _ hu).trans ?_;simp only [Option.some.injEq] at h;rw [<-beq_toListBytes,h]
 ·refine (run_equalIn_bool' w 9999 kt _ _ hu).trans ?_;simp only [Option.some.injEq] at h;rw [h]
 ·cases h
theorem A4t {kt:TypeId} {u:TypeDesc} (hu:P.underlying kt=some u) {x':Value}:∀(es':List MapEntry) (i:Nat) (q:Option (Nat×Value)),Instr.findNow u x' es' i=some q->(Instr.findAsking kt x' es' i).run P w=.ok q w
 |[],i,q,h=>by simp only [Instr.findNow] at h;cases h;rfl
 |e::es',i,q,h=>by
  simp only [Instr.findNow] at h;split at h
  ·rename_i hs;cases h;have hrun:=A5X (P:=P) (w:=w) hu hs;simp only [Instr.findAsking,Sem.run_bind,hrun,Result.andThen_ok,if_true,Sem.run_pure]
  ·rename_i hs;have hrun:=A5X (P:=P) (w:=w) hu hs;simp only [Instr.findAsking,Sem.run_bind,hrun,Result.andThen_ok,Bool.false_eq_true,if_false];exact A4t hu es' (i+1) q h
  ·cases h
theorem A5Y (r:Rel W0 N0 φ g w) {kt:TypeId} {k:EqK} (hk:eqT P kt=some k) {x x':Value} (hx:VRel φ x x') {es es':List MapEntry} {q:Option (Nat×Value)} (he:ERels φ es es') (h:S8 g k x es 0=some q):
  ∃q',(Instr.findKey kt x' es').run P w=.ok q' w/\C70 φ q q':=by
 obtain ⟨q',h1,h2⟩:=A2H r hk hx es es' 0 q he h;refine ⟨q',?_,h2⟩;cases hu:P.underlying kt with
 |none=>grind [eqT]
 |some u=>
  simp only [Instr.findKey,Sem.run_bind,run_underlying hu,Result.andThen_ok];cases hf:Instr.findNow u x' es' 0 with
  |none=>exact h1
  |some q2=>
   simp_all [A4t]
theorem A4u {kt:TypeId} {k:EqK} (hk:eqT P kt=some k) (b:Bool) (x':Value) (n:Nat):(Instr.checkKey b (n+1) kt x').run P w=.ok () w:=by
 unfold eqT at hk;cases hu:P.underlying kt with
 |none=>rw [hu] at hk;cases hk
 |some u=>
  rw [hu] at hk;simp only [Instr.checkKey,Sem.run_bind,run_underlying hu,Result.andThen_ok];cases u<;>simp at hk<;>rfl
theorem Rel.mapAt (r:Rel W0 N0 φ g w) {i ver:Nat} {es:List MapEntry} {clock:Nat} (hg:g i=some ⟨ver,.map es clock⟩) {b d t:Nat} (hφ:φ i=some (b,d,t)):
  d=0/\∃es',w.heap[b]? =some (.map es' clock)/\ERels φ es es'.toList:=by
 obtain ⟨b',d',t',ob,hφ',hb,ho,_⟩:=r.obj i _ hg;simp_all [ORel]<;>grind
theorem R7 {b:Nat} {es:Array MapEntry} {clock:Nat} (hb:w.heap[b]? =some (.map es clock)):(getObj b).run P w=.ok (.map es clock) w:=by
 simp only [getObj,Sem.run,hb]
theorem A2w {b:Nat} {es:Array MapEntry} {clock:Nat} (hb:w.heap[b]? =some (.map es clock)) (o:Obj):(setObj b o).run P w=.ok () (K1 w b o):=by
 simp only [setObj,Sem.run,hb];rfl
theorem B3T (r:Rel W0 N0 φ g w) {t kt et:TypeId} (hu:P.underlying t=some (.map kt et)) {k:EqK} (hk:eqT P kt=some k) {z:Value} (hz:V6 P et=some z) {m m' x x':Value} (hm:VRel φ m m') (hx:VRel φ x x') (ok:Bool):
  (m=.map none->Did W0 N0 φ g w nx ⟨match ok with|true=>.tuple #[z,.bool false]|false=>z,[],nx⟩ ((do pure (.value (<-Instr.lookup t m' x' ok)):Sem Next).run P w))/\
  (∀i ver es clock q,m=.map (some i)->g i=some ⟨ver,.map es clock⟩->S8 g k x es 0=some q->
   Did W0 N0 φ g w nx ⟨match q with|some (_,v)=>(match ok with|true=>.tuple #[v,.bool true]|false=>v)|none=>(match ok with|true=>.tuple #[z,.bool false]|false=>z),[],nx⟩ ((do pure (.value (<-Instr.lookup t m' x' ok)):Sem Next).run P w)):=by
 have hzp:=VRel.plain φ z (T4 hz);have hck:∀b,(Instr.checkKey b 10000 kt x').run P w=.ok () w:=fun b=>A4u hk b x' 9999
 have hzr:VRel φ (match ok with|true=>.tuple #[z,.bool false]|false=>z) (match ok with|true=>.tuple #[z,.bool false]|false=>z):=by
  cases ok
  ·exact hzp
  ·exact .tuple (.cons hzp (.cons (.bool _) .nil))
 constructor
 ·rintro rfl;cases hm;refine I0 r hzr ?_;have hu0:∃u,P.underlying kt=some u:=by
   grind [eqT]
  obtain ⟨u,hku⟩:=hu0;have hf:(Instr.findKey kt x' []).run P w=.ok none w:=by
   simp only [Instr.findKey,Sem.run_bind,run_underlying hku,Result.andThen_ok,Instr.findNow,Sem.run_pure]
  simp only [Instr.lookup,Sem.run_bind,run_underlying hu,Result.andThen_ok,Sem.run_pure,hck,hf,M8 hz];cases ok<;>rfl
 ·rintro i ver es clock q rfl hgi hf;cases hm with
  |@map _ b tt hφi=>
   obtain ⟨_,es',hb,hes⟩:=r.mapAt hgi hφi;obtain ⟨q',h1,h2⟩:=A5Y r hk hx hes hf;cases q with
   |none=>
    cases q' with
    |some p=>exact h2.elim
    |none=>
     refine I0 r hzr ?_;simp only [Instr.lookup,Sem.run_bind,run_underlying hu,Result.andThen_ok,Sem.run_pure,R7 hb,hck,h1,M8 hz];cases ok<;>rfl
   |some p=>
    obtain ⟨j,v⟩:=p;cases q' with
    |none=>exact h2.elim
    |some p'=>
     obtain ⟨j',v'⟩:=p';obtain ⟨rfl,hv⟩:=h2;refine I0 r (y:=match ok with|true=>.tuple #[v',.bool true]|false=>v') ?_ ?_
     ·cases ok
      ·exact hv
      ·exact .tuple (.cons hv (.cons (.bool _) .nil))
     ·simp only [Instr.lookup,Sem.run_bind,run_underlying hu,Result.andThen_ok,Sem.run_pure,R7 hb,hck,h1];cases ok<;>rfl
end
section
variable {P:Program} {W0:World} {N0:Nat} {φ:Loc} {g:Hp} {w:World} {nx:Nat}
theorem B7J {kt:TypeId} {k:EqK} (hk:eqT P kt=some k) {x x' y y':Value} (hx:VRel φ x x') (hy:VRel φ y y') (h:xeq g k x y=some true):y'=x'/\Instr.sameBits 10000 y' x'=true:=by
 have key:y'=x'->Instr.sameBits 10000 x' x'=true->y'=x'/\Instr.sameBits 10000 y' x'=true:=by rintro rfl h;exact ⟨rfl,h⟩
 unfold eqT at hk;cases hu:P.underlying kt with
 |none=>rw [hu] at hk;cases hk
 |some u=>
  rw [hu] at hk;cases u<;>simp only at hk<;>try (cases hk;done)
  case bool=>
   cases hk;unfold xeq at h;split at h<;>first|(cases h;done)|skip
   all_goals first|contradiction|skip
   cases hx;cases hy;rename_i a b _;have:a=b:=by cases a<;>cases b<;>simp at h<;>rfl
   subst this;exact ⟨rfl,by simp [Instr.sameBits]⟩
  case int kk=>
   cases hk;unfold xeq at h;split at h<;>first|(cases h;done)|skip
   all_goals first|contradiction|skip
   cases hx;cases hy;split at h
   ·rename_i hkk;have:=A0U hkk;subst this;rw [U3] at h;have:=of_decide_eq_true (Option.some.inj h);subst this;exact ⟨rfl,by simp [Instr.sameBits]⟩
   ·cases h
  case string=>
   cases hk;unfold xeq at h;split at h<;>first|(cases h;done)|skip
   all_goals first|contradiction|skip
   cases hx;cases hy;rename_i a b _;rw [beqBytes_eq] at h;have h2:a.data.toList=b.data.toList:=eq_of_beq (Option.some.inj h);obtain ⟨⟨a⟩⟩:=a;obtain ⟨⟨b⟩⟩:=b;simp only at h2;subst h2;exact ⟨rfl,by simp [Instr.sameBits,beq_toListBytes]⟩
  case pointer e=>
   cases hs:G2 P e with
   |none=>rw [hs] at hk;cases hk
   |some n=>
    cases n with
    |zero=>rw [hs] at hk;cases hk
    |succ n=>
     rw [hs] at hk;cases hk;unfold xeq at h;split at h<;>first|(cases h;done)|skip
     all_goals first|contradiction|skip
     ·cases hx;cases hy with
      |ptrN=>(repeat constructor)<;>grind
      |ptr _=>simp at h
     ·rename_i i o j o' _;split at h
      ·rw [D8,D8] at h;simp only [Option.some.injEq,Bool.and_eq_true,decide_eq_true_eq] at h;obtain ⟨rfl,rfl⟩:=h;cases hx with
       |ptr h1=>
        cases hy with
        |ptr h2=>
         rw [h1] at h2;cases h2;exact ⟨rfl,by simp [Instr.sameBits]⟩
      ·cases h
theorem B1J {k:EqK} {x:Value}:∀(es:List MapEntry) (i j:Nat) (v:Value),S8 g k x es i=some (some (j,v))->i<=j/\∃e,es[j - i]? =some e/\xeq g k x e.key=some true
 |[],i,j,v,h=>by simp only [S8] at h;cases h
 |e::es,i,j,v,h=>by
  simp only [S8] at h;cases he:xeq g k x e.key with
  |none=>rw [he] at h;cases h
  |some b=>
   rw [he] at h;cases b with
   |true=>grind
   |false=>
    simp only at h;obtain ⟨h1,e',h2,h3⟩:=B1J es (i+1) j v h;grind
theorem A3A (r:Rel W0 N0 φ g w) {t kt et:TypeId} (hu:P.underlying t=some (.map kt et)) {k:EqK} (hk:eqT P kt=some k) {i ver clock:Nat} {es:List MapEntry} {m' x x' v v':Value} (hm:VRel φ (.map (some i)) m') (hx:VRel φ x x') (hv:VRel φ v v')
  (hgi:g i=some ⟨ver,.map es clock⟩) {q:Option (Nat×Value)} (hf:S8 g k x es 0=some q):
  Did W0 N0 φ g w nx ⟨undef,[(i,some ⟨ver+1,match q with|some (j,_)=>.map (es.modify j fun e=>{ e with key:=x,val:=v }) clock|none=>.map (es++[{ key:=x,val:=v,born:=clock }]) (clock+1)⟩)],nx⟩
   ((do Instr.mapUpdate t m' x' v';pure .skip:Sem Next).run P w):=by
 have hck:∀b,(Instr.checkKey b 10000 kt x').run P w=.ok () w:=fun b=>A4u hk b x' 9999
 cases hm with
 |@map _ b tt hφi=>
  obtain ⟨_,es',hb,hes⟩:=r.mapAt hgi hφi;obtain ⟨q',h1,h2⟩:=A5Y r hk hx hes hf;cases q with
  |none=>
   cases q' with
   |some p=>exact h2.elim
   |none=>
    have hw:=r.write (ver:=ver+1) hgi hφi rfl (body:=.map (es++[{ key:=x,val:=v,born:=clock }]) (clock+1)) (ob:=.map (es'.push { key:=x',val:=v',born:=clock }) (clock+1))
     ⟨rfl,rfl,by rw [Array.toList_push];exact hes.push hx hv rfl⟩ nx
    refine ⟨φ,_,undef,.inr ⟨?_,rfl⟩,VRel.undef φ,hw.1,hw.2⟩;simp only [Instr.mapUpdate,Sem.run_bind,run_underlying hu,Result.andThen_ok,R7 hb,hck,h1,A2w hb,Sem.run_pure]
  |some p=>
   obtain ⟨j,u⟩:=p;cases q' with
   |none=>exact h2.elim
   |some p'=>
    obtain ⟨j',u'⟩:=p';obtain ⟨rfl,_⟩:=h2;obtain ⟨_,e,he,hxe⟩:=B1J es 0 j' u hf;rw [Nat.sub_zero] at he;obtain ⟨e',he',hke,hve⟩:=hes.get he;obtain ⟨heq,hsame⟩:=B7J hk hx hke hxe;have hold:((es'[j']?).map (·.key)).getD x'=e'.key:=by
     grind
    have hw:=r.write (ver:=ver+1) hgi hφi rfl (body:=.map (es.modify j' fun e=>{ e with key:=x,val:=v }) clock) (ob:=.map (es'.modify j' fun e=>{ e with key:=x',val:=v' }) clock)
     ⟨rfl,rfl,by rw [Array.toList_modify];exact hes.modify hx hv j'⟩ nx
    refine ⟨φ,_,undef,.inr ⟨?_,rfl⟩,VRel.undef φ,hw.1,hw.2⟩;simp only [Instr.mapUpdate,Sem.run_bind,run_underlying hu,Result.andThen_ok,R7 hb,hck,h1,hold,Instr.keyThatStays,hsame,if_true,Sem.run_pure,A2w hb]
theorem B3U (r:Rel W0 N0 φ g w) (hφ:φ nx=none) (t:TypeId):
  Did W0 N0 φ g w nx ⟨.map (some nx),[(nx,some ⟨0,.map [] 0⟩)],nx+1⟩ ((do pure (.value (<-Instr.makeMap t none)):Sem Next).run P w):=by
 have h:=r.new (i:=nx) hφ (body:=.map [] 0) (ob:=.map #[] 0) (ver:=0) (t:=0) ⟨rfl,rfl,trivial⟩;refine ⟨_,_,.map (some w.heap.size),.inl ?_,.map (Loc.put_same _ _ _ _ _),h.1,h.2⟩;constructor<;>grind
theorem B3V (r:Rel W0 N0 φ g w) {xt t:TypeId} {z:Value} (hu:(match P.underlying t,V6 P t with|some (.interface _),_=>none|some _,some z=>some z|_,_=>none)=some z) {x x':Value} (hx:VRel φ x x') (ok:Bool):
  (∀v,x=.iface t v->Did W0 N0 φ g w nx ⟨match ok with|true=>.tuple #[v,.bool true]|false=>v,[],nx⟩ ((do pure (.value (<-Instr.typeAssert x' xt t ok)):Sem Next).run P w))/\
  (ok=true->(∀u v,x=.iface u v->u≠t->Did W0 N0 φ g w nx ⟨.tuple #[z,.bool false],[],nx⟩ ((do pure (.value (<-Instr.typeAssert x' xt t ok)):Sem Next).run P w))/\
   (x=.nilIface->Did W0 N0 φ g w nx ⟨.tuple #[z,.bool false],[],nx⟩ ((do pure (.value (<-Instr.typeAssert x' xt t ok)):Sem Next).run P w))):=by
 cases hp:P.underlying t with
 |none=>rw [hp] at hu;cases hu
 |some u=>
  rw [hp] at hu;have hz:V6 P t=some z/\(∀ms,u≠.interface ms):=by
   grind
  obtain ⟨hz,hni⟩:=hz;have hzr:VRel φ (.tuple #[z,.bool false]) (.tuple #[z,.bool false]):=.tuple (.cons (VRel.plain φ z (T4 hz)) (.cons (.bool _) .nil));refine ⟨?_,?_⟩
  ·rintro v rfl;cases hx with
   |@iface _ _ v' hv=>
    refine I0 r (y:=match ok with|true=>.tuple #[v',.bool true]|false=>v') ?_ ?_
    ·cases ok
     ·exact hv
     ·exact .tuple (.cons hv (.cons (.bool _) .nil))
    ·simp only [Instr.typeAssert,Sem.run_bind,run_underlying hp,Result.andThen_ok];simp_all<;>grind
  ·rintro rfl;refine ⟨?_,?_⟩
   ·rintro q v rfl hne;cases hx with
    |@iface _ _ v' hv=>
     refine I0 r hzr ?_;simp only [Instr.typeAssert,Sem.run_bind,run_underlying hp,Result.andThen_ok];simp_all [M8]
   ·rintro rfl;cases hx;refine I0 r hzr ?_;simp only [Instr.typeAssert,Sem.run_bind,run_underlying hp,Result.andThen_ok];simp_all [M8]
theorem B1K (r:Rel W0 N0 φ g w) {vs:Array Value} {x':Value} (hx:VRel φ (.tuple vs) x') {i:Nat} {v:Value} (h:vs.toList[i]? =some v):
  Did W0 N0 φ g w nx ⟨v,[],nx⟩ ((do pure (.value (<-Instr.extract x' i)):Sem Next).run P w):=by
 cases hx with
 |@tuple _ vs' hv=>
  obtain ⟨v',h1,h2⟩:=hv.get h;rw [Array.getElem?_toList] at h1;refine I0 r h2 ?_;simp only [Instr.extract,h1,Sem.run_pure]
theorem A2I:∀{l l':List Value} {ns:List (IntKind×Int)},VRels φ l l'->U1 l=some ns->l'=l/\l=ns.map fun p=>.int p.1 p.2
 |[],_,ns,.nil,h=>by simp only [U1] at h;cases h;exact ⟨rfl,rfl⟩
 |v::l,_,ns,.cons hv hl,h=>by
  cases v<;>simp only [U1] at h<;>first|(cases h;done)|skip
  case int k n=>
   cases hv;cases hr:U1 l with
   |none=>rw [hr] at h;cases h
   |some q=>
    rw [hr] at h;cases h;obtain ⟨h1,h2⟩:=A2I hl hr;grind
theorem B1L (k:IntKind):∀(r:List (IntKind×Int)) (n:Int),(∀p∈r,True)->((r.map fun p=>Value.int p.1 p.2).foldlM Builtin.max2 (.int k n)).run P w=.ok (.int k (r.foldl (fun a b=>match ltInt a b.2 with|true=>b.2|false=>a) n)) w
 |[],n,_=>rfl
 |(j,m)::r,n,h=>by
  rw [List.map_cons,List.foldlM_cons];have:Builtin.max2 (.int k n) (.int j m)=pure (.int k (if m>n then m else n)):=rfl;simp_all [B1L,G7]<;>grind
theorem B1M (k:IntKind):∀(r:List (IntKind×Int)) (n:Int),((r.map fun p=>Value.int p.1 p.2).foldlM Builtin.min2 (.int k n)).run P w=.ok (.int k (r.foldl (fun a b=>match ltInt b.2 a with|true=>b.2|false=>a) n)) w
 |[],n=>rfl
 |(j,m)::r,n=>by
  rw [List.map_cons,List.foldlM_cons];have:Builtin.min2 (.int k n) (.int j m)=pure (.int k (if m<n then m else n)):=rfl;simp_all [B1M,G7]<;>grind
end
section
variable (P:Program)
def N8 (op:Op):Prop:=∀{W0:World} {N0:Nat} {φ:Loc} {g:Hp} {w:World} {nx:Nat} {xo:XOp} {ρ ρ':Operand->Value} {p:PR} (o:Oper),o.op=op->
 F4 P op=some xo->(∀x∈op.operands.toList,VRel φ (ρ x) (ρ' x))->B0 g nx ρ xo=some p->Rel W0 N0 φ g w->(nx<p.nx->φ nx=none)->(nx<p.nx->g nx=none)->Did W0 N0 φ g w nx p ((execOp ρ' o).run P w)
end
section
variable {P:Program}
theorem B3W (x:Operand):N8 P (.move x):=by
 intro W0 N0 φ g w nx xo ρ ρ' p o ho hc hr hx r hφ hg;simp only [F4] at hc;cases hc;simp only [B0] at hx;cases hx;refine H4 r (hr x (by simp [Op.operands])) ?_;simp only [execOp,ho,Sem.run_pure]
theorem B0O (x:Operand):N8 P (.assign x):=by
 intro W0 N0 φ g w nx xo ρ ρ' p o ho hc hr hx r hφ hg;simp only [F4] at hc;cases hc;simp only [B0] at hx;cases hx;refine H4 r (hr x (by simp [Op.operands])) ?_;simp only [execOp,ho,Sem.run_pure]
theorem B3X (c a b:Operand):N8 P (.pick c a b):=by
 intro W0 N0 φ g w nx xo ρ ρ' p o ho hc hr hx r hφ hg;simp only [F4] at hc;cases hc;have h1:=hr c (by simp [Op.operands]);have h2:=hr a (by simp [Op.operands]);have h3:=hr b (by simp [Op.operands]);simp only [B0] at hx;split at hx
 ·rename_i h;rw [h] at h1;cases hx;have:ρ' c=.bool true:=by cases hq:ρ' c<;>rw [hq] at h1<;>cases h1;rfl
  refine H4 r h2 ?_;simp only [execOp,ho,this,asBool,Sem.run_bind,Sem.run_pure,Result.andThen_ok,if_true]
 ·rename_i h;rw [h] at h1;cases hx;have:ρ' c=.bool false:=by cases hq:ρ' c<;>rw [hq] at h1<;>cases h1;rfl
  refine H4 r h3 ?_;simp only [execOp,ho,this,asBool,Sem.run_bind,Sem.run_pure,Result.andThen_ok,Bool.false_eq_true,if_false]
 ·cases hx
theorem B1N (e:TypeId):N8 P (.alloc e):=by
 intro W0 N0 φ g w nx xo ρ ρ' p o ho hc hr hx r hφ hg;simp only [F4] at hc;cases hz:V6 P e with
 |none=>rw [hz] at hc;cases hc
 |some z=>
  rw [hz] at hc;cases hc;simp only [B0] at hx;split at hx
  ·cases hx
  ·rename_i ho1;cases hx;have:=B6h (P:=P) (nx:=nx) r (hφ (Nat.lt_succ_self nx)) hz ho1;simp only [execOp,ho];exact this
theorem B6k (e:TypeId) (x:Operand):N8 P (.box e x):=by
 intro W0 N0 φ g w nx xo ρ ρ' p o ho hc hr hx r hφ hg;simp only [F4] at hc;cases hc;simp only [B0] at hx;split at hx
 ·cases hx
 ·rename_i ho1;cases hx;have:=C0s (P:=P) (nx:=nx) r (hφ (Nat.lt_succ_self nx)) (e:=e) (hr x (by simp [Op.operands])) ho1;simp only [execOp,ho];exact this
theorem B3Y (t:TypeId) (x:Operand):N8 P (.load t x):=by
 intro W0 N0 φ g w nx xo ρ ρ' p o ho hc hr hx r hφ hg;have h1:=hr x (by simp [Op.operands]);simp only [F4] at hc;split at hc
 ·rename_i n ha hn;cases hc;simp only [B0] at hx;split at hx
  ·rename_i a hp;rw [hp] at h1;split at hx
   ·rename_i l hl;cases hx;have:=(B1B (P:=P) (nx:=nx) r hn h1 hl).1 ha;simp only [execOp,ho];exact this
   ·cases hx
  ·cases hx
 ·rename_i ha hn;cases hc;simp only [B0] at hx;split at hx
  ·rename_i a hp;rw [hp] at h1;split at hx
   ·rename_i v hl;cases hx;have:=(B1B (P:=P) (nx:=nx) r hn h1 hl).2 ha v rfl;simp only [execOp,ho];exact this
   ·cases hx
  ·cases hx
 ·cases hc
theorem B1O (t:TypeId) (x y:Operand):N8 P (.store t x y):=by
 intro W0 N0 φ g w nx xo ρ ρ' p o ho hc hr hx r hφ hg;have h1:=hr x (by simp [Op.operands]);have h2:=hr y (by simp [Op.operands]);simp only [F4] at hc;cases hn:G2 P t with
 |none=>rw [hn] at hc;cases hc
 |some n=>
  rw [hn] at hc;cases hc;simp only [B0] at hx;split at hx
  ·rename_i a hp;rw [hp] at h1;split at hx
   ·rename_i hcond;simp only [Bool.and_eq_true,D8,decide_eq_true_eq] at hcond;split at hx
    ·rename_i δ hδ;cases hx;have:=B6f (P:=P) (nx:=nx) r hn h1 h2 hcond.1 hcond.2 hδ;simp only [execOp,ho];exact this
    ·cases hx
   ·cases hx
  ·cases hx
theorem A73 (x:Operand):N8 P (.nilCheck x):=by
 intro W0 N0 φ g w nx xo ρ ρ' p o ho hc hr hx r hφ hg;have h1:=hr x (by simp [Op.operands]);simp only [F4] at hc;cases hc;simp only [B0] at hx;split at hx
 ·rename_i a hp;cases hx;rw [hp] at h1;refine H4 r h1 ?_;cases hq:ρ' x<;>rw [hq] at h1<;>cases h1
  simp only [execOp,ho,hq,Sem.run_pure]
 ·rename_i f a b hp;cases hx;rw [hp] at h1;refine H4 r h1 ?_;cases hq:ρ' x<;>rw [hq] at h1<;>cases h1
  simp only [execOp,ho,hq,Sem.run_pure]
 ·cases hx
theorem B7K (u:UnOp) (t:TypeId) (x:Operand):N8 P (.unOp u t x):=by
 intro W0 N0 φ g w nx xo ρ ρ' p o ho hc hr hx r hφ hg;have h1:=hr x (by simp [Op.operands]);simp only [F4] at hc;cases hc;simp only [B0] at hx;cases hv:xun u (ρ x) with
 |none=>rw [hv] at hx;cases hx
 |some v=>
  rw [hv] at hx;cases hx;have:=C2z (P:=P) (nx:=nx) r h1 hv;simp only [execOp,ho];exact this
theorem B6l (b:BinOp) (t:TypeId) (x y:Operand) (pos:TypeId):N8 P (.binOp b t x y pos):=by
 intro W0 N0 φ g w nx xo ρ ρ' p o ho hc hr hx r hφ hg;have h1:=hr x (by simp [Op.operands]);have h2:=hr y (by simp [Op.operands]);simp only [F4,B57] at hc;have kbin:xo=.bin b x y->Did W0 N0 φ g w nx p ((execOp ρ' o).run P w):=by
  rintro rfl;simp only [B0] at hx;cases hv:A6S b (ρ x) (ρ y) with
  |none=>rw [hv] at hx;cases hx
  |some v=>
   rw [hv] at hx;cases hx;have:=C0r (P:=P) (nx:=nx) (t:=t) (x:=x) (y:=y) r h1 h2 hv;simp only [execOp,ho];exact this
 have keq:∀k neg,(b=.eql/\neg=false\/b=.neq/\neg=true)->A6w P t x y=some k->xo=.eq k neg x y->Did W0 N0 φ g w nx p ((execOp ρ' o).run P w):=by
  rintro k neg hop hk rfl;simp only [B0] at hx;cases hv:xeq g k (ρ x) (ρ y) with
  |none=>rw [hv] at hx;cases hx
  |some v=>
   rw [hv] at hx;cases hx;have:=C2A (P:=P) (nx:=nx) r hop hk h1 h2 hv;simp only [execOp,ho];exact this
 split at hc
 ·grind
 ·grind
 ·split at hc
  ·simp_all<;>grind
  ·simp_all<;>grind
  ·cases hc
theorem A8T (t:TypeId) (x:Operand):N8 P (.makeInterface t x):=by
 intro W0 N0 φ g w nx xo ρ ρ' p o ho hc hr hx r hφ hg;have h1:=hr x (by simp [Op.operands]);simp only [F4] at hc;split at hc
 ·cases hc
 ·cases hc
 ·rename_i u hni hu;cases hc;simp only [B0] at hx;cases hx;refine H4 r (.iface t h1) ?_;simp only [execOp,ho,Instr.makeInterface,Sem.run_bind,run_underlying hu,Result.andThen_ok];simp_all
theorem VRels.of_map {φ:Loc} {ρ ρ':Operand->Value}:∀{l:List Operand},(∀x∈l,VRel φ (ρ x) (ρ' x))->VRels φ (l.map ρ) (l.map ρ')
 |[],_=>.nil
 |x::l,h=>.cons (h x (by simp)) (VRels.of_map fun y hy=>h y (by simp [hy]))
theorem B0P (fn:Fn) (a b:Array Operand):N8 P (.makeFunc fn a b):=by
 intro W0 N0 φ g w nx xo ρ ρ' p o ho hc hr hx r hφ hg;simp only [F4] at hc;cases hc;simp only [B0] at hx;cases hx;have h1:VRels φ (a.toList.map ρ) (a.toList.map ρ'):=VRels.of_map fun x hx=>hr x (by simp only [Op.operands,Array.toList_append];exact List.mem_append_left _ hx)
 have h2:VRels φ (b.toList.map ρ) (b.toList.map ρ'):=VRels.of_map fun x hx=>hr x (by simp only [Op.operands,Array.toList_append];exact List.mem_append_right _ hx)
 refine H4 r (v':=.func fn (a.map ρ') (b.map ρ')) (.func fn (by simpa using h1) (by simpa using h2)) ?_;simp only [execOp,ho,Instr.makeFunc,Sem.run_bind,Sem.run_pure,Result.andThen_ok]
theorem B1P (t:TypeId) (x:Option Operand):N8 P (.makeMap t x):=by
 intro W0 N0 φ g w nx xo ρ ρ' p o ho hc hr hx r hφ hg;cases x with
 |some x=>grind [F4]
 |none=>
  simp only [F4] at hc;cases hc;simp only [B0] at hx;cases hx;have:=B3U (P:=P) (nx:=nx) r (hφ (Nat.lt_succ_self nx)) t;simp only [execOp,ho];exact this
theorem A8U (t:TypeId) (l c:Operand):N8 P (.makeSlice t l c):=by
 intro W0 N0 φ g w nx xo ρ ρ' p o ho hc hr hx r hφ hg;have h1:=hr l (by simp [Op.operands]);have h2:=hr c (by simp [Op.operands]);simp only [F4] at hc;split at hc
 ·rename_i e hu;split at hc
  ·rename_i z s b hz hs hb;split at hc
   ·rename_i hzs;cases hc;simp only [B0] at hx;split at hx
    ·rename_i ln cn hl hcn;rw [hl] at h1;rw [hcn] at h2;split at hx
     ·rename_i hcond;simp only [Bool.and_eq_true,D4,decide_eq_true_eq] at hcond;cases hx;have:=B1G (P:=P) (nx:=nx) r (hφ (Nat.lt_succ_self nx)) hu hz hs hb hzs hcond.1.1.1 hcond.1.1.2 hcond.1.2 hcond.2;have e1:ρ' l=.int .i64 (.ofNat ln):=by cases hq:ρ' l<;>rw [hq] at h1<;>cases h1;rfl
      have e2:ρ' c=.int .i64 (.ofNat cn):=by cases hq:ρ' c<;>rw [hq] at h2<;>cases h2;rfl
      simp only [execOp,ho,e1,e2];exact this
     ·cases hx
    ·cases hx
   ·cases hc
  ·cases hc
 ·cases hc
end
section
variable {P:Program}
theorem A9e {ps:Array (Nat×Operand)} {R:Operand->Prop} (h:∀x∈(ps.toList.map (·.2)),R x):∀p∈ps,R p.2:=
 fun p hp=>h p.2 (List.mem_map_of_mem (Array.mem_toList_iff.2 hp))
theorem B1Q (t:TypeId) (ps:Array (Nat×Operand)):N8 P (.build t ps):=by
 intro W0 N0 φ g w nx xo ρ ρ' p o ho hc hr hx r hφ hg;have hp:=A9e (ps:=ps) (R:=fun x=>VRel φ (ρ x) (ρ' x)) (by simpa [Op.operands] using hr);have key:∀zl l,xo=.build zl l->Did W0 N0 φ g w nx p ((execOp ρ' o).run P w):=by
  rintro zl l rfl;simp only [B0] at hx;split at hx
  ·rename_i cs hcs;cases hx;have:=B6i (P:=P) (nx:=nx) r hc rfl hp hcs;simp only [execOp,ho];exact this
  ·cases hx
 simp only [F4] at hc;split at hc
 ·simp_all<;>grind
 ·split at hc
  ·simp_all<;>grind
  ·cases hc
 ·cases hc
theorem A5m (t:TypeId) (n:Nat) (ps:Array (Nat×Operand)):N8 P (.buildSlice t n ps):=by
 intro W0 N0 φ g w nx xo ρ ρ' p o ho hc hr hx r hφ hg;have hp:=A9e (ps:=ps) (R:=fun x=>VRel φ (ρ x) (ρ' x)) (by simpa [Op.operands] using hr);have key:∀e s zl len l,xo=.buildSlice e s zl len l->Did W0 N0 φ g w nx p ((execOp ρ' o).run P w):=by
  rintro e s zl len l rfl;simp only [B0] at hx;split at hx
  ·rename_i cs hcs;split at hx
   ·cases hx
   ·rename_i ho1;cases hx;have:=A71 (P:=P) (nx:=nx) r (hφ (Nat.lt_succ_self nx)) hc rfl hp hcs ho1;simp only [execOp,ho];exact this
  ·cases hx
 simp only [F4] at hc;split at hc
 ·split at hc
  ·simp_all<;>grind
  ·cases hc
 ·cases hc
theorem A8V (s d:TypeId) (x:Operand):N8 P (.convert s d x):=by
 intro W0 N0 φ g w nx xo ρ ρ' p o ho hc hr hx r hφ hg;have h1:=hr x (by simp [Op.operands]);simp only [F4] at hc;obtain ⟨c1,c2,c3,c4,c5⟩:=B1I (P:=P) (nx:=nx) r hc h1;simp only [execOp,ho];have hform:(∃k,xo=.toInt k x)\/xo=.keep x\/xo=.bytesToStr x\/∃e,xo=.strToBytes e x:=by
  grind [A1r]
 rcases hform with ⟨k,rfl⟩|rfl|rfl|⟨e,rfl⟩
 ·simp_all<;>grind [B0]
 ·grind [B0]
 ·simp only [B0] at hx;split at hx
  ·rename_i n c hv;cases hx;have h2:=h1;rw [hv] at h2;have:ρ x=.slice none 0 0:=by
    rw [hv];cases hq:ρ' x<;>rw [hq] at h2<;>cases h2;rfl
   exact c3 rfl this
  ·grind
  ·cases hx
 grind [B0,D4]
theorem B1R (t:TypeId) (x:Operand) (lo hi mx:Option Operand):N8 P (.slice t x lo hi mx):=by
 intro W0 N0 φ g w nx xo ρ ρ' p o ho hc hr hx r hφ hg;have h1:=hr x (by simp [Op.operands]);have hl:ORelV φ (lo.map ρ) (lo.map ρ'):=ORelV.map fun y hy=>hr y (by simp [Op.operands];simp at hy;simp [hy])
 have hh:ORelV φ (hi.map ρ) (hi.map ρ'):=ORelV.map fun y hy=>hr y (by simp [Op.operands];simp at hy;simp [hy])
 have hm:ORelV φ (mx.map ρ) (mx.map ρ'):=ORelV.map fun y hy=>hr y (by simp [Op.operands];simp at hy;simp [hy])
 simp only [execOp,ho];simp only [F4,A9a] at hc;have arr:∀n e s,(P.underlying t=some (.array n e)\/∃r,P.underlying t=some (.pointer r)/\P.underlying r=some (.array n e))->G2 P e=some s->n<D3->xo=.sliceArr n s x lo hi mx->
   Did W0 N0 φ g w nx p ((do pure (.value (<-Instr.sliceAt t (ρ' x) (lo.map ρ') (hi.map ρ') (mx.map ρ'))):Sem Next).run P w):=by
  rintro n e s hu hs hn rfl;simp only [B0] at hx;split at hx
  ·rename_i a hv;rw [hv] at h1;split at hx
   ·rename_i l h m hb;cases hx;exact B0L r hu hs h1 hl hh hm hb hn
   ·cases hx
  ·cases hx
 split at hc
 ·rename_i hu;split at hc
  ·cases hc;simp only [B0] at hx;split at hx
   ·rename_i s hv;rw [hv] at h1;split at hx
    ·rename_i l h m hb;cases hx;have e1:ρ' x=.string s:=by cases hq:ρ' x<;>rw [hq] at h1<;>cases h1;rfl
     grind [B0K]
    ·cases hx
   ·cases hx
  ·cases hc
 ·rename_i e hu;cases hs:G2 P e with
  |none=>rw [hs] at hc;cases hc
  |some s=>
   rw [hs] at hc;cases hc;simp only [B0] at hx;cases hv:A0G s (ρ x) (lo.map ρ) (hi.map ρ) (mx.map ρ) with
   |none=>rw [hv] at hx;cases hx
   |some v=>
    rw [hv] at hx;cases hx;grind [B6j]
 ·simp_all<;>grind
 ·rename_i q hu;split at hc
  ·simp_all<;>grind
  ·cases hc
 ·cases hc
theorem A6x (s:TypeId) (x:Operand) (f:Nat):N8 P (.fieldAddr s x f):=by
 intro W0 N0 φ g w nx xo ρ ρ' p o ho hc hr hx r hφ hg;have h1:=hr x (by simp [Op.operands]);simp only [execOp,ho];simp only [F4] at hc;split at hc
 ·rename_i fs hu;split at hc
  ·rename_i fd hf;split at hc
   ·rename_i n hs;grind [B0,B7H]
   ·cases hc
  ·cases hc
 ·cases hc
theorem B1S (s:TypeId) (x:Operand) (f:Nat):N8 P (.field s x f):=by
 intro W0 N0 φ g w nx xo ρ ρ' p o ho hc hr hx r hφ hg;have h1:=hr x (by simp [Op.operands]);simp only [execOp,ho];simp only [F4] at hc;split at hc
 ·rename_i fs hu;split at hc
  ·rename_i fd hf;split at hc
   ·rename_i n ha hs;grind [B0,A9d]
   ·rename_i n ha hs;cases hc;simp only [B0] at hx;split at hx
    ·rename_i cs hv;rw [hv] at h1;split at hx
     ·rename_i v hcv;cases hx;exact (A9d r hu hf hs h1).2 ha _ hcv
     ·cases hx
    ·cases hx
   ·cases hc
  ·cases hc
 ·cases hc
theorem A5n {φ:Loc} {k:IntKind} {n:Int} {v v':Value} (h:VRel φ v v') (e:v=.int k n):v'=.int k n:=by
 subst e;cases h;rfl
theorem A6y (t:TypeId) (x i:Operand):N8 P (.indexAddr t x i):=by
 intro W0 N0 φ g w nx xo ρ ρ' p o ho hc hr hx r hφ hg;have h1:=hr x (by simp [Op.operands]);have h2:=hr i (by simp [Op.operands]);simp only [execOp,ho];simp only [F4] at hc;split at hc
 ·rename_i e hu;cases hs:G2 P e with
  |none=>rw [hs] at hc;cases hc
  |some s=>
   rw [hs] at hc;cases hc;simp only [B0] at hx;split at hx
   ·grind [G6,A5n,A8S]
   ·cases hx
 ·rename_i n e hu;cases hs:G2 P e with
  |none=>rw [hs] at hc;cases hc
  |some s=>
   rw [hs] at hc;cases hc;simp only [B0] at hx;split at hx
   ·grind [G6,A5n,A5l]
   ·cases hx
 ·cases hc
theorem B1T (t:TypeId) (x i:Operand):N8 P (.index t x i):=by
 intro W0 N0 φ g w nx xo ρ ρ' p o ho hc hr hx r hφ hg;have h1:=hr x (by simp [Op.operands]);have h2:=hr i (by simp [Op.operands]);simp only [execOp,ho];simp only [F4] at hc;split at hc
 ·rename_i hu;cases hc;simp only [B0] at hx;split at hx
  ·rename_i s k iv hv hiv;rw [hv] at h1;split at hx
   ·rename_i b hb;cases hx;have e1:ρ' x=.string s:=by cases hq:ρ' x<;>rw [hq] at h1<;>cases h1;rfl
    grind [A5n,B0M]
   ·cases hx
  ·cases hx
 ·rename_i n e hu;split at hc
  ·rename_i s ha hs;cases hc;simp only [B0] at hx;split at hx
   ·grind [G6,A5n,A4s]
   ·cases hx
  ·rename_i ha hs;cases hc;simp only [B0] at hx;split at hx
   ·rename_i cs k iv hv hiv;rw [hv] at h1;split at hx
    ·rename_i hlt;simp only [G6,decide_eq_true_eq] at hlt;split at hx
     ·rename_i v hcv;cases hx;rw [A5n h2 hiv];exact (A4s r hu hs h1 hlt).2 ha rfl _ hcv
     ·cases hx
    ·cases hx
   ·cases hx
  ·cases hc
 ·cases hc
theorem B0Q (t:TypeId) (m x:Operand) (ok:Bool):N8 P (.lookup t m x ok):=by
 intro W0 N0 φ g w nx xo ρ ρ' p o ho hc hr hx r hφ hg;have h1:=hr m (by simp [Op.operands]);have h2:=hr x (by simp [Op.operands]);simp only [execOp,ho];simp only [F4] at hc;split at hc
 ·rename_i kt et hu;split at hc
  ·rename_i e z he hz;cases hc;have hd:=B3T (P:=P) (nx:=nx) r hu he hz h1 h2 ok;simp_all<;>grind [B0]
  ·cases hc
 ·cases hc
theorem A2x (t:TypeId) (m x v:Operand):N8 P (.mapUpdate t m x v)/\N8 P (.insert t m x v):=by
 have key:∀{W0:World} {N0:Nat} {φ:Loc} {g:Hp} {w:World} {nx:Nat} {xo:XOp} {ρ ρ':Operand->Value} {p:PR},
   F4 P (.mapUpdate t m x v)=some xo->VRel φ (ρ m) (ρ' m)->VRel φ (ρ x) (ρ' x)->VRel φ (ρ v) (ρ' v)->B0 g nx ρ xo=some p->Rel W0 N0 φ g w->Did W0 N0 φ g w nx p ((do Instr.mapUpdate t (ρ' m) (ρ' x) (ρ' v);pure .skip:Sem Next).run P w):=by
  intro W0 N0 φ g w nx xo ρ ρ' p hc h1 h2 h3 hx r;simp only [F4] at hc;split at hc
  ·rename_i kt et hu;cases he:eqT P kt with
   |none=>rw [he] at hc;cases hc
   |some e=>
    rw [he] at hc;cases hc;simp only [B0] at hx;split at hx
    ·rename_i i hm;rw [hm] at h1;split at hx
     ·rename_i ver es clock hgi;split at hx
      ·rename_i j u hf;cases hx;exact A3A r hu he h1 h2 h3 hgi hf
      ·rename_i hf;cases hx;exact A3A r hu he h1 h2 h3 hgi hf
      ·cases hx
     ·cases hx
    ·cases hx
  ·cases hc
 constructor
 ·intro W0 N0 φ g w nx xo ρ ρ' p o ho hc hr hx r hφ hg;have h1:=hr m (by simp [Op.operands]);have h2:=hr x (by simp [Op.operands]);have h3:=hr v (by simp [Op.operands]);simp only [execOp,ho];exact key hc h1 h2 h3 hx r
 ·intro W0 N0 φ g w nx xo ρ ρ' p o ho hc hr hx r hφ hg;have h1:=hr m (by simp [Op.operands]);have h2:=hr x (by simp [Op.operands]);have h3:=hr v (by simp [Op.operands]);simp only [execOp,ho];exact key (by simpa only [F4] using hc) h1 h2 h3 hx r
theorem B0R (x:Operand) (s t:TypeId) (ok:Bool):N8 P (.typeAssert x s t ok):=by
 intro W0 N0 φ g w nx xo ρ ρ' p o ho hc hr hx r hφ hg;have h1:=hr x (by simp [Op.operands]);simp only [execOp,ho];simp only [F4] at hc;have hz:∃z,(match P.underlying t,V6 P t with|some (.interface _),_=>none|some _,some z=>some z|_,_=>none)=some z/\xo=.assertT t z x ok:=by
  grind
 obtain ⟨z,hz,rfl⟩:=hz;have hd:=B3V (P:=P) (nx:=nx) r (xt:=s) hz h1 ok;simp_all [B0,D8]<;>grind
theorem A8W (x:Operand) (i:Nat):N8 P (.extract x i):=by
 intro W0 N0 φ g w nx xo ρ ρ' p o ho hc hr hx r hφ hg;have h1:=hr x (by simp [Op.operands]);simp only [execOp,ho];grind [F4,B0,B1K]
end
section
variable {P:Program}
theorem B7L {l:Array Operand} {x y:Operand} (h:l.toList=[x,y]):l=#[x,y]:=Array.ext' (by simpa using h)
theorem B7M {l:Array Operand} {x:Operand} (h:l.toList=[x]):l=#[x]:=Array.ext' (by simpa using h)
theorem A1O (n:Nat):goInt n=.int .i64 (.ofNat n):=rfl
theorem A8X (b:Builtin) (args:Array Operand) (at_:Array TypeId):N8 P (.call { callee:=.builtin b,args:=args,argTypes:=at_ }):=by
 intro W0 N0 φ g w nx xo ρ ρ' p o ho hc hr hx r hφ hg;have hr':∀x∈args.toList,VRel φ (ρ x) (ρ' x):=fun x hx=>hr x (by simpa [Op.operands,Call.operands] using hx)
 have hrun:∀s:Sem Next,(∀c,builtin b at_ o.type c (args.map ρ')=s)->(execOp ρ' o).run P w=s.run P w:=by
  intro s h;simp only [execOp,ho,resolve,Sem.run_bind,Sem.run_pure,Result.andThen_ok,invoke,h]
 simp only [F4] at hc;unfold A5W at hc;split at hc
 ·-- len
  rename_i x t hargs hat;have h1:=hr' x (by rw [hargs];simp);obtain rfl:=B7M hargs;have hat':at_=#[t]:=Array.ext' (by simpa using hat);subst hat';rw [hrun (do pure (.value (<-Builtin.len_ #[t] o.type #[ρ' x]))) (fun c=>by simp [builtin])];split at hc
  ·rename_i hu;cases hc;simp only [B0] at hx;split at hx
   ·rename_i s hv;rw [hv] at h1;cases hx;have e1:ρ' x=.string s:=by cases hq:ρ' x<;>rw [hq] at h1<;>cases h1;rfl
    refine I0 r (.int _ _) ?_;have hs:s.data.toList.length=s.size:=by rw [Array.length_toList];rfl
    simp [Builtin.len_,Sem.run_bind,run_underlying hu,e1,A1O,hs]
   ·cases hx
  ·rename_i e hu;cases hc;simp only [B0] at hx;split at hx
   ·rename_i a n c hv;rw [hv] at h1;cases hx;refine I0 r (.int _ _) ?_;cases hq:ρ' x<;>rw [hq] at h1<;>cases h1<;>simp [Builtin.len_,Sem.run_bind,run_underlying hu,A1O]
   ·cases hx
  ·rename_i n e hu;cases hc;simp only [B0] at hx;cases hx;refine I0 r (.int _ _) ?_;simp [Builtin.len_,Sem.run_bind,run_underlying hu,A1O]
  ·rename_i kt et hu;cases hc;simp only [B0] at hx;split at hx
   ·rename_i hv;rw [hv] at h1;cases hx;have e1:ρ' x=.map none:=by cases hq:ρ' x<;>rw [hq] at h1<;>cases h1;rfl
    refine I0 r (.int _ _) ?_;simp [Builtin.len_,Sem.run_bind,run_underlying hu,e1];rfl
   ·rename_i i hv;rw [hv] at h1;split at hx
    ·rename_i ver es clock hgi;cases hx;cases hq:ρ' x<;>rw [hq] at h1<;>cases h1
     rename_i b tt hφi;obtain ⟨_,es',hb,hes⟩:=r.mapAt hgi hφi;refine I0 r (.int _ _) ?_;have hlen:es'.size=es.length:=by rw [<-Array.length_toList];exact hes.length
     simp [Builtin.len_,Sem.run_bind,run_underlying hu,A1O,R7 hb,hlen]
    ·cases hx
   ·cases hx
  ·rename_i q hu;split at hc
   ·rename_i n e hu2;cases hc;simp only [B0] at hx;cases hx;refine I0 r (.int _ _) ?_;simp [Builtin.len_,Sem.run_bind,run_underlying hu,run_underlying hu2,A1O]
   ·cases hc
  ·cases hc
 ·-- cap
  rename_i x t hargs hat;have h1:=hr' x (by rw [hargs];simp);obtain rfl:=B7M hargs;have hat':at_=#[t]:=Array.ext' (by simpa using hat);subst hat';rw [hrun (do pure (.value (<-Builtin.cap_ #[t] o.type #[ρ' x]))) (fun c=>by simp [builtin])];split at hc
  ·rename_i e hu;cases hc;simp only [B0] at hx;split at hx
   ·rename_i a n c hv;rw [hv] at h1;split at hx
    ·cases hx
    ·rename_i hlt;simp only [D4,decide_eq_false_iff_not] at hlt;cases hx;refine I0 r (.int _ _) ?_;cases hq:ρ' x<;>rw [hq] at h1<;>cases h1
     all_goals first|exact absurd (Nat.le_add_right _ _) hlt|(simp [Builtin.cap_,Sem.run_bind,run_underlying hu,A1O];done)
   ·cases hx
  ·cases hc
 ·-- append
  rename_i x y t u hargs hat;have h1:=hr' x (by rw [hargs];simp);have h2:=hr' y (by rw [hargs];simp);obtain rfl:=B7L hargs;have hat':at_=#[t,u]:=Array.ext' (by simpa using hat);subst hat';rw [hrun (do pure (.value (<-Builtin.append_ #[t,u] o.type #[ρ' x,ρ' y]))) (fun c=>by simp [builtin])];split at hc
  ·rename_i e k ht hu;split at hc
   ·rename_i z s b hz hs hb;split at hc
    ·rename_i hzs;cases hc;simp only [B0] at hx;split at hx
     ·rename_i n hv;rw [A5n h2 hv];split at hx
      ·rename_i hcond;simp only [Bool.and_eq_true,D4,decide_eq_true_eq] at hcond;have hcp:=VRels.refl_plain (φ:=φ) (T4 hz);rw [hzs] at hx;exact A72 r h1 (hcp.rep n) (by rw [X6,hzs]) (A6V hcond.2 n)
        (fun len c base hx'=>⟨ht,hz,hs,hb,hzs,hx',_,hu,.inr ⟨k,rfl,rfl,hcond.1.1,hcond.1.2,rfl⟩⟩) hx hφ hg
      ·cases hx
     ·cases hx
    ·cases hc
   ·cases hc
  ·rename_i e du hni ht hu;split at hc
   ·rename_i z s b hz hs hb;split at hc
    ·rename_i hzs;cases hc;simp only [B0] at hx;split at hx
     ·rename_i n l hsrc;obtain ⟨l',hv,hlen,hol,hlo,hfc⟩:=B0N (P:=P) r h2 hsrc;exact A72 r h1 hv hlen hol
       (fun len c base hx'=>⟨ht,hz,hs,hb,hzs,hx',du,hu,.inl ⟨fun k hk=>hni k hk,hlo,hfc⟩⟩) hx hφ hg
     ·cases hx
    ·cases hc
   ·cases hc
  ·cases hc
 ·-- copy
  rename_i x y t u hargs hat;have h1:=hr' x (by rw [hargs];simp);have h2:=hr' y (by rw [hargs];simp);obtain rfl:=B7L hargs;have hat':at_=#[t,u]:=Array.ext' (by simpa using hat);subst hat';rw [hrun (do pure (.value (<-Builtin.copy_ #[t,u] o.type #[ρ' x,ρ' y]))) (fun c=>by simp [builtin])];split at hc
  ·rename_i e ht;cases hs:G2 P e with
   |none=>rw [hs] at hc;cases hc
   |some s=>
    rw [hs] at hc;cases hc;simp only [B0] at hx;split at hx
    ·rename_i base n c src m c2 hv hv2;rw [hv] at h1;rw [hv2] at h2;have hd:=B7I (P:=P) (nx:=nx) (t:=t) (u:=u) (ty:=o.type) r ht hs h1 h2;grind
    ·cases hx
  ·cases hc
 ·-- max
  cases hc;rename_i at2;rw [hrun (do pure (.value (<-Builtin.max_ at_ o.type (args.map ρ')))) (fun c=>rfl)];simp only [B0] at hx;split at hx
  ·rename_i k n rest hall;cases hx;obtain ⟨e1,e2⟩:=A2I (VRels.of_map hr') hall;refine I0 r (.int _ _) ?_;have:(args.map ρ').toList=.int k n::rest.map fun p=>.int p.1 p.2:=by
    simp_all
   simp only [Builtin.max_,this];exact B1L k rest n (fun _ _=>trivial)
  ·cases hx
 ·cases hc;rw [hrun (do pure (.value (<-Builtin.min_ at_ o.type (args.map ρ')))) (fun c=>rfl)];simp only [B0] at hx;split at hx
  ·rename_i k n rest hall;cases hx;obtain ⟨e1,e2⟩:=A2I (VRels.of_map hr') hall;refine I0 r (.int _ _) ?_;have:(args.map ρ').toList=.int k n::rest.map fun p=>.int p.1 p.2:=by
    simp_all
   simp only [Builtin.min_,this];exact B1M k rest n
  ·cases hx
 ·grind [B0]
 ·grind [B0,U1]
 ·cases hc
theorem B3Z (c:Call):N8 P (.call c):=by
 obtain ⟨callee,args,at_⟩:=c;cases callee with
 |builtin b=>grind [A8X]
 |value x=>
  intro W0 N0 φ g w nx xo ρ ρ' p o ho hc hr hx r hφ hg;grind [F4,B0]
 |invoke a b=>
  intro W0 N0 φ g w nx xo ρ ρ' p o ho hc hr hx r hφ hg;grind [F4]
theorem A74:∀op:Op,N8 P op
 |.move x=>B3W x
 |.assign x=>B0O x
 |.pick c a b=>B3X c a b
 |.alloc e=>B1N e
 |.box e x=>B6k e x
 |.build t ps=>B1Q t ps
 |.buildSlice t n ps=>A5m t n ps
 |.load t a=>B3Y t a
 |.store t a x=>B1O t a x
 |.nilCheck x=>A73 x
 |.binOp b t x y u=>B6l b t x y u
 |.unOp u t x=>B7K u t x
 |.convert s d x=>A8V s d x
 |.makeInterface t x=>A8T t x
 |.makeFunc f a b=>B0P f a b
 |.makeMap t x=>B1P t x
 |.makeSlice t l c=>A8U t l c
 |.slice t x lo hi mx=>B1R t x lo hi mx
 |.fieldAddr s x f=>A6x s x f
 |.field s x f=>B1S s x f
 |.indexAddr t x i=>A6y t x i
 |.index t x i=>B1T t x i
 |.lookup t m k ok=>B0Q t m k ok
 |.mapUpdate t m k v=>(A2x t m k v).1
 |.insert t m k v=>(A2x t m k v).2
 |.typeAssert x s t ok=>B0R x s t ok
 |.extract x i=>A8W x i
 |.call c=>B3Z c
 |.panic x=>by
  grind [F4,B0]
 |.defer c=>by
  grind [F4,B0]
 |.ready _|.waits _|.sliceToArrayPointer _ _|.makeChan _ _|.mapEntry _ _ _|.entryStore _ _ _ _|.range _ _|.next _ _|.entry _|.go _|.send _ _|.recv _ _ _|.select _ _=>by
  grind [F4]
end
end
end Go.Xe
