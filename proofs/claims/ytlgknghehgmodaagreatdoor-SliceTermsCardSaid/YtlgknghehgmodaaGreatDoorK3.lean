/-
  A part of the proof: it is imported by YtlgknghehgmodaaGreatDoorTop. Nothing here is a claim of its own.
-/
import Derived.Test.YtlgknghehgmodaaGreatDoorK2
set_option linter.unusedVariables false
set_option linter.unusedSimpArgs false
set_option linter.unusedSectionVars false
section
namespace Go.Xt
open Go Go.Xe
structure TDfr where
 f:FuncId
 args:List TV
structure TAct where
 tm:Tri TV
 df:List TDfr
 clk:Nat
def undT:TV:=.tuple []
def TAct.ev (a:TAct):Operand→TV
 |.tmp t=>match a.tm.get t with
  |some v=>v
  |none=>undT
 |.const v=>ofV v
 |.global _=>.dead
 |.func f=>.func f [] []
def TAct.put (a:TAct) (d:Option Nat) (v:TV):TAct:=
 match d with
 |some t=>⟨a.tm.set t v,a.df,a.clk⟩
 |none=>a
def TAct.tick (a:TAct):TAct:=⟨a.tm,a.df,a.clk+1⟩
def frz1 (a:TAct):Operand→TAct
 |.tmp t=>match isOwn (a.ev (.tmp t)) with
  |true=>⟨a.tm.set t (frz (a.ev (.tmp t))),a.df,a.clk+1⟩
  |false=>a
 |_=>a
def frzs (a:TAct):List Operand→TAct
 |[]=>a
 |x::l=>frzs (frz1 a x) l
def taken (a:TAct):Operand→TAct
 |.tmp t=>match isOwn (a.ev (.tmp t)) with
  |true=>⟨a.tm.set t .dead,a.df,a.clk+1⟩
  |false=>a
 |_=>a
def ownChs:TV→Option (List (List TV))
 |.sl (.own _ _) c=>some c
 |_=>none
def reSl (chs:List (List TV)):TV→TV
 |.sl m _=>.sl m chs
 |v=>v
def boxAt (a:TAct) (t ser:Nat):Option (List TV×TypeId):=
 match a.ev (.tmp t) with
 |.bx s cs e=>match Nat.beq s ser with
  |true=>some (cs,e)
  |false=>none
 |_=>none
def boxPut (a:TAct) (t ser:Nat) (cs:List TV) (e:TypeId):TAct:=⟨a.tm.set t (.bx ser cs e),a.df,a.clk+1⟩
def TAct.at (a:TAct) (x:Operand):TV:=
 match a.ev x with
 |.bx s cs e=>match x with
  |.tmp t=>.vpt t 0 s
  |_=>.bx s cs e
 |v=>v
def plGet (a:TAct) (σ:Sto):Pl→Option (List (List TV))
 |.tmp t=>ownChs (a.ev (.tmp t))
 |.tcell t o s=>match boxAt a t s with
  |some (cs,_)=>match cs[o]? with
   |some v=>ownChs v
   |none=>none
  |none=>none
 |.cell k o=>match σ.at k with
  |some ⟨_,.cells vs _⟩=>match vs[o]? with
   |some v=>ownChs v
   |none=>none
  |_=>none
def velAt (a:TAct) (σ:Sto) (p:Pl) (c j:Nat):Option (List TV):=
 match Nat.beq c a.clk with
 |true=>match plGet a σ p with
  |some chs=>chs[j]?
  |none=>none
 |false=>none
def plSet (a:TAct) (σ:Sto) (f:TV→TV):Pl→TAct×Sto
 |.tmp t=>(⟨a.tm.set t (f (a.ev (.tmp t))),a.df,a.clk+1⟩,σ)
 |.tcell t o s=>match boxAt a t s with
  |some (cs,e)=>match cs[o]? with
   |some v=>(boxPut a t s (cs.set o (f v)) e,σ)
   |none=>(a.tick,σ)
  |none=>(a.tick,σ)
 |.cell k o=>match σ.at k with
  |some ⟨ver,.cells vs e⟩=>match vs[o]? with
   |some v=>(a.tick,σ.set k (some ⟨ver,.cells (vs.set o (f v)) e⟩))
   |none=>(a.tick,σ)
  |_=>(a.tick,σ)
def stok:TV→Bool
 |.via _ _=>false
 |.vel _ _ _ _=>false
 |.bx _ _ _=>false
 |.vpt _ _ _=>false
 |.dead=>false
 |_=>true
def srcT (a:TAct) (σ:Sto) (size:Nat):TV→Option (List (List TV))
 |.sl _ c=>some c
 |.via p ck=>match Nat.beq ck a.clk with
  |true=>plGet a σ p
  |false=>none
 |.ref k o s n _=>match σ.at k with
  |some ⟨_,.cells vs _⟩=>match Nat.beq s size&&Nat.ble (o+n*s) vs.length&& !((vs.drop o).take (n*s)).any isOwn with
   |true=>some (chop s n (vs.drop o))
   |false=>none
  |_=>none
 |.str s=>match size with
  |1=>some (s.data.toList.map fun b=>[.int .u8 b.toNat])
  |_=>none
 |_=>none
def bytesSrc (a:TAct) (σ:Sto):TV→Option (List (List TV))
 |.sl .fz []=>none
 |.sl m c=>some c
 |.via p ck=>match Nat.beq ck a.clk with
  |true=>plGet a σ p
  |false=>none
 |_=>none
def isStr:TV→Bool
 |.str _=>true
 |_=>false
def slOk (size:Nat):Md→List (List TV)→Bool
 |.own _ s,_=>Nat.beq s size
 |.nl,_=>true
 |.fz,[]=>false
 |.fz,_::_=>true
def apm (e s:Nat) (m:Md):List (List TV)→Md
 |[]=>m
 |_::_=>.own e s
def baseOk (b k:Nat) (l:List TV):Bool:=Nat.ble b k||below.belows 0 l
abbrev Tri3:=Option (TV×TAct×Sto)
def Pl.offX:Pl→Operand→Bool
 |.tmp t,.tmp t'=> !(Nat.beq t t')
 |_,_=>true
def Pl.old (b:Nat) (l:List TV):Pl→Bool
 |.cell k _=>baseOk b k l
 |_=>true
section
variable (md b:Nat) (a:TAct) (σ:Sto)
def tMove (x:Operand):Tri3:=
 match isOwn (a.ev x) with
 |false=>some (a.at x,a,σ)
 |true=>match x with
  |.tmp t=>match md with
   |1=>some (a.ev x,taken a x,σ)
   |2=>some (frz (a.ev x),frz1 a x,σ)
   |_=>some (.via (.tmp t) a.clk,a,σ)
  |_=>none
def tLoad1:TV→Tri3
 |.ptr k o=>match σ.at k with
  |some ⟨ver,.cells vs e⟩=>match vs[o]? with
   |some v=>match isOwn v with
    |false=>some (v,a,σ)
    |true=>match md with
     |1=>some (v,a.tick,σ.set k (some ⟨ver,.cells (vs.set o .dead) e⟩))
     |2=>some (frz v,a.tick,σ.set k (some ⟨ver,.cells (vs.set o (frz v)) e⟩))
     |_=>some (.via (.cell k o) a.clk,a,σ)
   |none=>none
  |_=>none
 |.vpt t o s=>match boxAt a t s with
  |some (cs,e)=>match cs[o]? with
   |some v=>match isOwn v with
    |false=>some (v,a,σ)
    |true=>match md with
     |1=>some (v,boxPut a t s (cs.set o .dead) e,σ)
     |2=>some (frz v,boxPut a t s (cs.set o (frz v)) e,σ)
     |_=>some (.via (.tcell t o s) a.clk,a,σ)
   |none=>none
  |none=>none
 |.elt ch o=>match ch[o]? with
  |some v=>some (v,a,σ)
  |none=>none
 |.vel p c j o=>match velAt a σ p c j with
  |some ch=>match ch[o]? with
   |some v=>some (v,a,σ)
   |none=>none
  |none=>none
 |_=>none
def tLoadN (n:Nat):TV→Tri3
 |.ptr k o=>match σ.at k with
  |some ⟨ver,.cells vs e⟩=>match Nat.ble (o+n) vs.length with
   |true=>match ((vs.drop o).take n).any isOwn with
    |false=>some (.agg ((vs.drop o).take n),a,σ)
    |true=>some (.agg (((vs.drop o).take n).map frz),a.tick,σ.set k (some ⟨ver,.cells (putAt vs o (((vs.drop o).take n).map frz)) e⟩))
   |false=>none
  |_=>none
 |.vpt t o s=>match boxAt a t s with
  |some (cs,e)=>match Nat.ble (o+n) cs.length with
   |true=>match ((cs.drop o).take n).any isOwn with
    |false=>some (.agg ((cs.drop o).take n),a,σ)
    |true=>some (.agg (((cs.drop o).take n).map frz),boxPut a t s (putAt cs o (((cs.drop o).take n).map frz)) e,σ)
   |false=>none
  |none=>none
 |.elt ch o=>match Nat.ble (o+n) ch.length with
  |true=>some (.agg ((ch.drop o).take n),a,σ)
  |false=>none
 |.vel p c j o=>match velAt a σ p c j with
  |some ch=>match Nat.ble (o+n) ch.length with
   |true=>some (.agg ((ch.drop o).take n),a,σ)
   |false=>none
  |none=>none
 |_=>none
def tStore (n:Nat) (x:Operand):TV→Tri3
 |.ptr k o=>match σ.at k with
  |some ⟨ver,.cells vs e⟩=>match Nat.beq (a.ev x).cells.length n&&onesT (a.ev x).cells&&Nat.ble (o+n) vs.length&&stok (a.ev x)&&baseOk b k (a.ev x).cells with
   |true=>some (undT,(taken a x).tick.tick,σ.set k (some ⟨ver+1,.cells (putAt vs o (a.ev x).cells) e⟩))
   |false=>none
  |_=>none
 |.vpt t o s=>match boxAt a t s with
  |some (cs,e)=>match Nat.beq (a.ev x).cells.length n&&onesT (a.ev x).cells&&Nat.ble (o+n) cs.length&&stok (a.ev x) with
   |true=>some (undT,(boxPut (taken a x) t s (putAt cs o (a.ev x).cells) e).tick,σ)
   |false=>none
  |none=>none
 |.vel p c j o=>match Nat.beq c a.clk&&p.offX x with
  |true=>match plGet a σ p,give (a.ev x) with
   |some chs,some v=>match chs[j]? with
    |some ch=>match Nat.beq v.cells.length n&&onesT v.cells&&Nat.ble (o+n) ch.length&&p.old b v.cells with
     |true=>some (undT,(plSet (frz1 a x) σ (reSl (chs.set j (putAt ch o v.cells))) p).1,(plSet (frz1 a x) σ (reSl (chs.set j (putAt ch o v.cells))) p).2)
     |false=>none
    |none=>none
   |_,_=>none
  |false=>none
 |_=>none
def tAppend (e size bytes:Nat) (x:Operand) (new:List (List TV)):Tri3:=
 match a.ev x with
 |.sl m c=>match m.app e size&&okSz size c&&okSz size new&&Nat.ble (c.length+new.length) small&&Nat.ble bytes 65536 with
  |true=>some (.sl (apm e size m new) (c++new),(taken a x).tick,σ)
  |false=>none
 |.ref k o s n c=>match new.isEmpty,σ.at k with
  |true,_=>some (.ref k o s n c,a,σ)
  |false,some ⟨_,.cells vs e'⟩=>match Nat.beq s size&&Nat.beq e' e&&okSz size new&&Nat.blt 0 new.length&&Nat.ble (o+n*s) vs.length&& !((vs.drop o).take (n*s)).any isOwn&&Nat.ble (n+new.length) small&&Nat.ble bytes 65536 with
   |true=>match Nat.beq c (capU+s) with
    |true=>some (.ref σ.length 0 s (n+new.length) (capU+s),a.tick.tick,(σ.set k none)++[some ⟨0,.cells ((vs.drop o).take (n*s)++new.flatten) e⟩])
    |false=>match Nat.blt c (n+new.length) with
     |true=>some (.ref σ.length 0 s (n+new.length) (capU+s),a.tick.tick,σ++[some ⟨0,.cells ((vs.drop o).take (n*s)++new.flatten) e⟩])
     |false=>none
   |false=>none
  |_,_=>none
 |_=>none
def tAppNew (e size bytes:Nat) (x:Operand) (new:List (List TV)):Tri3:=
 match a.ev x,new with
 |.sl .nl [],c::l=>match okSz size (c::l)&&Nat.ble (c::l).length small&&Nat.ble bytes 65536 with
  |true=>some (.ref σ.length 0 size (c::l).length (capU+size),a.tick.tick,σ++[some ⟨0,.cells (c::l).flatten e⟩])
  |false=>none
 |_,_=>tAppend a σ e size bytes x new
def tIndex (size:Nat) (x:Operand) (j:Nat):TV→Tri3
 |.sl (.own _ _) c=>match x,c[j]? with
  |.tmp t,some ch=>match Nat.beq ch.length size with
   |true=>some (.vel (.tmp t) a.clk j 0,a,σ)
   |false=>none
  |_,_=>none
 |.sl _ c=>match c[j]? with
  |some ch=>match Nat.beq ch.length size with
   |true=>some (.elt ch 0,a,σ)
   |false=>none
  |none=>none
 |.via p ck=>match Nat.beq ck a.clk with
  |true=>match plGet a σ p with
   |some chs=>match chs[j]? with
    |some ch=>match Nat.beq ch.length size with
     |true=>some (.vel p ck j 0,a,σ)
     |false=>none
    |none=>none
   |none=>none
  |false=>none
 |.ref k o s n c=>match Nat.beq s size&&Nat.blt j n with
  |true=>some (.ptr k (o+j*size),a,σ)
  |false=>none
 |_=>none
def tLen:TV→Option Nat
 |.sl _ c=>some c.length
 |.via p ck=>match Nat.beq ck a.clk with
  |true=>match plGet a σ p with
   |some chs=>some chs.length
   |none=>none
  |false=>none
 |.ref _ _ _ n _=>some n
 |_=>none
def tSlice (size:Nat) (x:Operand) (lo hi mx:Option TV):TV→Tri3
 |.sl m c=>match mx with
  |none=>match boundsT c.length c.length lo hi none with
   |some (l,h,_)=>match okSz size c&&slOk size m c with
    |true=>some (.sl m ((c.drop l).take (h - l)),taken a x,σ)
    |false=>none
   |none=>none
  |some _=>none
 |.via p ck=>match mx,Nat.beq ck a.clk with
  |none,true=>match plGet a σ p with
   |some c=>match boundsT c.length c.length lo hi none with
    |some (l,h,_)=>match okSz size c&&slOk size .fz c with
     |true=>some (.sl .fz ((c.drop l).take (h - l)),(plSet a σ frz p).1,(plSet a σ frz p).2)
     |false=>none
    |none=>none
   |none=>none
  |_,_=>none
 |.ref k o s n c=>match Nat.ble capU c with
  |true=>none
  |false=>match boundsT n c lo hi mx with
   |some (l,h,m)=>match Nat.beq s size with
    |true=>some (.ref k (match Nat.beq m l with|true=>o|false=>o+l*size) s (h - l) (m - l),a,σ)
    |false=>none
   |none=>none
 |_=>none
def tCopy (size:Nat) (x:TV) (src:List (List TV)):Tri3:=
 match x with
 |.ref k o s n c=>match σ.at k with
  |some ⟨ver,.cells vs e⟩=>
   match Nat.beq s size&&Nat.ble (o+n*s) vs.length&&okSz size src&&baseOk b k (src.take (Nat.min src.length n)).flatten with
   |true=>match Nat.min src.length n with
    |0=>some (.int .i64 0,a,σ)
    |m+1=>some (.int .i64 (.ofNat (m+1)),a.tick,σ.set k (some ⟨ver+1,.cells (putAt vs o (src.take (m+1)).flatten) e⟩))
   |false=>none
  |_=>none
 |_=>none
def tNew (o:TObj) (v:TV):Tri3:=some (v,a.tick,σ++[some o])
def tVal:Option TV→Tri3
 |some v=>some (v,a,σ)
 |none=>none
def tLookup (k:EqK) (z:TV) (m x:TV) (ok:Bool):Option TV:=
 match (match m with
  |.nilm=>some (some none)
  |.map r=>match σ.at r with
   |some ⟨_,.map es _⟩=>some (findT σ k x es 0)
   |_=>none
  |_=>none) with
 |some (some (some (_,v)))=>some (match ok with|true=>.tuple [v,.bool true]|false=>v)
 |some (some none)=>some (match ok with|true=>.tuple [z,.bool false]|false=>z)
 |_=>none
def tMapUpdate (k:EqK) (m x v:TV):Tri3:=
 match m,give x,give v with
 |.map r,some x,some v=>match σ.at r with
  |some ⟨ver,.map es clock⟩=>match baseOk b r [x,v] with
   |true=>match findT σ k x es 0 with
    |some (some (i,_))=>some (undT,a.tick,σ.set r (some ⟨ver+1,.map (es.modify i fun e=>(x,v,e.2.2)) clock⟩))
    |some none=>some (undT,a.tick,σ.set r (some ⟨ver+1,.map (es++[(x,v,clock)]) (clock+1)⟩))
    |none=>none
   |false=>none
  |_=>none
 |_,_,_=>none
def tdo:XOp→Tri3
 |.move x=>tMove md a σ x
 |.keep x=>match a.ev x with
  |.str s=>some (.str s,a,σ)
  |_=>none
 |.pick c x y=>match a.ev c with
  |.bool true=>match isOwn (a.ev x) with|false=>some (a.at x,a,σ)|true=>none
  |.bool false=>match isOwn (a.ev y) with|false=>some (a.at y,a,σ)|true=>none
  |_=>none
 |.alloc e z=>match ones z with
  |false=>none
  |true=>match md with
   |3=>tNew a σ ⟨0,.cells (ofV.ofVs z) e⟩ (.ptr σ.length 0)
   |_=>some (.bx a.clk (ofV.ofVs z) e,a.tick,σ)
 |.box e x=>match onesT (a.ev x).cells&&stok (a.ev x) with
  |false=>none
  |true=>match md with
   |3=>tNew (taken a x).tick σ ⟨0,.cells (a.ev x).cells e⟩ (.ptr σ.length 0)
   |_=>some (.bx (taken a x).clk (a.ev x).cells e,(taken a x).tick.tick,σ)
 |.build z ps=>match fillT (ofV.ofVs z) (ps.map fun (o,n,x)=>(o,n,a.ev x)) with
  |some cs=>some (.agg cs,frzs a (ps.map fun p=>p.2.2),σ)
  |none=>none
 |.buildSlice e size z len ps=>match Nat.beq z.length size&&Nat.ble len small,fillT (repT (ofV.ofVs z) len) (ps.map fun (o,n,x)=>(o,n,a.ev x)) with
  |true,some cs=>match onesT cs with
   |false=>none
   |true=>match md with
    |3=>tNew (frzs a (ps.map fun p=>p.2.2)) σ ⟨0,.cells cs e⟩ (.ref σ.length 0 size len len)
    |_=>some (.sl (.own e size) (chop size len cs),(frzs a (ps.map fun p=>p.2.2)).tick,σ)
  |_,_=>none
 |.load1 p=>tLoad1 md a σ (a.at p)
 |.loadN n p=>tLoadN a σ n (a.at p)
 |.store n p x=>tStore b a σ n x (a.at p)
 |.nilCheck x=>match a.at x with
  |.vpt t o s=>match boxAt a t s with
   |some _=>some (.vpt t o s,a,σ)
   |none=>none
  |.ptr k o=>some (.ptr k o,a,σ)
  |.elt ch o=>some (.elt ch o,a,σ)
  |.func f x y=>some (.func f x y,a,σ)
  |_=>none
 |.bin op x y=>tVal a σ (tbin op (a.ev x) (a.ev y))
 |.eq k neg x y=>match teq σ k (a.ev x) (a.ev y) with
  |some r=>some (.bool (xor r neg),a,σ)
  |none=>none
 |.un op x=>tVal a σ (tun op (a.ev x))
 |.toInt k x=>match a.ev x with
  |.int _ n=>some (.int k (k.wrap n),a,σ)
  |_=>none
 |.bytesToStr x=>match bytesSrc a σ (a.ev x) with
  |some chs=>match bytesT chs with
   |some bs=>some (.str ⟨bs.toArray⟩,a,σ)
   |none=>none
  |none=>none
 |.strToBytes e x=>match a.ev x with
  |.str s=>match Nat.ble s.data.toList.length small with
   |true=>some (.sl .fz (s.data.toList.map fun b=>[.int .u8 b.toNat]),a,σ)
   |false=>none
  |_=>none
 |.mkIface t x=>match give (a.ev x) with
  |some v=>some (.iface t v,frz1 a x,σ)
  |none=>none
 |.mkFunc fn first cap=>match fn,gives (first.map a.ev),gives (cap.map a.ev) with
  |.func f,some x,some y=>some (.func f x y,frzs (frzs a first) cap,σ)
  |_,_,_=>none
 |.mkMap=>tNew a σ ⟨0,.map [] 0⟩ (.map σ.length)
 |.mkSlice e z bytes l c=>match a.ev l,a.ev c with
  |.int .i64 (.ofNat l),.int .i64 (.ofNat c)=>match Nat.ble l c&&Nat.ble (bytes*c) 281474976710656&&Nat.ble c 9223372036854775807&&ones z with
   |true=>match md with
    |3=>tNew a σ ⟨0,.cells (repT (ofV.ofVs z) c) e⟩ (.ref σ.length 0 z.length l c)
    |_=>some (.sl (.own e z.length) (List.replicate l (ofV.ofVs z)),a.tick,σ)
   |false=>none
  |_,_=>none
 |.sliceStr x lo hi=>match a.ev x with
  |.str s=>match boundsT s.data.toList.length s.data.toList.length (lo.map a.ev) (hi.map a.ev) none with
   |some (l,h,_)=>some (.str ⟨((s.data.toList.drop l).take (h - l)).toArray⟩,a,σ)
   |none=>none
  |_=>none
 |.slice size x lo hi mx=>tSlice a σ size x (lo.map a.ev) (hi.map a.ev) (mx.map a.ev) (a.ev x)
 |.sliceArr n size x lo hi mx=>match a.ev x with
  |.ptr k o=>match boundsT n n (lo.map a.ev) (hi.map a.ev) (mx.map a.ev) with
   |some (l,h,m)=>some (.ref k (match Nat.beq m l with|true=>o|false=>o+l*size) size (h - l) (m - l),a,σ)
   |none=>none
  |_=>none
 |.addr off x=>match a.at x with
  |.ptr k o=>some (.ptr k (o+off),a,σ)
  |.vpt t o s=>match boxAt a t s with
   |some _=>some (.vpt t (o+off) s,a,σ)
   |none=>none
  |.elt ch o=>some (.elt ch (o+off),a,σ)
  |.vel p c j o=>match velAt a σ p c j with
   |some _=>some (.vel p c j (o+off),a,σ)
   |none=>none
  |_=>none
 |.field1 off x=>match a.ev x with
  |.agg cs=>tVal a σ cs[off]?
  |_=>none
 |.fieldN off n x=>match a.ev x with
  |.agg cs=>some (.agg ((cs.drop off).take n),a,σ)
  |_=>none
 |.indexAddr size x i=>match a.ev i with
  |.int _ (.ofNat j)=>tIndex a σ size x j (a.ev x)
  |_=>none
 |.indexArrAddr len size x i=>match a.at x,a.ev i with
  |.ptr k o,.int _ (.ofNat j)=>match Nat.blt j len with
   |true=>some (.ptr k (o+j*size),a,σ)
   |false=>none
  |.vpt t o s,.int _ (.ofNat j)=>match Nat.blt j len,boxAt a t s with
   |true,some _=>some (.vpt t (o+j*size) s,a,σ)
   |_,_=>none
  |.elt ch o,.int _ (.ofNat j)=>match Nat.blt j len with
   |true=>some (.elt ch (o+j*size),a,σ)
   |false=>none
  |_,_=>none
 |.indexStr x i=>match a.ev x,a.ev i with
  |.str s,.int _ (.ofNat j)=>match s.data.toList[j]? with
   |some b=>some (.int .u8 b.toNat,a,σ)
   |none=>none
  |_,_=>none
 |.index1 len x i=>match a.ev x,a.ev i with
  |.agg cs,.int _ (.ofNat j)=>match Nat.blt j len with
   |true=>tVal a σ cs[j]?
   |false=>none
  |_,_=>none
 |.indexN len size x i=>match a.ev x,a.ev i with
  |.agg cs,.int _ (.ofNat j)=>match Nat.blt j len with
   |true=>some (.agg ((cs.drop (j*size)).take size),a,σ)
   |false=>none
  |_,_=>none
 |.lookup k z m x ok=>tVal a σ (tLookup σ k (ofV z) (a.ev m) (a.ev x) ok)
 |.mapUpdate k m x v=>match tMapUpdate b (frzs a [x,v]) σ k (a.ev m) (a.ev x) (a.ev v) with
  |some r=>some r
  |none=>none
 |.assertT t z x ok=>match a.ev x with
  |.iface u v=>match Nat.beq u t with
   |true=>some (match ok with|true=>.tuple [v,.bool true]|false=>v,a,σ)
   |false=>match ok with
    |true=>some (.tuple [ofV z,.bool false],a,σ)
    |false=>none
  |.nili=>match ok with
   |true=>some (.tuple [ofV z,.bool false],a,σ)
   |false=>none
  |_=>none
 |.extract x i=>match a.ev x with
  |.tuple vs=>tVal a σ vs[i]?
  |_=>none
 |.lenStr x=>match a.ev x with
  |.str s=>some (.int .i64 (.ofNat s.data.toList.length),a,σ)
  |_=>none
 |.lenSlice x=>match tLen a σ (a.ev x) with
  |some n=>some (.int .i64 (.ofNat n),a,σ)
  |none=>none
 |.lenArr n=>some (.int .i64 (.ofNat n),a,σ)
 |.lenMap x=>match a.ev x with
  |.nilm=>some (.int .i64 0,a,σ)
  |.map r=>match σ.at r with
   |some ⟨_,.map es _⟩=>some (.int .i64 (.ofNat es.length),a,σ)
   |_=>none
  |_=>none
 |.capSlice x=>match a.ev x with
  |.ref _ _ _ _ c=>match Nat.ble capU c with
   |true=>none
   |false=>some (.int .i64 (.ofNat c),a,σ)
  |_=>none
 |.append e size bytes x y=>match srcT a σ size (a.ev y) with
  |some new=>match md with
   |3=>tAppNew a σ e size bytes x new
   |_=>tAppend a σ e size bytes x new
  |none=>none
 |.appendZ e z bytes x n=>match a.ev n with
  |.int .i64 (.ofNat n)=>match Nat.ble n small&&Nat.ble bytes 65536&&ones z with
   |true=>tAppend a σ e z.length bytes x (List.replicate n (ofV.ofVs z))
   |false=>none
  |_=>none
 |.copy size x y=>match isStr (a.ev y),srcT a σ size (a.ev y) with
  |false,some src=>tCopy b a σ size (a.ev x) src
  |_,_=>none
 |.maxI xs=>match intsT (xs.map a.ev) with
  |some ((k,n)::r)=>some (.int k (r.foldl (fun a b=>match ltInt a b.2 with|true=>b.2|false=>a) n),a,σ)
  |_=>none
 |.minI xs=>match intsT (xs.map a.ev) with
  |some ((k,n)::r)=>some (.int k (r.foldl (fun a b=>match ltInt b.2 a with|true=>b.2|false=>a) n),a,σ)
  |_=>none
 |_=>none
end
inductive TEx where
 |normal
 |exit (id:Nat)
 |ret
 |panic (v:TV)
inductive TEnd where
 |ret (v:TV)
 |panic (v:TV)
abbrev TCallee:=Nat→FuncId→List TV→Sto→Option (TEnd×Sto)
abbrev Ann:=Nat→Nat
def Ann.md (an:Ann):Option Nat→Nat
 |some d=>an d
 |none=>0
def wantedT (a:TAct):Option (Nat×Bool)→Option Bool
 |none=>some true
 |some (t,b)=>match a.tm.get t with
  |some (.bool c)=>some (c==b)
  |some (.tuple [])=>some false
  |none=>some false
  |_=>none
def targetT (v:TV) (args:List TV):Option (FuncId×List TV):=
 match v with
 |.func f first cap=>some (f,first++args++cap)
 |_=>none
def tops (an:Ann) (b:Nat) (C:TCallee):List XOper→TAct→Sto→Option (TEx×TAct×Sto)
 |[],a,σ=>some (.normal,a,σ)
 |o::r,a,σ=>
  match wantedT a o.guard with
  |none=>none
  |some false=>tops an b C r (a.put o.dst undT) σ
  |some true=>match o.op with
   |.call f args=>match gives (args.map a.ev) with
    |some vs=>match C b f vs σ with
     |some (.ret v,σ')=>tops an b C r ((frzs a args).tick.put o.dst v) σ'
     |some (.panic v,σ')=>some (.panic v,(frzs a args).tick,σ')
     |none=>none
    |none=>none
   |.callV x args=>match gives (args.map a.ev) with
    |some vs=>match targetT (a.ev x) vs with
     |some (f,l)=>match C b f l σ with
      |some (.ret v,σ')=>tops an b C r ((frzs a args).tick.put o.dst v) σ'
      |some (.panic v,σ')=>some (.panic v,(frzs a args).tick,σ')
      |none=>none
     |none=>none
    |none=>none
   |.panic x=>match a.ev x with
    |.iface t v=>some (.panic (.iface t v),a,σ)
    |_=>none
   |.defer x args=>match gives (args.map a.ev) with
    |some vs=>match targetT (a.ev x) vs with
     |some (f,l)=>tops an b C r (TAct.put ⟨(frzs a args).tm,⟨f,l⟩::a.df,(frzs a args).clk⟩ o.dst undT) σ
     |none=>none
    |none=>none
   |op=>match tdo (an.md o.dst) b a σ op with
    |some (v,a',σ')=>tops an b C r (a'.put o.dst v) σ'
    |none=>none
inductive TK where
 |bad
 |no
 |rd (q:Operand)
 |wr (q:Operand)
 |new
 |call
structure TRec where
 kind:TK
 dst:Option Nat
 pre:TAct
 s0:Sto
 s1:Sto
def kindOf:XOp→TK
 |.load1 p=>.rd p
 |.loadN _ p=>.rd p
 |.store _ p _=>.wr p
 |.alloc _ _=>.new
 |.box _ _=>.new
 |.buildSlice _ _ _ _ _=>.new
 |.mkSlice _ _ _ _ _=>.new
 |.strToBytes _ _=>.new
 |.mkMap=>.new
 |_=>.bad
def topsD (an:Ann) (b:Nat) (C:TCallee):List XOper→TAct→Sto→List TRec→Option (TAct×Sto×List TRec)
 |[],a,σ,l=>some (a,σ,l.reverse)
 |o::r,a,σ,l=>
  match wantedT a o.guard with
  |none=>none
  |some false=>topsD an b C r (a.put o.dst undT) σ (⟨.no,o.dst,a,σ,σ⟩::l)
  |some true=>match o.op with
   |.call f args=>match gives (args.map a.ev) with
    |some vs=>match C b f vs σ with
     |some (.ret v,σ')=>topsD an b C r ((frzs a args).tick.put o.dst v) σ' (⟨.call,o.dst,frzs a args,σ,σ'⟩::l)
     |_=>none
    |none=>none
   |.callV x args=>match gives (args.map a.ev) with
    |some vs=>match targetT (a.ev x) vs with
     |some (f,l')=>match C b f l' σ with
      |some (.ret v,σ')=>topsD an b C r ((frzs a args).tick.put o.dst v) σ' (⟨.call,o.dst,frzs a args,σ,σ'⟩::l)
      |_=>none
     |none=>none
    |none=>none
   |op=>match tdo (an.md o.dst) b a σ op with
    |some (v,a',σ')=>topsD an b C r (a'.put o.dst v) σ' (⟨kindOf op,o.dst,a,σ,σ'⟩::l)
    |none=>none
def freeT (l:List TRec) (i j:Nat):Operand→Bool
 |.tmp t=>((l.drop i).take (j - i)).all fun r=>match r.dst with
  |some d=> !(Nat.beq d t)
  |none=>true
 |_=>false
def stays (a:TAct) (σ σ':Sto) (q:Operand):Bool:=
 match a.at q with
 |.vpt t _ s=>(boxAt a t s).isSome
 |.elt _ _=>true
 |.ptr k _=>match σ.at k,σ'.at k with
  |some o,some o'=>Nat.beq o.ver o'.ver
  |_,_=>false
 |_=>false
def sepT (a:TAct) (q q':Operand):Bool:=
 match a.at q,a.at q' with
 |.vpt t _ s,.vpt t' _ s'=> !(Nat.beq t t')&&(boxAt a t s).isSome&&(boxAt a t' s').isSome
 |.ptr k _,.ptr k' _=> !(Nat.beq k k')
 |.vpt t _ s,.ptr _ _=>(boxAt a t s).isSome
 |.ptr _ _,.vpt t' _ s'=>(boxAt a t' s').isSome
 |.elt _ _,.vpt t' _ s'=>(boxAt a t' s').isSome
 |.elt _ _,.ptr _ _=>true
 |_,_=>false
def sepV (a:TAct) (q q':Operand):Bool:=
 match a.at q,a.at q' with
 |.vel (.tmp t) c j _,.ptr _ _=>(velAt a [] (.tmp t) c j).isSome
 |_,_=>sepT a q q'
def stayB (l:List TRec) (i j:Nat) (x y:TRec) (q:Operand):Bool:=
 match y.pre.at q with
 |.vpt t _ s=>freeT l i j (.tmp t)&&(boxAt x.pre t s).isSome&&(boxAt y.pre t s).isSome
 |_=>false
def pairOkT (l:List TRec) (i j:Nat) (x y:TRec):Bool:=
 match x.kind,y.kind with
 |.no,_=>true
 |_,.no=>true
 |.rd q,.call=>freeT l i j q&&stays y.pre y.s0 y.s1 q
 |.call,.rd q=>(freeT l i j q&&stays x.pre x.s0 x.s1 q)||stayB l i j x y q
 |.rd _,.new=>true
 |.rd q,.wr q'=>freeT l i j q&&sepT y.pre q q'
 |.wr q,.wr q'=>freeT l i j q'&&sepV x.pre q q'
 |_,_=>false
def pairsOkT (l:List TRec):List (Nat×Nat)→Bool
 |[]=>true
 |(i,j)::r=>match l[i]?,l[j]? with
  |some x,some y=>match Nat.blt i j&&pairOkT l i j x y with
   |true=>pairsOkT l r
   |false=>false
  |_,_=>false
def tloop (body:TAct→Sto→Option (TEx×TAct×Sto)):Nat→TAct→Sto→Option (TEx×TAct×Sto)
 |0,_,_=>none
 |n+1,a,σ=>match body a σ with
  |some (.normal,a,σ)=>tloop body n a σ
  |r=>r
def tcode (an:Ann) (b:Nat) (C:TCallee) (n:Nat):XCode→TAct→Sto→Option (TEx×TAct×Sto)
 |.skip,a,σ=>some (.normal,a,σ)
 |.region ops,a,σ=>tops an b C ops a σ
 |.regionD ops ps,a,σ=>match topsD an b C ops a σ [] with
  |some (a,σ,l)=>match pairsOkT l ps with
   |true=>some (.normal,a,σ)
   |false=>none
  |none=>none
 |.seq x y,a,σ=>match tcode an b C n x a σ with
  |some (.normal,a,σ)=>tcode an b C n y a σ
  |r=>r
 |.cond c x y,a,σ=>match a.ev c with
  |.bool true=>tcode an b C n x a σ
  |.bool false=>tcode an b C n y a σ
  |_=>none
 |.block id c,a,σ=>match tcode an b C n c a σ with
  |some (.exit k,a,σ)=>match Nat.beq k id with
   |true=>some (.normal,a,σ)
   |false=>some (.exit k,a,σ)
  |r=>r
 |.loop c,a,σ=>tloop (tcode an b C n c) n a σ
 |.exit id,a,σ=>some (.exit id,a,σ)
 |.ret,a,σ=>some (.ret,a,σ)
def tres (a:TAct) (σ:Sto):XRes→Option TV
 |.tmp t=>some (a.ev (.tmp t))
 |.cell1 t=>match a.ev (.tmp t) with
  |.bx _ cs _=>cs[0]?
  |.ptr k o=>match σ.at k with
   |some ⟨_,.cells vs _⟩=>match vs[o]? with
    |some v=>match isOwn v with
     |true=>none
     |false=>some v
    |none=>none
   |_=>none
  |_=>none
 |.cellN t n=>match a.ev (.tmp t) with
  |.bx _ cs _=>match Nat.ble n cs.length with
   |true=>some (.agg ((cs.take n).map frz))
   |false=>none
  |.ptr k o=>match σ.at k with
   |some ⟨_,.cells vs _⟩=>match Nat.ble (o+n) vs.length&& !((vs.drop o).take n).any isOwn with
    |true=>some (.agg ((vs.drop o).take n))
    |false=>none
   |_=>none
  |_=>none
def tresults (a:TAct) (σ:Sto):List XRes→Option (List TV)
 |[]=>some []
 |r::l=>match tres a σ r,tresults a σ l with
  |some v,some vs=>some (v::vs)
  |_,_=>none
def packedT:List TV→TV
 |[v]=>v
 |l=>.tuple l
inductive TMode where
 |ret
 |panicking (v:TV)
 |recovered
def topsR (an:Ann) (b:Nat) (C:TCallee):List XOper→TAct→Sto→TMode→Option (TEx×TAct×Sto×TMode)
 |[],a,σ,m=>some (.normal,a,σ,m)
 |o::r,a,σ,m=>
  match wantedT a o.guard with
  |none=>none
  |some false=>topsR an b C r (a.put o.dst undT) σ m
  |some true=>match o.op with
   |.recover=>match m with
    |.panicking v=>topsR an b C r (a.put o.dst v) σ .recovered
    |m=>topsR an b C r (a.put o.dst .nili) σ m
   |_=>match tops an b C [o] a σ with
    |some (.normal,a,σ)=>topsR an b C r a σ m
    |some (e,a,σ)=>some (e,a,σ,m)
    |none=>none
def tcodeR (an:Ann) (b:Nat) (C:TCallee) (n:Nat):XCode→TAct→Sto→TMode→Option (TEx×TAct×Sto×TMode)
 |.region ops,a,σ,m=>topsR an b C ops a σ m
 |.seq x y,a,σ,m=>match tcodeR an b C n x a σ m with
  |some (.normal,a,σ,m)=>tcodeR an b C n y a σ m
  |r=>r
 |.cond c x y,a,σ,m=>match a.ev c with
  |.bool true=>tcodeR an b C n x a σ m
  |.bool false=>tcodeR an b C n y a σ m
  |_=>none
 |.block id c,a,σ,m=>match tcodeR an b C n c a σ m with
  |some (.exit k,a,σ,m)=>match Nat.beq k id with
   |true=>some (.normal,a,σ,m)
   |false=>some (.exit k,a,σ,m)
  |r=>r
 |c,a,σ,m=>match tcode an b C n c a σ with
  |some (e,a,σ)=>some (e,a,σ,m)
  |none=>none
def enterT (args:List TV):TAct:=⟨Tri.ofList args 0 .nil,[],0⟩
def TMode.settle:TMode→TMode
 |.recovered=>.ret
 |m=>m
structure TFun where
 fn:XFun
 an:Ann
 keep:Bool
 clone:Bool:=false
def preT:Bool→List TV→Bool
 |true,[.sl .fz []]=>true
 |_,_=>false
def tdefers (C:TCallee) (F:FuncId→Option TFun) (b n:Nat):List TDfr→Sto→TMode→Option (Sto×TMode)
 |[],σ,m=>some (σ,m)
 |d::r,σ,m=>match F d.f with
  |some fn=>match tcodeR fn.an b C n fn.fn.body (enterT d.args) σ m with
   |some (e,a,σ,m)=>match a.df,e,tresults a σ fn.fn.results with
    |[],.normal,some _=>tdefers C F b n r σ m.settle
    |[],.ret,some _=>tdefers C F b n r σ m.settle
    |_,_,_=>none
   |none=>none
  |none=>none
def thaw (σ:Sto) (k:Nat):Nat→TV→TV
 |n+1,.ref j o s m c=>match Nat.ble k j,σ.at j with
  |true,some ⟨_,.cells vs _⟩=>match Nat.ble (o+m*s) vs.length&& !((vs.drop o).take (m*s)).any isOwn&&(Nat.blt c capU||Nat.beq c (capU+s)) with
   |true=>.sl .fz ((chop s m (vs.drop o)).map fun ch=>ch.map (thaw σ k n))
   |false=>.ref j o s m c
  |_,_=>.ref j o s m c
 |n+1,.agg l=>.agg (l.map (thaw σ k n))
 |n+1,.tuple l=>.tuple (l.map (thaw σ k n))
 |_,v=>v
def tleave (keep:Bool) (k:Nat) (σ:Sto) (v:TV):Option (TV×Sto):=
 match keep with
 |true=>some (v,σ)
 |false=>match below k (thaw σ k 4 (canon v)) with
  |true=>some (thaw σ k 4 (canon v),σ.take k)
  |false=>none
def tfinish (a:TAct) (fn:TFun) (k:Nat) (σ:Sto):TMode→Option (TEnd×Sto)
 |.panicking v=>match tleave fn.keep k σ v with
  |some (v,σ)=>some (.panic v,σ)
  |none=>none
 |_=>match tresults a σ fn.fn.results with
  |some l=>match gives l with
   |some l=>match tleave fn.keep k σ (packedT l) with
    |some (v,σ)=>some (.ret v,σ)
    |none=>none
   |none=>none
  |none=>none
def baseOf (keep:Bool) (b k:Nat):Nat:=
 match keep with
 |true=>b
 |false=>k
def markT:TV→Option Mk
 |.agg []=>some .sort
 |.agg [.bool true]=>some .compact
 |_=>none
def isDeadT:TV→Bool
 |.dead=>true
 |.agg [.dead]=>true
 |_=>false
def intsTV:List TV→Option (List Int)
 |[]=>some []
 |.int .i64 z::l=>match intsTV l with
  |some zs=>some (z::zs)
  |none=>none
 |_=>none
def encZT (zs:List Int):List TV:=zs.map fun z=>.int .i64 z
def rowRetT:Mk→Nat→Nat→Nat→List Int→Nat→TV
 |.sort,_,_,_,_,_=>.tuple []
 |.compact,k,o,s,zs,c=>.ref k o s (compactZ zs).length c
def rowRetT0:Mk→TV→TV
 |.sort,_=>.tuple []
 |.compact,v=>v
def rowT (mk:Mk) (args:List TV) (σ:Sto):Option (TEnd×Sto):=
 match args with
 |[.ref k o s n c]=>match Nat.beq n 0,σ.at k with
  |true,_=>some (.ret (rowRetT0 mk (.ref k o s n c)),σ)
  |false,some ⟨ver,.cells vs e⟩=>match Nat.ble (o+n) vs.length&&Nat.ble n 1073741824,intsTV ((vs.drop o).take n) with
   |true,some zs=>some (.ret (rowRetT mk k o s zs c),σ.set k (some ⟨ver+1,.cells (putAt vs o (encZT (rowH mk zs))) e⟩))
   |_,_=>none
  |false,_=>none
 |[.sl m []]=>some (.ret (rowRetT0 mk (.sl m [])),σ)
 |_=>none
def tEnd (v:TV) (args:List TV) (σ:Sto):Option (TEnd×Sto):=
 match markT v,isDeadT v with
 |some mk,_=>rowT mk args σ
 |none,false=>some (.ret v,σ)
 |none,true=>none
def tcall (F:FuncId→Option TFun) (O:FuncId→List TV→Option TV):Nat→TCallee
 |0,_,_,_,_=>none
 |n+1,b,f,args,σ=>match F f with
  |some fn=>match preT fn.clone args with
   |true=>some (.ret (.sl .fz []),σ)
   |false=>match tcode fn.an (baseOf fn.keep b σ.length) (tcall F O n) n fn.fn.body (enterT args) σ with
    |some (.normal,a,σ1)=>match tdefers (tcall F O n) F (baseOf fn.keep b σ.length) n a.df σ1 .ret with
     |some (σ2,m)=>tfinish a fn σ.length σ2 m
     |none=>none
    |some (.ret,a,σ1)=>match tdefers (tcall F O n) F (baseOf fn.keep b σ.length) n a.df σ1 .ret with
     |some (σ2,m)=>tfinish a fn σ.length σ2 m
     |none=>none
    |some (.panic v,a,σ1)=>match tdefers (tcall F O n) F (baseOf fn.keep b σ.length) n a.df σ1 (.panicking v) with
     |some (σ2,m)=>tfinish a fn σ.length σ2 m
     |none=>none
    |_=>none
  |none=>match O f args with
   |some v=>tEnd v args σ
   |none=>none
end Go.Xt
end
section
namespace Go.Xt
open Go Go.Xe
abbrev Str:=ByteArray
inductive PTyp where
 |mk (kind:Int) (list:List PTyp)
inductive PExpr where
 |mk (kind n:Int) (name:Str) (names:List Str) (odds:List Int) (kids:List PExpr) (line col:Int)
namespace PTyp
def kind:PTyp→Int|.mk k _=>k
def list:PTyp→List PTyp|.mk _ l=>l
end PTyp
namespace PExpr
def kind:PExpr→Int|.mk k _ _ _ _ _ _ _=>k
def n:PExpr→Int|.mk _ n _ _ _ _ _ _=>n
def name:PExpr→Str|.mk _ _ s _ _ _ _ _=>s
def names:PExpr→List Str|.mk _ _ _ l _ _ _ _=>l
def odds:PExpr→List Int|.mk _ _ _ _ l _ _ _=>l
def kids:PExpr→List PExpr|.mk _ _ _ _ _ l _ _=>l
def line:PExpr→Int|.mk _ _ _ _ _ _ l _=>l
def col:PExpr→Int|.mk _ _ _ _ _ _ _ c=>c
end PExpr
def i64 (n:Int):TV:=.int .i64 n
def encI (n:Int):List TV:=[.int .i64 n]
end Go.Xt
end
section
namespace Go.Xt
open Go Go.Xe
inductive Pc where
 |tmp (t:Nat)
 |tcell (t o:Nat)
 |obj (k:Nat)
 |cell (k o:Nat)
 |hand (h:Nat)
deriving DecidableEq
abbrev Own:=Pc→Option Nat
def Zo (w:Own) (Pr:Nat→Prop) (i:Nat):Prop:=(∀p,w p≠some i)∧¬Pr i
mutual
inductive RV (g:Hp) (μ:List Nat) (Z:Nat→Prop):TV→Value→Prop
 |int (k:IntKind) (n:Int):RV g μ Z (.int k n) (.int k n)
 |bool (b:Bool):RV g μ Z (.bool b) (.bool b)
 |str (s:ByteArray):RV g μ Z (.str s) (.string s)
 |nilp:RV g μ Z .nilp (.pointer none)
 |ptr {k o i:Nat}:μ[k]? =some i→RV g μ Z (.ptr k o) (.pointer (some ⟨i,o,none⟩))
 |elt {ch:List TV} {o i d ver:Nat} {vs:List Value} {e:TypeId} {ro:Bool}:Z i→g i=some ⟨ver,.cells vs e ro⟩→d+ch.length≤vs.length→RVs g μ Z ch ((vs.drop d).take ch.length)→
   RV g μ Z (.elt ch o) (.pointer (some ⟨i,d+o,none⟩))
 |fz {chs:List (List TV)} {n i o c s ver:Nat} {vs:List Value} {e:TypeId} {ro:Bool}:Z i→g i=some ⟨ver,.cells vs e ro⟩→okSz s chs=true→chs.length=n→(c<capU→n≤c)→(capU≤c→c=capU+s)→o+n*s≤vs.length→
   RVs g μ Z chs.flatten ((vs.drop o).take (n*s))→RV g μ Z (.sl .fz chs) (.slice (some ⟨i,o,none⟩) n c)
 |fz0 (b:Option Addr) (c:Nat):RV g μ Z (.sl .fz []) (.slice b 0 c)
 |nl:RV g μ Z (.sl .nl []) (.slice none 0 0)
 |ref {k o s n c i:Nat}:μ[k]? =some i→n≤c→RV g μ Z (.ref k o s n c) (.slice (some ⟨i,o,none⟩) n c)
 |nilm:RV g μ Z .nilm (.map none)
 |map {k i:Nat}:μ[k]? =some i→RV g μ Z (.map k) (.map (some i))
 |nilf:RV g μ Z .nilf .nilFunc
 |func (f:FuncId) {x y:List TV} {x' y':Array Value}:RVs g μ Z x x'.toList→RVs g μ Z y y'.toList→RV g μ Z (.func f x y) (.func (.func f) x' y')
 |nili:RV g μ Z .nili .nilIface
 |iface (t:TypeId) {v:TV} {v':Value}:RV g μ Z v v'→RV g μ Z (.iface t v) (.iface t v')
 |agg {l:List TV} {l':Array Value}:RVs g μ Z l l'.toList→RV g μ Z (.agg l) (.agg l')
 |tuple {l:List TV} {l':Array Value}:RVs g μ Z l l'.toList→RV g μ Z (.tuple l) (.tuple l')
 |dead (v:Value):RV g μ Z .dead v
inductive RVs (g:Hp) (μ:List Nat) (Z:Nat→Prop):List TV→List Value→Prop
 |nil:RVs g μ Z [] []
 |cons {v:TV} {v':Value} {l:List TV} {l':List Value}:RV g μ Z v v'→RVs g μ Z l l'→RVs g μ Z (v::l) (v'::l')
end
structure Mo (g:Hp) (μ:List Nat) (Z:Nat→Prop) (g':Hp) (μ':List Nat) (Z':Nat→Prop):Prop where
 mu:∀(k i:Nat),μ[k]? =some i→μ'[k]? =some i
 z:∀(i ver:Nat) (vs:List Value) (e:TypeId) (ro:Bool),Z i→g i=some ⟨ver,.cells vs e ro⟩→Z' i∧g' i=some ⟨ver,.cells vs e ro⟩
mutual
theorem RV.mono {g g':Hp} {μ μ':List Nat} {Z Z':Nat→Prop} (h:Mo g μ Z g' μ' Z'):∀{v:TV} {v':Value},RV g μ Z v v'→RV g' μ' Z' v v'
 |_,_,.int k n=>.int k n
 |_,_,.bool b=>.bool b
 |_,_,.str s=>.str s
 |_,_,.nilp=>.nilp
 |_,_,.ptr e=>.ptr (h.mu _ _ e)
 |_,_,.elt a b c d=>.elt (h.z _ _ _ _ _ a b).1 (h.z _ _ _ _ _ a b).2 c (d.mono h)
 |_,_,.fz a b c d e f m k=>.fz (h.z _ _ _ _ _ a b).1 (h.z _ _ _ _ _ a b).2 c d e f m (k.mono h)
 |_,_,.fz0 b c=>.fz0 b c
 |_,_,.nl=>.nl
 |_,_,.ref e n=>.ref (h.mu _ _ e) n
 |_,_,.nilm=>.nilm
 |_,_,.map e=>.map (h.mu _ _ e)
 |_,_,.nilf=>.nilf
 |_,_,.func f a b=>.func f (a.mono h) (b.mono h)
 |_,_,.nili=>.nili
 |_,_,.iface t a=>.iface t (a.mono h)
 |_,_,.agg a=>.agg (a.mono h)
 |_,_,.tuple a=>.tuple (a.mono h)
 |_,_,.dead v=>.dead v
theorem RVs.mono {g g':Hp} {μ μ':List Nat} {Z Z':Nat→Prop} (h:Mo g μ Z g' μ' Z'):∀{l:List TV} {l':List Value},RVs g μ Z l l'→RVs g' μ' Z' l l'
 |_,_,.nil=>.nil
 |_,_,.cons a b=>.cons (a.mono h) (b.mono h)
end
namespace RVs
variable {g:Hp} {μ:List Nat} {Z:Nat→Prop}
theorem length {l:List TV} {l':List Value} (h:RVs g μ Z l l'):l'.length=l.length:=by
 induction l generalizing l' with
 |nil=>cases h;rfl
 |cons v l ih=>cases h with|cons _ h=>simp [ih h]
theorem get {l:List TV} {l':List Value} (h:RVs g μ Z l l'):∀{i:Nat} {v:TV},l[i]? =some v→∃v',l'[i]? =some v'∧RV g μ Z v v':=by
 induction l generalizing l' with
 |nil=>intro i v e;simp at e
 |cons x l ih=>
  intro i v e
  cases h with
  |cons hx h=>
   cases i with
   |zero=>simp at e;subst e;exact ⟨_,rfl,hx⟩
   |succ i=>simp at e;obtain ⟨v',e',r⟩:=ih h e;exact ⟨v',by simpa using e',r⟩
theorem append {l m:List TV} {l' m':List Value} (h:RVs g μ Z l l') (k:RVs g μ Z m m'):RVs g μ Z (l++m) (l'++m'):=by
 induction l generalizing l' with
 |nil=>cases h;exact k
 |cons x l ih=>cases h with|cons hx h=>exact .cons hx (ih h)
theorem drop {l:List TV} {l':List Value} (h:RVs g μ Z l l'):∀n,RVs g μ Z (l.drop n) (l'.drop n):=by
 induction l generalizing l' with
 |nil=>cases h;intro n;simp;exact .nil
 |cons x l ih=>
  intro n
  cases h with
  |cons hx h=>
   cases n with
   |zero=>exact .cons hx h
   |succ n=>exact ih h n
theorem take {l:List TV} {l':List Value} (h:RVs g μ Z l l'):∀n,RVs g μ Z (l.take n) (l'.take n):=by
 induction l generalizing l' with
 |nil=>cases h;intro n;simp;exact .nil
 |cons x l ih=>
  intro n
  cases h with
  |cons hx h=>
   cases n with
   |zero=>exact .nil
   |succ n=>exact .cons hx (ih h n)
theorem of_get {l:List TV} {l':List Value} (hl:l'.length=l.length) (h:∀(i:Nat) (v:TV) (v':Value),l[i]? =some v→l'[i]? =some v'→RV g μ Z v v'):RVs g μ Z l l':=by
 induction l generalizing l' with
 |nil=>cases l' with|nil=>exact .nil|cons=>simp at hl
 |cons x l ih=>
  cases l' with
  |nil=>simp at hl
  |cons x' l'=>exact .cons (h 0 x x' rfl rfl) (ih (by simpa using hl) fun i v v' e e'=>h (i+1) v v' (by simpa using e) (by simpa using e'))
theorem map {α:Type} {f:α→TV} {f':α→Value} (h:∀a,RV g μ Z (f a) (f' a)):∀l:List α,RVs g μ Z (l.map f) (l.map f')
 |[]=>.nil
 |a::l=>.cons (h a) (map h l)
theorem set {l:List TV} {l':List Value} (h:RVs g μ Z l l') {v:TV} {v':Value} (hv:RV g μ Z v v'):∀i,RVs g μ Z (l.set i v) (l'.set i v'):=by
 induction l generalizing l' with
 |nil=>cases h;intro n;exact .nil
 |cons x l ih=>
  intro n
  cases h with
  |cons hx h=>
   cases n with
   |zero=>exact .cons hv h
   |succ n=>exact .cons hx (ih h n)
theorem setList:∀{xs:List TV} {xs':List Value},RVs g μ Z xs xs'→∀{vs:List TV} {vs':List Value} (i:Nat),RVs g μ Z vs vs'→i+xs.length≤vs.length→RVs g μ Z (putAt vs i xs) (Xe.setList vs' i xs')
 |_,_,.nil,vs,vs',i,h,_=>by simpa [putAt,Xe.setList] using h
 |x::xs,x'::xs',.cons hx hxs,vs,vs',i,h,hl=>by
  simp only [List.length_cons] at hl
  have ih:=setList hxs (i+1) (h.set hx i) (by simp;omega)
  rw [Xe.setList]
  have:putAt (vs.set i x) (i+1) xs=putAt vs i (x::xs):=by
   unfold putAt
   have h1:(vs.set i x).take (i+1)=vs.take i++[x]:=by
    rw [List.take_add_one]
    simp [List.take_set,List.getElem?_set,show i<vs.length by omega]
    rw [List.set_eq_of_length_le (by simp;omega)]
   have h2:(vs.set i x).drop (i+1+xs.length)=vs.drop (i+(x::xs).length):=by
    rw [List.drop_set,if_pos (by omega),List.length_cons];congr 1;omega
   rw [h1,h2];simp
  rw [this] at ih
  exact ih
end RVs
inductive RO (g:Hp) (μ:List Nat) (Z:Nat→Prop) (i:Nat):TV→Value→Prop
 |mk {chs:List (List TV)} {n o c s ver:Nat} {vs:List Value} {e:TypeId}:g i=some ⟨ver,.cells vs e false⟩→okSz s chs=true→chs.length=n→(c<capU→n≤c∧o+c*s≤vs.length)→(capU≤c→c=capU+s)→o+n*s≤vs.length→
   RVs g μ Z chs.flatten ((vs.drop o).take (n*s))→RO g μ Z i (.sl (.own e s) chs) (.slice (some ⟨i,o,none⟩) n c)
theorem RO.mono {g g':Hp} {μ μ':List Nat} {Z Z':Nat→Prop} (h:Mo g μ Z g' μ' Z') {i:Nat} (hi:g' i=g i) {v:TV} {v':Value} (r:RO g μ Z i v v'):RO g' μ' Z' i v v':=by
 cases r with
 |mk a b c d e f k=>exact .mk (hi▸a) b c d e f (k.mono h)
theorem RO.frz {g:Hp} {μ:List Nat} {Z:Nat→Prop} {i:Nat} {v:TV} {v':Value} (r:RO g μ Z i v v') (hz:Z i):RV g μ Z (frz v) v':=by
 cases r with
 |mk a b c d e f k=>exact .fz hz a b c (fun h=>(d h).1) e f k
end Go.Xt
end
section
namespace Go.Xt
open Go Go.Xe
def isAl:TV→Bool
 |.via _ _=>true
 |.vel _ _ _ _=>true
 |.vpt _ _ _=>true
 |_=>false
def RC (g:Hp) (μ:List Nat) (Z:Nat→Prop):Option Nat→TV→Value→Prop
 |none,tv,v=>RV g μ Z tv v
 |some i,tv,v=>RO g μ Z i tv v
structure RCs (g:Hp) (μ:List Nat) (Z:Nat→Prop) (ow:Nat→Option Nat) (cs:List TV) (vs:List Value):Prop where
 len:vs.length=cs.length
 get:∀(o:Nat) (tv:TV) (v:Value),cs[o]? =some tv→vs[o]? =some v→RC g μ Z (ow o) tv v
 out:∀o,cs.length≤o→ow o=none
inductive RT (g:Hp) (μ:List Nat) (Z:Nat→Prop) (w:Own) (clk t:Nat):TV→Value→Prop
 |plain {tv:TV} {v:Value}:RV g μ Z tv v→w (.tmp t)=none→(∀o,w (.tcell t o)=none)→RT g μ Z w clk t tv v
 |own {i:Nat} {tv:TV} {v:Value}:w (.tmp t)=some i→(∀o,w (.tcell t o)=none)→RO g μ Z i tv v→RT g μ Z w clk t tv v
 |bx {i ser:Nat} {cs:List TV} {e:TypeId} {ver:Nat} {vs:List Value}:w (.tmp t)=some i→g i=some ⟨ver,.cells vs e false⟩→RCs g μ Z (fun o=>w (.tcell t o)) cs vs→ser<clk→
   RT g μ Z w clk t (.bx ser cs e) (.pointer (some ⟨i,0,none⟩))
 |al {tv:TV} {v:Value}:isAl tv=true→w (.tmp t)=none→(∀o,w (.tcell t o)=none)→RT g μ Z w clk t tv v
def HVal (μ:List Nat) (w:Own) (ax:Xe.Act) (g:Hp):Pl→Value→Prop
 |.tmp t,v=>v=ax.ev (.tmp t)
 |.tcell t o _,v=>∃i ver vs e,w (.tmp t)=some i∧g i=some ⟨ver,.cells vs e false⟩∧vs[o]? =some v
 |.cell k o,v=>∃i ver vs e,μ[k]? =some i∧g i=some ⟨ver,.cells vs e false⟩∧vs[o]? =some v
def AL (μ:List Nat) (w:Own) (a:TAct) (σ:Sto) (ax:Xe.Act) (g:Hp):TV→Value→Prop
 |.via p c,v=>c≤a.clk∧(c=a.clk→∀chs,plGet a σ p=some chs→HVal μ w ax g p v)
 |.vel p c j o,v=>c≤a.clk∧(c=a.clk→∀chs ch,plGet a σ p=some chs→chs[j]? =some ch→∃i b n cc,HVal μ w ax g p (.slice (some ⟨i,b,none⟩) n cc)∧v=.pointer (some ⟨i,b+j*ch.length+o,none⟩))
 |.vpt t o ser,v=>ser<a.clk∧∀cs e,a.ev (.tmp t)=.bx ser cs e→∃i,w (.tmp t)=some i∧v=.pointer (some ⟨i,o,none⟩)
 |_,_=>True
def RB (g:Hp) (μ:List Nat) (Z:Nat→Prop) (w:Own) (k:Nat):TBody→ABody→Prop
 |.cells cs e,.cells vs e' ro=>e'=e∧ro=false∧RCs g μ Z (fun o=>w (.cell k o)) cs vs
 |.map es ck,.map es' ck'=>ck'=ck∧es'.length=es.length∧(∀(j:Nat) (x:TV×TV×Nat) (y:MapEntry),es[j]? =some x→es'[j]? =some y→RV g μ Z x.1 y.key∧RV g μ Z x.2.1 y.val∧y.born=x.2.2)∧∀o,w (.cell k o)=none
 |.iter s p,.iter s' p'=>s'=s∧p'=p∧∀o,w (.cell k o)=none
 |_,_=>False
def RObj (g:Hp) (μ:List Nat) (Z:Nat→Prop) (w:Own) (k:Nat) (o:TObj):Prop:=
 ∃i b,μ[k]? =some i∧g i=some ⟨o.ver,b⟩∧RB g μ Z w k o.body b
def RDf (g:Hp) (μ:List Nat) (Z:Nat→Prop):List TDfr→List Dfr→Prop
 |[],[]=>True
 |d::l,d'::l'=>d'.f=d.f∧RVs g μ Z d.args d'.args∧RDf g μ Z l l'
 |_,_=>False
structure Rs (Pr:Nat→Prop) (μ:List Nat) (w:Own) (σ:Sto) (s:AS):Prop where
 dm:Dm s
 len:μ.length=σ.length
 inj:∀p q i,w p=some i→w q=some i→p=q
 pr:∀p i,w p=some i→¬Pr i
 live:∀p i,w p=some i→i<s.next
 wobj:∀k,w (.obj k)=μ[k]?
 out:∀k c,σ.length≤k→w (.cell k c)=none
 obj:∀k o,σ.at k=some o→RObj s.get μ (Zo w Pr) w k o
 full:True
structure Rl (Pr:Nat→Prop) (μ:List Nat) (w:Own) (a:TAct) (σ:Sto) (ax:Xe.Act) (s:AS):Prop extends Rs Pr μ w σ s where
 tm:∀t,RT s.get μ (Zo w Pr) w a.clk t (a.ev (.tmp t)) (ax.ev (.tmp t))
 al:∀t,AL μ w a σ ax s.get (a.ev (.tmp t)) (ax.ev (.tmp t))
 df:RDf s.get μ (Zo w Pr) a.df ax.df
theorem RC.mono {g g':Hp} {μ μ':List Nat} {Z Z':Nat→Prop} (h:Mo g μ Z g' μ' Z'):∀{ow:Option Nat},(∀i,ow=some i→g' i=g i)→∀{tv:TV} {v:Value},RC g μ Z ow tv v→RC g' μ' Z' ow tv v
 |none,_,_,_,r=>RV.mono h r
 |some i,hi,_,_,r=>RO.mono h (hi i rfl) r
theorem RCs.mono {g g':Hp} {μ μ':List Nat} {Z Z':Nat→Prop} (h:Mo g μ Z g' μ' Z') {ow:Nat→Option Nat} (hi:∀o i,ow o=some i→g' i=g i) {cs:List TV} {vs:List Value} (r:RCs g μ Z ow cs vs):RCs g' μ' Z' ow cs vs:=
 ⟨r.len,fun o tv v h1 h2=>(r.get o tv v h1 h2).mono h (hi o),r.out⟩
theorem RT.mono {g g':Hp} {μ μ':List Nat} {Z Z':Nat→Prop} {w w':Own} {clk clk' t:Nat} (h:Mo g μ Z g' μ' Z') (h1:w' (.tmp t)=w (.tmp t)) (h2:∀o,w' (.tcell t o)=w (.tcell t o)) (h3:∀i,w (.tmp t)=some i→g' i=g i)
  (h4:∀o i,w (.tcell t o)=some i→g' i=g i) (hc:clk≤clk') {tv:TV} {v:Value} (r:RT g μ Z w clk t tv v):RT g' μ' Z' w' clk' t tv v:=by
 cases r with
 |plain a b c=>exact .plain (a.mono h) (h1.trans b) fun o=>(h2 o).trans (c o)
 |own a b c=>exact .own (h1.trans a) (fun o=>(h2 o).trans (b o)) (c.mono h (h3 _ a))
 |bx a b c d=>
  refine .bx (h1.trans a) ((h3 _ a).trans b) ?_ (by omega)
  have:(fun o=>w' (.tcell t o))=fun o=>w (.tcell t o):=funext h2
  rw [this]
  exact c.mono h h4
 |al a b c=>exact .al a (h1.trans b) fun o=>(h2 o).trans (c o)
theorem RB.mono {g g':Hp} {μ μ':List Nat} {Z Z':Nat→Prop} {w w':Own} {k:Nat} (h:Mo g μ Z g' μ' Z') (h2:∀o,w' (.cell k o)=w (.cell k o)) (h4:∀o i,w (.cell k o)=some i→g' i=g i) {b:TBody} {b':ABody} (r:RB g μ Z w k b b'):RB g' μ' Z' w' k b b':=by
 cases b<;>cases b'<;>simp only [RB] at r ⊢
 ·refine ⟨r.1,r.2.1,?_⟩
  have:(fun o=>w' (.cell k o))=fun o=>w (.cell k o):=funext h2
  rw [this]
  exact r.2.2.mono h h4
 ·exact ⟨r.1,r.2.1,fun j x y hx hy=>⟨(r.2.2.1 j x y hx hy).1.mono h,(r.2.2.1 j x y hx hy).2.1.mono h,(r.2.2.1 j x y hx hy).2.2⟩,fun o=>(h2 o).trans (r.2.2.2 o)⟩
 ·exact ⟨r.1,r.2.1,fun o=>(h2 o).trans (r.2.2 o)⟩
theorem RObj.mono {g g':Hp} {μ μ':List Nat} {Z Z':Nat→Prop} {w w':Own} {k:Nat} (h:Mo g μ Z g' μ' Z') (h2:∀o,w' (.cell k o)=w (.cell k o)) (h3:∀i,μ[k]? =some i→g' i=g i) (h4:∀o i,w (.cell k o)=some i→g' i=g i) {o:TObj} (r:RObj g μ Z w k o):RObj g' μ' Z' w' k o:=by
 obtain ⟨i,b,a1,a2,a3⟩:=r
 exact ⟨i,b,h.mu _ _ a1,(h3 _ a1).trans a2,a3.mono h h2 h4⟩
theorem RDf.mono {g g':Hp} {μ μ':List Nat} {Z Z':Nat→Prop} (h:Mo g μ Z g' μ' Z'):∀{l:List TDfr} {l':List Dfr},RDf g μ Z l l'→RDf g' μ' Z' l l'
 |[],[],_=>trivial
 |_::_,_::_,⟨a,b,c⟩=>⟨a,b.mono h,c.mono h⟩
 |[],_::_,h=>h.elim
 |_::_,[],h=>h.elim
theorem RV.notown {g:Hp} {μ:List Nat} {Z:Nat→Prop} {tv:TV} {v:Value} (r:RV g μ Z tv v):ownChs tv=none∧isOwn tv=false∧isAl tv=false∧∀s cs e,tv≠.bx s cs e:=by
 cases r<;>exact ⟨rfl,rfl,rfl,fun _ _ _ h=>by cases h⟩
section
variable {Pr:Nat→Prop} {μ μ':List Nat} {w w':Own} {a a':TAct} {σ σ':Sto} {ax ax':Xe.Act} {s s':AS}
theorem Rl.step (r:Rl Pr μ w a σ ax s) (mo:Mo s.get μ (Zo w Pr) s'.get μ' (Zo w' Pr)) (rs:Rs Pr μ' w' σ' s') (hclk:a.clk<a'.clk)
  (tm:∀t,(a'.ev (.tmp t)=a.ev (.tmp t)∧ax'.ev (.tmp t)=ax.ev (.tmp t)∧w' (.tmp t)=w (.tmp t)∧(∀o,w' (.tcell t o)=w (.tcell t o))∧(∀i,w (.tmp t)=some i→s'.get i=s.get i)∧(∀o i,w (.tcell t o)=some i→s'.get i=s.get i))∨
   (RT s'.get μ' (Zo w' Pr) w' a'.clk t (a'.ev (.tmp t)) (ax'.ev (.tmp t))∧isAl (a'.ev (.tmp t))=false∧∀ser cs e,a'.ev (.tmp t)=.bx ser cs e→a.clk≤ser∨((∃cs' e',a.ev (.tmp t)=.bx ser cs' e')∧w' (.tmp t)=w (.tmp t))))
  (df:a'.df=a.df∧ax'.df=ax.df):Rl Pr μ' w' a' σ' ax' s':=by
 refine ⟨rs,fun t=> ?_,fun t=> ?_,?_⟩
 ·rcases tm t with ⟨h1,h2,h3,h4,h5,h6⟩|⟨h,_⟩
  ·rw [h1,h2];exact (r.tm t).mono mo h3 h4 h5 h6 (Nat.le_of_lt hclk)
  ·exact h
 ·rcases tm t with ⟨h1,h2,h3,h4,h5,h6⟩|⟨h,hal,_⟩
  ·rw [h1,h2]
   have ha:=r.al t
   revert ha
   generalize a.ev (.tmp t)=x
   generalize ax.ev (.tmp t)=y
   intro ha
   cases x<;>first|trivial|skip
   ·simp only [AL] at ha ⊢
    exact ⟨by omega,fun h=>by omega⟩
   ·simp only [AL] at ha ⊢
    exact ⟨by omega,fun h=>by omega⟩
   ·rename_i t' o ser
    simp only [AL] at ha ⊢
    refine ⟨by omega,fun cs e hb=> ?_⟩
    rcases tm t' with ⟨k1,k2,k3,k4,k5,k6⟩|⟨_,_,k⟩
    ·rw [k1] at hb;rw [k3];exact ha.2 cs e hb
    ·rcases k ser cs e hb with k|⟨⟨cs',e',k⟩,k'⟩
     ·omega
     ·rw [k'];exact ha.2 cs' e' k
  ·revert hal
   generalize a'.ev (.tmp t)=x
   intro hal
   cases x<;>first|trivial|(cases hal)
 ·rw [df.1,df.2];exact r.df.mono mo
def rel (w:Own) (d:Option Nat):Own
 |.tmp t=>match d with
  |some d=>if d=t then none else w (.tmp t)
  |none=>w (.tmp t)
 |.tcell t o=>match d with
  |some d=>if d=t then none else w (.tcell t o)
  |none=>w (.tcell t o)
 |p=>w p
theorem rel_le (w:Own) (d:Option Nat) (p:Pc) (i:Nat) (h:rel w d p=some i):w p=some i:=by
 cases p<;>simp only [rel] at h<;>try exact h
 all_goals (cases d<;>simp only at h<;>first|exact h|(split at h<;>first|cases h|exact h))
theorem Zo.sub {w w':Own} (h:∀p i,w' p=some i→w p=some i) {i:Nat} (z:Zo w Pr i):Zo w' Pr i:=⟨fun p e=>z.1 p (h p i e),z.2⟩
theorem Mo.sub {g:Hp} {w w':Own} (h:∀p i,w' p=some i→w p=some i):Mo g μ (Zo w Pr) g μ (Zo w' Pr):=⟨fun _ _ e=>e,fun i _ _ _ _ z hg=>⟨z.sub h,hg⟩⟩
theorem Mo.refl (g:Hp) (μ:List Nat) (Z:Nat→Prop):Mo g μ Z g μ Z:=⟨fun _ _ e=>e,fun i _ _ _ _ z hg=>⟨z,hg⟩⟩
theorem Mo.trans {g g1 g2:Hp} {μ μ1 μ2:List Nat} {Z Z1 Z2:Nat→Prop} (a:Mo g μ Z g1 μ1 Z1) (b:Mo g1 μ1 Z1 g2 μ2 Z2):Mo g μ Z g2 μ2 Z2:=
 ⟨fun k i e=>b.mu k i (a.mu k i e),fun i ver vs e ro z hg=>have h:=a.z i ver vs e ro z hg;b.z i ver vs e ro h.1 h.2⟩
theorem Rs.sub (r:Rs Pr μ w σ s) (h:∀p i,w' p=some i→w p=some i) (ho:∀k,w' (.obj k)=w (.obj k)) (hc:∀k c,w' (.cell k c)=w (.cell k c)):Rs Pr μ w' σ s:=
 ⟨r.dm,r.len,fun p q i e f=>r.inj p q i (h p i e) (h q i f),fun p i e=>r.pr p i (h p i e),fun p i e=>r.live p i (h p i e),fun k=>(ho k).trans (r.wobj k),fun k c hk=>(hc k c).trans (r.out k c hk),
  fun k o e=>(r.obj k o e).mono (Mo.sub h) (hc k) (fun _ _=>rfl) (fun _ _ _=>rfl),r.full⟩
theorem TAct.ev_put_same (a:TAct) (d:Nat) (v:TV):(a.put (some d) v).ev (.tmp d)=v:=by
 simp only [TAct.put,TAct.ev,Tri.get_set_same]
theorem TAct.ev_put_ne (a:TAct) {d t:Nat} (v:TV) (h:d≠t):(a.put (some d) v).ev (.tmp t)=a.ev (.tmp t):=by
 simp only [TAct.put,TAct.ev,Tri.get_set_ne _ _ h]
def Pl.offT (d:Nat):Pl→Bool
 |.tmp t=> !(Nat.beq d t)
 |.tcell t _ _=> !(Nat.beq d t)
 |.cell _ _=>true
theorem beq_false {a b:Nat}:(!(Nat.beq a b))=true↔a≠b:=by
 rw [beqNat];simp
theorem plGet_put {d:Nat} {tv:TV} {p:Pl} (h:ownChs tv=none) (hb:∀s cs e,tv≠.bx s cs e) {chs:List (List TV)} (hp:plGet (a.put (some d) tv) σ p=some chs):p.offT d=true∧plGet a σ p=some chs:=by
 cases p with
 |tmp t=>
  by_cases e:d=t
  ·subst e;simp only [plGet,TAct.ev_put_same,h] at hp;cases hp
  ·simp only [plGet,TAct.ev_put_ne a tv e] at hp ⊢;exact ⟨beq_false.2 e,hp⟩
 |tcell t o ser=>
  by_cases e:d=t
  ·subst e
   simp only [plGet,boxAt,TAct.ev_put_same] at hp
   revert hp hb
   cases tv<;>intro hb hp<;>first|exact absurd rfl (hb _ _ _)|cases hp
  ·simp only [plGet,boxAt,TAct.ev_put_ne a tv e] at hp ⊢;exact ⟨beq_false.2 e,hp⟩
 |cell k o=>exact ⟨rfl,hp⟩
theorem hval_put {g:Hp} {d:Nat} {p:Pl} {x v:Value} (h:p.offT d=true) (hv:HVal μ w ax g p v):HVal μ (rel w (some d)) (ax.put (some d) x) g p v:=by
 cases p with
 |tmp t=>
  have e:=beq_false.1 h
  simp only [HVal] at hv ⊢
  rw [Act.ev_put_ne _ _ e];exact hv
 |tcell t o ser=>
  have e:=beq_false.1 h
  obtain ⟨i,ver,vs,e',h1,h2,h3⟩:=hv
  exact ⟨i,ver,vs,e',by simp only [rel,if_neg e];exact h1,h2,h3⟩
 |cell k o=>exact hv
theorem rel_tmp_same (w:Own) (d:Nat):rel w (some d) (.tmp d)=none:=by simp [rel]
theorem rel_tcell_same (w:Own) (d o:Nat):rel w (some d) (.tcell d o)=none:=by simp [rel]
theorem rel_tmp_ne (w:Own) {d t:Nat} (h:d≠t):rel w (some d) (.tmp t)=w (.tmp t):=by simp [rel,h]
theorem rel_tcell_ne (w:Own) {d t:Nat} (o:Nat) (h:d≠t):rel w (some d) (.tcell t o)=w (.tcell t o):=by simp [rel,h]
theorem rel_none (w:Own):rel w none=w:=by funext p;cases p<;>rfl
theorem Rl.put (r:Rl Pr μ w a σ ax s) (d:Option Nat) {tv:TV} {v:Value} (h:RV s.get μ (Zo w Pr) tv v∨(isAl tv=true∧AL μ w a σ ax s.get tv v)):Rl Pr μ (rel w d) (a.put d tv) σ (ax.put d v) s:=by
 have hsub:=rel_le w d
 cases d with
 |none=>rw [rel_none];exact r
 |some d=>
  have hno:ownChs tv=none∧∀s cs e,tv≠.bx s cs e:=by
   rcases h with h|⟨h,_⟩
   ·exact ⟨h.notown.1,h.notown.2.2.2⟩
   ·cases tv<;>simp [isAl] at h<;>exact ⟨rfl,fun _ _ _ h=>by cases h⟩
  have hal:∀x y,AL μ w a σ ax s.get x y→AL μ (rel w (some d)) (a.put (some d) tv) σ (ax.put (some d) v) s.get x y:=by
   intro x y hx
   cases x<;>first|trivial|skip
   ·exact ⟨hx.1,fun hc chs hp=>hval_put (plGet_put hno.1 hno.2 hp).1 (hx.2 hc chs (plGet_put hno.1 hno.2 hp).2)⟩
   ·refine ⟨hx.1,fun hc chs ch hp hj=> ?_⟩
    obtain ⟨i,b,n,cc,h1,h2⟩:=hx.2 hc chs ch (plGet_put hno.1 hno.2 hp).2 hj
    exact ⟨i,b,n,cc,hval_put (plGet_put hno.1 hno.2 hp).1 h1,h2⟩
   ·rename_i t o ser
    refine ⟨hx.1,fun cs e hb=> ?_⟩
    by_cases e2:d=t
    ·subst e2;rw [TAct.ev_put_same] at hb;exact absurd hb (hno.2 _ _ _)
    ·rw [TAct.ev_put_ne a tv e2] at hb
     rw [rel_tmp_ne w e2]
     exact hx.2 cs e hb
  refine ⟨r.toRs.sub hsub (fun _=>rfl) (fun _ _=>rfl),fun t=> ?_,fun t=> ?_,?_⟩
  ·by_cases e:d=t
   ·subst e
    rw [TAct.ev_put_same,Act.ev_put_same]
    rcases h with h|⟨h,_⟩
    ·exact .plain (h.mono (Mo.sub hsub)) (rel_tmp_same w d) (rel_tcell_same w d)
    ·exact .al h (rel_tmp_same w d) (rel_tcell_same w d)
   ·rw [TAct.ev_put_ne a tv e,Act.ev_put_ne ax v e]
    exact (r.tm t).mono (Mo.sub hsub) (rel_tmp_ne w e) (fun o=>rel_tcell_ne w o e) (fun _ _=>rfl) (fun _ _ _=>rfl) (Nat.le_refl _)
  ·by_cases e:d=t
   ·subst e
    rw [TAct.ev_put_same,Act.ev_put_same]
    rcases h with h|⟨h,h'⟩
    ·have:=h.notown.2.2.1
     revert this
     generalize tv=x
     intro this
     cases x<;>first|trivial|cases this
    ·exact hal _ _ h'
   ·rw [TAct.ev_put_ne a tv e,Act.ev_put_ne ax v e]
    exact hal _ _ (r.al t)
  ·exact r.df.mono (Mo.sub hsub)
end
end Go.Xt
end
section
namespace Go.Xt
open Go Go.Xe
section
variable {Pr:Nat→Prop} {μ μ':List Nat} {w w':Own} {a a':TAct} {σ σ':Sto} {ax ax':Xe.Act} {s s':AS}
theorem Rl.env (r:Rl Pr μ w a σ ax s) (mo:Mo s.get μ (Zo w Pr) s'.get μ (Zo w' Pr)) (rs:Rs Pr μ w' σ s') (h1:∀t,w' (.tmp t)=w (.tmp t)) (h2:∀t o,w' (.tcell t o)=w (.tcell t o))
  (hg:∀p i,w p=some i→(∀h,p≠.hand h)→s'.get i=s.get i):Rl Pr μ w' a σ ax s':=by
 refine ⟨rs,fun t=>(r.tm t).mono mo (h1 t) (h2 t) (fun i e=>hg _ i e (fun h=>by simp)) (fun o i e=>hg _ i e (fun h=>by simp)) (Nat.le_refl _),fun t=> ?_,r.df.mono mo⟩
 have hv:∀p v,HVal μ w ax s.get p v→HVal μ w' ax s'.get p v:=by
  intro p v h
  cases p with
  |tmp t=>exact h
  |tcell t o ser=>
   obtain ⟨i,ver,vs,e,k1,k2,k3⟩:=h
   exact ⟨i,ver,vs,e,(h1 t).trans k1,(hg _ i k1 (fun h=>by simp)).trans k2,k3⟩
  |cell k o=>
   obtain ⟨i,ver,vs,e,k1,k2,k3⟩:=h
   exact ⟨i,ver,vs,e,k1,(hg (.obj k) i ((r.wobj k).trans k1) (fun h=>by simp)).trans k2,k3⟩
 have ha:=r.al t
 revert ha
 generalize a.ev (.tmp t)=x
 generalize ax.ev (.tmp t)=y
 intro ha
 cases x<;>first|trivial|skip
 ·exact ⟨ha.1,fun hc chs hp=>hv _ _ (ha.2 hc chs hp)⟩
 ·refine ⟨ha.1,fun hc chs ch hp hj=> ?_⟩
  obtain ⟨i,b,n,cc,k1,k2⟩:=ha.2 hc chs ch hp hj
  exact ⟨i,b,n,cc,hv _ _ k1,k2⟩
 ·refine ⟨ha.1,fun cs e hb=> ?_⟩
  obtain ⟨i,k1,k2⟩:=ha.2 cs e hb
  exact ⟨i,(h1 _).trans k1,k2⟩
theorem Rl.sub (r:Rl Pr μ w a σ ax s) (h:∀p i,w' p=some i→w p=some i) (h1:∀p,(∀k,p≠.hand k)→w' p=w p):Rl Pr μ w' a σ ax s:=
 r.env (Mo.sub h) (r.toRs.sub h (fun k=>h1 _ (by simp)) (fun k c=>h1 _ (by simp))) (fun t=>h1 _ (by simp)) (fun t o=>h1 _ (by simp)) (fun _ _ _ _=>rfl)
def Fresh (a:TAct):Prop:=∀t,match a.ev (.tmp t) with
 |.via _ c=>c<a.clk
 |.vel _ c _ _=>c<a.clk
 |_=>True
theorem Rl.tick (r:Rl Pr μ w a σ ax s):Rl Pr μ w a.tick σ ax s:=
 r.step (Mo.refl _ _ _) r.toRs (Nat.lt_succ_self _) (fun t=>.inl ⟨rfl,rfl,rfl,fun _=>rfl,fun _ _=>rfl,fun _ _ _=>rfl⟩) ⟨rfl,rfl⟩
theorem Rl.fresh (r:Rl Pr μ w a σ ax s) {clk:Nat} (hc:a.clk<clk) (h:∀t,isAl (a'.ev (.tmp t))=true→a'.ev (.tmp t)=a.ev (.tmp t)) (h2:a'.clk=clk):Fresh a':=by
 intro t
 have h1:=h t
 have ha:=r.al t
 revert h1
 generalize a'.ev (.tmp t)=x
 intro h1
 cases x<;>first|trivial|skip
 ·rw [←h1 rfl] at ha
  have:=ha.1
  show _<a'.clk
  omega
 ·rw [←h1 rfl] at ha
  have:=ha.1
  show _<a'.clk
  omega
theorem ev_set_same (a:TAct) (t:Nat) (v:TV) (d:List TDfr) (c:Nat):(TAct.mk (a.tm.set t v) d c).ev (.tmp t)=v:=by simp only [TAct.ev,Tri.get_set_same]
theorem ev_set_ne (a:TAct) {t t':Nat} (v:TV) (d:List TDfr) (c:Nat) (h:t≠t'):(TAct.mk (a.tm.set t v) d c).ev (.tmp t')=a.ev (.tmp t'):=by simp only [TAct.ev,Tri.get_set_ne _ _ h]
theorem Rl.reTmp (r:Rl Pr μ w a σ ax s) (t:Nat) {tv:TV} (h:RV s.get μ (Zo (rel w (some t)) Pr) tv (ax.ev (.tmp t))):Rl Pr μ (rel w (some t)) ⟨a.tm.set t tv,a.df,a.clk+1⟩ σ ax s:=by
 have hsub:=rel_le w (some t)
 refine r.step (Mo.sub hsub) (r.toRs.sub hsub (fun _=>rfl) (fun _ _=>rfl)) (Nat.lt_succ_self _) (fun t'=> ?_) ⟨rfl,rfl⟩
 by_cases e:t=t'
 ·subst e
  rw [ev_set_same]
  exact .inr ⟨.plain h (rel_tmp_same w t) (rel_tcell_same w t),h.notown.2.2.1,fun ser cs e hb=>absurd hb (h.notown.2.2.2 _ _ _)⟩
 ·rw [ev_set_ne a tv _ _ e]
  exact .inl ⟨rfl,rfl,rel_tmp_ne w e,fun o=>rel_tcell_ne w o e,fun _ _=>rfl,fun _ _ _=>rfl⟩
def mv (w:Own) (p q:Pc):Own:=fun x=>if x=p then none else if x=q then w p else w x
theorem mv_from (w:Own) (p q:Pc):mv w p q p=none:=by simp [mv]
theorem mv_to (w:Own) {p q:Pc} (h:q≠p):mv w p q q=w p:=by simp [mv,h]
theorem mv_other (w:Own) {p q x:Pc} (h1:x≠p) (h2:x≠q):mv w p q x=w x:=by simp [mv,h1,h2]
theorem mv_some {w:Own} {p q x:Pc} {i:Nat} (h:mv w p q x=some i):(x=q∧x≠p∧w p=some i)∨(x≠p∧x≠q∧w x=some i):=by
 unfold mv at h
 split at h
 ·cases h
 ·split at h
  ·exact .inl ⟨by assumption,by assumption,h⟩
  ·exact .inr ⟨by assumption,by assumption,h⟩
theorem mv_owned {w:Own} {p q x:Pc} {i:Nat} (h:mv w p q x=some i):∃y,w y=some i:=by
 rcases mv_some h with ⟨_,_,h⟩|⟨_,_,h⟩
 ·exact ⟨_,h⟩
 ·exact ⟨_,h⟩
theorem Zo.mv {w:Own} {p q:Pc} {i:Nat} (z:Zo w Pr i):Zo (mv w p q) Pr i:=⟨fun x e=>by obtain ⟨y,h⟩:=mv_owned e;exact z.1 y h,z.2⟩
theorem Mo.mv {g:Hp} {w:Own} (p q:Pc):Mo g μ (Zo w Pr) g μ (Zo (mv w p q) Pr):=⟨fun _ _ e=>e,fun i _ _ _ _ z hg=>⟨z.mv,hg⟩⟩
theorem Rs.mv (r:Rs Pr μ w σ s) (p q:Pc) (ho:∀k,Xt.mv w p q (.obj k)=w (.obj k)) (hc:∀k c,Xt.mv w p q (.cell k c)=w (.cell k c)):Rs Pr μ (Xt.mv w p q) σ s:=by
 refine ⟨r.dm,r.len,fun x y i e f=> ?_,fun x i e=> ?_,fun x i e=> ?_,fun k=>(ho k).trans (r.wobj k),fun k c hk=>(hc k c).trans (r.out k c hk),fun k o e=>(r.obj k o e).mono (Mo.mv p q) (hc k) (fun _ _=>rfl) (fun _ _ _=>rfl),r.full⟩
 ·rcases mv_some e with ⟨h1,h2,h3⟩|⟨h1,h2,h3⟩<;>rcases mv_some f with ⟨k1,k2,k3⟩|⟨k1,k2,k3⟩
  ·rw [h1,k1]
  ·exact absurd (r.inj _ _ _ h3 k3).symm k1
  ·exact absurd (r.inj _ _ _ h3 k3) h1
  ·exact r.inj _ _ _ h3 k3
 ·obtain ⟨y,h⟩:=mv_owned e;exact r.pr y i h
 ·obtain ⟨y,h⟩:=mv_owned e;exact r.live y i h
theorem Rl.takeTmp (r:Rl Pr μ w a σ ax s) {t:Nat} (ht:isOwn (a.ev (.tmp t))=true):∃i,w (.tmp t)=some i∧RO s.get μ (Zo (mv w (.tmp t) (.hand 0)) Pr) i (a.ev (.tmp t)) (ax.ev (.tmp t))∧
  Rl Pr μ (mv w (.tmp t) (.hand 0)) ⟨a.tm.set t .dead,a.df,a.clk+1⟩ σ ax s∧Fresh ⟨a.tm.set t .dead,a.df,a.clk+1⟩:=by
 have h:=r.tm t
 have key:∃i,w (.tmp t)=some i∧(∀o,w (.tcell t o)=none)∧RO s.get μ (Zo w Pr) i (a.ev (.tmp t)) (ax.ev (.tmp t)):=by
  revert ht h
  generalize a.ev (.tmp t)=x
  generalize ax.ev (.tmp t)=y
  intro ht h
  cases h with
  |plain h _ _=>rw [h.notown.2.1] at ht;cases ht
  |own h1 h2 h3=>exact ⟨_,h1,h2,h3⟩
  |bx=>cases ht
  |al h _ _=>cases x<;>first|cases ht|cases h
 obtain ⟨i,h1,h2,h3⟩:=key
 refine ⟨i,h1,h3.mono (Mo.mv _ _) rfl,?_,?_⟩
 ·refine r.step (Mo.mv _ _) (r.toRs.mv _ _ (fun k=>mv_other w (by simp) (by simp)) (fun k c=>mv_other w (by simp) (by simp))) (Nat.lt_succ_self _) (fun t'=> ?_) ⟨rfl,rfl⟩
  by_cases e:t=t'
  ·subst e
   rw [ev_set_same]
   exact .inr ⟨.plain (.dead _) (mv_from w _ _) (fun o=>(mv_other w (by simp) (by simp)).trans (h2 o)),rfl,fun ser cs e hb=>by cases hb⟩
  ·rw [ev_set_ne a .dead _ _ e]
   exact .inl ⟨rfl,rfl,mv_other w (by simp;omega) (by simp),fun o=>mv_other w (by simp) (by simp),fun _ _=>rfl,fun _ _ _=>rfl⟩
 ·refine r.fresh (Nat.lt_succ_self _) (fun t' ht'=> ?_) rfl
  by_cases e:t=t'
  ·subst e;rw [ev_set_same] at ht';cases ht'
  ·rw [ev_set_ne a .dead _ _ e]
theorem Rl.putOwn (r:Rl Pr μ w a σ ax s) (hf:Fresh a) (d:Nat) {i:Nat} (hi:w (.hand 0)=some i) {tv:TV} {v:Value} (h:RO s.get μ (Zo w Pr) i tv v):
  Rl Pr μ (mv (rel w (some d)) (.hand 0) (.tmp d)) (a.put (some d) tv) σ (ax.put (some d) v) s:=by
 have hsub:=rel_le w (some d)
 have mo:Mo s.get μ (Zo w Pr) s.get μ (Zo (mv (rel w (some d)) (.hand 0) (.tmp d)) Pr):=(Mo.sub hsub).trans (Mo.mv _ _)
 have hni:isAl tv=false∧∀s cs e,tv≠.bx s cs e:=by cases h;exact ⟨rfl,fun _ _ _ h=>by cases h⟩
 refine ⟨(r.toRs.sub hsub (fun _=>rfl) (fun _ _=>rfl)).mv _ _ (fun k=>mv_other _ (by simp) (by simp)) (fun k c=>mv_other _ (by simp) (by simp)),fun t=> ?_,fun t=> ?_,r.df.mono mo⟩
 ·by_cases e:d=t
  ·subst e
   rw [TAct.ev_put_same,Act.ev_put_same]
   exact .own (i:=i) ((mv_to _ (by simp)).trans hi) (fun o=>(mv_other _ (by simp) (by simp)).trans (rel_tcell_same w d o)) (h.mono mo rfl)
  ·rw [TAct.ev_put_ne a tv e,Act.ev_put_ne ax v e]
   exact (r.tm t).mono mo ((mv_other _ (by simp) (by simp;omega)).trans (rel_tmp_ne w e)) (fun o=>(mv_other _ (by simp) (by simp)).trans (rel_tcell_ne w o e)) (fun _ _=>rfl) (fun _ _ _=>rfl) (Nat.le_refl _)
 ·by_cases e:d=t
  ·subst e
   rw [TAct.ev_put_same]
   have:=hni.1
   revert this
   generalize tv=x
   intro this
   cases x<;>first|trivial|cases this
  ·rw [TAct.ev_put_ne a tv e,Act.ev_put_ne ax v e]
   have ha:=r.al t
   have hft:=hf t
   revert ha hft
   generalize a.ev (.tmp t)=x
   intro ha hft
   cases x<;>first|trivial|skip
   ·exact ⟨ha.1,fun hc=>by have:_<a.clk:=hft;have hc:_=a.clk:=hc;omega⟩
   ·exact ⟨ha.1,fun hc=>by have:_<a.clk:=hft;have hc:_=a.clk:=hc;omega⟩
   ·rename_i t' o ser
    refine ⟨ha.1,fun cs e2 hb=> ?_⟩
    by_cases e3:d=t'
    ·subst e3;rw [TAct.ev_put_same] at hb;exact absurd hb (hni.2 _ _ _)
    ·rw [TAct.ev_put_ne a tv e3] at hb
     obtain ⟨i2,k1,k2⟩:=ha.2 cs e2 hb
     exact ⟨i2,(mv_other _ (by simp) (by simp;omega)).trans ((rel_tmp_ne w e3).trans k1),k2⟩
theorem Rl.putBx (r:Rl Pr μ w a σ ax s) (hf:Fresh a) (d:Nat) {i:Nat} (hi:w (.hand 0)=some i) {ser ver:Nat} {cs:List TV} {vs:List Value} {e:TypeId} (hg:s.get i=some ⟨ver,.cells vs e false⟩) (hv:RVs s.get μ (Zo w Pr) cs vs) (hser:ser+1=a.clk)
  (hold:∀t o,a.ev (.tmp t)≠.vpt d o ser):
  Rl Pr μ (mv (rel w (some d)) (.hand 0) (.tmp d)) (a.put (some d) (.bx ser cs e)) σ (ax.put (some d) (.pointer (some ⟨i,0,none⟩))) s:=by
 have hsub:=rel_le w (some d)
 have mo:Mo s.get μ (Zo w Pr) s.get μ (Zo (mv (rel w (some d)) (.hand 0) (.tmp d)) Pr):=(Mo.sub hsub).trans (Mo.mv _ _)
 refine ⟨(r.toRs.sub hsub (fun _=>rfl) (fun _ _=>rfl)).mv _ _ (fun k=>mv_other _ (by simp) (by simp)) (fun k c=>mv_other _ (by simp) (by simp)),fun t=> ?_,fun t=> ?_,r.df.mono mo⟩
 ·by_cases e:d=t
  ·subst e
   rw [TAct.ev_put_same,Act.ev_put_same]
   have hn:∀o,mv (rel w (some d)) (.hand 0) (.tmp d) (.tcell d o)=none:=fun o=>(mv_other _ (by simp) (by simp)).trans (rel_tcell_same w d o)
   refine .bx (i:=i) ((mv_to _ (by simp)).trans hi) hg ⟨hv.length,fun o tv v h1 h2=> ?_,fun o _=>hn o⟩ (by show ser<a.clk;omega)
   obtain ⟨v',h3,h4⟩:=hv.get h1
   rw [h2] at h3;cases h3
   simp only [hn o]
   exact h4.mono mo
  ·rw [TAct.ev_put_ne a _ e,Act.ev_put_ne ax _ e]
   exact (r.tm t).mono mo ((mv_other _ (by simp) (by simp;omega)).trans (rel_tmp_ne w e)) (fun o=>(mv_other _ (by simp) (by simp)).trans (rel_tcell_ne w o e)) (fun _ _=>rfl) (fun _ _ _=>rfl) (Nat.le_refl _)
 ·by_cases e:d=t
  ·subst e;rw [TAct.ev_put_same];trivial
  ·rw [TAct.ev_put_ne a _ e,Act.ev_put_ne ax _ e]
   have ha:=r.al t
   have hft:=hf t
   have hold':=hold t
   revert ha hft hold'
   generalize a.ev (.tmp t)=x
   intro ha hft hold'
   cases x<;>first|trivial|skip
   ·exact ⟨ha.1,fun hc=>by have:_<a.clk:=hft;have hc:_=a.clk:=hc;omega⟩
   ·exact ⟨ha.1,fun hc=>by have:_<a.clk:=hft;have hc:_=a.clk:=hc;omega⟩
   ·rename_i t' o ser'
    refine ⟨ha.1,fun cs e2 hb=> ?_⟩
    by_cases e3:d=t'
    ·subst e3
     rw [TAct.ev_put_same] at hb
     cases hb
     exact absurd rfl (hold' o)
    ·rw [TAct.ev_put_ne a _ e3] at hb
     obtain ⟨i2,k1,k2⟩:=ha.2 cs e2 hb
     exact ⟨i2,(mv_other _ (by simp) (by simp;omega)).trans ((rel_tmp_ne w e3).trans k1),k2⟩
def holds (w:Own) (i:Nat):Own:=fun p=>if p=.hand 0 then some i else w p
theorem holds_hand (w:Own) (i:Nat):holds w i (.hand 0)=some i:=by simp [holds]
theorem holds_other (w:Own) (i:Nat) {p:Pc} (h:∀k,p≠.hand k):holds w i p=w p:=by simp [holds,h 0]
theorem Rl.alloc (r:Rl Pr μ w a σ ax s) (o:AObj) (hp:¬Pr s.next):Rl Pr μ (holds w s.next) a σ ax (s.upd [(s.next,some o)] (s.next+1)):=by
 have hget:∀i,i<s.next→(s.upd [(s.next,some o)] (s.next+1)).get i=s.get i:=fun i hi=>by
  rw [AS.upd_get];simp only [Hp.upd];exact Hp.set1_ne _ _ (by omega)
 have hsome:∀i x,s.get i=some x→i<s.next:=fun i x e=>by
  by_cases h:i<s.next
  ·exact h
  ·rw [r.dm i (by omega)] at e;cases e
 have mo:Mo s.get μ (Zo w Pr) (s.upd [(s.next,some o)] (s.next+1)).get μ (Zo (holds w s.next) Pr):=by
  refine ⟨fun _ _ e=>e,fun i ver vs e ro z hg=> ?_⟩
  have hi:=hsome i _ hg
  refine ⟨⟨fun p e=> ?_,z.2⟩,(hget i hi).trans hg⟩
  unfold holds at e
  split at e
  ·cases e;omega
  ·exact z.1 p e
 have hold:∀p i,holds w s.next p=some i→(p=.hand 0∧i=s.next)∨(p≠.hand 0∧w p=some i):=fun p i e=>by
  unfold holds at e
  split at e
  ·cases e;exact .inl ⟨by assumption,rfl⟩
  ·exact .inr ⟨by assumption,e⟩
 have hdm:Dm (s.upd [(s.next,some o)] (s.next+1)):=fun i hi=>by
  have hi:s.next+1≤i:=hi
  rw [AS.upd_get];simp only [Hp.upd];rw [Hp.set1_ne _ _ (by omega)];exact r.dm i (by omega)
 refine r.env mo ⟨hdm,r.len,fun p q i e f=> ?_,fun p i e=> ?_,fun p i e=> ?_,fun k=>(holds_other w _ (by simp)).trans (r.wobj k),fun k c hk=>(holds_other w _ (by simp)).trans (r.out k c hk),fun k o' e=> ?_,r.full⟩ (fun t=>holds_other w _ (by simp)) (fun t o=>holds_other w _ (by simp)) (fun p i e _=>hget i (r.live p i e))
 ·rcases hold p i e with ⟨h1,h2⟩|⟨h1,h2⟩<;>rcases hold q i f with ⟨k1,k2⟩|⟨k1,k2⟩
  ·rw [h1,k1]
  ·have:=r.live _ _ k2;omega
  ·have:=r.live _ _ h2;omega
  ·exact r.inj _ _ _ h2 k2
 ·rcases hold p i e with ⟨_,rfl⟩|⟨_,h⟩
  ·exact hp
  ·exact r.pr p i h
 ·rcases hold p i e with ⟨_,rfl⟩|⟨_,h⟩
  ·exact Nat.lt_succ_self _
  ·exact Nat.lt_succ_of_lt (r.live p i h)
 ·exact (r.obj k o' e).mono mo (fun c=>holds_other w _ (by simp)) (fun i e=>hget i (r.live (.obj k) i ((r.wobj k).trans e))) (fun c i e=>hget i (r.live _ i e))
theorem Rl.handSet (r:Rl Pr μ w a σ ax s) {i:Nat} (hi:w (.hand 0)=some i) (o:Option AObj):Rl Pr μ w a σ ax (s.upd [(i,o)] s.next):=by
 have hget:∀j,j≠i→(s.upd [(i,o)] s.next).get j=s.get j:=fun j hj=>by
  rw [AS.upd_get];simp only [Hp.upd];exact Hp.set1_ne _ _ (fun h=>hj h.symm)
 have hne:∀p j,w p=some j→p≠.hand 0→j≠i:=fun p j e h h2=>by subst h2;exact h (r.inj _ _ _ e hi)
 have mo:Mo s.get μ (Zo w Pr) (s.upd [(i,o)] s.next).get μ (Zo w Pr):=by
  refine ⟨fun _ _ e=>e,fun j ver vs e ro z hg=>⟨z,(hget j ?_).trans hg⟩⟩
  rintro rfl;exact z.1 _ hi
 have hdm:Dm (s.upd [(i,o)] s.next):=fun j hj=>by
  have hj:s.next≤j:=hj
  have:=r.live _ _ hi
  rw [hget j (by omega)];exact r.dm j hj
 refine r.env mo ⟨hdm,r.len,r.inj,r.pr,r.live,r.wobj,r.out,fun k o' e=> ?_,r.full⟩ (fun _=>rfl) (fun _ _=>rfl) (fun p j e h=>hget j (hne p j e (h 0)))
 exact (r.obj k o' e).mono mo (fun _=>rfl) (fun j e=>hget j (hne (.obj k) j ((r.wobj k).trans e) (by simp))) (fun c j e=>hget j (hne _ j e (by simp)))
theorem Rl.putObj (r:Rl Pr μ w a σ ax s) {i:Nat} (hi:w (.hand 0)=some i) {o:TObj} {b:ABody} (hg:s.get i=some ⟨o.ver,b⟩) (hb:(∀c,mv w (.hand 0) (.obj σ.length) (.cell σ.length c)=none)→Mo s.get μ (Zo w Pr) s.get (μ++[i]) (Zo (mv w (.hand 0) (.obj σ.length)) Pr)→RB s.get (μ++[i]) (Zo (mv w (.hand 0) (.obj σ.length)) Pr) (mv w (.hand 0) (.obj σ.length)) σ.length o.body b):
  Rl Pr (μ++[i]) (mv w (.hand 0) (.obj σ.length)) a.tick (σ++[some o]) ax s:=by
 have mo:Mo s.get μ (Zo w Pr) s.get (μ++[i]) (Zo (mv w (.hand 0) (.obj σ.length)) Pr):=⟨fun k j e=>by rw [List.getElem?_append_left (List.getElem?_eq_some_iff.1 e).1];exact e,fun j _ _ _ _ z hg=>⟨z.mv,hg⟩⟩
 have hcell:∀k c,mv w (.hand 0) (.obj σ.length) (.cell k c)=w (.cell k c):=fun k c=>mv_other w (by simp) (by simp)
 have hat:∀k,k<σ.length→(σ++[some o]:Sto).at k=σ.at k:=fun k hk=>by simp only [Sto.at,List.getElem?_append_left hk]
 have hat2:(σ++[some o]:Sto).at σ.length=some o:=by simp [Sto.at]
 have hlt:∀k x,(σ++[some o]:Sto).at k=some x→k<σ.length∨k=σ.length:=fun k x e=>by
  unfold Sto.at at e
  split at e
  ·rename_i h;have:=(List.getElem?_eq_some_iff.1 h).1;simp at this;omega
  ·cases e
 refine r.step mo ⟨r.dm,by simp [r.len],fun x y j e f=> ?_,fun x j e=> ?_,fun x j e=> ?_,fun k=> ?_,fun k c hk=> ?_,fun k x e=> ?_,trivial⟩ (Nat.lt_succ_self _) (fun t=>.inl ⟨rfl,rfl,mv_other w (by simp) (by simp),fun o=>mv_other w (by simp) (by simp),fun _ _=>rfl,fun _ _ _=>rfl⟩) ⟨rfl,rfl⟩
 ·rcases mv_some e with ⟨h1,h2,h3⟩|⟨h1,h2,h3⟩<;>rcases mv_some f with ⟨k1,k2,k3⟩|⟨k1,k2,k3⟩
  ·rw [h1,k1]
  ·exact absurd (r.inj _ _ _ h3 k3).symm k1
  ·exact absurd (r.inj _ _ _ h3 k3) h1
  ·exact r.inj _ _ _ h3 k3
 ·obtain ⟨y,h⟩:=mv_owned e;exact r.pr y j h
 ·obtain ⟨y,h⟩:=mv_owned e;exact r.live y j h
 ·by_cases e:k=σ.length
  ·subst e
   rw [mv_to w (by simp),hi,←r.len];simp
  ·rw [mv_other w (by simp) (by simpa using e),r.wobj k]
   by_cases h:k<μ.length
   ·rw [List.getElem?_append_left h]
   ·have:=r.len
    rw [List.getElem?_eq_none (by omega),List.getElem?_eq_none (by simp;omega)]
 ·rw [hcell];exact r.out k c (by simp at hk;omega)
 ·rcases hlt k x e with h|rfl
  ·rw [hat k h] at e
   exact (r.obj k x e).mono mo (hcell k) (fun _ _=>rfl) (fun _ _ _=>rfl)
  ·rw [hat2] at e;cases e
   exact ⟨i,b,by rw [←r.len];simp,hg,hb (fun c=>(hcell _ c).trans (r.out _ c (Nat.le_refl _))) mo⟩
end
end Go.Xt
end
section
namespace Go.Xt
open Go Go.Xe
theorem putAt_get {vs l:List TV} {o:Nat} (h:o+l.length≤vs.length) (j:Nat):(putAt vs o l)[j]? =if j<o then vs[j]? else if j<o+l.length then l[j - o]? else vs[j]? :=by
 unfold putAt
 by_cases h1:j<o
 ·rw [if_pos h1,List.append_assoc,List.getElem?_append_left (by simp;omega),List.getElem?_take,if_pos h1]
 ·rw [if_neg h1]
  by_cases h2:j<o+l.length
  ·rw [if_pos h2,List.getElem?_append_left (by simp;omega),List.getElem?_append_right (by simp;omega)]
   congr 1;simp;omega
  ·rw [if_neg h2,List.getElem?_append_right (by simp;omega),List.getElem?_drop]
   congr 1;simp;omega
theorem putAt_len {vs l:List TV} {o:Nat} (h:o+l.length≤vs.length):(putAt vs o l).length=vs.length:=by
 unfold putAt;simp;omega
theorem setList_get:∀(l vs:List Value) (o:Nat),o+l.length≤vs.length→∀j,(setList vs o l)[j]? =if j<o then vs[j]? else if j<o+l.length then l[j - o]? else vs[j]?
 |[],vs,o,h,j=>by
  simp only [setList,List.length_nil,Nat.add_zero]
  by_cases h1:j<o<;>simp [h1]
 |x::l,vs,o,h,j=>by
  simp only [List.length_cons] at h
  rw [setList,setList_get l (vs.set o x) (o+1) (by simp;omega) j]
  by_cases h1:j<o
  ·rw [if_pos h1,if_pos (by omega),List.getElem?_set_ne (by omega)]
  ·rw [if_neg h1]
   by_cases h2:j=o
   ·subst h2
    rw [if_pos (by omega),if_pos (by simp),List.getElem?_set_self (by omega)];simp
   ·rw [if_neg (by omega)]
    by_cases h3:j<o+1+l.length
    ·rw [if_pos h3,if_pos (by simp;omega),show j - o=(j - (o+1))+1 by omega];simp
    ·rw [if_neg h3,if_neg (by simp;omega),List.getElem?_set_ne (by omega)]
def clr (ow:Nat→Option Nat) (o n:Nat) (x:Option Nat):Nat→Option Nat:=fun j=>if j<o then ow j else if j<o+n then x else ow j
section
variable {g:Hp} {μ:List Nat} {Z:Nat→Prop}
theorem RCs.put {ow:Nat→Option Nat} {cs:List TV} {vs:List Value} (r:RCs g μ Z ow cs vs) {l:List TV} {l':List Value} (hl:RVs g μ Z l l') {o:Nat} (h:o+l.length≤cs.length):RCs g μ Z (clr ow o l.length none) (putAt cs o l) (setList vs o l'):=by
 have hlen:=hl.length
 refine ⟨by rw [setList_length,putAt_len h,r.len],fun j tv v h1 h2=> ?_,fun j hj=> ?_⟩
 ·rw [putAt_get h] at h1
  rw [setList_get _ _ _ (by rw [hlen,r.len];exact h),hlen] at h2
  unfold clr
  by_cases h3:j<o
  ·rw [if_pos h3] at h1 h2 ⊢;exact r.get j tv v h1 h2
  ·rw [if_neg h3] at h1 h2 ⊢
   by_cases h4:j<o+l.length
   ·rw [if_pos h4] at h1 h2 ⊢
    obtain ⟨v',h5,h6⟩:=hl.get h1
    rw [h2] at h5;cases h5;exact h6
   ·rw [if_neg h4] at h1 h2 ⊢;exact r.get j tv v h1 h2
 ·rw [putAt_len h] at hj
  unfold clr
  rw [if_neg (by omega),if_neg (by omega)];exact r.out j hj
theorem RCs.plain {ow:Nat→Option Nat} {cs:List TV} {vs:List Value} (r:RCs g μ Z ow cs vs) {o n:Nat} (h:o+n≤cs.length) (hn:((cs.drop o).take n).any isOwn=false):RVs g μ Z ((cs.drop o).take n) ((vs.drop o).take n):=by
 refine RVs.of_get (by simp [r.len]) fun j tv v h1 h2=> ?_
 have hno:isOwn tv=false:=by
  have:=List.any_eq_false.1 hn tv (List.mem_of_getElem? h1)
  simpa using this
 simp only [List.getElem?_take,List.getElem?_drop] at h1 h2
 split at h1
 ·rename_i hj
  rw [if_pos hj] at h2
  have:=r.get _ _ _ h1 h2
  revert this
  cases ow (o+j) with
  |none=>exact id
  |some i=>intro h;cases h;cases hno
 ·cases h1
theorem RCs.at {ow:Nat→Option Nat} {cs:List TV} {vs:List Value} (r:RCs g μ Z ow cs vs) {o:Nat} {tv:TV} (h:cs[o]? =some tv):∃v,vs[o]? =some v∧RC g μ Z (ow o) tv v:=by
 have hlt:=(List.getElem?_eq_some_iff.1 h).1
 have:o<vs.length:=by rw [r.len];exact hlt
 exact ⟨vs[o],by simp [this],r.get o tv _ h (by simp [this])⟩
theorem RC.plainOf {ow:Option Nat} {tv:TV} {v:Value} (r:RC g μ Z ow tv v) (h:isOwn tv=false):ow=none∧RV g μ Z tv v:=by
 cases ow with
 |none=>exact ⟨rfl,r⟩
 |some i=>cases r;cases h
theorem RC.ownOf {ow:Option Nat} {tv:TV} {v:Value} (r:RC g μ Z ow tv v) (h:isOwn tv=true):∃i,ow=some i∧RO g μ Z i tv v:=by
 cases ow with
 |none=>rw [(RV.notown r).2.1] at h;cases h
 |some i=>exact ⟨i,rfl,r⟩
end
section
variable {Pr:Nat→Prop} {μ μ':List Nat} {w w':Own} {a a':TAct} {σ σ':Sto} {ax ax':Xe.Act} {s s':AS}
theorem Rl.boxStep (r:Rl Pr μ w a σ ax s) {t ser:Nat} {cs cs':List TV} {e:TypeId} (hb:a.ev (.tmp t)=.bx ser cs e) (mo:Mo s.get μ (Zo w Pr) s'.get μ (Zo w' Pr)) (rs:Rs Pr μ w' σ s')
  (h1:∀t',w' (.tmp t')=w (.tmp t')) (h2:∀t' o,t'≠t→w' (.tcell t' o)=w (.tcell t' o)) (hg:∀p i,w p=some i→(∀h,p≠.hand h)→p≠.tmp t→(∀o,p≠.tcell t o)→s'.get i=s.get i)
  (hi:∀i,w (.tmp t)=some i→∃ver vs,s'.get i=some ⟨ver,.cells vs e false⟩∧RCs s'.get μ (Zo w' Pr) (fun o=>w' (.tcell t o)) cs' vs):Rl Pr μ w' (boxPut a t ser cs' e) σ ax s':=by
 refine r.step mo rs (Nat.lt_succ_self _) (fun t'=> ?_) ⟨rfl,rfl⟩
 by_cases ht:t=t'
 ·subst ht
  refine .inr ?_
  have hev:(boxPut a t ser cs' e).ev (.tmp t)=.bx ser cs' e:=ev_set_same _ _ _ _ _
  rw [hev]
  have h:=r.tm t
  rw [hb] at h
  revert h
  generalize ax.ev (.tmp t)=y
  intro h
  cases h with
  |plain h _ _=>exact absurd rfl (h.notown.2.2.2 _ _ _)
  |own _ _ h=>cases h
  |al h _ _=>cases h
  |bx k1 k2 k3 k4=>
   obtain ⟨ver,vs,q1,q2⟩:=hi _ k1
   exact ⟨.bx ((h1 t).trans k1) q1 q2 (by show ser<a.clk+1;omega),rfl,fun ser' cs2 e2 hq=>by cases hq;exact .inr ⟨⟨_,_,hb⟩,h1 t⟩⟩
 ·have hev:(boxPut a t ser cs' e).ev (.tmp t')=a.ev (.tmp t'):=ev_set_ne a _ _ _ ht
  exact .inl ⟨hev,rfl,h1 t',fun o=>h2 t' o (fun h=>ht h.symm),fun i hi=>hg _ i hi (by simp) (by simp;omega) (by simp),fun o i hi=>hg _ i hi (by simp) (by simp) (by simp;omega)⟩
theorem Rl.boxOf (r:Rl Pr μ w a σ ax s) {t ser:Nat} {cs:List TV} {e:TypeId} (hb:boxAt a t ser=some (cs,e)):a.ev (.tmp t)=.bx ser cs e∧∃i ver vs,w (.tmp t)=some i∧ax.ev (.tmp t)=.pointer (some ⟨i,0,none⟩)∧s.get i=some ⟨ver,.cells vs e false⟩∧RCs s.get μ (Zo w Pr) (fun o=>w (.tcell t o)) cs vs:=by
 have hbx:a.ev (.tmp t)=.bx ser cs e:=by
  unfold boxAt at hb
  split at hb
  ·rename_i s' cs' e' hq
   split at hb
   ·rename_i hs
    rw [beqNat] at hs
    have:=of_decide_eq_true hs
    cases hb;rw [hq,this]
   ·cases hb
  ·cases hb
 refine ⟨hbx,?_⟩
 have h:=r.tm t
 rw [hbx] at h
 revert h
 generalize ax.ev (.tmp t)=y
 intro h
 cases h with
 |plain h _ _=>exact absurd rfl (h.notown.2.2.2 _ _ _)
 |own _ _ h=>cases h
 |al h _ _=>cases h
 |bx k1 k2 k3 k4=>exact ⟨_,_,_,k1,rfl,k2,k3⟩
theorem Rl.vptOf (r:Rl Pr μ w a σ ax s) {t ser o:Nat} {cs:List TV} {e:TypeId} {v:Value} (hv:AL μ w a σ ax s.get (.vpt t o ser) v) (hb:boxAt a t ser=some (cs,e)):∃i ver vs,v=.pointer (some ⟨i,o,none⟩)∧w (.tmp t)=some i∧s.get i=some ⟨ver,.cells vs e false⟩∧RCs s.get μ (Zo w Pr) (fun o=>w (.tcell t o)) cs vs:=by
 obtain ⟨hbx,i,ver,vs,h1,h2,h3,h4⟩:=r.boxOf hb
 obtain ⟨i',k1,k2⟩:=hv.2 _ _ hbx
 rw [h1] at k1;cases k1
 exact ⟨i,ver,vs,k2,h1,h3,h4⟩
def relC (w:Own) (t o n:Nat) (x:Option Nat):Own:=fun p=>match p with
 |.tcell t' j=>if t'=t then clr (fun j=>w (.tcell t j)) o n x j else w p
 |p=>w p
theorem relC_tcell (w:Own) (t o n:Nat) (x:Option Nat):(fun j=>relC w t o n x (.tcell t j))=clr (fun j=>w (.tcell t j)) o n x:=by
 funext j;simp [relC]
theorem relC_le (w:Own) (t o n:Nat) (p:Pc) (i:Nat) (h:relC w t o n none p=some i):w p=some i:=by
 cases p<;>simp only [relC] at h<;>try exact h
 rename_i t' j
 by_cases ht:t'=t
 ·subst ht
  simp only [if_true] at h
  unfold clr at h
  split at h
  ·exact h
  ·split at h
   ·cases h
   ·exact h
 ·rwa [if_neg ht] at h
def relO (w:Own) (k o n:Nat) (x:Option Nat):Own:=fun p=>match p with
 |.cell k' j=>if k'=k then clr (fun j=>w (.cell k j)) o n x j else w p
 |p=>w p
theorem relO_cell (w:Own) (k o n:Nat) (x:Option Nat):(fun j=>relO w k o n x (.cell k j))=clr (fun j=>w (.cell k j)) o n x:=by
 funext j;simp [relO]
theorem relO_le (w:Own) (k o n:Nat) (p:Pc) (i:Nat) (h:relO w k o n none p=some i):w p=some i:=by
 cases p<;>simp only [relO] at h<;>try exact h
 rename_i k' j
 by_cases ht:k'=k
 ·subst ht
  simp only [if_true] at h
  unfold clr at h
  split at h
  ·exact h
  ·split at h
   ·cases h
   ·exact h
 ·rwa [if_neg ht] at h
theorem heapSet (s:AS) (i:Nat) (o:Option AObj) (j:Nat):(s.upd [(i,o)] s.next).get j=if i=j then o else s.get j:=by
 rw [AS.upd_get];rfl
theorem Rl.moSet (r:Rl Pr μ w a σ ax s) {p:Pc} {i:Nat} (hi:w p=some i) (o:Option AObj) {w':Own} (hw:∀p i,w' p=some i→∃q,w q=some i):Mo s.get μ (Zo w Pr) (s.upd [(i,o)] s.next).get μ (Zo w' Pr):=by
 refine ⟨fun _ _ e=>e,fun j ver vs e ro z hg=>⟨⟨fun q e=> ?_,z.2⟩,?_⟩⟩
 ·obtain ⟨q',h⟩:=hw q j e;exact z.1 q' h
 ·rw [heapSet,if_neg];exact hg
  rintro rfl;exact z.1 _ hi
theorem Rl.dmSet (r:Rl Pr μ w a σ ax s) {p:Pc} {i:Nat} (hi:w p=some i) (o:Option AObj):Dm (s.upd [(i,o)] s.next):=fun j hj=>by
 have hj:s.next≤j:=hj
 have:=r.live _ _ hi
 rw [heapSet,if_neg (by omega)];exact r.dm j hj
theorem Rs.setT (r:Rs Pr μ w σ s) {s':AS} (mo:Mo s.get μ (Zo w Pr) s'.get μ (Zo w' Pr)) (hdm:Dm s') (hle:s.next≤s'.next) (inj:∀p q i,w' p=some i→w' q=some i→p=q) (own:∀p i,w' p=some i→∃q,w q=some i)
  (ho:∀k,w' (.obj k)=w (.obj k)) (hc:∀k c,w' (.cell k c)=w (.cell k c)) (hg:∀k i,(w (.obj k)=some i∨∃c,w (.cell k c)=some i)→s'.get i=s.get i):Rs Pr μ w' σ s':=
 ⟨hdm,r.len,inj,fun p i e=>by obtain ⟨q,h⟩:=own p i e;exact r.pr q i h,fun p i e=>by obtain ⟨q,h⟩:=own p i e;exact Nat.lt_of_lt_of_le (r.live q i h) hle,fun k=>(ho k).trans (r.wobj k),fun k c hk=>(hc k c).trans (r.out k c hk),
  fun k o e=>(r.obj k o e).mono mo (hc k) (fun i e=>hg k i (.inl ((r.wobj k).trans e))) (fun c i e=>hg k i (.inr ⟨c,e⟩)),r.full⟩
theorem Rs.setO (r:Rs Pr μ w σ s) {s':AS} {k:Nat} {o:TObj} (hk:k<σ.length) (mo:Mo s.get μ (Zo w Pr) s'.get μ (Zo w' Pr)) (hdm:Dm s') (hle:s.next≤s'.next) (inj:∀p q i,w' p=some i→w' q=some i→p=q) (own:∀p i,w' p=some i→∃q,w q=some i)
  (ho:∀k,w' (.obj k)=w (.obj k)) (hc:∀k' c,k'≠k→w' (.cell k' c)=w (.cell k' c)) (hg:∀k' i,k'≠k→(w (.obj k')=some i∨∃c,w (.cell k' c)=some i)→s'.get i=s.get i)
  (new:RObj s'.get μ (Zo w' Pr) w' k o):Rs Pr μ w' (σ.set k (some o)) s':=by
 have hat:∀k',k'≠k→Sto.at (σ.set k (some o)) k'=σ.at k':=fun k' h=>by simp only [Sto.at];rw [List.getElem?_set_ne (fun e=>h e.symm)]
 have hat2:Sto.at (σ.set k (some o)) k=some o:=by simp [Sto.at,hk]
 refine ⟨hdm,by simp [r.len],inj,fun p i e=>by obtain ⟨q,h⟩:=own p i e;exact r.pr q i h,fun p i e=>by obtain ⟨q,h⟩:=own p i e;exact Nat.lt_of_lt_of_le (r.live q i h) hle,fun k=>(ho k).trans (r.wobj k),fun k' c hk'=> ?_,fun k' o' e=> ?_,trivial⟩
 ·simp at hk';rw [hc k' c (by omega)];exact r.out k' c hk'
 ·by_cases h:k'=k
  ·subst h;rw [hat2] at e;cases e;exact new
  ·rw [hat k' h] at e
   exact (r.obj k' o' e).mono mo (fun c=>hc k' c h) (fun i e=>hg k' i h (.inl ((r.wobj k').trans e))) (fun c i e=>hg k' i h (.inr ⟨c,e⟩))
theorem Rs.setN (r:Rs Pr μ w σ s) {s':AS} {k:Nat} (mo:Mo s.get μ (Zo w Pr) s'.get μ (Zo w Pr)) (hdm:Dm s') (hle:s.next≤s'.next) (hg:∀k' i,k'≠k→(w (.obj k')=some i∨∃c,w (.cell k' c)=some i)→s'.get i=s.get i):Rs Pr μ w (σ.set k none) s':=by
 have hat:∀k' o,Sto.at (σ.set k none) k'=some o→k'≠k∧σ.at k'=some o:=fun k' o h=>by
  unfold Sto.at at h ⊢
  rw [List.getElem?_set] at h
  by_cases e:k=k'
  ·rw [if_pos e] at h;split at h
   ·rename_i y hy;split at hy<;>cases hy
   ·cases h
  ·rw [if_neg e] at h;exact ⟨fun h=>e h.symm,h⟩
 refine ⟨hdm,by simp [r.len],r.inj,r.pr,fun p i e=>Nat.lt_of_lt_of_le (r.live p i e) hle,r.wobj,fun k' c hk'=>r.out k' c (by simpa using hk'),fun k' o' e=> ?_,trivial⟩
 obtain ⟨h,e⟩:=hat k' o' e
 exact (r.obj k' o' e).mono mo (fun _=>rfl) (fun i e=>hg k' i h (.inl ((r.wobj k').trans e))) (fun c i e=>hg k' i h (.inr ⟨c,e⟩))
theorem Rl.objStep (r:Rl Pr μ w a σ ax s) (mo:Mo s.get μ (Zo w Pr) s'.get μ (Zo w' Pr)) (rs:Rs Pr μ w' σ' s') (h1:∀t',w' (.tmp t')=w (.tmp t')) (h2:∀t' o,w' (.tcell t' o)=w (.tcell t' o))
  (hg:∀t i,(w (.tmp t)=some i∨∃o,w (.tcell t o)=some i)→s'.get i=s.get i):Rl Pr μ w' a.tick σ' ax s':=
 r.step mo rs (Nat.lt_succ_self _) (fun t=>.inl ⟨rfl,rfl,h1 t,h2 t,fun i e=>hg t i (.inl e),fun o i e=>hg t i (.inr ⟨o,e⟩)⟩) ⟨rfl,rfl⟩
end
end Go.Xt
end
section
namespace Go.Xt
open Go Go.Xe
mutual
theorem RV.ofV (g:Hp) (μ:List Nat) (Z:Nat→Prop):∀v:Value,RV g μ Z (Xt.ofV v) v
 |.int k n=>.int k n
 |.bool b=>.bool b
 |.string s=>.str s
 |.pointer none=>.nilp
 |.slice none 0 0=>.nl
 |.map none=>.nilm
 |.nilFunc=>.nilf
 |.nilIface=>.nili
 |.agg ⟨l⟩=>.agg (RVs.ofVs g μ Z l)
 |.tuple ⟨l⟩=>.tuple (RVs.ofVs g μ Z l)
 |.float _ _=>.dead _
 |.complex _ _ _=>.dead _
 |.pointer (some _)=>.dead _
 |.slice none 0 (_+1)=>.dead _
 |.slice none (_+1) _=>.dead _
 |.slice (some _) _ _=>.dead _
 |.map (some _)=>.dead _
 |.chan _=>.dead _
 |.func _ _ _=>.dead _
 |.iface _ _=>.dead _
theorem RVs.ofVs (g:Hp) (μ:List Nat) (Z:Nat→Prop):∀l:List Value,RVs g μ Z (Xt.ofV.ofVs l) l
 |[]=>.nil
 |v::l=>.cons (RV.ofV g μ Z v) (RVs.ofVs g μ Z l)
end
def pl:TV→Bool
 |.sl (.own _ _) _=>false
 |.via _ _=>false
 |.vel _ _ _ _=>false
 |.bx _ _ _=>false
 |.vpt _ _ _=>false
 |_=>true
theorem RV.pl {g:Hp} {μ:List Nat} {Z:Nat→Prop} {tv:TV} {v:Value} (h:RV g μ Z tv v):Xt.pl tv=true:=by cases h<;>rfl
section
variable {Pr:Nat→Prop} {μ μ':List Nat} {w w':Own} {a a':TAct} {σ σ':Sto} {ax ax':Xe.Act} {s s':AS}
theorem Rl.plain (r:Rl Pr μ w a σ ax s) {x:Operand} (h:pl (a.ev x)=true):RV s.get μ (Zo w Pr) (a.ev x) (ax.ev x):=by
 cases x with
 |tmp t=>
  have ht:=r.tm t
  revert h ht
  generalize a.ev (.tmp t)=tv
  generalize ax.ev (.tmp t)=v
  intro h ht
  cases ht with
  |plain k _ _=>exact k
  |own _ _ k=>cases k;cases h
  |bx=>cases h
  |al k _ _=>cases tv<;>first|(simp [Xt.pl] at h;done)|(simp [isAl] at k;done)
 |const v=>exact RV.ofV _ _ _ v
 |global g=>exact .dead _
 |func f=>exact .func f .nil .nil
theorem Rl.plainOf (r:Rl Pr μ w a σ ax s) {x:Operand} {tv:TV} (h:a.ev x=tv) (hp:pl tv=true):RV s.get μ (Zo w Pr) tv (ax.ev x):=by
 have:=r.plain (x:=x) (by rw [h];exact hp)
 rwa [h] at this
theorem Rl.ownOf (r:Rl Pr μ w a σ ax s) {t:Nat} (h:isOwn (a.ev (.tmp t))=true):∃i,w (.tmp t)=some i∧RO s.get μ (Zo w Pr) i (a.ev (.tmp t)) (ax.ev (.tmp t)):=by
 have ht:=r.tm t
 revert h ht
 generalize a.ev (.tmp t)=tv
 generalize ax.ev (.tmp t)=v
 intro h ht
 cases ht with
 |plain k _ _=>rw [k.notown.2.1] at h;cases h
 |own h1 _ k=>exact ⟨_,h1,k⟩
 |bx=>cases h
 |al k _ _=>cases tv<;>first|(simp [isOwn] at h;done)|(simp [isAl] at k;done)
theorem isOwn_const (v:Value):isOwn (ofV v)=false:=(RV.ofV (fun _=>none) [] (fun _=>True) v).notown.2.1
theorem isOwn_tmp {x:Operand} (h:isOwn (a.ev x)=true):∃t,x=.tmp t:=by
 cases x with
 |tmp t=>exact ⟨t,rfl⟩
 |const v=>rw [show a.ev (.const v)=ofV v from rfl,isOwn_const] at h;cases h
 |global g=>cases h
 |func f=>cases h
theorem frz_idem (v:TV):frz (frz v)=frz v:=by
 cases v<;>try rfl
 rename_i m c;cases m<;>rfl
theorem frz_same {v:TV} (h:isOwn v=false):frz v=v:=by
 cases v<;>try rfl
 rename_i m c;cases m<;>first|rfl|cases h
theorem frz_notown (v:TV):isOwn (frz v)=false:=by
 cases v<;>try rfl
 rename_i m c;cases m<;>rfl
theorem frz1_ev (a:TAct) (x y:Operand):(frz1 a x).ev y=a.ev y∨(x=y∧(frz1 a x).ev y=frz (a.ev y)):=by
 cases x with
 |tmp t=>
  cases ho:isOwn (a.ev (.tmp t)) with
  |true=>
   simp only [frz1,ho]
   cases y with
   |tmp t'=>
    by_cases e:t=t'
    ·subst e;exact .inr ⟨rfl,ev_set_same _ _ _ _ _⟩
    ·exact .inl (ev_set_ne a _ _ _ e)
   |_=>exact .inl rfl
  |false=>simp only [frz1,ho];exact .inl trivial
 |_=>exact .inl rfl
theorem frz1_same (a:TAct) (x:Operand):(frz1 a x).ev x=frz (a.ev x):=by
 cases x with
 |tmp t=>
  cases ho:isOwn (a.ev (.tmp t)) with
  |true=>simp only [frz1,ho];exact ev_set_same _ _ _ _ _
  |false=>simp only [frz1,ho];exact (frz_same ho).symm
 |const v=>exact (frz_same (isOwn_const v)).symm
 |global g=>rfl
 |func f=>rfl
theorem frz1_frz (a:TAct) (x y:Operand):frz ((frz1 a x).ev y)=frz (a.ev y):=by
 rcases frz1_ev a x y with h|⟨_,h⟩
 ·rw [h]
 ·rw [h,frz_idem]
theorem frz1_keep {a:TAct} {x y:Operand} (h:isOwn (a.ev y)=false):(frz1 a x).ev y=a.ev y:=by
 rcases frz1_ev a x y with h1|⟨_,h1⟩
 ·exact h1
 ·rw [h1,frz_same h]
theorem frzs_keep:∀(l:List Operand) (a:TAct) (y:Operand),isOwn (a.ev y)=false→(frzs a l).ev y=a.ev y
 |[],a,y,_=>rfl
 |x::l,a,y,h=>by
  have h1:=frz1_keep (x:=x) h
  simp only [frzs];rw [frzs_keep l _ _ (by rw [h1];exact h),h1]
theorem frzs_mem:∀(l:List Operand) (a:TAct) (y:Operand),y∈l→(frzs a l).ev y=frz (a.ev y)
 |[],a,y,h=>by cases h
 |x::l,a,y,h=>by
  simp only [frzs]
  by_cases e:x=y
  ·subst e
   rw [frzs_keep l _ _ (by rw [frz1_same];exact frz_notown _),frz1_same]
  ·rcases List.mem_cons.1 h with h|h
   ·exact absurd h.symm e
   ·rw [frzs_mem l _ y h,frz1_frz]
theorem Rl.frz1 (r:Rl Pr μ w a σ ax s) (x:Operand):∃w1,Rl Pr μ w1 (Xt.frz1 a x) σ ax s∧∀p i,w1 p=some i→w p=some i:=by
 cases x with
 |tmp t=>
  cases h:isOwn (a.ev (.tmp t)) with
  |true=>
   simp only [Xt.frz1,h]
   obtain ⟨i,h1,h2⟩:=r.ownOf h
   refine ⟨rel w (some t),r.reTmp t (RO.frz (h2.mono (Mo.sub (rel_le w _)) rfl) ⟨fun p e=> ?_,r.pr _ i h1⟩),rel_le w _⟩
   have:=r.inj _ _ _ (rel_le w _ p i e) h1
   subst this
   rw [rel_tmp_same] at e;cases e
  |false=>simp only [Xt.frz1,h];exact ⟨w,r,fun _ _ h=>h⟩
 |const v=>exact ⟨w,r,fun _ _ h=>h⟩
 |global g=>exact ⟨w,r,fun _ _ h=>h⟩
 |func f=>exact ⟨w,r,fun _ _ h=>h⟩
theorem Rl.frzs:∀(l:List Operand) {w:Own} {a:TAct},Rl Pr μ w a σ ax s→∃w1,Rl Pr μ w1 (Xt.frzs a l) σ ax s∧∀p i,w1 p=some i→w p=some i
 |[],w,a,r=>⟨w,r,fun _ _ h=>h⟩
 |x::l,w,a,r=>by
  obtain ⟨w1,h1,h2⟩:=r.frz1 x
  obtain ⟨w2,h3,h4⟩:=Rl.frzs l h1
  exact ⟨w2,h3,fun p i e=>h2 p i (h4 p i e)⟩
theorem give_frz {v v':TV} (h:give v=some v'):v'=frz v∧pl v'=true:=by
 cases v<;>simp only [give] at h<;>first|(cases h;exact ⟨rfl,rfl⟩)|(cases h;done)|skip
 rename_i m c
 cases m<;>simp only [give] at h<;>cases h<;>exact ⟨rfl,rfl⟩
theorem Rl.given (r:Rl Pr μ w a σ ax s) {l:List Operand} {a0:TAct} (ha:a=Xt.frzs a0 l) {x:Operand} (hx:x∈l) {v:TV} (h:give (a0.ev x)=some v):RV s.get μ (Zo w Pr) v (ax.ev x):=by
 obtain ⟨h1,h2⟩:=give_frz h
 subst ha
 have:=frzs_mem l a0 x hx
 rw [←h1] at this
 exact r.plainOf this h2
theorem gives_rel (r:Rl Pr μ w a σ ax s) {L:List Operand} {a0:TAct} (ha:a=Xt.frzs a0 L):∀(l:List Operand),(∀x∈l,x∈L)→∀{vs:List TV},gives (l.map a0.ev)=some vs→RVs s.get μ (Zo w Pr) vs (l.map ax.ev)
 |[],_,vs,h=>by simp only [List.map_nil,gives] at h;cases h;exact .nil
 |x::l,hl,vs,h=>by
  simp only [List.map_cons,gives] at h
  split at h
  ·rename_i v vs' h1 h2
   cases h
   exact .cons (r.given ha (hl x (by simp)) h1) (gives_rel r ha l (fun y hy=>hl y (by simp [hy])) h2)
  ·cases h
structure After (w w':Own) (μ μ':List Nat) (s s':AS):Prop where
 le:s.next≤s'.next
 keep:∀i,i<s.next→(∀p,w p≠some i)→s'.get i=s.get i
 own:∀p i,w' p=some i→i<s.next→∃q,w q=some i
 mu:∃ν,μ'=μ++ν
def Done (Pr:Nat→Prop) (μ:List Nat) (w:Own) (ax:Xe.Act) (s:AS) (d:Option Nat) (v:TV) (a':TAct) (σ':Sto) (p:PR):Prop:=
 ∃μ' w',Rl Pr μ' w' (a'.put d v) σ' (ax.put d p.v) (s.upd p.δ p.nx)∧After w w' μ μ' s (s.upd p.δ p.nx)
theorem done_pure {w1:Own} (r:Rl Pr μ w1 a' σ' ax s) (hw:∀p i,w1 p=some i→∃q,w q=some i) (d:Option Nat) {tv:TV} {v:Value} (h:RV s.get μ (Zo w1 Pr) tv v∨(isAl tv=true∧AL μ w1 a' σ' ax s.get tv v)):
  Done Pr μ w ax s d tv a' σ' ⟨v,[],s.next⟩:=
 ⟨μ,rel w1 d,r.put d h,Nat.le_refl _,fun _ _ _=>rfl,fun p i e _=>hw p i (rel_le w1 d p i e),[],(List.append_nil μ).symm⟩
theorem done_val (r:Rl Pr μ w a σ ax s) (d:Option Nat) {tv:TV} {v:Value} (h:RV s.get μ (Zo w Pr) tv v):Done Pr μ w ax s d tv a σ ⟨v,[],s.next⟩:=
 done_pure r (fun p i e=>⟨p,e⟩) d (.inl h)
end
end Go.Xt
end
section
namespace Go.Xt
open Go Go.Xe
theorem okSz_get {s:Nat} {chs:List (List TV)} (h:okSz s chs=true) {j:Nat} {ch:List TV} (e:chs[j]? =some ch):ch.length=s:=by
 have:=List.all_eq_true.1 h ch (List.mem_of_getElem? e)
 rw [beqNat] at this
 exact of_decide_eq_true this
theorem flat_len {s:Nat}:∀{chs:List (List TV)},okSz s chs=true→chs.flatten.length=chs.length*s
 |[],_=>by simp
 |c::chs,h=>by
  simp only [okSz,List.all_cons,Bool.and_eq_true] at h
  rw [beqNat] at h
  have h1:=of_decide_eq_true h.1
  rw [List.flatten_cons,List.length_append,flat_len h.2,h1,List.length_cons,Nat.succ_mul,Nat.add_comm]
theorem flat_chunk {s:Nat}:∀{chs:List (List TV)},okSz s chs=true→∀{j:Nat} {ch:List TV},chs[j]? =some ch→(chs.flatten.drop (j*s)).take s=ch
 |[],_,j,ch,e=>by simp at e
 |c::chs,h,j,ch,e=>by
  simp only [okSz,List.all_cons,Bool.and_eq_true] at h
  rw [beqNat] at h
  have h1:=of_decide_eq_true h.1
  cases j with
  |zero=>
   simp at e;subst e
   rw [Nat.zero_mul,List.drop_zero,List.flatten_cons,←h1,List.take_left]
  |succ j=>
   rw [List.flatten_cons,Nat.succ_mul,Nat.add_comm,←h1,←List.drop_drop,List.drop_left,h1]
   exact flat_chunk h.2 (by simpa using e)
def SimP (md b:Nat) (d:Option Nat) (op:XOp):Prop:=
 ∀{Pr:Nat→Prop} {μ:List Nat} {w:Own} {a:TAct} {σ:Sto} {ax:Xe.Act} {s:AS} {v:TV} {a':TAct} {σ':Sto},tdo md b a σ op=some (v,a',σ')→Rl Pr μ w a σ ax s→(∀i,Pr i→i<s.next)→
  ∃p,xprim s.get s.next ax.ev op=some p∧Done Pr μ w ax s d v a' σ' p
section
variable {Pr:Nat→Prop} {μ μ':List Nat} {w w':Own} {a a':TAct} {σ σ':Sto} {ax ax':Xe.Act} {s s':AS}
theorem Rl.at (r:Rl Pr μ w a σ ax s) {x:Operand} (h:isOwn (a.ev x)=false):RV s.get μ (Zo w Pr) (a.at x) (ax.ev x)∨(isAl (a.at x)=true∧AL μ w a σ ax s.get (a.at x) (ax.ev x)):=by
 by_cases hp:pl (a.ev x)=true
 ·left
  have:a.at x=a.ev x:=by
   unfold TAct.at
   revert hp
   generalize a.ev x=v
   intro hp
   cases v<;>first|rfl|(simp [pl] at hp)
  rw [this];exact r.plain hp
 ·have hx:∃t,x=.tmp t:=by
   cases x with
   |tmp t=>exact ⟨t,rfl⟩
   |const v=>exact absurd (RV.ofV (fun _=>none) [] (fun _=>True) v).pl hp
   |global g=>exact absurd rfl hp
   |func f=>exact absurd rfl hp
  obtain ⟨t,rfl⟩:=hx
  have ha:=r.al t
  have ht:=r.tm t
  unfold TAct.at
  revert h hp ha ht
  generalize hv:a.ev (.tmp t)=v
  intro h hp ha ht
  cases v<;>first|(simp [pl] at hp;done)|skip
  ·exact .inr ⟨rfl,ha⟩
  ·exact .inr ⟨rfl,ha⟩
  ·rename_i ser cs e
   right
   simp only
   revert ht
   generalize hy:ax.ev (.tmp t)=y
   intro ht
   cases ht with
   |plain k _ _=>exact absurd rfl (k.notown.2.2.2 _ _ _)
   |own _ _ k=>cases k
   |al k _ _=>cases k
   |bx k1 k2 k3 k4=>exact ⟨rfl,k4,fun cs' e' hb=>⟨_,k1,rfl⟩⟩
  ·exact .inr ⟨rfl,ha⟩
  ·rename_i m c
   cases m<;>first|(simp [pl] at hp;done)|cases h
theorem done_al (r:Rl Pr μ w a σ ax s) (d:Option Nat) {tv:TV} {v:Value} (h:isAl tv=true) (h2:AL μ w a σ ax s.get tv v):Done Pr μ w ax s d tv a σ ⟨v,[],s.next⟩:=
 done_pure r (fun p i e=>⟨p,e⟩) d (.inr ⟨h,h2⟩)
end
theorem s_keep (md b:Nat) (d:Option Nat) (x:Operand):SimP md b d (.keep x):=by
 intro Pr μ w a σ ax s v a' σ' h r hP
 simp only [tdo] at h
 split at h
 ·rename_i st hx
  cases h
  have:=r.plainOf hx rfl
  revert this
  simp only [xprim]
  generalize ax.ev x=y
  intro h;cases h
  exact ⟨_,rfl,done_val r d (.str _)⟩
 ·cases h
theorem s_pick (md b:Nat) (d:Option Nat) (c x y:Operand):SimP md b d (.pick c x y):=by
 intro Pr μ w a σ ax s v a' σ' h r hP
 simp only [tdo] at h
 simp only [xprim]
 split at h
 ·rename_i hc
  have hc':=r.plainOf hc rfl
  revert hc'
  generalize ax.ev c=z
  intro hc';cases hc'
  split at h
  ·rename_i ho;cases h
   exact ⟨_,rfl,done_pure r (fun p i e=>⟨p,e⟩) d (r.at ho)⟩
  ·cases h
 ·rename_i hc
  have hc':=r.plainOf hc rfl
  revert hc'
  generalize ax.ev c=z
  intro hc';cases hc'
  split at h
  ·rename_i ho;cases h
   exact ⟨_,rfl,done_pure r (fun p i e=>⟨p,e⟩) d (r.at ho)⟩
  ·cases h
 ·cases h
theorem tint_rel {g:Hp} {μ:List Nat} {Z:Nat→Prop} {op:BinOp} {k:IntKind} {x y:Int} {v:TV} (h:tint op k x y=some v):∃v',xint op k x y=some v'∧RV g μ Z v v':=by
 cases op<;>simp only [tint] at h<;>simp only [xint]<;>first|(cases h;done)|(cases h;exact ⟨_,rfl,.int _ _⟩)|(cases h;exact ⟨_,rfl,.bool _⟩)|skip
 all_goals
  split at h
  ·cases h
  ·rename_i hb;cases h;rw [if_neg hb];exact ⟨_,rfl,.int _ _⟩
theorem tstr_rel {g:Hp} {μ:List Nat} {Z:Nat→Prop} {op:BinOp} {x y:ByteArray} {v:TV} (h:tstr op x y=some v):∃v',xstr op x y=some v'∧RV g μ Z v v':=by
 cases op<;>simp only [tstr] at h<;>simp only [xstr]<;>first|(cases h;done)|(cases h;exact ⟨_,rfl,.bool _⟩)|skip
 split at h
 ·rename_i hb;cases h;rw [if_pos hb];exact ⟨_,rfl,.str _⟩
 ·cases h
theorem xbin_str (op:BinOp) (x y:ByteArray):xbin op (.string x) (.string y)=xstr op x y:=by cases op<;>rfl
theorem tbin_rel {g:Hp} {μ:List Nat} {Z:Nat→Prop} {op:BinOp} {x y v:TV} {x' y':Value} (hx:pl x=true→RV g μ Z x x') (hy:pl y=true→RV g μ Z y y') (h:tbin op x y=some v):∃v',xbin op x' y'=some v'∧RV g μ Z v v':=by
 unfold tbin at h
 split at h
 ·have h1:=hx rfl;have h2:=hy rfl
  cases h1;cases h2
  split at h
  ·cases h
  ·rename_i hb;cases h
   exact ⟨_,by simp only [xbin,hb],.int _ _⟩
 ·have h1:=hx rfl;have h2:=hy rfl
  cases h1;cases h2
  split at h
  ·cases h
  ·rename_i hb;cases h
   exact ⟨_,by simp only [xbin,hb],.int _ _⟩
 ·rename_i op' k p k' q hn1 hn2
  have h1:=hx rfl;have h2:=hy rfl
  cases h1;cases h2
  split at h
  ·rename_i hk
   obtain ⟨v',h3,h4⟩:=tint_rel (g:=g) (μ:=μ) (Z:=Z) h
   refine ⟨v',?_,h4⟩
   cases op<;>first|(simp only [xbin,hk];exact h3)|exact absurd rfl (hn1 _ _ _ _ rfl rfl)|exact absurd rfl (hn2 _ _ _ _ rfl rfl)|(simp [tint] at h)
  ·cases h
 ·have h1:=hx rfl;have h2:=hy rfl
  cases h1;cases h2
  obtain ⟨v',h3,h4⟩:=tstr_rel (g:=g) (μ:=μ) (Z:=Z) h
  exact ⟨v',by rw [xbin_str];exact h3,h4⟩
 ·cases h
theorem s_bin (md b:Nat) (d:Option Nat) (op:BinOp) (x y:Operand):SimP md b d (.bin op x y):=by
 intro Pr μ w a σ ax s v a' σ' h r hP
 simp only [tdo,tVal] at h
 split at h
 ·rename_i v0 hv
  cases h
  obtain ⟨v',h3,h4⟩:=tbin_rel (fun h=>r.plain h) (fun h=>r.plain h) hv
  exact ⟨⟨v',[],s.next⟩,by simp only [xprim,h3,pure1],done_val r d h4⟩
 ·cases h
theorem s_un (md b:Nat) (d:Option Nat) (op:UnOp) (x:Operand):SimP md b d (.un op x):=by
 intro Pr μ w a σ ax s v a' σ' h r hP
 simp only [tdo,tVal] at h
 split at h
 ·rename_i v0 hv
  cases h
  unfold tun at hv
  split at hv
  ·rename_i hx
   have h1:=r.plainOf hx rfl
   cases hv
   simp only [xprim]
   revert h1;generalize ax.ev x=y;intro h1;cases h1
   exact ⟨_,rfl,done_val r d (.int _ _)⟩
  ·rename_i hx
   have h1:=r.plainOf hx rfl
   simp only [xprim]
   revert h1;generalize ax.ev x=y;intro h1;cases h1
   obtain ⟨v',h3,h4⟩:=tint_rel (g:=s.get) (μ:=μ) (Z:=Zo w Pr) hv
   exact ⟨⟨v',[],s.next⟩,by simp only [xun,h3,pure1],done_val r d h4⟩
  ·rename_i hx
   have h1:=r.plainOf hx rfl
   cases hv
   simp only [xprim]
   revert h1;generalize ax.ev x=y;intro h1;cases h1
   exact ⟨_,rfl,done_val r d (.bool _)⟩
  ·cases hv
 ·cases h
theorem s_toInt (md b:Nat) (d:Option Nat) (k:IntKind) (x:Operand):SimP md b d (.toInt k x):=by
 intro Pr μ w a σ ax s v a' σ' h r hP
 simp only [tdo] at h
 split at h
 ·rename_i hx
  have h1:=r.plainOf hx rfl
  cases h
  simp only [xprim]
  revert h1;generalize ax.ev x=y;intro h1;cases h1
  exact ⟨_,rfl,done_val r d (.int _ _)⟩
 ·cases h
theorem s_indexStr (md b:Nat) (d:Option Nat) (x i:Operand):SimP md b d (.indexStr x i):=by
 intro Pr μ w a σ ax s v a' σ' h r hP
 simp only [tdo] at h
 split at h
 ·rename_i hx hi
  have h1:=r.plainOf hx rfl
  have h2:=r.plainOf hi rfl
  split at h
  ·rename_i bb hb
   cases h
   simp only [xprim]
   revert h1 h2;generalize ax.ev x=y;generalize ax.ev i=z;intro h1 h2;cases h1;cases h2
   simp only [hb]
   exact ⟨_,rfl,done_val r d (.int _ _)⟩
  ·cases h
 ·cases h
theorem s_lenStr (md b:Nat) (d:Option Nat) (x:Operand):SimP md b d (.lenStr x):=by
 intro Pr μ w a σ ax s v a' σ' h r hP
 simp only [tdo] at h
 split at h
 ·rename_i hx
  have h1:=r.plainOf hx rfl
  cases h
  simp only [xprim]
  revert h1;generalize ax.ev x=y;intro h1;cases h1
  exact ⟨_,rfl,done_val r d (.int _ _)⟩
 ·cases h
theorem s_lenArr (md b:Nat) (d:Option Nat) (n:Nat):SimP md b d (.lenArr n):=by
 intro Pr μ w a σ ax s v a' σ' h r hP
 simp only [tdo] at h
 cases h
 exact ⟨_,rfl,done_val r d (.int _ _)⟩
theorem s_extract (md b:Nat) (d:Option Nat) (x:Operand) (i:Nat):SimP md b d (.extract x i):=by
 intro Pr μ w a σ ax s v a' σ' h r hP
 simp only [tdo,tVal] at h
 split at h
 ·rename_i vs hx
  have h1:=r.plainOf hx rfl
  split at h
  ·rename_i v0 hv
   cases h
   simp only [xprim]
   revert h1;generalize ax.ev x=y;intro h1;cases h1
   rename_i h1
   obtain ⟨v',h3,h4⟩:=h1.get hv
   simp only [h3]
   exact ⟨_,rfl,done_val r d h4⟩
  ·cases h
 ·cases h
theorem s_field1 (md b:Nat) (d:Option Nat) (off:Nat) (x:Operand):SimP md b d (.field1 off x):=by
 intro Pr μ w a σ ax s v a' σ' h r hP
 simp only [tdo,tVal] at h
 split at h
 ·rename_i vs hx
  have h1:=r.plainOf hx rfl
  split at h
  ·rename_i v0 hv
   cases h
   simp only [xprim]
   revert h1;generalize ax.ev x=y;intro h1;cases h1
   rename_i h1
   obtain ⟨v',h3,h4⟩:=h1.get hv
   simp only [h3]
   exact ⟨_,rfl,done_val r d h4⟩
  ·cases h
 ·cases h
theorem s_fieldN (md b:Nat) (d:Option Nat) (off n:Nat) (x:Operand):SimP md b d (.fieldN off n x):=by
 intro Pr μ w a σ ax s v a' σ' h r hP
 simp only [tdo] at h
 split at h
 ·rename_i vs hx
  have h1:=r.plainOf hx rfl
  cases h
  simp only [xprim]
  revert h1;generalize ax.ev x=y;intro h1;cases h1
  rename_i h1
  exact ⟨_,rfl,done_val r d (.agg ((h1.drop off).take n))⟩
 ·cases h
theorem s_index1 (md b:Nat) (d:Option Nat) (len:Nat) (x i:Operand):SimP md b d (.index1 len x i):=by
 intro Pr μ w a σ ax s v a' σ' h r hP
 simp only [tdo,tVal] at h
 split at h
 ·rename_i vs j hx hi
  have h1:=r.plainOf hx rfl
  have h2:=r.plainOf hi rfl
  split at h
  ·rename_i hj
   split at h
   ·rename_i v0 hv
    cases h
    simp only [xprim]
    revert h1 h2;generalize ax.ev x=y;generalize ax.ev i=z;intro h1 h2;cases h1;cases h2
    rename_i h1
    obtain ⟨v',h3,h4⟩:=h1.get hv
    simp only [hj,h3]
    exact ⟨_,rfl,done_val r d h4⟩
   ·cases h
  ·cases h
 ·cases h
theorem s_indexN (md b:Nat) (d:Option Nat) (len size:Nat) (x i:Operand):SimP md b d (.indexN len size x i):=by
 intro Pr μ w a σ ax s v a' σ' h r hP
 simp only [tdo] at h
 split at h
 ·rename_i vs j hx hi
  have h1:=r.plainOf hx rfl
  have h2:=r.plainOf hi rfl
  split at h
  ·rename_i hj
   cases h
   simp only [xprim]
   revert h1 h2;generalize ax.ev x=y;generalize ax.ev i=z;intro h1 h2;cases h1;cases h2
   rename_i h1
   simp only [hj]
   exact ⟨_,rfl,done_val r d (.agg ((h1.drop _).take _))⟩
  ·cases h
 ·cases h
theorem s_assertT (md b:Nat) (d:Option Nat) (t:TypeId) (z:Value) (x:Operand) (ok:Bool):SimP md b d (.assertT t z x ok):=by
 intro Pr μ w a σ ax s v a' σ' h r hP
 simp only [tdo] at h
 split at h
 ·rename_i u v0 hx
  have h1:=r.plainOf hx rfl
  simp only [xprim]
  revert h1;generalize ax.ev x=y;intro h1;cases h1
  rename_i h1
  split at h
  ·rename_i hb
   cases h
   simp only [hb]
   refine ⟨_,rfl,done_val r d ?_⟩
   cases ok
   ·exact h1
   ·exact .tuple (.cons h1 (.cons (.bool _) .nil))
  ·rename_i hb
   simp only [hb]
   split at h
   ·cases h;exact ⟨_,rfl,done_val r d (.tuple (.cons (RV.ofV _ _ _ _) (.cons (.bool _) .nil)))⟩
   ·cases h
 ·rename_i hx
  have h1:=r.plainOf hx rfl
  simp only [xprim]
  revert h1;generalize ax.ev x=y;intro h1;cases h1
  split at h
  ·cases h;exact ⟨_,rfl,done_val r d (.tuple (.cons (RV.ofV _ _ _ _) (.cons (.bool _) .nil)))⟩
  ·cases h
 ·cases h
def ORV (g:Hp) (μ:List Nat) (Z:Nat→Prop):Option TV→Option Value→Prop
 |none,none=>True
 |some x,some y=>pl x=true→RV g μ Z x y
 |_,_=>False
theorem boundT_rel {g:Hp} {μ:List Nat} {Z:Nat→Prop} {x:TV} {y:Value} (h:pl x=true→RV g μ Z x y) {n i:Nat} (e:boundT x n=some i):bound y n=some i:=by
 unfold boundT at e
 split at e
 ·have h1:=h rfl
  cases h1
  split at e
  ·rename_i hb;cases e;simp only [bound,hb]
  ·cases e
 ·cases e
def bnd1 (y:Option Value) (n dflt:Nat):Option Nat:=
 match y with
 |some v=>bound v n
 |none=>some dflt
def bnd2 (hi mx:Option Value) (m len:Nat):Option Nat:=
 match hi with
 |some v=>bound v m
 |none=>match mx with
  |none=>some len
  |some _=>none
def bnd3 (len cap:Nat) (lo hi mx:Option Value):Option (Nat×Nat×Nat):=
 match bnd1 mx cap cap with
 |none=>none
 |some m=>match bnd2 hi mx m len with
  |none=>none
  |some h=>match bnd1 lo h 0 with
   |none=>none
   |some l=>some (l,h,m)
theorem bounds_eq (len cap:Nat) (lo hi mx:Option Value):bounds len cap lo hi mx=bnd3 len cap lo hi mx:=by
 cases mx<;>cases hi<;>cases lo<;>rfl
theorem optB_rel {g:Hp} {μ:List Nat} {Z:Nat→Prop} {x:Option TV} {y:Option Value} (h:ORV g μ Z x y) {n dflt i:Nat} (e:optB x n dflt=some i):bnd1 y n dflt=some i:=by
 cases x<;>cases y<;>simp only [ORV,optB] at h e
 ·exact e
 ·exact boundT_rel h e
theorem hiB_rel {g:Hp} {μ:List Nat} {Z:Nat→Prop} {x m:Option TV} {y m':Option Value} (h:ORV g μ Z x y) (hm:ORV g μ Z m m') {n len i:Nat} (e:hiB x m n len=some i):bnd2 y m' n len=some i:=by
 cases x<;>cases y<;>simp only [ORV,hiB] at h e
 ·cases m<;>cases m'<;>simp only [ORV] at hm e
  ·exact e
  ·cases e
 ·exact boundT_rel h e
theorem bounds_rel {g:Hp} {μ:List Nat} {Z:Nat→Prop} {lo hi mx:Option TV} {lo' hi' mx':Option Value} (h1:ORV g μ Z lo lo') (h2:ORV g μ Z hi hi') (h3:ORV g μ Z mx mx') {len cap l h m:Nat} (e:boundsT len cap lo hi mx=some (l,h,m)):bounds len cap lo' hi' mx'=some (l,h,m):=by
 unfold boundsT at e
 rw [bounds_eq]
 unfold bnd3
 cases e1:optB mx cap cap with
 |none=>rw [e1] at e;cases e
 |some m0=>
  rw [e1] at e
  simp only at e
  cases e2:hiB hi mx m0 len with
  |none=>rw [e2] at e;cases e
  |some h0=>
   rw [e2] at e
   simp only at e
   cases e3:optB lo h0 0 with
   |none=>rw [e3] at e;cases e
   |some l0=>
    rw [e3] at e
    cases e
    rw [optB_rel h3 e1]
    simp only
    rw [hiB_rel h2 h3 e2]
    simp only
    rw [optB_rel h1 e3]
theorem ORV.map {Pr:Nat→Prop} {μ:List Nat} {w:Own} {a:TAct} {σ:Sto} {ax:Xe.Act} {s:AS} (r:Rl Pr μ w a σ ax s):∀o:Option Operand,ORV s.get μ (Zo w Pr) (o.map a.ev) (o.map ax.ev)
 |none=>trivial
 |some x=>fun h=>r.plain h
theorem s_sliceStr (md b:Nat) (d:Option Nat) (x:Operand) (lo hi:Option Operand):SimP md b d (.sliceStr x lo hi):=by
 intro Pr μ w a σ ax s v a' σ' h r hP
 simp only [tdo] at h
 split at h
 ·rename_i st hx
  have h1:=r.plainOf hx rfl
  split at h
  ·rename_i l h' m hb
   cases h
   have hb':=bounds_rel (mx:=none) (mx':=none) (ORV.map r lo) (ORV.map r hi) trivial hb
   simp only [xprim]
   revert h1;generalize ax.ev x=y;intro h1;cases h1
   simp only [hb']
   exact ⟨_,rfl,done_val r d (.str _)⟩
  ·cases h
 ·cases h
theorem ints_rel {g:Hp} {μ:List Nat} {Z:Nat→Prop}:∀{l:List TV} {l':List Value},l.length=l'.length→(∀(i:Nat) (x:TV) (y:Value),l[i]? =some x→l'[i]? =some y→pl x=true→RV g μ Z x y)→∀{r:List (IntKind×Int)},intsT l=some r→allInts l'=some r
 |[],[],_,_,r,e=>by simp only [intsT] at e;cases e;rfl
 |x::l,y::l',hl,h,r,e=>by
  unfold intsT at e
  split at e
  ·rename_i heq;cases heq
  ·rename_i k n rest heq
   cases heq
   split at e
   ·rename_i rr he
    cases e
    have h1:=h 0 _ _ rfl rfl rfl
    cases h1
    simp only [allInts]
    rw [ints_rel (by simpa using hl) (fun i x y hx hy=>h (i+1) x y (by simpa using hx) (by simpa using hy)) he]
   ·cases e
  ·cases e
 |[],_::_,hl,_,_,_=>by simp at hl
 |_::_,[],hl,_,_,_=>by simp at hl
theorem ints_of {Pr:Nat→Prop} {μ:List Nat} {w:Own} {a:TAct} {σ:Sto} {ax:Xe.Act} {s:AS} (r:Rl Pr μ w a σ ax s) {xs:List Operand} {l:List (IntKind×Int)} (h:intsT (xs.map a.ev)=some l):allInts (xs.map ax.ev)=some l:=by
 refine ints_rel (g:=s.get) (μ:=μ) (Z:=Zo w Pr) (by simp) (fun i x y hx hy hp=> ?_) h
 rw [List.getElem?_map] at hx hy
 cases hq:xs[i]? with
 |none=>rw [hq] at hx;cases hx
 |some o=>rw [hq] at hx hy;cases hx;cases hy;exact r.plain hp
theorem s_maxI (md b:Nat) (d:Option Nat) (xs:List Operand):SimP md b d (.maxI xs):=by
 intro Pr μ w a σ ax s v a' σ' h r hP
 simp only [tdo] at h
 split at h
 ·rename_i k n l hx
  cases h
  refine ⟨_,by simp only [xprim,ints_of r hx];rfl,done_val r d (.int _ _)⟩
 ·cases h
theorem s_minI (md b:Nat) (d:Option Nat) (xs:List Operand):SimP md b d (.minI xs):=by
 intro Pr μ w a σ ax s v a' σ' h r hP
 simp only [tdo] at h
 split at h
 ·rename_i k n l hx
  cases h
  refine ⟨_,by simp only [xprim,ints_of r hx];rfl,done_val r d (.int _ _)⟩
 ·cases h
end Go.Xt
end
section
namespace Go.Xt
open Go Go.Xe
theorem loadList_of {g:Hp} {i o n ver:Nat} {vs:List Value} {e:TypeId} {ro:Bool} (hg:g i=some ⟨ver,.cells vs e ro⟩) (h:o+n≤vs.length):loadList g ⟨i,o,none⟩ n=some ((vs.drop o).take n):=by
 simp only [loadList,hg]
 rw [bleNat,decide_eq_true h]
theorem storeList_of {g:Hp} {i o ver:Nat} {vs xs:List Value} {e:TypeId} (hg:g i=some ⟨ver,.cells vs e false⟩) (h:o+xs.length≤vs.length):storeList g ⟨i,o,none⟩ xs=some [(i,some ⟨ver+1,.cells (setList vs o xs) e false⟩)]:=by
 simp only [storeList,hg]
 rw [bleNat,decide_eq_true h]
section
variable {Pr:Nat→Prop} {μ μ':List Nat} {w w':Own} {a a':TAct} {σ σ':Sto} {ax ax':Xe.Act} {s s':AS}
theorem at_own (a:TAct) (x:Operand):isOwn (a.ev x)=isOwn (a.at x):=by
 unfold TAct.at
 generalize a.ev x=v
 cases v<;>try rfl
 cases x<;>rfl
theorem Rl.atPlain (r:Rl Pr μ w a σ ax s) {x:Operand} {tv:TV} (h:a.at x=tv) (hp:pl tv=true):RV s.get μ (Zo w Pr) tv (ax.ev x):=by
 have ho:isOwn (a.ev x)=false:=by
  rw [at_own,h]
  cases tv<;>first|rfl|skip
  rename_i m c;cases m<;>first|rfl|(simp [pl] at hp)
 rcases r.at ho with k|⟨k,_⟩
 ·rwa [h] at k
 ·rw [h] at k;cases tv<;>first|(simp [pl] at hp;done)|(simp [isAl] at k;done)
theorem Rl.atAl (r:Rl Pr μ w a σ ax s) {x:Operand} {tv:TV} (h:a.at x=tv) (ha:isAl tv=true):AL μ w a σ ax s.get tv (ax.ev x):=by
 have ho:isOwn (a.ev x)=false:=by
  rw [at_own,h]
  cases tv<;>first|rfl|(simp [isAl] at ha)
 rcases r.at ho with k|⟨_,k⟩
 ·have:=k.notown.2.2.1;rw [h,ha] at this;cases this
 ·rwa [h] at k
theorem Rl.objOf (r:Rl Pr μ w a σ ax s) {k ver:Nat} {cs:List TV} {e:TypeId} (h:σ.at k=some ⟨ver,.cells cs e⟩):∃i vs,μ[k]? =some i∧s.get i=some ⟨ver,.cells vs e false⟩∧RCs s.get μ (Zo w Pr) (fun o=>w (.cell k o)) cs vs:=by
 obtain ⟨i,b,h1,h2,h3⟩:=r.obj k _ h
 cases b<;>simp only [RB] at h3
 obtain ⟨rfl,rfl,h3⟩:=h3
 exact ⟨i,_,h1,h2,h3⟩
theorem Rl.mapOf (r:Rl Pr μ w a σ ax s) {k ver:Nat} {es:List (TV×TV×Nat)} {ck:Nat} (h:σ.at k=some ⟨ver,.map es ck⟩):∃i es',μ[k]? =some i∧s.get i=some ⟨ver,.map es' ck⟩∧es'.length=es.length∧(∀(j:Nat) (x:TV×TV×Nat) (y:MapEntry),es[j]? =some x→es'[j]? =some y→RV s.get μ (Zo w Pr) x.1 y.key∧RV s.get μ (Zo w Pr) x.2.1 y.val∧y.born=x.2.2)∧∀o,w (.cell k o)=none:=by
 obtain ⟨i,b,h1,h2,h3⟩:=r.obj k _ h
 cases b<;>simp only [RB] at h3
 obtain ⟨rfl,h3,h4,h5⟩:=h3
 exact ⟨i,_,h1,h2,h3,h4,h5⟩
def Pl.pc:Pl→Pc
 |.tmp t=>.tmp t
 |.tcell t o _=>.tcell t o
 |.cell k o=>.cell k o
theorem ownChs_some {v:TV} {chs:List (List TV)} (h:ownChs v=some chs):isOwn v=true∧∃e s,v=.sl (.own e s) chs:=by
 unfold ownChs at h
 split at h
 ·cases h;exact ⟨rfl,_,_,rfl⟩
 ·cases h
theorem Rl.place (r:Rl Pr μ w a σ ax s) {p:Pl} {chs:List (List TV)} (h:plGet a σ p=some chs):∃i e sz v,w p.pc=some i∧RO s.get μ (Zo w Pr) i (.sl (.own e sz) chs) v∧HVal μ w ax s.get p v:=by
 cases p with
 |tmp t=>
  obtain ⟨h1,e,sz,h2⟩:=ownChs_some h
  obtain ⟨i,h3,h4⟩:=r.ownOf h1
  rw [h2] at h4
  exact ⟨i,e,sz,_,h3,h4,rfl⟩
 |tcell t o ser=>
  simp only [plGet] at h
  split at h
  ·rename_i cs e hb
   split at h
   ·rename_i v hv
    obtain ⟨h1,e',sz,rfl⟩:=ownChs_some h
    obtain ⟨hbx,i,ver,vs,k1,k2,k3,k4⟩:=r.boxOf hb
    obtain ⟨v',q1,q2⟩:=k4.at hv
    obtain ⟨j,q3,q4⟩:=q2.ownOf rfl
    exact ⟨j,e',sz,v',q3,q4,i,ver,vs,e,k1,k3,q1⟩
   ·cases h
  ·cases h
 |cell k o=>
  simp only [plGet] at h
  split at h
  ·rename_i ver cs e hb
   split at h
   ·rename_i v hv
    obtain ⟨h1,e',sz,rfl⟩:=ownChs_some h
    obtain ⟨i,vs,k1,k2,k3⟩:=r.objOf hb
    obtain ⟨v',q1,q2⟩:=k3.at hv
    obtain ⟨j,q3,q4⟩:=q2.ownOf rfl
    exact ⟨j,e',sz,v',q3,q4,i,ver,vs,e,k1,k2,q1⟩
   ·cases h
  ·cases h
theorem hval_fun {g:Hp} {p:Pl} {v v':Value} (h:HVal μ w ax g p v) (h':HVal μ w ax g p v'):v=v':=by
 cases p with
 |tmp t=>exact Eq.trans h (Eq.symm h')
 |tcell t o ser=>
  obtain ⟨i,ver,vs,e,k1,k2,k3⟩:=h
  obtain ⟨i',ver',vs',e',q1,q2,q3⟩:=h'
  rw [k1] at q1;cases q1
  rw [k2] at q2;cases q2
  rw [k3] at q3;cases q3;rfl
 |cell k o=>
  obtain ⟨i,ver,vs,e,k1,k2,k3⟩:=h
  obtain ⟨i',ver',vs',e',q1,q2,q3⟩:=h'
  rw [k1] at q1;cases q1
  rw [k2] at q2;cases q2
  rw [k3] at q3;cases q3;rfl
theorem Rl.viaOf (r:Rl Pr μ w a σ ax s) {p:Pl} {c:Nat} {v:Value} (ha:AL μ w a σ ax s.get (.via p c) v) (hc:Nat.beq c a.clk=true) {chs:List (List TV)} (h:plGet a σ p=some chs):∃i e sz,w p.pc=some i∧RO s.get μ (Zo w Pr) i (.sl (.own e sz) chs) v:=by
 rw [beqNat] at hc
 have hv:=ha.2 (of_decide_eq_true hc) chs h
 obtain ⟨i,e,sz,v',h1,h2,h3⟩:=r.place h
 rw [hval_fun hv h3]
 exact ⟨i,e,sz,h1,h2⟩
theorem velAt_some {p:Pl} {c j:Nat} {ch:List TV} (h:velAt a σ p c j=some ch):c=a.clk∧∃chs,plGet a σ p=some chs∧chs[j]? =some ch:=by
 unfold velAt at h
 split at h
 ·rename_i hc
  rw [beqNat] at hc
  split at h
  ·rename_i chs hp;exact ⟨of_decide_eq_true hc,chs,hp,h⟩
  ·cases h
 ·cases h
theorem Rl.velOf (r:Rl Pr μ w a σ ax s) {p:Pl} {c j o:Nat} {v:Value} (ha:AL μ w a σ ax s.get (.vel p c j o) v) {ch:List TV} (h:velAt a σ p c j=some ch):
  ∃i ver vs e d,v=.pointer (some ⟨i,d+o,none⟩)∧w p.pc=some i∧s.get i=some ⟨ver,.cells vs e false⟩∧d+ch.length≤vs.length∧RVs s.get μ (Zo w Pr) ch ((vs.drop d).take ch.length):=by
 obtain ⟨hc,chs,hp,hj⟩:=velAt_some h
 obtain ⟨i,b,n,cc,h1,h2⟩:=ha.2 hc chs ch hp hj
 obtain ⟨i',e,sz,v',k1,k2,k3⟩:=r.place hp
 rw [hval_fun k3 h1] at k2
 cases k2 with
 |mk q1 q2 q3 q4 q5 q6 q7=>
  have hlen:=okSz_get q2 hj
  have hjl:=(List.getElem?_eq_some_iff.1 hj).1
  have hmul:j*sz+sz≤n*sz:=by rw [←Nat.succ_mul];exact Nat.mul_le_mul_right sz (by omega)
  refine ⟨_,_,_,_,b+j*sz,?_,k1,q1,by omega,?_⟩
  ·rw [h2,hlen]
  ·have hd:=(q7.drop (j*sz)).take sz
   rw [flat_chunk q2 hj] at hd
   rw [List.drop_take,List.take_take,List.drop_drop,Nat.min_eq_left (by omega)] at hd
   rw [hlen];exact hd
theorem s_addr (md b:Nat) (d:Option Nat) (off:Nat) (x:Operand):SimP md b d (.addr off x):=by
 intro Pr μ w a σ ax s v a' σ' h r hP
 simp only [tdo] at h
 simp only [xprim]
 split at h
 ·rename_i k o hx
  cases h
  have h1:=r.atPlain hx rfl
  revert h1;generalize ax.ev x=y;intro h1;cases h1
  rename_i hm
  exact ⟨_,rfl,done_val r d (by rw [add_none];exact .ptr hm)⟩
 ·rename_i t o ser hx
  split at h
  ·rename_i bx hb
   cases h
   have h1:=r.atAl hx rfl
   obtain ⟨i,ver,vs,q1,q2,q3,q4⟩:=r.vptOf (e:=bx.2) (cs:=bx.1) h1 hb
   rw [q1]
   refine ⟨_,rfl,done_al r d rfl ⟨h1.1,fun cs e hbx=>⟨i,q2,by rw [add_none]⟩⟩⟩
  ·cases h
 ·rename_i ch o hx
  cases h
  have h1:=r.atPlain hx rfl
  revert h1;generalize ax.ev x=y;intro h1;cases h1
  rename_i k1 k2 k3 k4
  exact ⟨_,rfl,done_val r d (by rw [add_none,Nat.add_assoc];exact .elt k1 k2 k3 k4)⟩
 ·rename_i p c j o hx
  split at h
  ·rename_i ch hch
   cases h
   have h1:=r.atAl hx rfl
   obtain ⟨hc,chs,hp,hj⟩:=velAt_some hch
   obtain ⟨i,bb,n,cc,q1,q2⟩:=h1.2 hc chs ch hp hj
   rw [q2]
   refine ⟨_,rfl,done_al r d rfl ⟨h1.1,fun _ chs' ch' hp' hj'=> ?_⟩⟩
   rw [hp] at hp';cases hp'
   rw [hj] at hj';cases hj'
   exact ⟨i,bb,n,cc,q1,by rw [add_none,Nat.add_assoc]⟩
  ·cases h
 ·cases h
theorem s_indexArrAddr (md b:Nat) (d:Option Nat) (len size:Nat) (x i:Operand):SimP md b d (.indexArrAddr len size x i):=by
 intro Pr μ w a σ ax s v a' σ' h r hP
 simp only [tdo] at h
 simp only [xprim]
 split at h
 ·rename_i k o kk j hx hi
  have h2:=r.plainOf hi rfl
  revert h2;generalize ax.ev i=z;intro h2;cases h2
  split at h
  ·rename_i hj
   cases h
   have h1:=r.atPlain hx rfl
   revert h1;generalize ax.ev x=y;intro h1;cases h1
   rename_i hm
   simp only [hj]
   exact ⟨_,rfl,done_val r d (by rw [add_none];exact .ptr hm)⟩
  ·cases h
 ·rename_i t o ser kk j hx hi
  have h2:=r.plainOf hi rfl
  revert h2;generalize ax.ev i=z;intro h2;cases h2
  split at h
  ·rename_i bx hj hb
   cases h
   have h1:=r.atAl hx rfl
   obtain ⟨i,ver,vs,q1,q2,q3,q4⟩:=r.vptOf (e:=bx.2) (cs:=bx.1) h1 hb
   rw [q1]
   simp only [hj]
   refine ⟨_,rfl,done_al r d rfl ⟨h1.1,fun cs e hbx=>⟨i,q2,by rw [add_none]⟩⟩⟩
  ·cases h
 ·rename_i ch o kk j hx hi
  have h2:=r.plainOf hi rfl
  revert h2;generalize ax.ev i=z;intro h2;cases h2
  split at h
  ·rename_i hj
   cases h
   have h1:=r.atPlain hx rfl
   revert h1;generalize ax.ev x=y;intro h1;cases h1
   rename_i k1 k2 k3 k4
   simp only [hj]
   exact ⟨_,rfl,done_val r d (by rw [add_none,Nat.add_assoc];exact .elt k1 k2 k3 k4)⟩
  ·cases h
 ·cases h
theorem s_nilCheck (md b:Nat) (d:Option Nat) (x:Operand):SimP md b d (.nilCheck x):=by
 intro Pr μ w a σ ax s v a' σ' h r hP
 simp only [tdo] at h
 simp only [xprim]
 split at h
 ·rename_i t o ser hx
  split at h
  ·rename_i bx hb
   cases h
   have h1:=r.atAl hx rfl
   obtain ⟨i,ver,vs,q1,q2,q3,q4⟩:=r.vptOf (e:=bx.2) (cs:=bx.1) h1 hb
   have h1':=h1
   rw [q1] at h1' ⊢
   exact ⟨_,rfl,done_al r d rfl h1'⟩
  ·cases h
 ·rename_i k o hx
  cases h
  have h1:=r.atPlain hx rfl
  have h1':=h1
  revert h1 h1';generalize ax.ev x=y;intro h1 h1';cases h1
  exact ⟨_,rfl,done_val r d h1'⟩
 ·rename_i ch o hx
  cases h
  have h1:=r.atPlain hx rfl
  have h1':=h1
  revert h1 h1';generalize ax.ev x=y;intro h1 h1';cases h1
  exact ⟨_,rfl,done_val r d h1'⟩
 ·rename_i f p q hx
  cases h
  have h1:=r.atPlain hx rfl
  have h1':=h1
  revert h1 h1';generalize ax.ev x=y;intro h1 h1';cases h1
  exact ⟨_,rfl,done_val r d h1'⟩
 ·cases h
theorem plainT_rel (r:Rl Pr μ w a σ ax s) {k o i:Nat} (hk:μ[k]? =some i) (h:plainT σ k o=true):plainCells s.get i o=true:=by
 unfold plainT at h
 split at h
 ·rename_i ver vs e hb
  obtain ⟨i',vs',h1,h2,h3⟩:=r.objOf hb
  rw [hk] at h1;cases h1
  simp only [plainCells,h2]
  rw [h3.len];exact h
 ·cases h
theorem mu_inj (r:Rl Pr μ w a σ ax s) {k k' i:Nat} (h:μ[k]? =some i) (h':μ[k']? =some i):k=k':=by
 have:=r.inj (.obj k) (.obj k') i ((r.wobj k).trans h) ((r.wobj k').trans h')
 cases this;rfl
mutual
theorem teq_rel (r:Rl Pr μ w a σ ax s):∀(k:EqK) {x y:TV} {x' y':Value} {b:Bool},(pl x=true→RV s.get μ (Zo w Pr) x x')→(pl y=true→RV s.get μ (Zo w Pr) y y')→teq σ k x y=some b→xeq s.get k x' y'=some b
 |.int,x,y,x',y',b,hx,hy,h=>by
  unfold teq at h
  split at h<;>first|(cases h;done)|skip
  all_goals first|contradiction|skip
  have h1:=hx rfl;have h2:=hy rfl
  cases h1;cases h2
  split at h
  ·rename_i hk;cases h;simp only [xeq,hk]
  ·cases h
 |.bool,x,y,x',y',b,hx,hy,h=>by
  unfold teq at h
  split at h<;>first|(cases h;done)|skip
  all_goals first|contradiction|skip
  have h1:=hx rfl;have h2:=hy rfl
  cases h1;cases h2
  cases h;simp only [xeq]
 |.str,x,y,x',y',b,hx,hy,h=>by
  unfold teq at h
  split at h<;>first|(cases h;done)|skip
  all_goals first|contradiction|skip
  have h1:=hx rfl;have h2:=hy rfl
  cases h1;cases h2
  cases h;simp only [xeq]
 |.ptr,x,y,x',y',b,hx,hy,h=>by
  unfold teq at h
  split at h<;>first|(cases h;done)|skip
  all_goals first|contradiction|skip
  ·have h1:=hx rfl;have h2:=hy rfl
   cases h1;cases h2
   cases h;simp only [xeq];rfl
  ·have h1:=hx rfl;have h2:=hy rfl
   cases h1;cases h2
   cases h;simp only [xeq];rfl
  ·have h1:=hx rfl;have h2:=hy rfl
   cases h1;cases h2
   cases h;simp only [xeq]
  ·have h1:=hx rfl;have h2:=hy rfl
   cases h1;cases h2
   rename_i i hi i' hi'
   split at h
   ·rename_i hp
    simp only [Bool.and_eq_true] at hp
    cases h
    simp only [xeq,plainT_rel r hi hp.1,plainT_rel r hi' hp.2,Bool.and_self]
    congr 2
    rw [beqNat,beqNat]
    congr 1
    apply propext
    constructor
    ·rintro rfl;exact mu_inj r hi hi'
    ·rintro rfl;rw [hi] at hi';cases hi';rfl
   ·cases h
 |.ifaceNil,x,y,x',y',b,hx,hy,h=>by
  unfold teq at h
  split at h<;>first|(cases h;done)|skip
  all_goals first|contradiction|skip
  all_goals
   have h1:=hx rfl;have h2:=hy rfl
   cases h1;cases h2
   cases h;simp only [xeq]
 |.sliceNil,x,y,x',y',b,hx,hy,h=>by
  unfold teq at h
  split at h<;>first|(cases h;done)|skip
  all_goals first|contradiction|skip
  ·have h1:=hx rfl;have h2:=hy rfl
   cases h1;cases h2
   cases h;simp only [xeq];rfl
  ·have h1:=hx rfl;have h2:=hy rfl
   cases h1;cases h2
   cases h;simp only [xeq]
  ·have h1:=hx rfl;have h2:=hy rfl
   cases h1;cases h2
   cases h;simp only [xeq];rfl
  ·have h1:=hx rfl;have h2:=hy rfl
   cases h1;cases h2
   cases h;simp only [xeq]
 |.mapNil,x,y,x',y',b,hx,hy,h=>by
  unfold teq at h
  split at h<;>first|(cases h;done)|skip
  all_goals first|contradiction|skip
  all_goals
   have h1:=hx rfl;have h2:=hy rfl
   cases h1;cases h2
   cases h;simp only [xeq];try rfl
 |.funcNil,x,y,x',y',b,hx,hy,h=>by
  unfold teq at h
  split at h<;>first|(cases h;done)|skip
  all_goals first|contradiction|skip
  all_goals
   have h1:=hx rfl;have h2:=hy rfl
   cases h1;cases h2
   cases h;simp only [xeq]
 |.agg ps,x,y,x',y',b,hx,hy,h=>by
  unfold teq at h
  split at h<;>first|(cases h;done)|skip
  all_goals first|contradiction|skip
  rename_i ps' xs ys heq
  cases heq
  have h1:=hx rfl;have h2:=hy rfl
  cases h1 with
  |agg h1=>
   cases h2 with
   |agg h2=>
    simp only [xeq]
    exact teqs_rel r ps h1 h2 h
theorem teqs_rel (r:Rl Pr μ w a σ ax s):∀(ps:List (Nat×EqK)) {xs ys:List TV} {xs' ys':List Value} {b:Bool},RVs s.get μ (Zo w Pr) xs xs'→RVs s.get μ (Zo w Pr) ys ys'→teqs σ ps xs ys=some b→xeqs s.get ps xs' ys'=some b
 |[],xs,ys,xs',ys',b,hx,hy,h=>by simp only [teqs] at h;cases h;simp only [xeqs]
 |(i,k)::ps,xs,ys,xs',ys',b,hx,hy,h=>by
  simp only [teqs] at h
  split at h
  ·rename_i x y e1 e2
   obtain ⟨x',q1,q2⟩:=hx.get e1
   obtain ⟨y',q3,q4⟩:=hy.get e2
   simp only [xeqs,q1,q3]
   split at h
   ·rename_i ht
    rw [teq_rel r k (fun _=>q2) (fun _=>q4) ht]
    exact teqs_rel r ps hx hy h
   ·rename_i ht
    cases h
    rw [teq_rel r k (fun _=>q2) (fun _=>q4) ht]
   ·cases h
  ·cases h
end
end
end Go.Xt
end
section
namespace Go.Xt
open Go Go.Xe
section
variable {Pr:Nat→Prop} {μ μ':List Nat} {w w':Own} {a a':TAct} {σ σ':Sto} {ax ax':Xe.Act} {s s':AS}
theorem s_eq (md b:Nat) (d:Option Nat) (k:EqK) (neg:Bool) (x y:Operand):SimP md b d (.eq k neg x y):=by
 intro Pr μ w a σ ax s v a' σ' h r hP
 simp only [tdo] at h
 split at h
 ·rename_i q hq
  cases h
  have:=teq_rel r k (fun h=>r.plain h) (fun h=>r.plain h) hq
  exact ⟨_,by simp only [xprim,this],done_val r d (.bool _)⟩
 ·cases h
theorem Rl.putHand (r:Rl Pr μ w a σ ax s) (hf:Fresh a) {i:Nat} (hi:w (.hand 0)=some i) {tv:TV} {v:Value} (h:RO s.get μ (Zo w Pr) i tv v) (d:Option Nat):
  ∃w',Rl Pr μ w' (a.put d tv) σ (ax.put d v) s∧∀p j,w' p=some j→∃q,w q=some j:=by
 cases d with
 |none=>exact ⟨w,r,fun p j e=>⟨p,e⟩⟩
 |some d=>
  refine ⟨_,r.putOwn hf d hi h,fun p j e=> ?_⟩
  obtain ⟨q,hq⟩:=mv_owned e
  exact ⟨q,rel_le _ _ _ _ hq⟩
theorem taken_own {t:Nat} (h:isOwn (a.ev (.tmp t))=true):taken a (.tmp t)=⟨a.tm.set t .dead,a.df,a.clk+1⟩:=by simp only [taken,h]
theorem s_move (md b:Nat) (d:Option Nat) (x:Operand):SimP md b d (.move x):=by
 intro Pr μ w a σ ax s v a' σ' h r hP
 simp only [tdo,tMove] at h
 refine ⟨⟨ax.ev x,[],s.next⟩,rfl,?_⟩
 cases ho:isOwn (a.ev x) with
 |false=>rw [ho] at h;cases h;exact done_pure r (fun p i e=>⟨p,e⟩) d (r.at ho)
 |true=>
  rw [ho] at h
  simp only at h
  obtain ⟨t,rfl⟩:=isOwn_tmp ho
  simp only at h
  split at h
  ·cases h
   rw [taken_own ho]
   obtain ⟨i,h1,h2,h3,h4⟩:=r.takeTmp ho
   obtain ⟨w',k1,k2⟩:=h3.putHand h4 ((mv_to w (by simp)).trans h1) h2 d
   exact ⟨μ,w',k1,Nat.le_refl _,fun _ _ _=>rfl,fun p i e _=>by obtain ⟨q,e⟩:=k2 p i e;exact mv_owned e,[],(List.append_nil μ).symm⟩
  ·cases h
   obtain ⟨w1,h1,h2⟩:=r.frz1 (.tmp t)
   refine done_pure h1 (fun p i e=>⟨p,h2 p i e⟩) d (.inl ?_)
   have:=h1.plain (x:=.tmp t) (by
    rw [frz1_same]
    revert ho;generalize a.ev (.tmp t)=z;intro ho
    cases z<;>first|(simp [isOwn] at ho;done)|skip
    rename_i m c;cases m<;>first|rfl|(simp [isOwn] at ho))
   rwa [frz1_same] at this
  ·cases h
   exact done_al r d rfl ⟨Nat.le_refl _,fun _ chs hp=>rfl⟩
theorem RCs.re {g:Hp} {μ:List Nat} {Z Z':Nat→Prop} {ow ow':Nat→Option Nat} {cs:List TV} {vs:List Value} (r:RCs g μ Z ow cs vs) (mo:Mo g μ Z g μ Z') {o:Nat} {tv:TV} (ho:o<cs.length) (h1:∀j,j≠o→ow' j=ow j) (h2:∀v,vs[o]? =some v→RC g μ Z' (ow' o) tv v):RCs g μ Z' ow' (cs.set o tv) vs:=by
 refine ⟨by rw [List.length_set];exact r.len,fun j x v e1 e2=> ?_,fun j hj=> ?_⟩
 ·by_cases h:j=o
  ·subst h
   rw [List.getElem?_set_self ho] at e1;cases e1
   exact h2 v e2
  ·rw [List.getElem?_set_ne (fun e=>h e.symm)] at e1
   rw [h1 j h]
   exact (r.get j x v e1 e2).mono mo (fun _ _=>rfl)
 ·rw [List.length_set] at hj
  rw [h1 j (by omega)];exact r.out j hj
theorem Mo.owned {g:Hp} {w w':Own} (h:∀p i,w' p=some i→∃q,w q=some i):Mo g μ (Zo w Pr) g μ (Zo w' Pr):=
 ⟨fun _ _ e=>e,fun i _ _ _ _ z hg=>⟨⟨fun p e=>by obtain ⟨q,k⟩:=h p i e;exact z.1 q k,z.2⟩,hg⟩⟩
theorem Rl.reCell (r:Rl Pr μ w a σ ax s) {k ver o:Nat} {cs:List TV} {e:TypeId} (h:σ.at k=some ⟨ver,.cells cs e⟩) (ho:o<cs.length) {w':Own} {tv:TV} (own:∀p i,w' p=some i→∃q,w q=some i) (inj:∀p q i,w' p=some i→w' q=some i→p=q)
  (h1:∀t,w' (.tmp t)=w (.tmp t)) (h2:∀t o,w' (.tcell t o)=w (.tcell t o)) (h3:∀k,w' (.obj k)=w (.obj k)) (hc:∀k' c,(k'≠k∨c≠o)→w' (.cell k' c)=w (.cell k' c))
  (new:∀i vs v,μ[k]? =some i→s.get i=some ⟨ver,.cells vs e false⟩→vs[o]? =some v→RC s.get μ (Zo w' Pr) (w' (.cell k o)) tv v):Rl Pr μ w' a.tick (σ.set k (some ⟨ver,.cells (cs.set o tv) e⟩)) ax s:=by
 obtain ⟨i,vs,k1,k2,k3⟩:=r.objOf h
 have mo:=Mo.owned (g:=s.get) (μ:=μ) (Pr:=Pr) own
 have hk:k<σ.length:=by rw [←r.len];exact (List.getElem?_eq_some_iff.1 k1).1
 refine r.objStep mo (r.toRs.setO hk mo r.dm (Nat.le_refl _) inj own h3 (fun k' c hk'=>hc k' c (.inl hk')) (fun _ _ _ _=>rfl) ?_) h1 h2 (fun _ _ _=>rfl)
 refine ⟨i,_,k1,k2,rfl,rfl,?_⟩
 exact k3.re mo ho (fun j hj=>hc k j (.inr hj)) (fun v hv=>new i vs v k1 k2 hv)
theorem Rl.reBox (r:Rl Pr μ w a σ ax s) {t ser o:Nat} {cs:List TV} {e:TypeId} (h:boxAt a t ser=some (cs,e)) (ho:o<cs.length) {w':Own} {tv:TV} (own:∀p i,w' p=some i→∃q,w q=some i) (inj:∀p q i,w' p=some i→w' q=some i→p=q)
  (h1:∀t,w' (.tmp t)=w (.tmp t)) (h2:∀k o,w' (.cell k o)=w (.cell k o)) (h3:∀k,w' (.obj k)=w (.obj k)) (hc:∀t' c,(t'≠t∨c≠o)→w' (.tcell t' c)=w (.tcell t' c))
  (new:∀i ver vs v,w (.tmp t)=some i→s.get i=some ⟨ver,.cells vs e false⟩→vs[o]? =some v→RC s.get μ (Zo w' Pr) (w' (.tcell t o)) tv v):Rl Pr μ w' (boxPut a t ser (cs.set o tv) e) σ ax s:=by
 obtain ⟨hbx,i,ver,vs,k1,k2,k3,k4⟩:=r.boxOf h
 have mo:=Mo.owned (g:=s.get) (μ:=μ) (Pr:=Pr) own
 refine r.boxStep hbx mo (r.toRs.setT mo r.dm (Nat.le_refl _) inj own h3 h2 (fun _ _ _=>rfl)) h1 (fun t' o' ht=>hc t' o' (.inl ht)) (fun _ _ _ _ _ _=>rfl) (fun i' hi'=> ?_)
 rw [k1] at hi';cases hi'
 exact ⟨ver,vs,k3,k4.re mo ho (fun j hj=>hc t j (.inr hj)) (fun v hv=>new i ver vs v k1 k3 hv)⟩
theorem mv_inj {w:Own} (inj:∀p q i,w p=some i→w q=some i→p=q) (p q:Pc):∀x y i,mv w p q x=some i→mv w p q y=some i→x=y:=by
 intro x y i e f
 rcases mv_some e with ⟨h1,h2,h3⟩|⟨h1,h2,h3⟩<;>rcases mv_some f with ⟨k1,k2,k3⟩|⟨k1,k2,k3⟩
 ·rw [h1,k1]
 ·exact absurd (inj _ _ _ h3 k3).symm k1
 ·exact absurd (inj _ _ _ h3 k3) h1
 ·exact inj _ _ _ h3 k3
theorem done_hand {w1:Own} {tv:TV} {v:Value} {i:Nat} (r:Rl Pr μ w1 a' σ' ax s) (hf:Fresh a') (hi:w1 (.hand 0)=some i) (h:RO s.get μ (Zo w1 Pr) i tv v) (hw:∀p j,w1 p=some j→∃q,w q=some j) (d:Option Nat):Done Pr μ w ax s d tv a' σ' ⟨v,[],s.next⟩:=by
 obtain ⟨w',k1,k2⟩:=r.putHand hf hi h d
 exact ⟨μ,w',k1,Nat.le_refl _,fun _ _ _=>rfl,fun p i e _=>by obtain ⟨q,e⟩:=k2 p i e;exact hw q i e,[],(List.append_nil μ).symm⟩
theorem fresh_tick (r:Rl Pr μ w a σ ax s):Fresh a.tick:=r.fresh (Nat.lt_succ_self _) (fun t _=>rfl) rfl
theorem fresh_box (r:Rl Pr μ w a σ ax s) (t ser:Nat) (cs:List TV) (e:TypeId):Fresh (boxPut a t ser cs e):=by
 refine r.fresh (Nat.lt_succ_self _) (fun t' ht'=> ?_) rfl
 by_cases h:t=t'
 ·subst h;rw [show (boxPut a t ser cs e).ev (.tmp t)=.bx ser cs e from ev_set_same _ _ _ _ _] at ht';cases ht'
 ·exact ev_set_ne a _ _ _ h
theorem s_load1 (md b:Nat) (d:Option Nat) (x:Operand):SimP md b d (.load1 x):=by
 intro Pr μ w a σ ax s v a' σ' h r hP
 simp only [tdo] at h
 simp only [xprim]
 cases hx:a.at x<;>rw [hx] at h<;>simp only [tLoad1] at h<;>first|(cases h;done)|skip
 case ptr k o=>
  have h1:=r.atPlain hx rfl
  revert h1;generalize ax.ev x=y;intro h1;cases h1
  rename_i i0 hm
  split at h
  ·rename_i ver cs e hob
   obtain ⟨i,vs,k1,k2,k3⟩:=r.objOf hob
   rw [hm] at k1;cases k1
   split at h
   ·rename_i tv htv
    obtain ⟨v',q1,q2⟩:=k3.at htv
    have hlo:=load_one k2 q1
    have hlt:=(List.getElem?_eq_some_iff.1 htv).1
    simp only [hlo]
    refine ⟨_,rfl,?_⟩
    split at h
    ·rename_i ho
     cases h
     exact done_val r d (q2.plainOf ho).2
    ·rename_i ho
     obtain ⟨j,q3,q4⟩:=q2.ownOf ho
     split at h
     ·cases h
      have:=r.reCell (w':=mv w (.cell k o) (.hand 0)) (tv:=.dead) hob hlt (fun p i e=>mv_owned e) (mv_inj r.inj _ _) (fun t=>mv_other w (by simp) (by simp)) (fun t o=>mv_other w (by simp) (by simp)) (fun t=>mv_other w (by simp) (by simp))
       (fun k' c hk=>mv_other w (by simp;omega) (by simp)) (fun i vs v _ _ _=>by rw [mv_from];exact .dead v)
      exact done_hand this (fresh_tick r) ((mv_to w (by simp)).trans q3) (q4.mono (Mo.mv _ _) rfl) (fun p j e=>mv_owned e) d
     ·cases h
      have hz:Zo (relO w k o 1 none) Pr j:=⟨fun p e=>by
       have:=r.inj _ _ _ (relO_le w k o 1 p j e) q3
       subst this
       simp [relO,clr] at e,r.pr _ _ q3⟩
      have hfz:RV s.get μ (Zo (relO w k o 1 none) Pr) (frz tv) v':=RO.frz (q4.mono (Mo.sub (relO_le w k o 1)) rfl) hz
      have:=r.reCell (w':=relO w k o 1 none) (tv:=frz tv) hob hlt (fun p i e=>⟨p,relO_le w k o 1 p i e⟩) (fun p q i e f=>r.inj p q i (relO_le w k o 1 p i e) (relO_le w k o 1 q i f)) (fun _=>rfl) (fun _ _=>rfl) (fun _=>rfl)
       (fun k' c hk=>by
        simp only [relO]
        split
        ·rename_i h;subst h
         have hc:c≠o:=by rcases hk with h|h; · exact absurd rfl h
                         · exact h
         unfold clr;split
         ·rfl
         ·rw [if_neg (by omega)]
        ·rfl) (fun i' vs' v2 e1 e2 e3=>by
        rw [hm] at e1;cases e1
        rw [k2] at e2;cases e2
        rw [q1] at e3;cases e3
        have:relO w k o 1 none (.cell k o)=none:=by simp [relO,clr]
        rw [this];exact hfz)
      exact done_pure this (fun p i e=>⟨p,relO_le w k o 1 p i e⟩) d (.inl hfz)
     ·cases h
      exact done_al r d rfl ⟨Nat.le_refl _,fun _ chs hp=>⟨i0,ver,vs,e,hm,k2,q1⟩⟩
   ·cases h
  ·cases h
 case vpt t o ser=>
  have h1:=r.atAl hx rfl
  split at h
  ·rename_i cs e hb
   obtain ⟨hbx,i,ver,vs,k1,k2,k3,k4⟩:=r.boxOf hb
   obtain ⟨i',k1',hy⟩:=h1.2 _ _ hbx
   rw [k1] at k1';cases k1'
   rw [hy]
   split at h
   ·rename_i tv htv
    obtain ⟨v',q1,q2⟩:=k4.at htv
    have hlo:=load_one k3 q1
    have hlt:=(List.getElem?_eq_some_iff.1 htv).1
    simp only [hlo]
    refine ⟨_,rfl,?_⟩
    split at h
    ·rename_i ho
     cases h
     exact done_val r d (q2.plainOf ho).2
    ·rename_i ho
     obtain ⟨j,q3,q4⟩:=q2.ownOf ho
     split at h
     ·cases h
      have:=r.reBox (w':=mv w (.tcell t o) (.hand 0)) (tv:=.dead) hb hlt (fun p i e=>mv_owned e) (mv_inj r.inj _ _) (fun t=>mv_other w (by simp) (by simp)) (fun t o=>mv_other w (by simp) (by simp)) (fun t=>mv_other w (by simp) (by simp))
       (fun k' c hk=>mv_other w (by simp;omega) (by simp)) (fun i ver vs v _ _ _=>by rw [mv_from];exact .dead v)
      exact done_hand this (fresh_box r _ _ _ _) ((mv_to w (by simp)).trans q3) (q4.mono (Mo.mv _ _) rfl) (fun p j e=>mv_owned e) d
     ·cases h
      have hz:Zo (relC w t o 1 none) Pr j:=⟨fun p e=>by
       have:=r.inj _ _ _ (relC_le w t o 1 p j e) q3
       subst this
       simp [relC,clr] at e,r.pr _ _ q3⟩
      have hfz:RV s.get μ (Zo (relC w t o 1 none) Pr) (frz tv) v':=RO.frz (q4.mono (Mo.sub (relC_le w t o 1)) rfl) hz
      have:=r.reBox (w':=relC w t o 1 none) (tv:=frz tv) hb hlt (fun p i e=>⟨p,relC_le w t o 1 p i e⟩) (fun p q i e f=>r.inj p q i (relC_le w t o 1 p i e) (relC_le w t o 1 q i f)) (fun _=>rfl) (fun _ _=>rfl) (fun _=>rfl)
       (fun k' c hk=>by
        simp only [relC]
        split
        ·rename_i h;subst h
         have hc:c≠o:=by rcases hk with h|h; · exact absurd rfl h
                         · exact h
         unfold clr;split
         ·rfl
         ·rw [if_neg (by omega)]
        ·rfl) (fun i' ver' vs' v2 e1 e2 e3=>by
        rw [k1] at e1;cases e1
        rw [k3] at e2;cases e2
        rw [q1] at e3;cases e3
        have:relC w t o 1 none (.tcell t o)=none:=by simp [relC,clr]
        rw [this];exact hfz)
      exact done_pure this (fun p i e=>⟨p,relC_le w t o 1 p i e⟩) d (.inl hfz)
     ·cases h
      exact done_al r d rfl ⟨Nat.le_refl _,fun _ chs hp=>⟨i,ver,vs,e,k1,k3,q1⟩⟩
   ·cases h
  ·cases h
 case elt ch o=>
  have h1:=r.atPlain hx rfl
  revert h1;generalize ax.ev x=y;intro h1;cases h1
  rename_i k1 k2 k3 k4
  split at h
  ·rename_i tv htv
   cases h
   obtain ⟨v',q1,q2⟩:=k4.get htv
   have hlt:=(List.getElem?_eq_some_iff.1 htv).1
   rw [List.getElem?_take,if_pos hlt,List.getElem?_drop] at q1
   simp only [load_one k2 q1]
   exact ⟨_,rfl,done_val r d q2⟩
  ·cases h
 case vel p c j o=>
  have h1:=r.atAl hx rfl
  split at h
  ·rename_i ch hch
   obtain ⟨i,ver,vs,e,dd,q0,q1,q2,q3,q4⟩:=r.velOf h1 hch
   rw [q0]
   split at h
   ·rename_i tv htv
    cases h
    obtain ⟨v',q5,q6⟩:=q4.get htv
    have hlt:=(List.getElem?_eq_some_iff.1 htv).1
    rw [List.getElem?_take,if_pos hlt,List.getElem?_drop] at q5
    simp only [load_one q2 q5]
    exact ⟨_,rfl,done_val r d q6⟩
   ·cases h
  ·cases h
end
end Go.Xt
end
section
namespace Go.Xt
open Go Go.Xe
theorem setList_self {vs:List Value} {o n:Nat} (h:o+n≤vs.length):setList vs o ((vs.drop o).take n)=vs:=by
 apply List.ext_getElem?
 intro j
 have hl:((vs.drop o).take n).length=n:=by simp;omega
 rw [setList_get _ _ _ (by rw [hl];exact h),hl]
 by_cases h1:j<o
 ·rw [if_pos h1]
 ·rw [if_neg h1]
  by_cases h2:j<o+n
  ·rw [if_pos h2,List.getElem?_take,if_pos (by omega),List.getElem?_drop];congr 1;omega
  ·rw [if_neg h2]
section
variable {Pr:Nat→Prop} {μ μ':List Nat} {w w':Own} {a a':TAct} {σ σ':Sto} {ax ax':Xe.Act} {s s':AS}
theorem frzRange {g:Hp} {w w':Own} {P:Nat→Pc} {cs:List TV} {vs:List Value} (r:RCs g μ (Zo w Pr) (fun o=>w (P o)) cs vs) (inj:∀p q i,w p=some i→w q=some i→p=q) (pr:∀p i,w p=some i→¬Pr i) {o n:Nat} (hn:o+n≤cs.length)
  (hsub:∀p i,w' p=some i→w p=some i) (hno:∀j,o≤j→j<o+n→w' (P j)=none):RVs g μ (Zo w' Pr) (((cs.drop o).take n).map frz) ((vs.drop o).take n):=by
 refine RVs.of_get (by simp [r.len]) fun j tv v h1 h2=> ?_
 rw [List.getElem?_map] at h1
 simp only [List.getElem?_take,List.getElem?_drop] at h1 h2
 by_cases hj:j<n
 ·rw [if_pos hj] at h1 h2
  cases hc:cs[o+j]? with
  |none=>rw [hc] at h1;cases h1
  |some tv0=>
   rw [hc] at h1
   cases h1
   have:=r.get _ _ _ hc h2
   revert this
   cases hw:w (P (o+j)) with
   |none=>
    intro this
    have this:RV g μ (Zo w Pr) tv0 v:=this
    rw [frz_same this.notown.2.1];exact this.mono (Mo.sub hsub)
   |some i=>
    intro this
    have this:RO g μ (Zo w Pr) i tv0 v:=this
    refine RO.frz (this.mono (Mo.sub hsub) rfl) ⟨fun p e=> ?_,pr _ _ hw⟩
    have:=inj _ _ _ (hsub p i e) hw
    subst this
    rw [hno _ (by omega) (by omega)] at e;cases e
 ·rw [if_neg hj] at h1;cases h1
theorem s_loadN (md b:Nat) (d:Option Nat) (n:Nat) (x:Operand):SimP md b d (.loadN n x):=by
 intro Pr μ w a σ ax s v a' σ' h r hP
 simp only [tdo] at h
 simp only [xprim]
 cases hx:a.at x<;>rw [hx] at h<;>simp only [tLoadN] at h<;>first|(cases h;done)|skip
 case ptr k o=>
  have h1:=r.atPlain hx rfl
  revert h1;generalize ax.ev x=y;intro h1;cases h1
  rename_i i0 hm
  split at h
  ·rename_i ver cs e hob
   obtain ⟨i,vs,k1,k2,k3⟩:=r.objOf hob
   rw [hm] at k1;cases k1
   split at h
   ·rename_i hle
    rw [bleNat] at hle
    have hle:=of_decide_eq_true hle
    simp only [loadList_of k2 (by rw [k3.len];exact hle)]
    refine ⟨_,rfl,?_⟩
    split at h
    ·rename_i ho
     cases h
     exact done_val r d (.agg (k3.plain hle ho))
    ·cases h
     have hnone:∀j,o≤j→j<o+n→relO w k o n none (.cell k j)=none:=fun j h1 h2=>by
      simp only [relO,if_true,clr];rw [if_neg (by omega),if_pos h2]
     have hf:=frzRange (w':=relO w k o n none) k3 r.inj r.pr hle (relO_le w k o n) hnone
     have mo:=Mo.sub (g:=s.get) (μ:=μ) (Pr:=Pr) (relO_le w k o n)
     have hk:k<σ.length:=by rw [←r.len];exact (List.getElem?_eq_some_iff.1 hm).1
     have hll:(((cs.drop o).take n).map frz).length=n:=by simp;omega
     have hput:=(k3.mono mo (fun _ _ _=>rfl)).put hf (by rw [hll];exact hle)
     rw [setList_self (by rw [k3.len];exact hle),hll,←relO_cell] at hput
     have st:=r.objStep (w':=relO w k o n none) mo (r.toRs.setO (o:=⟨ver,.cells (putAt cs o (((cs.drop o).take n).map frz)) e⟩) hk mo r.dm (Nat.le_refl _) (fun p q i e f=>r.inj p q i (relO_le w k o n p i e) (relO_le w k o n q i f)) (fun p i e=>⟨p,relO_le w k o n p i e⟩) (fun _=>rfl)
      (fun k' c hk'=>by simp only [relO,if_neg hk']) (fun _ _ _ _=>rfl) ⟨i0,_,hm,k2,rfl,rfl,hput⟩) (fun _=>rfl) (fun _ _=>rfl) (fun _ _ _=>rfl)
     exact done_pure st (fun p i e=>⟨p,relO_le w k o n p i e⟩) d (.inl (.agg hf))
   ·cases h
  ·cases h
 case vpt t o ser=>
  have h1:=r.atAl hx rfl
  split at h
  ·rename_i cs e hb
   obtain ⟨hbx,i,ver,vs,k1,k2,k3,k4⟩:=r.boxOf hb
   obtain ⟨i',k1',hy⟩:=h1.2 _ _ hbx
   rw [k1] at k1';cases k1'
   rw [hy]
   split at h
   ·rename_i hle
    rw [bleNat] at hle
    have hle:=of_decide_eq_true hle
    simp only [loadList_of k3 (by rw [k4.len];exact hle)]
    refine ⟨_,rfl,?_⟩
    split at h
    ·rename_i ho
     cases h
     exact done_val r d (.agg (k4.plain hle ho))
    ·cases h
     have hnone:∀j,o≤j→j<o+n→relC w t o n none (.tcell t j)=none:=fun j h1 h2=>by
      simp only [relC,if_true,clr];rw [if_neg (by omega),if_pos h2]
     have hf:=frzRange (w':=relC w t o n none) k4 r.inj r.pr hle (relC_le w t o n) hnone
     have mo:=Mo.sub (g:=s.get) (μ:=μ) (Pr:=Pr) (relC_le w t o n)
     have hll:(((cs.drop o).take n).map frz).length=n:=by simp;omega
     have hput:=(k4.mono mo (fun _ _ _=>rfl)).put hf (by rw [hll];exact hle)
     rw [setList_self (by rw [k4.len];exact hle),hll,←relC_tcell] at hput
     have st:=r.boxStep (w':=relC w t o n none) hbx mo (r.toRs.setT mo r.dm (Nat.le_refl _) (fun p q i e f=>r.inj p q i (relC_le w t o n p i e) (relC_le w t o n q i f)) (fun p i e=>⟨p,relC_le w t o n p i e⟩) (fun _=>rfl) (fun _ _=>rfl) (fun _ _ _=>rfl)) (fun _=>rfl)
      (fun t' c ht'=>by simp only [relC,if_neg ht']) (fun _ _ _ _ _ _=>rfl) (fun i' hi'=>by rw [k1] at hi';cases hi';exact ⟨ver,vs,k3,hput⟩)
     exact done_pure st (fun p i e=>⟨p,relC_le w t o n p i e⟩) d (.inl (.agg hf))
   ·cases h
  ·cases h
 case elt ch o=>
  have h1:=r.atPlain hx rfl
  revert h1;generalize ax.ev x=y;intro h1;cases h1
  rename_i i0 dd ver0 vs0 e0 ro0 k1 k2 k3 k4
  split at h
  ·rename_i hle
   rw [bleNat] at hle
   have hle:=of_decide_eq_true hle
   cases h
   simp only [loadList_of k2 (show dd+o+n≤vs0.length by omega)]
   refine ⟨_,rfl,done_val r d (.agg ?_)⟩
   have:=(k4.drop o).take n
   rwa [List.drop_take,List.take_take,List.drop_drop,Nat.min_eq_left (by omega)] at this
  ·cases h
 case vel p c j o=>
  have h1:=r.atAl hx rfl
  split at h
  ·rename_i ch hch
   obtain ⟨i,ver,vs,e,dd,q0,q1,q2,q3,q4⟩:=r.velOf h1 hch
   rw [q0]
   split at h
   ·rename_i hle
    rw [bleNat] at hle
    have hle:=of_decide_eq_true hle
    cases h
    simp only [loadList_of q2 (show dd+o+n≤_ by omega)]
    refine ⟨_,rfl,done_val r d (.agg ?_)⟩
    have:=(q4.drop o).take n
    rwa [List.drop_take,List.take_take,List.drop_drop,Nat.min_eq_left (by omega)] at this
   ·cases h
  ·cases h
theorem beq_of {a b:Nat} (h:Nat.beq a b=true):a=b:=by rw [beqNat] at h;exact of_decide_eq_true h
theorem RV.fzOf {g:Hp} {Z:Nat→Prop} {chs:List (List TV)} {v:Value} (h:RV g μ Z (.sl .fz chs) v) (hne:chs≠[]):∃i o n c s ver vs e ro,v=.slice (some ⟨i,o,none⟩) n c∧Z i∧g i=some ⟨ver,.cells vs e ro⟩∧okSz s chs=true∧chs.length=n∧(c<capU→n≤c)∧(capU≤c→c=capU+s)∧o+n*s≤vs.length∧
  RVs g μ Z chs.flatten ((vs.drop o).take (n*s)):=by
 cases h with
 |fz a b c d e f k m=>exact ⟨_,_,_,_,_,_,_,_,_,rfl,a,b,c,d,e,f,k,m⟩
 |fz0=>exact absurd rfl hne
theorem RV.lenOf {g:Hp} {Z:Nat→Prop} {m:Md} {chs:List (List TV)} {v:Value} (h:RV g μ Z (.sl m chs) v):∃bb c,v=.slice bb chs.length c:=by
 cases h with
 |fz a b c d=>exact ⟨_,_,by rw [d]⟩
 |fz0 b c=>exact ⟨b,c,rfl⟩
 |nl=>exact ⟨_,_,rfl⟩
theorem RO.lenOf {g:Hp} {Z:Nat→Prop} {i:Nat} {m:Md} {chs:List (List TV)} {v:Value} (h:RO g μ Z i (.sl m chs) v):∃bb c,v=.slice bb chs.length c:=by
 cases h with
 |mk a b c=>exact ⟨_,_,by rw [c]⟩
theorem s_lenSlice (md b:Nat) (d:Option Nat) (x:Operand):SimP md b d (.lenSlice x):=by
 intro Pr μ w a σ ax s v a' σ' h r hP
 simp only [tdo] at h
 simp only [xprim]
 split at h
 ·rename_i n hn
  cases h
  have key:∃bb c,ax.ev x=.slice bb n c:=by
   unfold tLen at hn
   split at hn
   ·rename_i m c hx
    cases hn
    cases ho:isOwn (a.ev x) with
    |true=>
     obtain ⟨t,rfl⟩:=isOwn_tmp ho
     obtain ⟨i,h1,h2⟩:=r.ownOf ho
     rw [hx] at h2;exact h2.lenOf
    |false=>
     have:=r.plainOf hx (by rw [hx] at ho;cases m<;>first|rfl|(simp [isOwn] at ho))
     exact this.lenOf
   ·rename_i p ck hx
    split at hn
    ·rename_i hc
     split at hn
     ·rename_i chs hp
      cases hn
      have ha:a.at x=.via p ck:=by unfold TAct.at;rw [hx]
      obtain ⟨i,e,sz,h1,h2⟩:=r.viaOf (r.atAl ha rfl) hc hp
      exact h2.lenOf
     ·cases hn
    ·cases hn
   ·rename_i k o sz n' c hx
    cases hn
    have:=r.plainOf hx rfl
    revert this;generalize ax.ev x=y;intro this;cases this
    exact ⟨_,_,rfl⟩
   ·cases hn
  obtain ⟨bb,c,hv⟩:=key
  rw [hv]
  exact ⟨_,rfl,done_val r d (.int _ _)⟩
 ·cases h
theorem s_capSlice (md b:Nat) (d:Option Nat) (x:Operand):SimP md b d (.capSlice x):=by
 intro Pr μ w a σ ax s v a' σ' h r hP
 simp only [tdo] at h
 simp only [xprim]
 split at h
 ·rename_i k o sz n c hx
  split at h
  ·cases h
  ·rename_i hc
   cases h
   have:=r.plainOf hx rfl
   revert this;generalize ax.ev x=y;intro this;cases this
   simp only [hc]
   exact ⟨_,rfl,done_val r d (.int _ _)⟩
 ·cases h
theorem s_indexAddr (md b:Nat) (d:Option Nat) (size:Nat) (x i:Operand):SimP md b d (.indexAddr size x i):=by
 intro Pr μ w a σ ax s v a' σ' h r hP
 simp only [tdo] at h
 simp only [xprim]
 split at h
 ·rename_i kk j hi
  have h2:=r.plainOf hi rfl
  revert h2;generalize ax.ev i=z;intro h2;cases h2
  cases hx:a.ev x<;>rw [hx] at h<;>simp only [tIndex] at h<;>first|(cases h;done)|skip
  case sl m chs=>
   cases m with
   |own e sz=>
    simp only [tIndex] at h
    have ho:isOwn (a.ev x)=true:=by rw [hx];rfl
    obtain ⟨t,rfl⟩:=isOwn_tmp ho
    obtain ⟨i,h1,h2⟩:=r.ownOf ho
    rw [hx] at h2
    split at h
    ·rename_i t' ch heq hch
     cases heq
     split at h
     ·rename_i hsz
      cases h
      have hy:∃oo n c,ax.ev (.tmp t)=.slice (some ⟨i,oo,none⟩) n c∧chs.length=n:=by
       revert h2;generalize ax.ev (.tmp t)=y;intro h2
       cases h2 with
       |mk q1 q2 q3=>exact ⟨_,_,_,rfl,q3⟩
      obtain ⟨oo,n,c,hy,hn⟩:=hy
      have hlt:j<n:=by rw [←hn];exact (List.getElem?_eq_some_iff.1 hch).1
      rw [hy]
      simp only [bltNat,decide_eq_true hlt]
      refine ⟨_,rfl,done_al r d rfl ⟨Nat.le_refl _,fun _ chs' ch' hp' hj'=> ?_⟩⟩
      have:plGet a σ (.tmp t)=some chs:=by simp only [plGet,hx,ownChs]
      rw [this] at hp';cases hp'
      rw [hch] at hj';cases hj'
      refine ⟨i,oo,n,c,hy.symm,?_⟩
      rw [add_none,beq_of hsz,Nat.add_zero]
     ·cases h
    ·cases h
   |fz=>
    simp only [tIndex] at h
    split at h
    ·rename_i ch hch
     split at h
     ·rename_i hsz
      cases h
      have h1:=r.plainOf hx rfl
      have hne:chs≠[]:=by rintro rfl;simp at hch
      obtain ⟨i,oo,n,c,s',ver,vs,e,ro,hv,q1,q2,q3,q4,q5,q6,q7,q8⟩:=h1.fzOf hne
      rw [hv]
      have hlt:j<n:=by rw [←q4];exact (List.getElem?_eq_some_iff.1 hch).1
      have hs':=okSz_get q3 hch
      rw [beq_of hsz] at hs'
      subst hs'
      have hmul:j*size+size≤n*size:=by rw [←Nat.succ_mul];exact Nat.mul_le_mul_right size (by omega)
      simp only [bltNat,decide_eq_true hlt]
      refine ⟨_,rfl,done_val r d ?_⟩
      rw [add_none]
      have hd:=(q8.drop (j*size)).take size
      rw [flat_chunk q3 hch,List.drop_take,List.take_take,List.drop_drop,Nat.min_eq_left (by omega)] at hd
      refine RV.elt (d:=oo+j*size) (o:=0) q1 q2 (by rw [beq_of hsz];omega) ?_
      rw [beq_of hsz];exact hd
     ·cases h
    ·cases h
   |nl=>
    have h1:=r.plainOf hx rfl
    revert h1;generalize ax.ev x=y;intro h1;cases h1
    simp [tIndex] at h
  case via p ck=>
   have ha:a.at x=.via p ck:=by unfold TAct.at;rw [hx]
   have hal:=r.atAl ha rfl
   split at h
   ·rename_i hc
    split at h
    ·rename_i chs hp
     split at h
     ·rename_i ch hch
      split at h
      ·rename_i hsz
       cases h
       have hce:=beq_of hc
       have hv:=hal.2 hce chs hp
       obtain ⟨i,e,sz,h1,h2⟩:=r.viaOf hal hc hp
       revert hv h2
       generalize ax.ev x=y
       intro hv h2
       cases h2 with
       |mk q1 q2 q3 q4 q5 q6 q7=>
        have hlt:=(List.getElem?_eq_some_iff.1 hch).1
        rw [q3] at hlt
        simp only [bltNat,decide_eq_true hlt]
        refine ⟨_,rfl,done_al r d rfl ⟨Nat.le_of_eq hce,fun _ chs' ch' hp' hj'=> ?_⟩⟩
        rw [hp] at hp';cases hp'
        rw [hch] at hj';cases hj'
        refine ⟨i,_,_,_,hv,?_⟩
        rw [add_none,beq_of hsz,Nat.add_zero]
      ·cases h
     ·cases h
    ·cases h
   ·cases h
  case ref k o sz n c=>
   split at h
   ·rename_i hb
    simp only [Bool.and_eq_true] at hb
    cases h
    have h1:=r.plainOf hx rfl
    revert h1;generalize ax.ev x=y;intro h1;cases h1
    rename_i hm hnc
    simp only [hb.2]
    exact ⟨_,rfl,done_val r d (by rw [add_none];exact .ptr hm)⟩
   ·cases h
 ·cases h
end
end Go.Xt
end
section
namespace Go.Xt
open Go Go.Xe
section
variable {Pr:Nat→Prop} {μ μ':List Nat} {w w':Own} {a a':TAct} {σ σ':Sto} {ax ax':Xe.Act} {s s':AS}
theorem plGet_ext (h:∀t,a'.ev (.tmp t)=a.ev (.tmp t)) (p:Pl):plGet a' σ p=plGet a σ p:=by
 cases p<;>simp only [plGet,boxAt,h]
theorem Rl.ext (r:Rl Pr μ w a σ ax s) (h:∀t,a'.ev (.tmp t)=a.ev (.tmp t)) (hd:a'.df=a.df) (hc:a'.clk=a.clk):Rl Pr μ w a' σ ax s:=by
 refine ⟨r.toRs,fun t=> ?_,fun t=> ?_,by rw [hd];exact r.df⟩
 ·rw [h,hc];exact r.tm t
 ·rw [h]
  have ha:=r.al t
  revert ha
  generalize a.ev (.tmp t)=x
  generalize ax.ev (.tmp t)=y
  intro ha
  cases x<;>first|trivial|skip
  ·simp only [AL,hc,plGet_ext h] at ha ⊢;exact ha
  ·simp only [AL,hc,plGet_ext h] at ha ⊢;exact ha
  ·simp only [AL,hc,h] at ha ⊢;exact ha
theorem heapNew (s:AS) (o:Option AObj) (j:Nat):(s.upd [(s.next,o)] (s.next+1)).get j=if s.next=j then o else s.get j:=by
 rw [AS.upd_get];rfl
theorem upd_next1 (s:AS) (δ:List (Nat×Option AObj)) (n:Nat):(s.upd δ n).next=n:=rfl
theorem Rl.lt (r:Rl Pr μ w a σ ax s) {i:Nat} {x:AObj} (e:s.get i=some x):i<s.next:=by
 by_cases h:i<s.next
 ·exact h
 ·rw [r.dm i (by omega)] at e;cases e
theorem Rl.moNew (r:Rl Pr μ w a σ ax s) (o:Option AObj):Mo s.get μ (Zo w Pr) (s.upd [(s.next,o)] (s.next+1)).get μ (Zo (holds w s.next) Pr):=by
 refine ⟨fun _ _ e=>e,fun i ver vs e ro z hg=> ?_⟩
 have hi:=r.lt hg
 refine ⟨⟨fun p e=> ?_,z.2⟩,by rw [heapNew,if_neg (by omega)];exact hg⟩
 unfold holds at e
 split at e
 ·cases e;omega
 ·exact z.1 p e
theorem holds_own {i:Nat}:∀p j,holds w i p=some j→j<i→∃q,w q=some j:=fun p j e h=>by
 unfold holds at e
 split at e
 ·cases e;omega
 ·exact ⟨p,e⟩
theorem after_new {w1:Own} (o:Option AObj) (h:∀p i,w1 p=some i→i<s.next→∃q,w q=some i) (hm:∃ν,μ'=μ++ν):After w w1 μ μ' s (s.upd [(s.next,o)] (s.next+1)):=
 ⟨Nat.le_succ _,fun i hi _=>by rw [heapNew,if_neg (by omega)],h,hm⟩
theorem mu_self:∃ν,μ=μ++ν:=⟨[],(List.append_nil μ).symm⟩
theorem Rl.hands (r:Rl Pr μ w a σ ax s) (h k:Nat):Rl Pr μ (mv w (.hand h) (.hand k)) a σ ax s:=
 r.env (Mo.mv _ _) (r.toRs.mv _ _ (fun _=>mv_other w (by simp) (by simp)) (fun _ _=>mv_other w (by simp) (by simp))) (fun _=>mv_other w (by simp) (by simp)) (fun _ _=>mv_other w (by simp) (by simp)) (fun _ _ _ _=>rfl)
theorem putOwn_own (d:Nat):∀p i,mv (rel w (some d)) (.hand 0) (.tmp d) p=some i→∃q,w q=some i:=fun p i e=>by
 obtain ⟨q,hq⟩:=mv_owned e;exact ⟨q,rel_le _ _ _ _ hq⟩
theorem Rl.newBox (r:Rl Pr μ w a σ ax s) (hP:∀i,Pr i→i<s.next) {cs:List TV} {vs:List Value} (hv:RVs s.get μ (Zo w Pr) cs vs) (e:TypeId) (d:Nat):
  Rl Pr μ (mv (rel (holds w s.next) (some d)) (.hand 0) (.tmp d)) (a.tick.put (some d) (.bx a.clk cs e)) σ (ax.put (some d) (.pointer (some ⟨s.next,0,none⟩))) (s.upd [(s.next,some ⟨0,.cells vs e false⟩)] (s.next+1)):=by
 have hnp:¬Pr s.next:=fun h=>Nat.lt_irrefl _ (hP _ h)
 have r1:=r.alloc ⟨0,.cells vs e false⟩ hnp
 refine r1.tick.putBx (fresh_tick r1) d (holds_hand w _) (ver:=0) (vs:=vs) (by rw [heapNew,if_pos rfl]) (hv.mono (r.moNew _)) rfl (fun t o h=> ?_)
 have ha:=r.al t
 rw [show a.tick.ev (.tmp t)=a.ev (.tmp t) from rfl] at h
 rw [h] at ha
 exact Nat.lt_irrefl _ ha.1
theorem done_box (r:Rl Pr μ w a σ ax s) (hP:∀i,Pr i→i<s.next) {cs:List TV} {vs:List Value} (hv:RVs s.get μ (Zo w Pr) cs vs) (e:TypeId) (d:Option Nat):
  Done Pr μ w ax s d (.bx a.clk cs e) a.tick σ ⟨.pointer (some ⟨s.next,0,none⟩),[(s.next,some ⟨0,.cells vs e false⟩)],s.next+1⟩:=by
 have hnp:¬Pr s.next:=fun h=>Nat.lt_irrefl _ (hP _ h)
 cases d with
 |none=>exact ⟨μ,holds w s.next,(r.alloc _ hnp).tick,after_new _ (holds_own (w:=w)) mu_self⟩
 |some d=>
  refine ⟨μ,_,r.newBox hP hv e d,after_new _ (fun p i h hi=> ?_) mu_self⟩
  obtain ⟨q,hq⟩:=putOwn_own d p i h
  exact holds_own q i hq hi
def newO (w:Own) (n k:Nat):Own:=mv (holds w n) (.hand 0) (.obj k)
theorem newO_own {n k:Nat}:∀p i,newO w n k p=some i→i<n→∃q,w q=some i:=fun p i e hi=>by
 obtain ⟨q,e⟩:=mv_owned e;exact holds_own q i e hi
theorem Rl.newObj (r:Rl Pr μ w a σ ax s) (hP:∀i,Pr i→i<s.next) {o:TObj} {b:ABody} (hb:∀(s':AS),(∀c,newO w s.next σ.length (.cell σ.length c)=none)→Mo s.get μ (Zo w Pr) s'.get (μ++[s.next]) (Zo (newO w s.next σ.length) Pr)→RB s'.get (μ++[s.next]) (Zo (newO w s.next σ.length) Pr) (newO w s.next σ.length) σ.length o.body b):
  Rl Pr (μ++[s.next]) (newO w s.next σ.length) a.tick (σ++[some o]) ax (s.upd [(s.next,some ⟨o.ver,b⟩)] (s.next+1)):=by
 have hnp:¬Pr s.next:=fun h=>Nat.lt_irrefl _ (hP _ h)
 have r1:=r.alloc ⟨o.ver,b⟩ hnp
 exact r1.putObj (holds_hand w _) (by rw [heapNew,if_pos rfl]) (fun hc mo=>hb _ hc ((r.moNew _).trans mo))
theorem Rl.muNew (r:Rl Pr μ w a σ ax s) (n:Nat):(μ++[n])[σ.length]? =some n:=by rw [←r.len];simp
theorem done_obj (r:Rl Pr μ w a σ ax s) (hP:∀i,Pr i→i<s.next) {o:TObj} {b:ABody} (hb:∀(s':AS),(∀c,newO w s.next σ.length (.cell σ.length c)=none)→Mo s.get μ (Zo w Pr) s'.get (μ++[s.next]) (Zo (newO w s.next σ.length) Pr)→RB s'.get (μ++[s.next]) (Zo (newO w s.next σ.length) Pr) (newO w s.next σ.length) σ.length o.body b)
  {tv:TV} {v:Value} (hv:∀g Z,RV g (μ++[s.next]) Z tv v) (d:Option Nat):Done Pr μ w ax s d tv a.tick (σ++[some o]) ⟨v,[(s.next,some ⟨o.ver,b⟩)],s.next+1⟩:=by
 have h:=(r.newObj hP hb).put d (.inl (hv _ _))
 exact ⟨_,_,h,after_new _ (fun p i e hi=>newO_own p i (rel_le _ _ _ _ e) hi) ⟨_,rfl⟩⟩
theorem rb_cells {cs:List TV} {vs:List Value} {e:TypeId} (hv:RVs s.get μ (Zo w Pr) cs vs) {n k:Nat}:∀(s':AS),(∀c,newO w n k (.cell k c)=none)→Mo s.get μ (Zo w Pr) s'.get (μ++[n]) (Zo (newO w n k) Pr)→RB s'.get (μ++[n]) (Zo (newO w n k) Pr) (newO w n k) k (.cells cs e) (.cells vs e false):=fun s' hc mo=>by
 refine ⟨rfl,rfl,hv.length,fun o tv v h1 h2=> ?_,fun o _=>hc o⟩
 obtain ⟨v',h3,h4⟩:=hv.get h1
 rw [h2] at h3;cases h3
 simp only [hc o]
 exact h4.mono mo
end
theorem s_alloc (md b:Nat) (d:Option Nat) (e:TypeId) (z:List Value):SimP md b d (.alloc e z):=by
 intro Pr μ w a σ ax s v a' σ' h r hP
 simp only [tdo] at h
 simp only [xprim]
 split at h
 ·cases h
 ·rename_i hz
  simp only [hz]
  refine ⟨_,rfl,?_⟩
  split at h
  ·simp only [tNew] at h
   cases h
   exact done_obj r hP (rb_cells (RVs.ofVs _ _ _ z)) (fun g Z=>.ptr (r.muNew _)) d
  ·cases h
   exact done_box r hP (RVs.ofVs _ _ _ z) e d
theorem s_mkMap (md b:Nat) (d:Option Nat):SimP md b d .mkMap:=by
 intro Pr μ w a σ ax s v a' σ' h r hP
 simp only [tdo,tNew] at h
 cases h
 simp only [xprim]
 refine ⟨_,rfl,done_obj (o:=⟨0,.map [] 0⟩) (b:=.map [] 0) r hP (fun s' hc mo=>⟨rfl,rfl,fun j x y h1 h2=>by simp at h1,hc⟩) (fun g Z=>.map (r.muNew _)) d⟩
section
variable {Pr:Nat→Prop} {μ μ':List Nat} {w w':Own} {a a':TAct} {σ σ':Sto} {ax ax':Xe.Act} {s s':AS}
theorem RV.cells {g:Hp} {Z:Nat→Prop} {tv:TV} {v:Value} (h:RV g μ Z tv v) (hd:tv≠.dead):RVs g μ Z tv.cells v.cells.toList:=by
 cases h<;>first|exact absurd rfl hd|assumption|skip
 case tuple=>exact .cons (.tuple (by assumption)) .nil
 all_goals first
  |exact .cons (.int _ _) .nil
  |exact .cons (.bool _) .nil
  |exact .cons (.str _) .nil
  |exact .cons .nilp .nil
  |exact .cons (.ptr (by assumption)) .nil
  |exact .cons (.elt (by assumption) (by assumption) (by assumption) (by assumption)) .nil
  |exact .cons (.fz (by assumption) (by assumption) (by assumption) (by assumption) (by assumption) (by assumption) (by assumption) (by assumption)) .nil
  |exact .cons (.fz0 _ _) .nil
  |exact .cons .nl .nil
  |exact .cons (.ref (by assumption) (by assumption)) .nil
  |exact .cons .nilm .nil
  |exact .cons (.map (by assumption)) .nil
  |exact .cons .nilf .nil
  |exact .cons (.func _ (by assumption) (by assumption)) .nil
  |exact .cons .nili .nil
  |exact .cons (.iface _ (by assumption)) .nil
theorem RVs.ones {g:Hp} {Z:Nat→Prop}:∀{l:List TV} {l':List Value},RVs g μ Z l l'→onesT l=true→Xe.ones l'=true
 |_,_,.nil,_=>rfl
 |v::l,_,.cons h t,k=>by
  cases h<;>simp only [onesT] at k<;>first|(cases k;done)|(simp only [Xe.ones];exact t.ones k)
theorem RO.one {g:Hp} {Z:Nat→Prop} {i:Nat} {tv:TV} {v:Value} (h:RO g μ Z i tv v):tv.cells=[tv]∧v.cells.toList=[v]∧Xe.ones [v]=true:=by
 cases h;exact ⟨rfl,rfl,rfl⟩
theorem stok_pl {v:TV} (h:stok v=true) (ho:isOwn v=false):pl v=true∧v≠.dead:=by
 cases v<;>first|(simp [stok] at h;done)|exact ⟨rfl,by simp⟩|skip
 rename_i m c;cases m<;>first|exact ⟨rfl,by simp⟩|(simp [isOwn] at ho)
end
end Go.Xt
end
section
namespace Go.Xt
open Go Go.Xe
theorem putAt_dead (cs:List TV) {o:Nat} (h:o<cs.length) (tv:TV):(putAt cs o [.dead]).set o tv=putAt cs o [tv]:=by
 unfold putAt
 rw [List.append_assoc,List.set_append_right _ _ (by simp;omega)]
 have:o - (cs.take o).length=0:=by simp;omega
 rw [this];simp
theorem setList_one (vs:List Value) (o:Nat) (v:Value):setList vs o [v]=vs.set o v:=rfl
section
variable {Pr:Nat→Prop} {μ μ':List Nat} {w w':Own} {a a':TAct} {σ σ':Sto} {ax ax':Xe.Act} {s s':AS}
theorem relO_hand (w:Own) (k o n:Nat) (x:Option Nat) (h:Nat):relO w k o n x (.hand h)=w (.hand h):=rfl
theorem relC_hand (w:Own) (k o n:Nat) (x:Option Nat) (h:Nat):relC w k o n x (.hand h)=w (.hand h):=rfl
theorem Rl.storeObj (r:Rl Pr μ w a σ ax s) {k o ver i:Nat} {cs:List TV} {vs:List Value} {e:TypeId} (hm:μ[k]? =some i) (hg:s.get i=some ⟨ver,.cells vs e false⟩) (hc:RCs s.get μ (Zo w Pr) (fun o=>w (.cell k o)) cs vs)
  {l:List TV} {l':List Value} (hl:RVs s.get μ (Zo w Pr) l l') (hle:o+l.length≤cs.length):
  Rl Pr μ (relO w k o l.length none) a.tick (σ.set k (some ⟨ver+1,.cells (putAt cs o l) e⟩)) ax (s.upd [(i,some ⟨ver+1,.cells (setList vs o l') e false⟩)] s.next):=by
 have hk:k<σ.length:=by rw [←r.len];exact (List.getElem?_eq_some_iff.1 hm).1
 have hw:w (.obj k)=some i:=(r.wobj k).trans hm
 have own:∀p j,relO w k o l.length none p=some j→w p=some j:=relO_le w k o _
 have mo:=r.moSet hw (some ⟨ver+1,.cells (setList vs o l') e false⟩) (w':=relO w k o l.length none) (fun p j e=>⟨p,own p j e⟩)
 have hne:∀p j,w p=some j→p≠.obj k→(s.upd [(i,some ⟨ver+1,.cells (setList vs o l') e false⟩)] s.next).get j=s.get j:=fun p j e h=>by
  rw [heapSet,if_neg];rintro rfl;exact h (r.inj _ _ _ e hw)
 refine r.objStep mo (r.toRs.setO hk mo (r.dmSet hw _) (Nat.le_refl _) (fun p q j e f=>r.inj p q j (own p j e) (own q j f)) (fun p j e=>⟨p,own p j e⟩) (fun _=>rfl) (fun k' c hk'=>by simp only [relO,if_neg hk'])
  (fun k' j hk' h=> ?_) ⟨i,.cells (setList vs o l') e false,hm,by rw [heapSet,if_pos rfl],rfl,rfl,?_⟩) (fun _=>rfl) (fun _ _=>rfl) (fun t j h=> ?_)
 ·rcases h with h|⟨c,h⟩
  ·exact hne _ _ h (by simpa using hk')
  ·exact hne _ _ h (by simp)
 ·have:=(hc.mono mo (fun o j h=>hne _ _ h (by simp))).put (hl.mono mo) hle
  rwa [←relO_cell] at this
 ·rcases h with h|⟨c,h⟩
  ·exact hne _ _ h (by simp)
  ·exact hne _ _ h (by simp)
theorem Rl.storeBox (r:Rl Pr μ w a σ ax s) {t ser o ver i:Nat} {cs:List TV} {vs:List Value} {e:TypeId} (hbx:a.ev (.tmp t)=.bx ser cs e) (hw:w (.tmp t)=some i) (hg:s.get i=some ⟨ver,.cells vs e false⟩) (hc:RCs s.get μ (Zo w Pr) (fun o=>w (.tcell t o)) cs vs)
  {l:List TV} {l':List Value} (hl:RVs s.get μ (Zo w Pr) l l') (hle:o+l.length≤cs.length):
  Rl Pr μ (relC w t o l.length none) (boxPut a t ser (putAt cs o l) e) σ ax (s.upd [(i,some ⟨ver+1,.cells (setList vs o l') e false⟩)] s.next):=by
 have own:∀p j,relC w t o l.length none p=some j→w p=some j:=relC_le w t o _
 have mo:=r.moSet hw (some ⟨ver+1,.cells (setList vs o l') e false⟩) (w':=relC w t o l.length none) (fun p j e=>⟨p,own p j e⟩)
 have hne:∀p j,w p=some j→p≠.tmp t→(s.upd [(i,some ⟨ver+1,.cells (setList vs o l') e false⟩)] s.next).get j=s.get j:=fun p j e h=>by
  rw [heapSet,if_neg];rintro rfl;exact h (r.inj _ _ _ e hw)
 refine r.boxStep hbx mo (r.toRs.setT mo (r.dmSet hw _) (Nat.le_refl _) (fun p q j e f=>r.inj p q j (own p j e) (own q j f)) (fun p j e=>⟨p,own p j e⟩) (fun _=>rfl) (fun _ _=>rfl) (fun k' j h=> ?_)) (fun _=>rfl)
  (fun t' c ht'=>by simp only [relC,if_neg ht']) (fun p j h _ h2 _=>hne p j h h2) (fun i' hi'=> ?_)
 ·rcases h with h|⟨c,h⟩
  ·exact hne _ _ h (by simp)
  ·exact hne _ _ h (by simp)
 ·rw [hw] at hi';cases hi'
  refine ⟨ver+1,_,by rw [heapSet,if_pos rfl],?_⟩
  have:=(hc.mono mo (fun o j h=>hne _ _ h (by simp))).put (hl.mono mo) hle
  rwa [←relC_tcell] at this
theorem Rl.fillObj (r:Rl Pr μ w a σ ax s) {k o ver i j h:Nat} {cs:List TV} {e:TypeId} {tv:TV} (hob:σ.at k=some ⟨ver,.cells cs e⟩) (ho:o<cs.length) (hh:w (.hand h)=some j) {vs:List Value} {v:Value} (hm:μ[k]? =some i) (hg:s.get i=some ⟨ver,.cells vs e false⟩)
  (hv:vs[o]? =some v) (hro:RO s.get μ (Zo w Pr) j tv v):Rl Pr μ (mv w (.hand h) (.cell k o)) a.tick (σ.set k (some ⟨ver,.cells (cs.set o tv) e⟩)) ax s:=by
 refine r.reCell hob ho (fun p i e=>mv_owned e) (mv_inj r.inj _ _) (fun t=>mv_other w (by simp) (by simp)) (fun t o=>mv_other w (by simp) (by simp)) (fun t=>mv_other w (by simp) (by simp))
  (fun k' c hk=>mv_other w (by simp) (by simp;omega)) (fun i' vs' v' e1 e2 e3=> ?_)
 rw [hm] at e1;cases e1
 rw [hg] at e2;cases e2
 rw [hv] at e3;cases e3
 rw [mv_to w (by simp),hh]
 exact hro.mono (Mo.mv _ _) rfl
theorem Rl.fillBox (r:Rl Pr μ w a σ ax s) {t ser o j h i ver:Nat} {cs:List TV} {e:TypeId} {tv:TV} (hb:boxAt a t ser=some (cs,e)) (ho:o<cs.length) (hh:w (.hand h)=some j) {vs:List Value} {v:Value} (hw:w (.tmp t)=some i) (hg:s.get i=some ⟨ver,.cells vs e false⟩)
  (hv:vs[o]? =some v) (hro:RO s.get μ (Zo w Pr) j tv v):Rl Pr μ (mv w (.hand h) (.tcell t o)) (boxPut a t ser (cs.set o tv) e) σ ax s:=by
 refine r.reBox hb ho (fun p i e=>mv_owned e) (mv_inj r.inj _ _) (fun t=>mv_other w (by simp) (by simp)) (fun t o=>mv_other w (by simp) (by simp)) (fun t=>mv_other w (by simp) (by simp))
  (fun k' c hk=>mv_other w (by simp) (by simp;omega)) (fun i' ver' vs' v' e1 e2 e3=> ?_)
 rw [hw] at e1;cases e1
 rw [hg] at e2;cases e2
 rw [hv] at e3;cases e3
 rw [mv_to w (by simp),hh]
 exact hro.mono (Mo.mv _ _) rfl
theorem taken_same {x:Operand} (h:isOwn (a.ev x)=false):taken a x=a:=by
 cases x with
 |tmp t=>simp only [taken,h]
 |_=>rfl
theorem undef_rv (g:Hp) (Z:Nat→Prop):RV g μ Z undT undef:=.tuple .nil
theorem after_set {w1:Own} {i:Nat} {p:Pc} (hw:w p=some i) (o:Option AObj) (h:∀p j,w1 p=some j→∃q,w q=some j):After w w1 μ μ s (s.upd [(i,o)] s.next):=
 ⟨Nat.le_refl _,fun j hj hn=>by rw [heapSet,if_neg];rintro rfl;exact hn p hw,fun p j e _=>h p j e,mu_self⟩
theorem ev_boxPut (a:TAct) (t ser:Nat) (cs:List TV) (e:TypeId) (t':Nat):(boxPut a t ser cs e).ev (.tmp t')=if t=t' then .bx ser cs e else a.ev (.tmp t'):=by
 by_cases h:t=t'
 ·subst h;rw [if_pos rfl];exact ev_set_same _ _ _ _ _
 ·rw [if_neg h];exact ev_set_ne a _ _ _ h
theorem boxAt_of {t ser:Nat} {cs:List TV} {e:TypeId} (h:a.ev (.tmp t)=.bx ser cs e):boxAt a t ser=some (cs,e):=by
 simp only [boxAt,h,beqNat,decide_true]
theorem at_set {k:Nat} (hk:k<σ.length) (o:TObj):Sto.at (σ.set k (some o)) k=some o:=by simp [Sto.at,hk]
theorem done_put {w1:Own} (r:Rl Pr μ w1 a' σ' ax s') (d:Option Nat) {p:PR} (hs:s'=s.upd p.δ p.nx) (hv:p.v=undef) (ha:∀w2,(∀p i,w2 p=some i→w1 p=some i)→After w w2 μ μ s s'):Done Pr μ w ax s d undT a' σ' p:=by
 subst hs
 refine ⟨μ,rel w1 d,?_,ha _ (rel_le w1 d)⟩
 rw [hv]
 exact r.put d (.inl (undef_rv _ _))
end
theorem setList_drop_take (vs l:List Value) (b m N:Nat) (h:m+l.length≤N) (hb:b+N≤vs.length):((setList vs (b+m) l).drop b).take N=setList ((vs.drop b).take N) m l:=by
 apply List.ext_getElem?
 intro j
 rw [List.getElem?_take,List.getElem?_drop,setList_get _ _ _ (by omega),setList_get _ _ _ (by simp;omega),List.getElem?_take,List.getElem?_drop]
 by_cases h1:j<N
 ·simp only [if_pos h1]
  by_cases h2:j<m
  ·rw [if_pos h2,if_pos (by omega)]
  ·rw [if_neg h2,if_neg (by omega)]
   by_cases h3:j<m+l.length
   ·rw [if_pos h3,if_pos (by omega)];congr 1;omega
   ·rw [if_neg h3,if_neg (by omega)]
 ·simp only [if_neg h1]
  rw [if_neg (by omega),if_neg (by omega)]
theorem putAt_app (x y l:List TV) (o:Nat):putAt (x++y) (x.length+o) l=x++putAt y o l:=by
 unfold putAt
 rw [List.take_append,List.drop_append]
 have h1:x.length+o - x.length=o:=by omega
 have h2:x.length+o+l.length - x.length=o+l.length:=by omega
 rw [h1,h2,List.take_of_length_le (show x.length≤x.length+o by omega),List.drop_of_length_le (show x.length≤x.length+o+l.length by omega)]
 simp
theorem putAt_left (x y l:List TV) (o:Nat) (h:o+l.length≤x.length):putAt (x++y) o l=putAt x o l++y:=by
 unfold putAt
 rw [List.take_append,List.drop_append]
 have h1:o - x.length=0:=by omega
 have h2:o+l.length - x.length=0:=by omega
 rw [h1,h2];simp
theorem flat_set {s:Nat}:∀{chs:List (List TV)},okSz s chs=true→∀{j o:Nat} {ch l:List TV},chs[j]? =some ch→o+l.length≤ch.length→(chs.set j (putAt ch o l)).flatten=putAt chs.flatten (j*s+o) l
 |[],_,j,o,ch,l,e,_=>by simp at e
 |c::chs,h,j,o,ch,l,e,hl=>by
  simp only [okSz,List.all_cons,Bool.and_eq_true] at h
  have h1:=beq_of h.1
  cases j with
  |zero=>
   simp at e;subst e
   rw [List.set_cons_zero,List.flatten_cons,List.flatten_cons,Nat.zero_mul,Nat.zero_add,putAt_left _ _ _ _ hl]
  |succ j=>
   rw [List.set_cons_succ,List.flatten_cons,List.flatten_cons,flat_set h.2 (by simpa using e) hl]
   rw [show (j+1)*s+o=c.length+(j*s+o) by rw [h1,Nat.succ_mul];omega,putAt_app]
theorem okSz_set {s:Nat} {chs:List (List TV)} (h:okSz s chs=true) (j:Nat) {c:List TV} (hc:c.length=s):okSz s (chs.set j c)=true:=by
 refine List.all_eq_true.2 fun x hx=> ?_
 rcases List.mem_or_eq_of_mem_set hx with hx|rfl
 ·exact List.all_eq_true.1 h x hx
 ·rw [beqNat];exact decide_eq_true hc
theorem RO.write {g g':Hp} {μ:List Nat} {Z:Nat→Prop} {i j o oo n c sz e:Nat} {chs:List (List TV)} {ch l:List TV} {l':List Value} (h:RO g μ Z i (.sl (.own e sz) chs) (.slice (some ⟨i,oo,none⟩) n c)) (hch:chs[j]? =some ch) (hl:RVs g μ Z l l') (hle:o+l.length≤ch.length)
  (mo:Mo g μ Z g' μ Z) {vs:List Value} {ver':Nat} (hg0:∃ver,g i=some ⟨ver,.cells vs e false⟩) (hg:g' i=some ⟨ver',.cells (setList vs (oo+j*ch.length+o) l') e false⟩):RO g' μ Z i (.sl (.own e sz) (chs.set j (putAt ch o l))) (.slice (some ⟨i,oo,none⟩) n c):=by
 obtain ⟨ver0,hg0⟩:=hg0
 cases h with
 |mk m1 m2 m3 m4 m5 m6 m7=>
  rw [hg0] at m1;cases m1
  have hsz:=okSz_get m2 hch
  have hjn:=(List.getElem?_eq_some_iff.1 hch).1
  have hmul:j*sz+sz≤n*sz:=by rw [←Nat.succ_mul];exact Nat.mul_le_mul_right sz (by omega)
  refine .mk hg (okSz_set m2 j (by rw [putAt_len hle];exact hsz)) (by rw [List.length_set];exact m3) (fun h=>⟨(m4 h).1,by rw [setList_length];exact (m4 h).2⟩) m5 (by rw [setList_length];exact m6) ?_
  rw [flat_set m2 hch hle,hsz,show oo+j*sz+o=oo+(j*sz+o) by omega,setList_drop_take _ _ _ _ _ (by rw [hl.length];omega) m6]
  exact (hl.mono mo).setList _ (m7.mono mo) (by rw [flat_len m2,m3];omega)
section
variable {Pr:Nat→Prop} {μ μ':List Nat} {w w':Own} {a a':TAct} {σ σ':Sto} {ax ax':Xe.Act} {s s':AS}
theorem frz1_other {x:Operand} {t:Nat} (h:x≠.tmp t):(frz1 a x).ev (.tmp t)=a.ev (.tmp t):=by
 rcases frz1_ev a x (.tmp t) with h'|⟨h',_⟩
 ·exact h'
 ·exact absurd h' h
theorem frz1_notown {x:Operand} (h:isOwn (a.ev x)=false):frz1 a x=a:=by
 cases x with
 |tmp t=>simp only [frz1,h]
 |_=>rfl
theorem plGet_frz1 {p:Pl} {x:Operand} (h:p.offX x=true):plGet (frz1 a x) σ p=plGet a σ p:=by
 cases p with
 |cell k o=>rfl
 |tmp t=>
  have:x≠.tmp t:=by
   rintro rfl
   simp [Pl.offX,beqNat] at h
  simp only [plGet,frz1_other this]
 |tcell t o ser=>
  by_cases hx:x=.tmp t
  ·subst hx
   cases ho:isOwn (a.ev (.tmp t)) with
   |false=>rw [frz1_notown ho]
   |true=>
    have h1:∀z:TV,isOwn z=true→∃e s c,z=.sl (.own e s) c:=by
     intro z hz;cases z<;>first|(simp [isOwn] at hz;done)|skip
     rename_i m c;cases m<;>first|exact ⟨_,_,_,rfl⟩|(simp [isOwn] at hz)
    obtain ⟨e,s',c,hz⟩:=h1 _ ho
    have h2:boxAt (frz1 a (.tmp t)) t ser=none:=by simp only [boxAt,frz1_same,hz,frz]
    have h3:boxAt a t ser=none:=by simp only [boxAt,hz]
    simp only [plGet,h2,h3]
  ·simp only [plGet,boxAt,frz1_other hx]
theorem hval_sub {g:Hp} {p:Pl} {v:Value} (h:∀p i,w' p=some i→w p=some i) (hv:HVal μ w' ax g p v):HVal μ w ax g p v:=by
 cases p with
 |tmp t=>exact hv
 |tcell t o ser=>obtain ⟨i,ver,vs,e,h1,h2⟩:=hv;exact ⟨i,ver,vs,e,h _ _ h1,h2⟩
 |cell k o=>exact hv
theorem Rl.moOwn (r:Rl Pr μ w a σ ax s) {p:Pc} {i:Nat} (hi:w p=some i) (o:Option AObj):Mo s.get μ (Zo w Pr) (s.upd [(i,o)] s.next).get μ (Zo w Pr):=r.moSet hi o (fun p j e=>⟨p,e⟩)
def plVal (a:TAct) (σ:Sto):Pl→Option TV
 |.tmp t=>some (a.ev (.tmp t))
 |.tcell t o s=>match boxAt a t s with
  |some (cs,_)=>cs[o]?
  |none=>none
 |.cell k o=>match σ.at k with
  |some ⟨_,.cells vs _⟩=>vs[o]?
  |_=>none
theorem plGet_val {p:Pl} {chs:List (List TV)} (h:plGet a σ p=some chs):∃e sz,plVal a σ p=some (.sl (.own e sz) chs):=by
 cases p with
 |tmp t=>obtain ⟨h1,e,sz,h2⟩:=ownChs_some h;exact ⟨e,sz,by simp only [plVal,h2]⟩
 |tcell t o ser=>
  simp only [plGet] at h
  simp only [plVal]
  split at h
  ·rename_i hb
   split at h
   ·rename_i v hv
    obtain ⟨h1,e',sz,rfl⟩:=ownChs_some h
    exact ⟨e',sz,by first|(simp only [hb];exact hv)|exact hv|(rw [hb];exact hv)|simp_all⟩
   ·cases h
  ·cases h
 |cell k o=>
  simp only [plGet] at h
  simp only [plVal]
  split at h
  ·rename_i hb
   split at h
   ·rename_i v hv
    obtain ⟨h1,e',sz,rfl⟩:=ownChs_some h
    exact ⟨e',sz,by first|(simp only [hb];exact hv)|exact hv|(rw [hb];exact hv)|simp_all⟩
   ·cases h
  ·cases h
theorem Rl.placeV (r:Rl Pr μ w a σ ax s) {p:Pl} {e sz:Nat} {chs:List (List TV)} (h:plVal a σ p=some (.sl (.own e sz) chs)):∃i v,w p.pc=some i∧RO s.get μ (Zo w Pr) i (.sl (.own e sz) chs) v∧HVal μ w ax s.get p v:=by
 cases p with
 |tmp t=>
  simp only [plVal,Option.some.injEq] at h
  obtain ⟨i,h3,h4⟩:=r.ownOf (t:=t) (by rw [h];rfl)
  rw [h] at h4
  exact ⟨i,_,h3,h4,rfl⟩
 |tcell t o ser=>
  simp only [plVal] at h
  split at h
  ·rename_i cs e hb
   obtain ⟨hbx,i,ver,vs,k1,k2,k3,k4⟩:=r.boxOf hb
   obtain ⟨v',q1,q2⟩:=k4.at h
   obtain ⟨j,q3,q4⟩:=q2.ownOf rfl
   exact ⟨j,v',q3,q4,i,ver,vs,e,k1,k3,q1⟩
  ·cases h
 |cell k o=>
  simp only [plVal] at h
  split at h
  ·rename_i ver cs e hb
   obtain ⟨i,vs,k1,k2,k3⟩:=r.objOf hb
   obtain ⟨v',q1,q2⟩:=k3.at h
   obtain ⟨j,q3,q4⟩:=q2.ownOf rfl
   exact ⟨j,v',q3,q4,i,ver,vs,e,k1,k2,q1⟩
  ·cases h
theorem RCs.own {g g':Hp} {Z:Nat→Prop} {ow:Nat→Option Nat} {cs:List TV} {vs:List Value} (r:RCs g μ Z ow cs vs) (mo:Mo g μ Z g' μ Z) {o i:Nat} {tv:TV} (ho:o<cs.length) (h1:ow o=some i) (hne:∀j k,ow j=some k→j≠o→g' k=g k) (h2:∀v,vs[o]? =some v→RO g' μ Z i tv v):RCs g' μ Z ow (cs.set o tv) vs:=by
 refine ⟨by rw [List.length_set];exact r.len,fun j x v e1 e2=> ?_,fun j hj=> ?_⟩
 ·by_cases h:j=o
  ·subst h
   rw [List.getElem?_set_self ho] at e1;cases e1
   rw [h1];exact h2 v e2
  ·rw [List.getElem?_set_ne (fun e=>h e.symm)] at e1
   exact (r.get j x v e1 e2).mono mo (fun i hi=>hne j i hi h)
 ·rw [List.length_set] at hj
  exact r.out j hj
theorem Rl.writeOwn (r:Rl Pr μ w a σ ax s) {p:Pl} {chs chs':List (List TV)} {i e sz:Nat} {v:Value} {o:Option AObj} (hp:plVal a σ p=some (.sl (.own e sz) chs)) (hw:w p.pc=some i) (hv:HVal μ w ax s.get p v) (hro:RO (s.upd [(i,o)] s.next).get μ (Zo w Pr) i (.sl (.own e sz) chs') v):
  Rl Pr μ w (plSet a σ (reSl chs') p).1 (plSet a σ (reSl chs') p).2 ax (s.upd [(i,o)] s.next):=by
 have mo:=r.moOwn hw o
 have hne:∀q j,w q=some j→q≠p.pc→(s.upd [(i,o)] s.next).get j=s.get j:=fun q j h h2=>by
  rw [heapSet,if_neg];rintro rfl;exact h2 (r.inj _ _ _ h hw)
 have own:∀p i,w p=some i→∃q,w q=some i:=fun p i e=>⟨p,e⟩
 cases p with
 |tmp t=>
  have hv:v=ax.ev (.tmp t):=hv
  subst hv
  simp only [plVal,Option.some.injEq] at hp
  have rs:Rs Pr μ w σ (s.upd [(i,o)] s.next):=r.toRs.setT mo (r.dmSet hw _) (Nat.le_refl _) r.inj own (fun _=>rfl) (fun _ _=>rfl) (fun k j h=>by
   rcases h with h|⟨c,h⟩
   ·exact hne _ _ h (by simp [Pl.pc])
   ·exact hne _ _ h (by simp [Pl.pc]))
  have htc:∀o,w (.tcell t o)=none:=by
   have:=r.tm t
   rw [hp] at this
   revert this
   generalize ax.ev (.tmp t)=y
   intro this
   cases this with
   |plain h _ _=>cases h
   |own _ h _=>exact h
   |al h _ _=>cases h
  refine r.step mo rs (Nat.lt_succ_self _) (fun t'=> ?_) ⟨rfl,rfl⟩
  dsimp only [plSet]
  by_cases ht:t=t'
  ·subst ht
   refine .inr ?_
   rw [ev_set_same,hp]
   exact ⟨.own hw htc hro,rfl,fun _ _ _ h=>by cases h⟩
  ·rw [ev_set_ne a _ _ _ ht]
   exact .inl ⟨rfl,rfl,rfl,fun _=>rfl,fun j h=>hne _ _ h (by simp [Pl.pc];exact fun h=>ht h.symm),fun c j h=>hne _ _ h (by simp [Pl.pc])⟩
 |tcell t o' ser=>
  simp only [plVal] at hp
  split at hp
  ·rename_i cs e' hb
   obtain ⟨hbx,i',ver,vs,k1,k2,k3,k4⟩:=r.boxOf hb
   have hlt:=(List.getElem?_eq_some_iff.1 hp).1
   have hw':w (.tcell t o')=some i:=hw
   have hv1:vs[o']? =some v:=by
    obtain ⟨i2,ver2,vs2,e2,q1,q2,q3⟩:=hv
    rw [k1] at q1;cases q1
    rw [k3] at q2;cases q2
    exact q3
   simp only [plSet,hb,hp]
   refine r.boxStep hbx mo (r.toRs.setT mo (r.dmSet hw _) (Nat.le_refl _) r.inj own (fun _=>rfl) (fun _ _=>rfl) (fun k j h=>by
    rcases h with h|⟨c,h⟩
    ·exact hne _ _ h (by simp [Pl.pc])
    ·exact hne _ _ h (by simp [Pl.pc]))) (fun _=>rfl) (fun _ _ _=>rfl) (fun q j h hh ht hc=>hne q j h (hc o')) (fun i2 h2=> ?_)
   ·rw [k1] at h2;cases h2
    refine ⟨ver,vs,(hne _ _ k1 (by simp [Pl.pc])).trans k3,?_⟩
    exact k4.own mo hlt hw' (fun j k h hj=>hne _ _ h (by simp [Pl.pc];exact hj)) (fun v' hv'=>by rw [hv1] at hv';cases hv';exact hro)
  ·cases hp
 |cell k o'=>
  simp only [plVal] at hp
  split at hp
  ·rename_i ver cs e' hb
   obtain ⟨i',vs,k1,k2,k3⟩:=r.objOf hb
   have hlt:=(List.getElem?_eq_some_iff.1 hp).1
   have hw':w (.cell k o')=some i:=hw
   have hk:k<σ.length:=by rw [←r.len];exact (List.getElem?_eq_some_iff.1 k1).1
   have hv1:vs[o']? =some v:=by
    obtain ⟨i2,ver2,vs2,e2,q1,q2,q3⟩:=hv
    rw [k1] at q1;cases q1
    rw [k2] at q2;cases q2
    exact q3
   simp only [plSet,hb,hp]
   refine r.objStep mo (r.toRs.setO hk mo (r.dmSet hw _) (Nat.le_refl _) r.inj own (fun _=>rfl) (fun _ _ _=>rfl) (fun k' j hk' h=> ?_) ⟨i',.cells vs e' false,k1,(hne (.obj k) _ ((r.wobj k).trans k1) (by simp [Pl.pc])).trans k2,rfl,rfl,?_⟩) (fun _=>rfl) (fun _ _=>rfl) (fun t j h=> ?_)
   ·rcases h with h|⟨c,h⟩
    ·exact hne _ _ h (by simp [Pl.pc])
    ·exact hne _ _ h (by simp [Pl.pc];exact fun h=>absurd h hk')
   ·exact k3.own mo hlt hw' (fun j k h hj=>hne _ _ h (by simp [Pl.pc];exact hj)) (fun v' hv'=>by rw [hv1] at hv';cases hv';exact hro)
   ·rcases h with h|⟨c,h⟩
    ·exact hne _ _ h (by simp [Pl.pc])
    ·exact hne _ _ h (by simp [Pl.pc])
  ·cases hp
end
theorem s_store (md b:Nat) (d:Option Nat) (n:Nat) (p x:Operand):SimP md b d (.store n p x):=by
 intro Pr μ w a σ ax s v a' σ' h r hP
 simp only [tdo] at h
 simp only [xprim]
 cases hx:a.at p<;>rw [hx] at h<;>simp only [tStore] at h<;>first|(cases h;done)|skip
 case ptr k o=>
  have h1:=r.atPlain hx rfl
  revert h1;generalize ax.ev p=y;intro h1;cases h1
  rename_i i hm
  split at h
  ·rename_i ver cs e hob
   obtain ⟨i',vs,k1,k2,k3⟩:=r.objOf hob
   rw [hm] at k1;cases k1
   have hw:w (.obj k)=some i:=(r.wobj k).trans hm
   have hk:k<σ.length:=by rw [←r.len];exact (List.getElem?_eq_some_iff.1 hm).1
   split at h
   ·rename_i hb
    simp only [Bool.and_eq_true] at hb
    obtain ⟨⟨⟨⟨b1,b2⟩,b3⟩,b4⟩,b5⟩:=hb
    rw [bleNat] at b3
    have b3:=of_decide_eq_true b3
    rw [←beq_of b1] at b3
    cases h
    cases ho:isOwn (a.ev x) with
    |false=>
     obtain ⟨q1,q2⟩:=stok_pl b4 ho
     have hl:=(r.plain q1).cells q2
     have hlen:=hl.length
     have hones:=hl.ones b2
     simp only [hlen,b1,hones,Bool.and_self,storeList_of k2 (show o+_≤vs.length by rw [hlen,k3.len];exact b3)]
     refine ⟨_,rfl,?_⟩
     rw [taken_same ho]
     exact done_put (r.storeObj hm k2 k3 hl b3).tick d rfl rfl (fun w2 h2=>after_set hw _ (fun p j e=>⟨p,relO_le _ _ _ _ _ _ (h2 p j e)⟩))
    |true=>
     obtain ⟨t,rfl⟩:=isOwn_tmp ho
     obtain ⟨j,h1,h2,h3,h4⟩:=r.takeTmp ho
     obtain ⟨c1,c2,c3⟩:=h2.one
     rw [c1] at b1 b3
     simp only [c2,c1,b1,c3,Bool.and_self]
     have b3':o+[TV.dead].length≤cs.length:=b3
     have hlt:o<cs.length:=b3'
     have hst:=storeList_of k2 (xs:=[ax.ev (.tmp t)]) (show o+_≤vs.length by rw [k3.len];exact b3')
     simp only [show [ax.ev (Operand.tmp t)].length=[a.ev (Operand.tmp t)].length from rfl,b1,hst,Bool.and_self]
     refine ⟨_,rfl,?_⟩
     rw [taken_own ho]
     have k3':=k3.mono (Mo.mv (.tmp t) (.hand 0)) (fun _ _ _=>rfl)
     have k3'':RCs s.get μ (Zo (mv w (.tmp t) (.hand 0)) Pr) (fun o=>mv w (.tmp t) (.hand 0) (.cell k o)) cs vs:=by
      have:(fun o=>mv w (.tmp t) (.hand 0) (.cell k o))=fun o=>w (.cell k o):=by funext o;exact mv_other w (by simp) (by simp)
      rw [this];exact k3'
     have st:=h3.storeObj (o:=o) hm k2 k3'' (l:=[.dead]) (l':=[ax.ev (.tmp t)]) (.cons (.dead _) .nil) b3'
     have hj:(mv w (.tmp t) (.hand 0)) (.hand 0)=some j:=(mv_to w (by simp)).trans h1
     have hji:j≠i:=by rintro rfl;have:=r.inj _ _ _ h1 hw;cases this
     have hwo:mv w (.tmp t) (.hand 0) (.obj k)=some i:=(mv_other w (by simp) (by simp)).trans hw
     have hlen:(putAt cs o [TV.dead]).length=cs.length:=putAt_len b3'
     have fl:=st.fillObj (k:=k) (o:=o) (h:=0) (j:=j) (tv:=a.ev (.tmp t)) (at_set hk _) (by rw [hlen];exact hlt) ((relO_hand _ _ _ _ _ _).trans hj) hm (by rw [heapSet,if_pos rfl])
      (v:=ax.ev (.tmp t)) (by rw [setList_one,List.getElem?_set_self (by rw [k3.len];exact hlt)])
      (h2.mono (h3.moSet hwo _ (fun p i e=>⟨p,relO_le _ _ _ _ _ _ e⟩)) (by rw [heapSet,if_neg (fun h=>hji h.symm)]))
     rw [putAt_dead cs hlt,List.set_set] at fl
     refine done_put (p:=⟨undef,[(i,some ⟨ver+1,.cells (setList vs o [ax.ev (.tmp t)]) e false⟩)],s.next⟩) fl d rfl rfl (fun w2 h2=>after_set hw _ (fun p j e=> ?_))
     obtain ⟨q,hq⟩:=mv_owned (h2 p j e)
     exact mv_owned (relO_le _ _ _ _ _ _ hq)
   ·cases h
  ·cases h
 case vpt t o ser=>
  have h1:=r.atAl hx rfl
  split at h
  ·rename_i cs e hb
   obtain ⟨hbx,i,ver,vs,k1,k2,k3,k4⟩:=r.boxOf hb
   obtain ⟨i',k1',hy⟩:=h1.2 _ _ hbx
   rw [k1] at k1';cases k1'
   rw [hy]
   split at h
   ·rename_i hb'
    simp only [Bool.and_eq_true] at hb'
    obtain ⟨⟨⟨b1,b2⟩,b3⟩,b4⟩:=hb'
    rw [bleNat] at b3
    have b3:=of_decide_eq_true b3
    rw [←beq_of b1] at b3
    cases h
    cases ho:isOwn (a.ev x) with
    |false=>
     obtain ⟨q1,q2⟩:=stok_pl b4 ho
     have hl:=(r.plain q1).cells q2
     have hlen:=hl.length
     have hones:=hl.ones b2
     simp only [hlen,b1,hones,Bool.and_self,storeList_of k3 (show o+_≤vs.length by rw [hlen,k4.len];exact b3)]
     refine ⟨_,rfl,?_⟩
     rw [taken_same ho]
     exact done_put (r.storeBox hbx k1 k3 k4 hl b3).tick d rfl rfl (fun w2 h2=>after_set k1 _ (fun p j e=>⟨p,relC_le _ _ _ _ _ _ (h2 p j e)⟩))
    |true=>
     obtain ⟨t2,rfl⟩:=isOwn_tmp ho
     have htt:t2≠t:=by rintro rfl;rw [hbx] at ho;cases ho
     obtain ⟨j,h1,h2,h3,h4⟩:=r.takeTmp ho
     obtain ⟨c1,c2,c3⟩:=h2.one
     rw [c1] at b1 b3
     simp only [c2,c1,b1,c3,Bool.and_self]
     have b3':o+[TV.dead].length≤cs.length:=b3
     have hlt:o<cs.length:=b3'
     have hst:=storeList_of k3 (xs:=[ax.ev (.tmp t2)]) (show o+_≤vs.length by rw [k4.len];exact b3')
     simp only [show [ax.ev (Operand.tmp t2)].length=[a.ev (Operand.tmp t2)].length from rfl,b1,hst,Bool.and_self]
     refine ⟨_,rfl,?_⟩
     rw [taken_own ho]
     have hbx2:(TAct.mk (a.tm.set t2 .dead) a.df (a.clk+1)).ev (.tmp t)=.bx ser cs e:=by rw [ev_set_ne a _ _ _ htt];exact hbx
     have hwt:mv w (.tmp t2) (.hand 0) (.tmp t)=some i:=(mv_other w (by simp;exact fun h=>htt h.symm) (by simp)).trans k1
     have k4':=k4.mono (Mo.mv (.tmp t2) (.hand 0)) (fun _ _ _=>rfl)
     have k4'':RCs s.get μ (Zo (mv w (.tmp t2) (.hand 0)) Pr) (fun o=>mv w (.tmp t2) (.hand 0) (.tcell t o)) cs vs:=by
      have:(fun o=>mv w (.tmp t2) (.hand 0) (.tcell t o))=fun o=>w (.tcell t o):=by funext o;exact mv_other w (by simp) (by simp)
      rw [this];exact k4'
     have st:=h3.storeBox (o:=o) hbx2 hwt k3 k4'' (l:=[.dead]) (l':=[ax.ev (.tmp t2)]) (.cons (.dead _) .nil) b3'
     have hj:(mv w (.tmp t2) (.hand 0)) (.hand 0)=some j:=(mv_to w (by simp)).trans h1
     have hji:j≠i:=by rintro rfl;have:=r.inj _ _ _ h1 k1;simp at this;exact htt this
     have hlen:(putAt cs o [TV.dead]).length=cs.length:=putAt_len b3'
     have fl:=st.fillBox (t:=t) (o:=o) (h:=0) (j:=j) (tv:=a.ev (.tmp t2)) (boxAt_of (by rw [ev_boxPut,if_pos rfl])) (by rw [hlen];exact hlt) ((relC_hand _ _ _ _ _ _).trans hj) hwt (by rw [heapSet,if_pos rfl])
      (v:=ax.ev (.tmp t2)) (by rw [setList_one,List.getElem?_set_self (by rw [k4.len];exact hlt)])
      (h2.mono (h3.moSet hwt _ (fun p i e=>⟨p,relC_le _ _ _ _ _ _ e⟩)) (by rw [heapSet,if_neg (fun h=>hji h.symm)]))
     rw [putAt_dead cs hlt] at fl
     refine done_put (p:=⟨undef,[(i,some ⟨ver+1,.cells (setList vs o [ax.ev (.tmp t2)]) e false⟩)],s.next⟩) (fl.ext (a':=(boxPut ⟨a.tm.set t2 .dead,a.df,a.clk+1⟩ t ser (putAt cs o [a.ev (.tmp t2)]) e).tick) (fun t'=> ?_) rfl rfl) d rfl rfl (fun w2 h2=>after_set k1 _ (fun p j e=> ?_))
     ·rw [show ∀b:TAct,b.tick.ev (.tmp t')=b.ev (.tmp t') from fun _=>rfl,ev_boxPut,ev_boxPut]
      split
      ·rfl
      ·rename_i h;rw [ev_boxPut,if_neg h]
     ·obtain ⟨q,hq⟩:=mv_owned (h2 p j e)
      exact mv_owned (relC_le _ _ _ _ _ _ hq)
   ·cases h
  ·cases h
 case vel pp c j o=>
  have h1:=r.atAl hx rfl
  split at h
  ·rename_i hb0
   simp only [Bool.and_eq_true] at hb0
   split at h
   ·rename_i chs gv hp hgv
    split at h
    ·rename_i ch hch
     split at h
     ·rename_i hb
      simp only [Bool.and_eq_true] at hb
      obtain ⟨⟨⟨b1,b2⟩,b3⟩,b4⟩:=hb
      rw [bleNat] at b3
      have b3:=of_decide_eq_true b3
      rw [←beq_of b1] at b3
      cases h
      obtain ⟨i,bb,n',cc,q1,q2⟩:=h1.2 (beq_of hb0.1) chs ch hp hch
      obtain ⟨w1,r1,hsub⟩:=r.frz1 x
      have hgiv:RV s.get μ (Zo w1 Pr) gv (ax.ev x):=by
       obtain ⟨g1,g2⟩:=give_frz hgv
       exact r1.plainOf (by rw [frz1_same,←g1]) g2
      have hd:gv≠.dead:=by
       rintro rfl
       revert hgv
       generalize a.ev x=z
       cases z<;>intro hgv<;>simp only [give] at hgv<;>first|(cases hgv;done)|skip
       rename_i m c;cases m<;>simp only [give] at hgv<;>cases hgv
      have hl:=hgiv.cells hd
      have hlen:=hl.length
      have hones:=hl.ones b2
      have hp1:plGet (frz1 a x) σ pp=some chs:=by rw [plGet_frz1 hb0.2];exact hp
      obtain ⟨e,sz,hpv⟩:=plGet_val hp1
      obtain ⟨i2,v2,k1,k2,k3⟩:=r1.placeV hpv
      have k3':HVal μ w ax s.get pp v2:=hval_sub hsub k3
      have hv2:=hval_fun k3' q1
      subst hv2
      cases k2 with
      |mk m1 m2 m3 m4 m5 m6 m7=>
       rename_i ver vs
       have hsz:=okSz_get m2 hch
       have hjn:=(List.getElem?_eq_some_iff.1 hch).1
       have hmul:j*sz+sz≤n'*sz:=by rw [←Nat.succ_mul];exact Nat.mul_le_mul_right sz (by omega)
       have hst:=storeList_of m1 (o:=bb+j*ch.length+o) (xs:=(ax.ev x).cells.toList) (by rw [hlen,hsz];omega)
       rw [q2]
       simp only [hlen,b1,hones,Bool.and_self,hst]
       refine ⟨_,rfl,?_⟩
       have hro:=RO.write (μ:=μ) (Z:=Zo w1 Pr) (.mk m1 m2 m3 m4 m5 m6 m7) hch hl b3 (r1.moOwn k1 (some ⟨ver+1,.cells (setList vs (bb+j*ch.length+o) (ax.ev x).cells.toList) e false⟩)) ⟨_,m1⟩ (by rw [heapSet,if_pos rfl])
       have hk1:∃q,w q=some i:=⟨_,hsub _ _ k1⟩
       obtain ⟨q,hq⟩:=hk1
       exact done_put (r1.writeOwn hpv k1 k3 hro) d rfl rfl (fun w2 h2=>after_set hq _ (fun p j e=>⟨p,hsub _ _ (h2 p j e)⟩))
     ·cases h
    ·cases h
   ·cases h
  ·cases h
end Go.Xt
end
section
namespace Go.Xt
open Go Go.Xe
section
variable {Pr:Nat→Prop} {μ μ':List Nat} {w w':Own} {a a':TAct} {σ σ':Sto} {ax ax':Xe.Act} {s s':AS}
theorem at_app {o:TObj}:Sto.at (σ++[some o]) σ.length=some o:=by simp [Sto.at]
theorem s_box (md b:Nat) (d:Option Nat) (e:TypeId) (x:Operand):SimP md b d (.box e x):=by
 intro Pr μ w a σ ax s v a' σ' h r hP
 simp only [tdo] at h
 simp only [xprim]
 split at h
 ·cases h
 ·rename_i hb
  simp only [Bool.and_eq_true] at hb
  cases ho:isOwn (a.ev x) with
  |false=>
   obtain ⟨q1,q2⟩:=stok_pl hb.2 ho
   have hl:=(r.plain q1).cells q2
   simp only [hl.ones hb.1]
   refine ⟨_,rfl,?_⟩
   rw [taken_same ho] at h
   split at h
   ·simp only [tNew] at h
    cases h
    have h1:=r.tick
    have:=done_obj (σ:=σ) (o:=⟨0,.cells (a.ev x).cells e⟩) (b:=.cells (ax.ev x).cells.toList e false) h1 hP (rb_cells hl) (tv:=.ptr σ.length 0) (fun g Z=>.ptr (r.muNew _)) d
    exact this
   ·cases h
    have:=done_box r hP hl e d
    obtain ⟨μ',w',h1,h2⟩:=this
    refine ⟨μ',w',?_,h2⟩
    cases d with
    |none=>exact h1.tick
    |some d=>exact (h1.tick).ext (fun t=>rfl) rfl rfl
  |true=>
   obtain ⟨t,rfl⟩:=isOwn_tmp ho
   obtain ⟨j,h1,h2,h3,h4⟩:=r.takeTmp ho
   obtain ⟨c1,c2,c3⟩:=h2.one
   simp only [c2,c3]
   refine ⟨_,rfl,?_⟩
   rw [taken_own ho,c1] at h
   have h5:=h3.hands 0 1
   have hj:mv (mv w (.tmp t) (.hand 0)) (.hand 0) (.hand 1) (.hand 1)=some j:=(mv_to _ (by simp)).trans ((mv_to w (by simp)).trans h1)
   have hro:=h2.mono (Mo.mv (μ:=μ) (Pr:=Pr) (g:=s.get) (w:=mv w (.tmp t) (.hand 0)) (.hand 0) (.hand 1)) rfl
   have hjl:j<s.next:=r.live _ _ h1
   have hown:∀p i,mv (mv w (.tmp t) (.hand 0)) (.hand 0) (.hand 1) p=some i→∃q,w q=some i:=fun p i e=>by
    obtain ⟨q,e⟩:=mv_owned e;exact mv_owned e
   split at h
   ·simp only [tNew] at h
    cases h
    have hob:=h5.newObj (σ:=σ) (o:=⟨0,.cells [.dead] e⟩) (b:=.cells [ax.ev (.tmp t)] e false) hP (rb_cells (.cons (.dead _) .nil))
    have hmo:Mo s.get μ (Zo (mv (mv w (.tmp t) (.hand 0)) (.hand 0) (.hand 1)) Pr) (s.upd [(s.next,some ⟨0,.cells [ax.ev (.tmp t)] e false⟩)] (s.next+1)).get (μ++[s.next]) (Zo (newO (mv (mv w (.tmp t) (.hand 0)) (.hand 0) (.hand 1)) s.next σ.length) Pr):=by
     refine (h5.moNew _).trans ⟨fun k j e=>by rw [List.getElem?_append_left (List.getElem?_eq_some_iff.1 e).1];exact e,fun j _ _ _ _ z hg=>⟨z.mv,hg⟩⟩
    have hf:=hob.fillObj (k:=σ.length) (o:=0) (h:=1) (j:=j) (tv:=a.ev (.tmp t)) at_app (by simp) (by simp only [newO];rw [mv_other _ (by simp) (by simp)];exact (if_neg (by simp):holds _ _ (.hand 1)=_).trans hj) (r.muNew _) (vs:=[ax.ev (.tmp t)]) (ver:=0) (i:=s.next) (by rw [heapNew,if_pos rfl])
     (v:=ax.ev (.tmp t)) rfl (hro.mono hmo (by rw [heapNew,if_neg (by omega)]))
    have hp:=hf.put d (tv:=.ptr σ.length 0) (v:=.pointer (some ⟨s.next,0,none⟩)) (.inl (.ptr (r.muNew _)))
    refine ⟨μ++[s.next],rel (mv (newO (mv (mv w (.tmp t) (.hand 0)) (.hand 0) (.hand 1)) s.next σ.length) (.hand 1) (.cell σ.length 0)) d,?_,after_new _ (fun p i e hi=> ?_) ⟨[s.next],rfl⟩⟩
    ·simp only [List.set_append_right _ _ (Nat.le_refl σ.length),Nat.sub_self,List.set_cons_zero] at hp
     exact hp
    ·have e:=rel_le _ _ _ _ e
     obtain ⟨q,e⟩:=mv_owned e
     obtain ⟨q,e⟩:=newO_own q i e hi
     exact hown q i e
   ·cases h
    cases d with
    |none=>
     have hnp:¬Pr s.next:=fun h=>Nat.lt_irrefl _ (hP _ h)
     exact ⟨μ,_,(h5.alloc _ hnp).tick.tick,after_new _ (fun p i e hi=>by obtain ⟨q,e⟩:=holds_own p i e hi;exact hown q i e) mu_self⟩
    |some d=>
     have hob:=h5.newBox hP (cs:=[.dead]) (vs:=[ax.ev (.tmp t)]) (.cons (.dead _) .nil) e d
     have hev:((TAct.tick ⟨a.tm.set t .dead,a.df,a.clk+1⟩).put (some d) (.bx (a.clk+1) [.dead] e)).ev (.tmp d)=.bx (a.clk+1) [.dead] e:=TAct.ev_put_same _ _ _
     have hmo:Mo s.get μ (Zo (mv (mv w (.tmp t) (.hand 0)) (.hand 0) (.hand 1)) Pr) (s.upd [(s.next,some ⟨0,.cells [ax.ev (.tmp t)] e false⟩)] (s.next+1)).get μ (Zo (mv (rel (holds (mv (mv w (.tmp t) (.hand 0)) (.hand 0) (.hand 1)) s.next) (some d)) (.hand 0) (.tmp d)) Pr):=
      (h5.moNew _).trans ((Mo.sub (rel_le _ _)).trans (Mo.mv _ _))
     have hf:=hob.fillBox (t:=d) (o:=0) (h:=1) (j:=j) (tv:=a.ev (.tmp t)) (boxAt_of hev) (by simp) (by rw [mv_other _ (by simp) (by simp)];simp only [rel];exact (if_neg (by simp):holds _ _ (.hand 1)=_).trans hj)
      (i:=s.next) (ver:=0) (vs:=[ax.ev (.tmp t)]) (by rw [mv_to _ (by simp)];simp only [rel];exact holds_hand _ _) (by rw [heapNew,if_pos rfl]) (v:=ax.ev (.tmp t)) rfl (hro.mono hmo (by rw [heapNew,if_neg (by omega)]))
     refine ⟨μ,_,hf.ext (fun t'=> ?_) rfl rfl,after_new _ (fun p i e hi=> ?_) mu_self⟩
     ·rw [ev_boxPut]
      by_cases hd:d=t'
      ·subst hd;rw [if_pos rfl,TAct.ev_put_same];rfl
      ·rw [if_neg hd,TAct.ev_put_ne _ _ hd,TAct.ev_put_ne _ _ hd];rfl
     ·obtain ⟨q,e⟩:=mv_owned e
      obtain ⟨q,e⟩:=putOwn_own d q i e
      obtain ⟨q,e⟩:=holds_own q i e hi
      exact hown q i e
theorem give_dead {v v':TV} (h:give v=some v'):v'≠.dead:=by
 rintro rfl
 cases v<;>simp only [give] at h<;>first|(cases h;done)|skip
 rename_i m c;cases m<;>simp only [give] at h<;>cases h
theorem fill_rel (r:Rl Pr μ w a σ ax s) {L:List Operand} {a0:TAct} (ha:a=Xt.frzs a0 L):∀(ps:List (Nat×Nat×Operand)),(∀p∈ps,p.2.2∈L)→∀{cs cs':List TV} {vs:List Value},RVs s.get μ (Zo w Pr) cs vs→fillT cs (ps.map fun (o,n,x)=>(o,n,a0.ev x))=some cs'→
  ∃vs',fillX vs (ps.map fun (o,n,x)=>(o,n,ax.ev x))=some vs'∧RVs s.get μ (Zo w Pr) cs' vs'
 |[],_,cs,cs',vs,hv,h=>by simp only [List.map_nil,fillT] at h;cases h;exact ⟨vs,rfl,hv⟩
 |(o,n,x)::ps,hL,cs,cs',vs,hv,h=>by
  simp only [List.map_cons,fillT] at h
  split at h
  ·rename_i tv hg
   split at h
   ·rename_i hb
    simp only [Bool.and_eq_true] at hb
    have h1:=r.given ha (hL (o,n,x) (by simp)) hg
    have hl:=h1.cells (give_dead hg)
    have hb2:=hb.2
    rw [bleNat] at hb2
    have hb2:=of_decide_eq_true hb2
    have hb1:=beq_of hb.1
    obtain ⟨vs',k1,k2⟩:=fill_rel r ha ps (fun p hp=>hL p (by simp [hp])) (hl.setList o hv (by omega)) h
    refine ⟨vs',?_,k2⟩
    simp only [List.map_cons,fillX,hl.length,hb.1,hv.length,hb.2,Bool.and_self]
    exact k1
   ·cases h
  ·cases h
theorem s_build (md b:Nat) (d:Option Nat) (z:List Value) (ps:List (Nat×Nat×Operand)):SimP md b d (.build z ps):=by
 intro Pr μ w a σ ax s v a' σ' h r hP
 simp only [tdo] at h
 simp only [xprim]
 split at h
 ·rename_i cs hf
  cases h
  obtain ⟨w1,r1,hsub⟩:=r.frzs (ps.map fun p=>p.2.2)
  obtain ⟨vs',k1,k2⟩:=fill_rel r1 rfl ps (fun p hp=>List.mem_map.2 ⟨p,hp,rfl⟩) (RVs.ofVs _ _ _ z) hf
  simp only [k1]
  refine ⟨_,rfl,done_pure r1 (fun p i e=>⟨p,hsub p i e⟩) d (.inl (.agg ?_))⟩
  simpa using k2
 ·cases h
theorem repT_rel {g:Hp} {Z:Nat→Prop} {z:List TV} {z':List Value} (h:RVs g μ Z z z'):∀n,RVs g μ Z (repT z n) (rep z' n)
 |0=>.nil
 |n+1=>h.append (repT_rel h n)
theorem chop_len (s:Nat):∀(n:Nat) (l:List TV),(chop s n l).length=n
 |0,_=>rfl
 |n+1,l=>by simp [chop,chop_len s n]
theorem chop_ok (s:Nat):∀(n:Nat) (l:List TV),n*s≤l.length→okSz s (chop s n l)=true
 |0,_,_=>rfl
 |n+1,l,h=>by
  rw [Nat.succ_mul] at h
  simp only [chop,okSz,List.all_cons,Bool.and_eq_true]
  exact ⟨by rw [beqNat];simp;omega,chop_ok s n (l.drop s) (by simp;omega)⟩
theorem chop_flat (s:Nat):∀(n:Nat) (l:List TV),(chop s n l).flatten=l.take (n*s)
 |0,l=>by simp [chop]
 |n+1,l=>by
  simp only [chop,List.flatten_cons,chop_flat s n]
  rw [Nat.succ_mul,Nat.add_comm,List.take_add]
theorem fillT_len:∀(ps:List (Nat×Nat×TV)) {cs cs':List TV},fillT cs ps=some cs'→cs'.length=cs.length
 |[],cs,cs',h=>by simp only [fillT] at h;cases h;rfl
 |(o,n,v)::ps,cs,cs',h=>by
  simp only [fillT] at h
  split at h
  ·split at h
   ·rename_i hb
    simp only [Bool.and_eq_true] at hb
    have hb2:=hb.2
    rw [bleNat] at hb2
    have hb2:=of_decide_eq_true hb2
    rw [fillT_len ps h,putAt_len (by rw [beq_of hb.1];exact hb2)]
   ·cases h
  ·cases h
theorem repT_length (z:List TV):∀n,(repT z n).length=n*z.length
 |0=>by simp [repT]
 |n+1=>by simp [repT,repT_length z n,Nat.succ_mul,Nat.add_comm]
theorem ofVs_length:∀l:List Value,(ofV.ofVs l).length=l.length
 |[]=>rfl
 |v::l=>by simp [ofV.ofVs,ofVs_length l]
theorem done_sl (r:Rl Pr μ w a σ ax s) (hP:∀i,Pr i→i<s.next) {chs:List (List TV)} {vs:List Value} {e sz n c:Nat} (hok:okSz sz chs=true) (hn:chs.length=n) (hnc:n≤c) (hc:c<capU) (hl:c*sz≤vs.length) (hv:RVs s.get μ (Zo w Pr) chs.flatten (vs.take (n*sz))) (d:Option Nat):
  Done Pr μ w ax s d (.sl (.own e sz) chs) a.tick σ ⟨.slice (some ⟨s.next,0,none⟩) n c,[(s.next,some ⟨0,.cells vs e false⟩)],s.next+1⟩:=by
 have hnp:¬Pr s.next:=fun h=>Nat.lt_irrefl _ (hP _ h)
 have r1:=r.alloc ⟨0,.cells vs e false⟩ hnp
 have hmul:n*sz≤c*sz:=Nat.mul_le_mul_right sz hnc
 have hro:RO (s.upd [(s.next,some ⟨0,.cells vs e false⟩)] (s.next+1)).get μ (Zo (holds w s.next) Pr) s.next (.sl (.own e sz) chs) (.slice (some ⟨s.next,0,none⟩) n c):=
  .mk (ver:=0) (vs:=vs) (by rw [heapNew,if_pos rfl]) hok hn (fun _=>⟨hnc,by omega⟩) (fun h=>by omega) (by omega) (by rw [List.drop_zero];exact hv.mono (r.moNew _))
 obtain ⟨w',k1,k2⟩:=r1.tick.putHand (fresh_tick r1) (holds_hand w _) hro d
 exact ⟨μ,w',k1,after_new _ (fun p i e hi=>by obtain ⟨q,e⟩:=k2 p i e;exact holds_own q i e hi) mu_self⟩
theorem s_buildSlice (md b:Nat) (d:Option Nat) (e:TypeId) (size:Nat) (z:List Value) (len:Nat) (ps:List (Nat×Nat×Operand)):SimP md b d (.buildSlice e size z len ps):=by
 intro Pr μ w a σ ax s v a' σ' h r hP
 simp only [tdo] at h
 simp only [xprim]
 split at h
 ·rename_i cs hz hf
  split at h
  ·cases h
  ·rename_i ho
   obtain ⟨w1,r1,hsub⟩:=r.frzs (ps.map fun p=>p.2.2)
   obtain ⟨vs',k1,k2⟩:=fill_rel r1 rfl ps (fun p hp=>List.mem_map.2 ⟨p,hp,rfl⟩) (repT_rel (RVs.ofVs _ _ _ z) len) hf
   simp only [k1,k2.ones ho]
   refine ⟨_,rfl,?_⟩
   split at h
   ·simp only [tNew] at h
    cases h
    obtain ⟨μ',w',h1,h2⟩:=done_obj (o:=⟨0,.cells cs e⟩) (b:=.cells vs' e false) r1 hP (rb_cells k2) (tv:=.ref σ.length 0 size len len) (fun g Z=>.ref (r.muNew _) (Nat.le_refl _)) d
    exact ⟨μ',w',h1,h2.le,fun i hi hn=>h2.keep i hi (fun p e=>hn p (hsub p i e)),fun p i e hi=>by obtain ⟨q,e⟩:=h2.own p i e hi;exact ⟨q,hsub q i e⟩,h2.mu⟩
   ·cases h
    have hz':=Bool.and_eq_true_iff.1 hz
    have hsm:=hz'.2
    rw [bleNat] at hsm
    have hsm:=of_decide_eq_true hsm
    have hlen:cs.length=len*size:=by rw [fillT_len _ hf,repT_length,ofVs_length,beq_of hz'.1]
    obtain ⟨μ',w',h1,h2⟩:=done_sl (e:=e) (sz:=size) (n:=len) (c:=len) r1 hP (chop_ok size len cs (by omega)) (chop_len _ _ _) (Nat.le_refl _) (by unfold small at hsm;unfold capU;omega) (by rw [k2.length];omega) (by rw [chop_flat];exact k2.take _) d
    exact ⟨μ',w',h1,h2.le,fun i hi hn=>h2.keep i hi (fun p e=>hn p (hsub p i e)),fun p i e hi=>by obtain ⟨q,e⟩:=h2.own p i e hi;exact ⟨q,hsub q i e⟩,h2.mu⟩
 ·cases h
end
end Go.Xt
end
section
namespace Go.Xt
open Go Go.Xe
section
variable {Pr:Nat→Prop} {μ μ':List Nat} {w w':Own} {a a':TAct} {σ σ':Sto} {ax ax':Xe.Act} {s s':AS}
theorem flat_rep (z:List TV):∀n,(List.replicate n z).flatten=repT z n
 |0=>rfl
 |n+1=>by rw [List.replicate_succ,List.flatten_cons,flat_rep z n];rfl
theorem okSz_rep (z:List TV) (n:Nat):okSz z.length (List.replicate n z)=true:=
 List.all_eq_true.2 fun c hc=>by rw [List.eq_of_mem_replicate hc,beqNat];simp
theorem rep_take (z:List Value):∀(n c:Nat),n≤c→(rep z c).take (n*z.length)=rep z n
 |0,c,_=>by simp [rep]
 |n+1,0,h=>by omega
 |n+1,c+1,h=>by
  simp only [rep,Nat.succ_mul]
  rw [Nat.add_comm,List.take_append,List.take_of_length_le (by omega),show z.length+n*z.length - z.length=n*z.length by omega,rep_take z n c (by omega)]
theorem s_mkSlice (md b:Nat) (d:Option Nat) (e:TypeId) (z:List Value) (bytes:Nat) (l c:Operand):SimP md b d (.mkSlice e z bytes l c):=by
 intro Pr μ w a σ ax s v a' σ' h r hP
 simp only [tdo] at h
 simp only [xprim]
 split at h
 ·rename_i l' c' hl hc
  have h1:=r.plainOf hl rfl
  have h2:=r.plainOf hc rfl
  revert h1 h2
  generalize ax.ev l=y1
  generalize ax.ev c=y2
  intro h1 h2;cases h1;cases h2
  split at h
  ·rename_i hb
   simp only [hb]
   refine ⟨_,rfl,?_⟩
   simp only [Bool.and_eq_true] at hb
   obtain ⟨⟨⟨b1,b2⟩,b3⟩,b4⟩:=hb
   rw [bleNat] at b1 b3
   have b1:=of_decide_eq_true b1
   have b3:=of_decide_eq_true b3
   split at h
   ·simp only [tNew] at h
    cases h
    exact done_obj (o:=⟨0,.cells (repT (ofV.ofVs z) c') e⟩) (b:=.cells (rep z c') e false) r hP (rb_cells (repT_rel (RVs.ofVs _ _ _ z) c')) (tv:=.ref σ.length 0 z.length l' c') (fun g Z=>.ref (r.muNew _) b1) d
   ·cases h
    refine done_sl r hP ?_ (by simp) b1 (by unfold capU;omega) (by rw [rep_length];exact Nat.le_refl _) ?_ d
    ·have:=okSz_rep (ofV.ofVs z) l'
     rwa [ofVs_length] at this
    ·rw [flat_rep,rep_take z l' c' b1]
     exact repT_rel (RVs.ofVs _ _ _ z) l'
  ·cases h
 ·cases h
theorem s_mkIface (md b:Nat) (d:Option Nat) (t:TypeId) (x:Operand):SimP md b d (.mkIface t x):=by
 intro Pr μ w a σ ax s v a' σ' h r hP
 simp only [tdo] at h
 simp only [xprim]
 split at h
 ·rename_i tv hg
  cases h
  obtain ⟨w1,r1,hsub⟩:=r.frz1 x
  obtain ⟨g1,g2⟩:=give_frz hg
  have h2:RV s.get μ (Zo w1 Pr) tv (ax.ev x):=r1.plainOf (by rw [frz1_same,←g1]) g2
  exact ⟨_,rfl,done_pure r1 (fun p i e=>⟨p,hsub p i e⟩) d (.inl (.iface t h2))⟩
 ·cases h
theorem frzs_append:∀(l m:List Operand) (a:TAct),frzs a (l++m)=frzs (frzs a l) m
 |[],m,a=>rfl
 |x::l,m,a=>frzs_append l m _
theorem s_mkFunc (md b:Nat) (d:Option Nat) (fn:Fn) (first cap:List Operand):SimP md b d (.mkFunc fn first cap):=by
 intro Pr μ w a σ ax s v a' σ' h r hP
 simp only [tdo] at h
 simp only [xprim]
 split at h
 ·rename_i fn f x y h1 h2
  cases h
  rw [←frzs_append]
  obtain ⟨w1,r1,hsub⟩:=r.frzs (first++cap)
  have q1:=gives_rel r1 rfl first (fun x hx=>by simp [hx]) h1
  have q2:=gives_rel r1 rfl cap (fun x hx=>by simp [hx]) h2
  exact ⟨_,rfl,done_pure r1 (fun p i e=>⟨p,hsub p i e⟩) d (.inl (.func f (by simpa using q1) (by simpa using q2)))⟩
 ·cases h
theorem RVs.u8 {g:Hp} {Z:Nat→Prop}:∀l:List UInt8,RVs g μ Z ((l.map fun b=>[TV.int .u8 b.toNat]).flatten) (l.map fun b=>Value.int .u8 b.toNat)
 |[]=>.nil
 |b::l=>.cons (.int _ _) (RVs.u8 l)
def drop0 (w:Own):Own:=fun p=>if p=.hand 0 then none else w p
theorem s_strToBytes (md b:Nat) (d:Option Nat) (e:TypeId) (x:Operand):SimP md b d (.strToBytes e x):=by
 intro Pr μ w a σ ax s v a' σ' h r hP
 simp only [tdo] at h
 simp only [xprim]
 split at h
 ·rename_i st hx
  have h1:=r.plainOf hx rfl
  revert h1;generalize ax.ev x=y;intro h1;cases h1
  split at h
  ·rename_i hb
   cases h
   simp only [hb]
   refine ⟨_,rfl,?_⟩
   have hnp:¬Pr s.next:=fun h=>Nat.lt_irrefl _ (hP _ h)
   have r1:=r.alloc ⟨0,.cells (st.data.toList.map fun b=>.int .u8 b.toNat) e true⟩ hnp
   have hd:∀p i,drop0 w p=some i→w p=some i:=fun p i e=>by
    unfold drop0 at e;split at e
    ·cases e
    ·exact e
   have r2:=r1.sub (w':=drop0 w) (fun p i e=>by
    have:=hd p i e
    unfold drop0 at e
    unfold holds
    split at e
    ·cases e
    ·rename_i h;rw [if_neg h];exact e) (fun p hp=>by unfold drop0 holds;rw [if_neg (hp 0),if_neg (hp 0)])
   have z:Zo (drop0 w) Pr s.next:=⟨fun p e=>Nat.lt_irrefl _ (r.live p _ (hd p _ e)),hnp⟩
   refine ⟨μ,rel (drop0 w) d,r2.put d (.inl ?_),after_new _ (fun p i e _=>⟨p,hd p i (rel_le _ d p i e)⟩) mu_self⟩
   refine .fz (s:=1) (ver:=0) z (by rw [heapNew,if_pos rfl]) ?_ (by simp) (fun h=>by unfold capU at h;omega) (fun h=>rfl) (by simp) ?_
   ·refine List.all_eq_true.2 fun c hc=> ?_
    obtain ⟨b,_,rfl⟩:=List.mem_map.1 hc
    rfl
   ·rw [List.drop_zero,Nat.mul_one,List.take_of_length_le (by simp)]
    exact RVs.u8 _
  ·cases h
 ·cases h
theorem s_lenMap (md b:Nat) (d:Option Nat) (x:Operand):SimP md b d (.lenMap x):=by
 intro Pr μ w a σ ax s v a' σ' h r hP
 simp only [tdo] at h
 simp only [xprim]
 split at h
 ·rename_i hx
  have h1:=r.plainOf hx rfl
  revert h1;generalize ax.ev x=y;intro h1;cases h1
  cases h
  exact ⟨_,rfl,done_val r d (.int _ _)⟩
 ·rename_i k hx
  have h1:=r.plainOf hx rfl
  revert h1;generalize ax.ev x=y;intro h1;cases h1
  rename_i i hm
  split at h
  ·rename_i ver es ck hob
   cases h
   obtain ⟨i',es',k1,k2,k3,_⟩:=r.mapOf hob
   rw [hm] at k1;cases k1
   simp only [k2,k3]
   exact ⟨_,rfl,done_val r d (.int _ _)⟩
  ·cases h
 ·cases h
theorem find_rel (r:Rl Pr μ w a σ ax s) (k:EqK) {x:TV} {x':Value} (hx:pl x=true→RV s.get μ (Zo w Pr) x x'):∀(es:List (TV×TV×Nat)) (es':List MapEntry) (n:Nat),es'.length=es.length→(∀(j:Nat) (x:TV×TV×Nat) (y:MapEntry),es[j]? =some x→es'[j]? =some y→RV s.get μ (Zo w Pr) x.1 y.key∧RV s.get μ (Zo w Pr) x.2.1 y.val∧y.born=x.2.2)→
  ∀{q:Option (Nat×TV)},findT σ k x es n=some q→(q=none∧findX s.get k x' es' n=some none)∨∃i v v',q=some (i,v)∧findX s.get k x' es' n=some (some (i,v'))∧RV s.get μ (Zo w Pr) v v'
 |[],[],n,_,_,q,h=>by simp only [findT] at h;cases h;exact .inl ⟨rfl,rfl⟩
 |[],_::_,n,hl,_,q,h=>by simp at hl
 |_::_,[],n,hl,_,q,h=>by simp at hl
 |e::es,e'::es',n,hl,he,q,h=>by
  simp only [findT] at h
  obtain ⟨h1,h2,h3⟩:=he 0 e e' rfl rfl
  split at h
  ·rename_i hq
   cases h
   have:=teq_rel r k hx (fun _=>h1) hq
   exact .inr ⟨n,_,e'.val,rfl,by simp only [findX,this],h2⟩
  ·rename_i hq
   have:=teq_rel r k hx (fun _=>h1) hq
   simp only [findX,this]
   exact find_rel r k hx es es' (n+1) (by simpa using hl) (fun j x y hx hy=>he (j+1) x y (by simpa using hx) (by simpa using hy)) h
  ·cases h
theorem s_lookup (md b:Nat) (d:Option Nat) (k:EqK) (z:Value) (m x:Operand) (ok:Bool):SimP md b d (.lookup k z m x ok):=by
 intro Pr μ w a σ ax s v a' σ' h r hP
 simp only [tdo,tVal] at h
 split at h
 ·rename_i tv hl
  cases h
  simp only [tLookup] at hl
  simp only [xprim]
  cases hm:a.ev m<;>rw [hm] at hl<;>simp only at hl<;>first|(cases hl;done)|skip
  case nilm=>
   have h1:=r.plainOf hm rfl
   revert h1;generalize ax.ev m=y;intro h1;cases h1
   cases hl
   refine ⟨_,rfl,done_val r d ?_⟩
   cases ok with
   |true=>exact .tuple (.cons (RV.ofV _ _ _ z) (.cons (.bool _) .nil))
   |false=>exact RV.ofV _ _ _ z
  case map kk=>
   have h1:=r.plainOf hm rfl
   revert h1;generalize ax.ev m=y;intro h1;cases h1
   rename_i i hmu
   cases hob:σ.at kk with
   |none=>rw [hob] at hl;cases hl
   |some ob=>
    rw [hob] at hl
    obtain ⟨ver,body⟩:=ob
    cases body<;>simp only at hl<;>first|(cases hl;done)|skip
    rename_i es ck
    obtain ⟨i',es',k1,k2,k3,k4,k5⟩:=r.mapOf hob
    rw [hmu] at k1;cases k1
    simp only [k2]
    cases hf:findT σ k (a.ev x) es 0 with
    |none=>rw [hf] at hl;cases hl
    |some q=>
     rw [hf] at hl
     rcases find_rel r k (fun h=>r.plain h) es es' 0 k3 k4 hf with ⟨rfl,q2⟩|⟨i,v1,v2,rfl,q2,q3⟩
     ·simp only at hl;cases hl
      simp only [q2]
      refine ⟨_,rfl,done_val r d ?_⟩
      cases ok with
      |true=>exact .tuple (.cons (RV.ofV _ _ _ z) (.cons (.bool _) .nil))
      |false=>exact RV.ofV _ _ _ z
     ·simp only at hl;cases hl
      simp only [q2]
      refine ⟨_,rfl,done_val r d ?_⟩
      cases ok with
      |true=>exact .tuple (.cons q3 (.cons (.bool _) .nil))
      |false=>exact q3
 ·cases h
theorem s_mapUpdate (md b:Nat) (d:Option Nat) (k:EqK) (m x v:Operand):SimP md b d (.mapUpdate k m x v):=by
 intro Pr μ w a σ ax s vv a' σ' h r hP
 simp only [tdo] at h
 split at h
 ·rename_i rr hr
  cases h
  simp only [tMapUpdate] at hr
  split at hr
  ·rename_i kk x1 v1 hm gx gv
   split at hr
   ·rename_i ver es ck hob
    split at hr
    ·obtain ⟨w1,r1,hsub⟩:=r.frzs [x,v]
     have h1:=r.plainOf hm rfl
     simp only [xprim]
     revert h1;generalize ax.ev m=y;intro h1;cases h1
     rename_i i hmu
     obtain ⟨i',es',k1,k2,k3,k4,k5⟩:=r1.mapOf hob
     rw [hmu] at k1;cases k1
     have hx:=r1.given rfl (by simp) gx
     have hv:=r1.given rfl (by simp) gv
     have hk:kk<σ.length:=by rw [←r.len];exact (List.getElem?_eq_some_iff.1 hmu).1
     have hw:w1 (.obj kk)=some i:=(r1.wobj kk).trans hmu
     have hne:∀(o:Option AObj) p j,w1 p=some j→p≠.obj kk→(s.upd [(i,o)] s.next).get j=s.get j:=fun o p j e h=>by
      rw [heapSet,if_neg];rintro rfl;exact h (r1.inj _ _ _ e hw)
     have key:∀(es1:List (TV×TV×Nat)) (es2:List MapEntry) (ck':Nat),es2.length=es1.length→(∀(j:Nat) (x:TV×TV×Nat) (y:MapEntry),es1[j]? =some x→es2[j]? =some y→RV s.get μ (Zo w1 Pr) x.1 y.key∧RV s.get μ (Zo w1 Pr) x.2.1 y.val∧y.born=x.2.2)→
       Done Pr μ w ax s d undT (frzs a [x,v]).tick (σ.set kk (some ⟨ver+1,.map es1 ck'⟩)) ⟨undef,[(i,some ⟨ver+1,.map es2 ck'⟩)],s.next⟩:=by
      intro es1 es2 ck' q1 q2
      have mo:=r1.moOwn hw (some ⟨ver+1,.map es2 ck'⟩)
      have st:=r1.objStep mo (r1.toRs.setO (o:=⟨ver+1,.map es1 ck'⟩) hk mo (r1.dmSet hw _) (Nat.le_refl _) r1.inj (fun p i e=>⟨p,e⟩) (fun _=>rfl) (fun _ _ _=>rfl) (fun k' j hk' h=>by
       rcases h with h|⟨c,h⟩
       ·exact hne _ _ _ h (by simpa using hk')
       ·exact hne _ _ _ h (by simp)) ⟨i,.map es2 ck',hmu,by rw [heapSet,if_pos rfl],rfl,q1,fun j x y hx hy=>⟨(q2 j x y hx hy).1.mono mo,(q2 j x y hx hy).2.1.mono mo,(q2 j x y hx hy).2.2⟩,k5⟩) (fun _=>rfl) (fun _ _=>rfl) (fun t j h=>by
       rcases h with h|⟨c,h⟩
       ·exact hne _ _ _ h (by simp)
       ·exact hne _ _ _ h (by simp))
      exact done_put (p:=⟨undef,[(i,some ⟨ver+1,.map es2 ck'⟩)],s.next⟩) st d rfl rfl (fun w2 h2=>after_set (hsub _ _ hw) _ (fun p j e=>⟨p,hsub _ _ (h2 p j e)⟩))
     simp only [k2]
     have hf1:∀q,findT σ k x1 es 0=some q→(q=none∧findX s.get k (ax.ev x) es' 0=some none)∨∃i v v',q=some (i,v)∧findX s.get k (ax.ev x) es' 0=some (some (i,v'))∧RV s.get μ (Zo w1 Pr) v v':=fun q hq=>find_rel r1 k (fun _=>hx) es es' 0 k3 k4 hq
     split at hr
     ·rename_i i0 v0 hq
      cases hr
      rcases hf1 _ hq with ⟨e,_⟩|⟨i2,v2,v3,e,q2,q3⟩
      ·cases e
      ·cases e
       simp only [q2]
       refine ⟨_,rfl,key _ _ _ (by simp [k3]) fun j z y hz hy=> ?_⟩
       rw [List.getElem?_modify] at hz hy
       cases hz0:es[j]? with
       |none=>rw [hz0] at hz;split at hz<;>cases hz
       |some z0=>
        cases hy0:es'[j]? with
        |none=>rw [hy0] at hy;split at hy<;>cases hy
        |some y0=>
         rw [hz0] at hz;rw [hy0] at hy
         obtain ⟨p1,p2,p3⟩:=k4 j z0 y0 hz0 hy0
         by_cases hj:i0=j
         ·simp only [hj,if_pos,Option.map_eq_map,Option.map_some,Option.some.injEq] at hz hy
          subst hz;subst hy
          exact ⟨hx,hv,p3⟩
         ·simp only [hj,if_false,Option.map_eq_map,Option.map_some,Option.some.injEq,id] at hz hy
          subst hz;subst hy
          exact ⟨p1,p2,p3⟩
     ·rename_i hq
      cases hr
      rcases hf1 _ hq with ⟨e,q2⟩|⟨i2,v2,v3,e,q2,q3⟩
      ·simp only [q2]
       refine ⟨_,rfl,key _ _ _ (by simp [k3]) fun j z y hz hy=> ?_⟩
       by_cases hj:j<es.length
       ·rw [List.getElem?_append_left hj] at hz
        rw [List.getElem?_append_left (by omega)] at hy
        exact k4 j z y hz hy
       ·rw [List.getElem?_append_right (by omega)] at hz hy
        rw [k3] at hy
        have:j - es.length=0:=by
         have:=(List.getElem?_eq_some_iff.1 hz).1
         simp at this;omega
        rw [this] at hz hy
        simp at hz hy;subst hz;subst hy
        exact ⟨hx,hv,rfl⟩
      ·cases e
     ·cases hr
    ·cases hr
   ·cases hr
  ·cases hr
 ·cases h
end
end Go.Xt
end
section
namespace Go.Xt
open Go Go.Xe
section
variable {Pr:Nat→Prop} {μ μ':List Nat} {w w':Own} {a a':TAct} {σ σ':Sto} {ax ax':Xe.Act} {s s':AS}
theorem boundT_le {x:TV} {n i:Nat} (h:boundT x n=some i):i≤n∧∀m,n≤m→boundT x m=some i:=by
 unfold boundT at h
 split at h
 ·split at h
  ·rename_i hb
   cases h
   rw [bleNat] at hb
   have hb:=of_decide_eq_true hb
   exact ⟨hb,fun m hm=>by simp only [boundT,bleNat];rw [decide_eq_true (by omega)]⟩
  ·cases h
 ·cases h
theorem boundsT_le {len cap l h m:Nat} {lo hi mx:Option TV} (hb:boundsT len cap lo hi mx=some (l,h,m)) (hc:len≤cap):l≤h∧h≤m∧m≤cap:=by
 unfold boundsT at hb
 cases e1:optB mx cap cap with
 |none=>rw [e1] at hb;cases hb
 |some m0=>
  rw [e1] at hb
  simp only at hb
  cases e2:hiB hi mx m0 len with
  |none=>rw [e2] at hb;cases hb
  |some h0=>
   rw [e2] at hb
   simp only at hb
   cases e3:optB lo h0 0 with
   |none=>rw [e3] at hb;cases hb
   |some l0=>
    rw [e3] at hb
    cases hb
    have k1:m≤cap∧(mx=none→m=cap):=by
     cases mx with
     |none=>simp only [optB,Option.some.injEq] at e1;exact ⟨by omega,fun _=>by omega⟩
     |some v=>exact ⟨(boundT_le e1).1,fun h=>by cases h⟩
    have k2:h≤m:=by
     cases hi with
     |some v=>exact (boundT_le e2).1
     |none=>cases mx with
      |none=>simp only [hiB,Option.some.injEq] at e2;have:=k1.2 rfl;omega
      |some v=>simp only [hiB] at e2;cases e2
    have k3:l≤h:=by
     cases lo with
     |none=>simp only [optB,Option.some.injEq] at e3;omega
     |some v=>exact (boundT_le e3).1
    exact ⟨k3,k2,k1.1⟩
theorem boundsT_cap {len cap l h m:Nat} {lo hi:Option TV} (hb:boundsT len len lo hi none=some (l,h,m)) (hc:len≤cap):boundsT len cap lo hi none=some (l,h,cap)∧m=len:=by
 unfold boundsT at hb ⊢
 rw [show ∀n,optB none n n=some n from fun _=>rfl] at hb ⊢
 simp only at hb ⊢
 have:∀y,hiB hi none len len=some y→hiB hi none cap len=some y:=by
  intro y hy
  cases hi with
  |none=>exact hy
  |some v=>exact (boundT_le hy).2 cap hc
 cases e2:hiB hi none len len with
 |none=>rw [e2] at hb;cases hb
 |some h0=>
  rw [e2] at hb
  rw [this _ e2]
  simp only at hb ⊢
  cases e3:optB lo h0 0 with
  |none=>rw [e3] at hb;cases hb
  |some l0=>rw [e3] at hb;cases hb;exact ⟨rfl,rfl⟩
theorem s_sliceArr (md b:Nat) (d:Option Nat) (n size:Nat) (x:Operand) (lo hi mx:Option Operand):SimP md b d (.sliceArr n size x lo hi mx):=by
 intro Pr μ w a σ ax s v a' σ' h r hP
 simp only [tdo] at h
 simp only [xprim]
 split at h
 ·rename_i k o hx
  have h1:=r.plainOf hx rfl
  revert h1;generalize ax.ev x=y;intro h1;cases h1
  rename_i i hm
  split at h
  ·rename_i l hh m hb
   cases h
   have hb':=bounds_rel (ORV.map r lo) (ORV.map r hi) (ORV.map r mx) hb
   simp only [hb']
   obtain ⟨b1,b2,_⟩:=boundsT_le hb (Nat.le_refl _)
   refine ⟨_,rfl,done_val r d ?_⟩
   cases Nat.beq m l with
   |true=>exact .ref hm (by omega)
   |false=>simp only [add_none];exact .ref hm (by omega)
  ·cases h
 ·cases h
theorem okSz_drop {sz:Nat} {chs:List (List TV)} (h:okSz sz chs=true) (l n:Nat):okSz sz ((chs.drop l).take n)=true:=
 List.all_eq_true.2 fun c hc=>List.all_eq_true.1 h c (List.mem_of_mem_drop (List.mem_of_mem_take hc))
theorem flat_drop {sz:Nat}:∀{chs:List (List TV)},okSz sz chs=true→∀l,(chs.drop l).flatten=chs.flatten.drop (l*sz)
 |[],_,l=>by simp
 |c::chs,h,0=>by simp
 |c::chs,h,l+1=>by
  simp only [okSz,List.all_cons,Bool.and_eq_true] at h
  have h1:=beq_of h.1
  rw [List.drop_succ_cons,flat_drop h.2 l,List.flatten_cons,Nat.succ_mul,Nat.add_comm,←List.drop_drop,←h1,List.drop_left,h1]
theorem flat_take {sz:Nat}:∀{chs:List (List TV)},okSz sz chs=true→∀l,(chs.take l).flatten=chs.flatten.take (l*sz)
 |[],_,l=>by simp
 |c::chs,h,0=>by simp
 |c::chs,h,l+1=>by
  simp only [okSz,List.all_cons,Bool.and_eq_true] at h
  have h1:=beq_of h.1
  rw [List.take_succ_cons,List.flatten_cons,List.flatten_cons,flat_take h.2 l,Nat.succ_mul,Nat.add_comm,List.take_append,List.take_of_length_le (show c.length≤sz+l*sz by omega),h1,show sz+l*sz - sz=l*sz by omega]
theorem piece {g:Hp} {Z:Nat→Prop} {chs:List (List TV)} {vs:List Value} {sz o n l h:Nat} (hok:okSz sz chs=true) (hn:chs.length=n) (hv:RVs g μ Z chs.flatten ((vs.drop o).take (n*sz))) (hl:l≤h) (hh:h≤n):
  RVs g μ Z ((chs.drop l).take (h - l)).flatten ((vs.drop (o+l*sz)).take ((h - l)*sz)):=by
 rw [flat_take (List.all_eq_true.2 fun c hc=>List.all_eq_true.1 hok c (List.mem_of_mem_drop hc)),flat_drop hok]
 have:=(hv.drop (l*sz)).take ((h - l)*sz)
 have hle:l*sz+(h - l)*sz≤n*sz:=by rw [←Nat.add_mul];exact Nat.mul_le_mul_right sz (by omega)
 rwa [List.drop_take,List.take_take,List.drop_drop,Nat.min_eq_left (by omega)] at this
theorem xslice_own {sz n c l h:Nat} {a:Addr} {lo hi:Option TV} {lo' hi':Option Value} {g:Hp} {Z:Nat→Prop} {m:Nat} (h1:ORV g μ Z lo lo') (h2:ORV g μ Z hi hi') (hb:boundsT n n lo hi none=some (l,h,m)) (hc:c<capU→n≤c) (hu:capU≤c→c=capU+sz):
  ∃a' c',xslice sz (.slice (some a) n c) lo' hi' none=some (.slice (some a') (h - l) c')∧((capU≤c∧c'=capU+sz∧a'=a.add (l*sz))∨(c<capU∧c'=c - l∧(a'=a.add (l*sz)∨(a'=a∧c=l)))):=by
 have h3:ORV g μ Z none none:=trivial
 by_cases hcap:capU≤c
 ·have:=hu hcap
  have hb':=bounds_rel h1 h2 h3 hb
  refine ⟨a.add (l*sz),capU+sz,?_,.inl ⟨hcap,rfl,rfl⟩⟩
  simp only [xslice,bleNat,decide_eq_true hcap,this,beqNat,decide_true,hb',addTo,Option.map_some]
  rw [decide_eq_true (show capU≤capU+sz by omega)]
 ·have hlt:c<capU:=by omega
  have hb':=bounds_rel h1 h2 h3 (boundsT_cap hb (hc hlt)).1
  cases e:Nat.beq c l with
  |true=>exact ⟨a,c - l,by simp only [xslice,bleNat,decide_eq_false hcap,hb',e],.inr ⟨hlt,rfl,.inr ⟨rfl,beq_of e⟩⟩⟩
  |false=>exact ⟨a.add (l*sz),c - l,by simp only [xslice,bleNat,decide_eq_false hcap,hb',e,addTo,Option.map_some],.inr ⟨hlt,rfl,.inl rfl⟩⟩
theorem RO.slice {g:Hp} {Z:Nat→Prop} {i e sz:Nat} {chs:List (List TV)} {v:Value} (hro:RO g μ Z i (.sl (.own e sz) chs) v) {lo hi:Option TV} {lo' hi':Option Value} {l h m:Nat} (h1:ORV g μ Z lo lo') (h2:ORV g μ Z hi hi') (hb:boundsT chs.length chs.length lo hi none=some (l,h,m)):
  ∃v',xslice sz v lo' hi' none=some v'∧RO g μ Z i (.sl (.own e sz) ((chs.drop l).take (h - l))) v':=by
 cases hro with
 |mk m1 m2 m3 m4 m5 m6 m7=>
  rename_i n o c ver vs
  subst m3
  obtain ⟨b1,b2,b3⟩:=boundsT_le hb (Nat.le_refl _)
  obtain ⟨a',c',q1,q2⟩:=xslice_own (sz:=sz) (a:=⟨i,o,none⟩) h1 h2 hb (fun h=>(m4 h).1) m5
  refine ⟨_,q1,?_⟩
  have hlen:((chs.drop l).take (h - l)).length=h - l:=by simp;omega
  have hle:l*sz+(h - l)*sz≤chs.length*sz:=by rw [←Nat.add_mul];exact Nat.mul_le_mul_right sz (by omega)
  rcases q2 with ⟨k1,rfl,rfl⟩|⟨k1,rfl,k3⟩
  ·rw [add_none]
   exact .mk m1 (okSz_drop m2 _ _) hlen (fun h=>absurd h (by omega)) (fun _=>rfl) (by omega) (piece m2 rfl m7 b1 (by omega))
  ·have hcs:=(m4 k1).2
   have hlc:l≤c:=by have:=(m4 k1).1;omega
   rcases k3 with rfl|⟨rfl,hcl⟩
   ·have hmul:l*sz+(c - l)*sz=c*sz:=by rw [←Nat.add_mul];congr 1;omega
    have hmul2:(h - l)*sz≤(c - l)*sz:=Nat.mul_le_mul_right sz (by have:=(m4 k1).1;omega)
    rw [add_none]
    exact .mk m1 (okSz_drop m2 _ _) hlen (fun _=>⟨by have:=(m4 k1).1;omega,by omega⟩) (fun h=>absurd h (by omega)) (by omega) (piece m2 rfl m7 b1 (by omega))
   ·have:h - l=0:=by have:=(m4 k1).1;omega
    rw [this,hcl]
    simp only [Nat.sub_self,List.take_zero]
    exact .mk m1 rfl rfl (fun _=>⟨Nat.le_refl _,by simp;omega⟩) (fun h=>absurd h (by unfold capU;omega)) (by simp;omega) (by simp;exact .nil)
theorem RV.slice {g:Hp} {Z:Nat→Prop} {size:Nat} {m:Md} {chs:List (List TV)} {v:Value} (hr:RV g μ Z (.sl m chs) v) {lo hi:Option TV} {lo' hi':Option Value} {l h mm:Nat} (h1:ORV g μ Z lo lo') (h2:ORV g μ Z hi hi') (hb:boundsT chs.length chs.length lo hi none=some (l,h,mm)) (hok:okSz size chs=true) (hsl:slOk size m chs=true):
  ∃v',xslice size v lo' hi' none=some v'∧RV g μ Z (.sl m ((chs.drop l).take (h - l))) v':=by
 obtain ⟨b1,b2,b3⟩:=boundsT_le hb (Nat.le_refl _)
 cases hr with
 |fz0=>simp [slOk] at hsl
 |nl=>
  have hb':=bounds_rel h1 h2 (show ORV g μ Z none none from trivial) hb
  have hm:mm=0:=by simpa using b3
  have hl:l=0:=by omega
  have hh:h=0:=by omega
  subst hm;subst hl;subst hh
  refine ⟨.slice none 0 0,?_,.nl⟩
  simp only [List.length_nil] at hb'
  simp only [xslice,bleNat,decide_eq_false (show ¬capU≤0 by unfold capU;omega),hb']
 |fz z hg ok hn hc hu hle hv=>
  rename_i n i o c s ver vs e ro
  subst hn
  have hs:s=size:=by
   cases chs with
   |nil=>simp [slOk] at hsl
   |cons c chs=>
    simp only [okSz,List.all_cons,Bool.and_eq_true] at ok hok
    rw [←beq_of ok.1,beq_of hok.1]
  subst hs
  obtain ⟨a',c',q1,q2⟩:=xslice_own (sz:=s) (a:=⟨i,o,none⟩) h1 h2 hb hc hu
  refine ⟨_,q1,?_⟩
  have hlen:((chs.drop l).take (h - l)).length=h - l:=by simp;omega
  have hmul:l*s+(h - l)*s≤chs.length*s:=by rw [←Nat.add_mul];exact Nat.mul_le_mul_right s (by omega)
  rcases q2 with ⟨k1,rfl,rfl⟩|⟨k1,rfl,k3⟩
  ·rw [add_none]
   exact .fz z hg (okSz_drop ok _ _) hlen (fun h=>absurd h (by omega)) (fun _=>rfl) (by omega) (piece ok rfl hv b1 (by omega))
  ·have:=hc k1
   rcases k3 with rfl|⟨rfl,hcl⟩
   ·rw [add_none]
    exact .fz z hg (okSz_drop ok _ _) hlen (fun _=>by omega) (fun h=>absurd h (by omega)) (by omega) (piece ok rfl hv b1 (by omega))
   ·have:h - l=0:=by omega
    rw [this]
    simp only [List.take_zero]
    exact .fz0 _ _
theorem ORV.mono {g g':Hp} {Z Z':Nat→Prop} (mo:Mo g μ Z g' μ' Z') {x:Option TV} {y:Option Value} (h:ORV g μ Z x y):ORV g' μ' Z' x y:=by
 cases x<;>cases y<;>simp only [ORV] at h ⊢
 exact fun hp=>(h hp).mono mo
theorem Rl.frzPlace (r:Rl Pr μ w a σ ax s) {p:Pl} {e sz:Nat} {chs:List (List TV)} (h:plVal a σ p=some (.sl (.own e sz) chs)) {v:Value} (hv:HVal μ w ax s.get p v):
  ∃w1,Rl Pr μ w1 (plSet a σ frz p).1 (plSet a σ frz p).2 ax s∧(∀p i,w1 p=some i→w p=some i)∧RV s.get μ (Zo w1 Pr) (.sl .fz chs) v:=by
 cases p with
 |tmp t=>
  simp only [plVal,Option.some.injEq] at h
  have hv:v=ax.ev (.tmp t):=hv
  subst hv
  have ho:isOwn (a.ev (.tmp t))=true:=by rw [h];rfl
  obtain ⟨i,h1,h2⟩:=r.ownOf ho
  have hz:Zo (rel w (some t)) Pr i:=by
   refine ⟨fun p e=> ?_,r.pr _ i h1⟩
   have:=r.inj _ _ _ (rel_le w _ p i e) h1
   subst this
   rw [rel_tmp_same] at e;cases e
  have hf:=RO.frz (h2.mono (Mo.sub (rel_le w (some t))) rfl) hz
  refine ⟨rel w (some t),r.reTmp t hf,rel_le w _,?_⟩
  rw [h] at hf;exact hf
 |tcell t o ser=>
  simp only [plVal] at h
  split at h
  ·rename_i cs e' hb
   obtain ⟨hbx,i,ver,vs,k1,k2,k3,k4⟩:=r.boxOf hb
   obtain ⟨v',q1,q2⟩:=k4.at h
   obtain ⟨j,q3,q4⟩:=q2.ownOf rfl
   have hlt:=(List.getElem?_eq_some_iff.1 h).1
   have hvv:v=v':=by
    obtain ⟨i2,ver2,vs2,e2,p1,p2,p3⟩:=hv
    rw [k1] at p1;cases p1
    rw [k3] at p2;cases p2
    rw [q1] at p3;cases p3;rfl
   subst hvv
   have hz:Zo (relC w t o 1 none) Pr j:=⟨fun p e=>by
    have:=r.inj _ _ _ (relC_le w t o 1 p j e) q3
    subst this
    simp [relC,clr] at e,r.pr _ _ q3⟩
   have hfz:RV s.get μ (Zo (relC w t o 1 none) Pr) (.sl .fz chs) v:=RO.frz (q4.mono (Mo.sub (relC_le w t o 1)) rfl) hz
   have:=r.reBox (w':=relC w t o 1 none) (tv:=.sl .fz chs) hb hlt (fun p i e=>⟨p,relC_le w t o 1 p i e⟩) (fun p q i e f=>r.inj p q i (relC_le w t o 1 p i e) (relC_le w t o 1 q i f)) (fun _=>rfl) (fun _ _=>rfl) (fun _=>rfl)
    (fun k' c hk=>by
     simp only [relC]
     split
     ·rename_i h;subst h
      have hc:c≠o:=by rcases hk with h|h; · exact absurd rfl h
                      · exact h
      unfold clr;split
      ·rfl
      ·rw [if_neg (by omega)]
     ·rfl) (fun i' ver' vs' v2 e1 e2 e3=>by
     rw [k1] at e1;cases e1
     rw [k3] at e2;cases e2
     rw [q1] at e3;cases e3
     have:relC w t o 1 none (.tcell t o)=none:=by simp [relC,clr]
     rw [this];exact hfz)
   refine ⟨relC w t o 1 none,?_,relC_le w t o 1,hfz⟩
   simp only [plSet,hb,h]
   exact this
  ·cases h
 |cell k o=>
  simp only [plVal] at h
  split at h
  ·rename_i ver cs e' hob
   obtain ⟨i,vs,k1,k2,k3⟩:=r.objOf hob
   obtain ⟨v',q1,q2⟩:=k3.at h
   obtain ⟨j,q3,q4⟩:=q2.ownOf rfl
   have hlt:=(List.getElem?_eq_some_iff.1 h).1
   have hvv:v=v':=by
    obtain ⟨i2,ver2,vs2,e2,p1,p2,p3⟩:=hv
    rw [k1] at p1;cases p1
    rw [k2] at p2;cases p2
    rw [q1] at p3;cases p3;rfl
   subst hvv
   have hz:Zo (relO w k o 1 none) Pr j:=⟨fun p e=>by
    have:=r.inj _ _ _ (relO_le w k o 1 p j e) q3
    subst this
    simp [relO,clr] at e,r.pr _ _ q3⟩
   have hfz:RV s.get μ (Zo (relO w k o 1 none) Pr) (.sl .fz chs) v:=RO.frz (q4.mono (Mo.sub (relO_le w k o 1)) rfl) hz
   have:=r.reCell (w':=relO w k o 1 none) (tv:=.sl .fz chs) hob hlt (fun p i e=>⟨p,relO_le w k o 1 p i e⟩) (fun p q i e f=>r.inj p q i (relO_le w k o 1 p i e) (relO_le w k o 1 q i f)) (fun _=>rfl) (fun _ _=>rfl) (fun _=>rfl)
    (fun k' c hk=>by
     simp only [relO]
     split
     ·rename_i h;subst h
      have hc:c≠o:=by rcases hk with h|h; · exact absurd rfl h
                      · exact h
      unfold clr;split
      ·rfl
      ·rw [if_neg (by omega)]
     ·rfl) (fun i' vs' v2 e1 e2 e3=>by
     rw [k1] at e1;cases e1
     rw [k2] at e2;cases e2
     rw [q1] at e3;cases e3
     have:relO w k o 1 none (.cell k o)=none:=by simp [relO,clr]
     rw [this];exact hfz)
   refine ⟨relO w k o 1 none,?_,relO_le w k o 1,hfz⟩
   simp only [plSet,hob,h]
   exact this
  ·cases h
theorem s_slice (md b:Nat) (d:Option Nat) (size:Nat) (x:Operand) (lo hi mx:Option Operand):SimP md b d (.slice size x lo hi mx):=by
 intro Pr μ w a σ ax s v a' σ' h r hP
 simp only [tdo] at h
 simp only [xprim]
 have o1:=ORV.map r lo
 have o2:=ORV.map r hi
 have o3:=ORV.map r mx
 revert h o1 o2 o3
 generalize lo.map a.ev=l1
 generalize hi.map a.ev=l2
 generalize mx.map a.ev=l3
 generalize lo.map ax.ev=l1'
 generalize hi.map ax.ev=l2'
 generalize mx.map ax.ev=l3'
 intro h o1 o2 o3
 cases hx:a.ev x<;>rw [hx] at h<;>simp only [tSlice] at h<;>first|(cases h;done)|skip
 case sl m chs=>
  cases l3 with
  |some _=>cases h
  |none=>
   cases l3' with
   |some _=>exact o3.elim
   |none=>
    simp only at h
    split at h
    ·rename_i l hh mm hb
     split at h
     ·rename_i hok
      simp only [Bool.and_eq_true] at hok
      cases h
      cases ho:isOwn (a.ev x) with
      |false=>
       have h1:=r.plainOf hx (by rw [hx] at ho;cases m<;>first|rfl|(simp [isOwn] at ho))
       obtain ⟨v',k1,k2⟩:=h1.slice o1 o2 hb hok.1 hok.2
       rw [k1,taken_same ho]
       exact ⟨_,rfl,done_val r d k2⟩
      |true=>
       obtain ⟨t,rfl⟩:=isOwn_tmp ho
       cases m<;>first|(rw [hx] at ho;cases ho;done)|skip
       rename_i e sz
       have hsz:sz=size:=beq_of hok.2
       subst hsz
       obtain ⟨i,h1,h2,h3,h4⟩:=r.takeTmp ho
       rw [hx] at h2
       obtain ⟨v',k1,k2⟩:=h2.slice (o1.mono (Mo.mv _ _)) (o2.mono (Mo.mv _ _)) hb
       rw [k1,taken_own ho]
       exact ⟨_,rfl,done_hand h3 h4 ((mv_to w (by simp)).trans h1) k2 (fun p j e=>mv_owned e) d⟩
     ·cases h
    ·cases h
 case via p ck=>
  split at h
  ·rename_i heq hc
   cases l3' with
   |some _=>exact o3.elim
   |none=>
    split at h
    ·rename_i chs hp
     split at h
     ·rename_i l hh mm hb
      split at h
      ·rename_i hok
       simp only [Bool.and_eq_true] at hok
       cases h
       have ha:a.at x=.via p ck:=by unfold TAct.at;rw [hx]
       have hv:=(r.atAl ha rfl).2 (beq_of hc) chs hp
       obtain ⟨e,sz,hpv⟩:=plGet_val hp
       obtain ⟨w1,r1,hsub,hf⟩:=r.frzPlace hpv hv
       obtain ⟨v',k1,k2⟩:=hf.slice (o1.mono (Mo.sub hsub)) (o2.mono (Mo.sub hsub)) hb hok.1 hok.2
       rw [k1]
       exact ⟨_,rfl,done_pure r1 (fun p i e=>⟨p,hsub p i e⟩) d (.inl k2)⟩
      ·cases h
     ·cases h
    ·cases h
  ·cases h
 case ref k o sz n c=>
  split at h
  ·cases h
  ·rename_i hcap
   split at h
   ·rename_i l hh m hb
    split at h
    ·rename_i hsz
     cases h
     have h1:=r.plainOf hx rfl
     revert h1;generalize ax.ev x=y;intro h1;cases h1
     rename_i i hm hnc
     have hsz:=beq_of hsz
     subst hsz
     have hb':=bounds_rel o1 o2 o3 hb
     obtain ⟨b1,b2,b3⟩:=boundsT_le hb hnc
     simp only [xslice,hcap,hb']
     refine ⟨_,rfl,done_val r d ?_⟩
     cases Nat.beq m l with
     |true=>exact .ref hm (by omega)
     |false=>simp only [addTo,Option.map_some,add_none];exact .ref hm (by omega)
    ·cases h
   ·cases h
end
end Go.Xt
end
section
namespace Go.Xt
open Go Go.Xe
section
variable {Pr:Nat→Prop} {μ μ':List Nat} {w w':Own} {a a':TAct} {σ σ':Sto} {ax ax':Xe.Act} {s s':AS}
theorem src_of {g:Hp} {Z:Nat→Prop} {size i o n c ver e:Nat} {ro:Bool} {vs:List Value} {chs:List (List TV)} (hg:g i=some ⟨ver,.cells vs e ro⟩) (hn:chs.length=n) (hle:o+n*size≤vs.length) (hv:RVs g μ Z chs.flatten ((vs.drop o).take (n*size))):
  ∃l,srcCells g size (.slice (some ⟨i,o,none⟩) n c)=some (chs.length,l)∧RVs g μ Z chs.flatten l:=by
 cases n with
 |zero=>
  have:chs=[]:=List.eq_nil_of_length_eq_zero hn
  subst this
  exact ⟨[],rfl,.nil⟩
 |succ n=>
  exact ⟨_,by simp only [srcCells,loadList_of hg hle,hn],hv⟩
theorem sz_of {s sz:Nat} {chs:List (List TV)} (h:okSz s chs=true) (k:okSz sz chs=true):chs=[]∨s=sz:=by
 cases chs with
 |nil=>exact .inl rfl
 |cons c chs=>
  simp only [okSz,List.all_cons,Bool.and_eq_true] at h k
  rw [←beq_of h.1,beq_of k.1];exact .inr rfl
theorem RO.src {g:Hp} {Z:Nat→Prop} {size i:Nat} {m:Md} {chs:List (List TV)} {v:Value} (h:RO g μ Z i (.sl m chs) v) (hok:okSz size chs=true):∃l,srcCells g size v=some (chs.length,l)∧RVs g μ Z chs.flatten l:=by
 cases h with
 |mk m1 m2 m3 m4 m5 m6 m7=>
  rcases sz_of m2 hok with rfl|rfl
  ·simp at m3;subst m3;exact ⟨[],rfl,.nil⟩
  ·exact src_of m1 m3 m6 m7
theorem RV.src {g:Hp} {Z:Nat→Prop} {size:Nat} {m:Md} {chs:List (List TV)} {v:Value} (h:RV g μ Z (.sl m chs) v) (hok:okSz size chs=true):∃l,srcCells g size v=some (chs.length,l)∧RVs g μ Z chs.flatten l:=by
 cases h with
 |fz z hg ok hn hc hu hle hv=>
  rcases sz_of ok hok with rfl|rfl
  ·simp at hn;subst hn;exact ⟨[],rfl,.nil⟩
  ·exact src_of hg hn hle hv
 |fz0 b c=>cases b<;>exact ⟨[],rfl,.nil⟩
 |nl=>exact ⟨[],rfl,.nil⟩
theorem Rl.src (r:Rl Pr μ w a σ ax s) {size:Nat} {y:Operand} {new:List (List TV)} (h:srcT a σ size (a.ev y)=some new) (hok:okSz size new=true):
  ∃l,srcCells s.get size (ax.ev y)=some (new.length,l)∧RVs s.get μ (Zo w Pr) new.flatten l:=by
 cases hy:a.ev y<;>rw [hy] at h<;>simp only [srcT] at h<;>first|(cases h;done)|skip
 case sl m c=>
  cases h
  cases ho:isOwn (a.ev y) with
  |false=>exact (r.plainOf hy (by rw [hy] at ho;cases m<;>first|rfl|(simp [isOwn] at ho))).src hok
  |true=>
   obtain ⟨t,rfl⟩:=isOwn_tmp ho
   obtain ⟨i,h1,h2⟩:=r.ownOf ho
   rw [hy] at h2
   exact h2.src hok
 case via p ck=>
  split at h
  ·rename_i hc
   have ha:a.at y=.via p ck:=by unfold TAct.at;rw [hy]
   obtain ⟨i,e,sz,h1,h2⟩:=r.viaOf (r.atAl ha rfl) hc h
   exact h2.src hok
  ·cases h
 case ref k o sz n c=>
  split at h
  ·rename_i ver vs e hob
   split at h
   ·rename_i hb
    simp only [Bool.and_eq_true] at hb
    obtain ⟨⟨b1,b2⟩,b3⟩:=hb
    cases h
    have hsz:=beq_of b1
    subst hsz
    rw [bleNat] at b2
    have b2:=of_decide_eq_true b2
    have h1:=r.plainOf hy rfl
    revert h1;generalize ax.ev y=yy;intro h1;cases h1
    rename_i i hm hnc
    obtain ⟨i',vs',k1,k2,k3⟩:=r.objOf hob
    rw [hm] at k1;cases k1
    have:=k3.plain b2 (by simpa using b3)
    refine src_of k2 (chop_len _ _ _) (by rw [k3.len];exact b2) ?_
    rw [chop_flat];exact this
   ·cases h
  ·cases h
 case str st=>
  have h1:=r.plainOf hy rfl
  revert h1;generalize ax.ev y=yy;intro h1;cases h1
  split at h
  ·cases h
   refine ⟨st.data.toList.map fun b=>.int .u8 b.toNat,by simp only [srcCells,List.length_map],RVs.u8 _⟩
  ·cases h
theorem okSz_app {sz:Nat} {x y:List (List TV)} (h:okSz sz x=true) (k:okSz sz y=true):okSz sz (x++y)=true:=by
 unfold okSz at*;rw [List.all_append,h,k];rfl
theorem Rl.newOwn (r:Rl Pr μ w a σ ax s) (hf:Fresh a) (hP:∀i,Pr i→i<s.next) {chs:List (List TV)} {vs:List Value} {e sz n:Nat} (hok:okSz sz chs=true) (hn:chs.length=n) (hl:n*sz≤vs.length) (hv:RVs s.get μ (Zo w Pr) chs.flatten (vs.take (n*sz))) (d:Option Nat):
  ∃w',Rl Pr μ w' (a.put d (.sl (.own e sz) chs)) σ (ax.put d (.slice (some ⟨s.next,0,none⟩) n (capU+sz))) (s.upd [(s.next,some ⟨0,.cells vs e false⟩)] (s.next+1))∧∀p i,w' p=some i→i<s.next→∃q,w q=some i:=by
 have hnp:¬Pr s.next:=fun h=>Nat.lt_irrefl _ (hP _ h)
 have r1:=r.alloc ⟨0,.cells vs e false⟩ hnp
 have hro:RO (s.upd [(s.next,some ⟨0,.cells vs e false⟩)] (s.next+1)).get μ (Zo (holds w s.next) Pr) s.next (.sl (.own e sz) chs) (.slice (some ⟨s.next,0,none⟩) n (capU+sz)):=
  .mk (ver:=0) (vs:=vs) (by rw [heapNew,if_pos rfl]) hok hn (fun h=>by omega) (fun h=>rfl) (by omega) (by rw [List.drop_zero];exact hv.mono (r.moNew _))
 obtain ⟨w',k1,k2⟩:=r1.putHand hf (holds_hand w _) hro d
 exact ⟨w',k1,fun p i e hi=>by obtain ⟨q,e⟩:=k2 p i e;exact holds_own q i e hi⟩
theorem Rl.appOwn (r:Rl Pr μ w a σ ax s) (hf:Fresh a) (hP:∀i,Pr i→i<s.next) {i e sz bytes:Nat} {chs new:List (List TV)} {v:Value} {l:List Value} (hi:w (.hand 0)=some i) (hro:RO s.get μ (Zo w Pr) i (.sl (.own e sz) chs) v) (hok:okSz sz new=true) (hl:RVs s.get μ (Zo w Pr) new.flatten l)
  (hsm:Nat.ble (chs.length+new.length) small=true) (hby:Nat.ble bytes 65536=true) (d:Option Nat):
  ∃p,xappend s.get s.next e sz bytes v new.length l=some p∧∃w',Rl Pr μ w' (a.put d (.sl (.own e sz) (chs++new))) σ (ax.put d p.v) (s.upd p.δ p.nx)∧After w w' μ μ s (s.upd p.δ p.nx):=by
 have hll:l.length=new.length*sz:=by rw [hl.length,flat_len hok]
 cases hro with
 |mk m1 m2 m3 m4 m5 m6 m7=>
  rename_i n o c ver vs
  subst m3
  by_cases hn:new.length=0
  ·have hnew:new=[]:=List.eq_nil_of_length_eq_zero hn
   subst hnew
   refine ⟨_,rfl,?_⟩
   obtain ⟨w',k1,k2⟩:=r.putHand hf hi (.mk m1 m2 rfl m4 m5 m6 m7) d
   rw [List.append_nil]
   exact ⟨w',k1,Nat.le_refl _,fun _ _ _=>rfl,fun p i e _=>k2 p i e,mu_self⟩
  ·obtain ⟨k,hk⟩:∃k,new.length=k+1:=⟨new.length - 1,by omega⟩
   have hold:=loadList_of m1 m6
   have hsm':=hsm
   have hcl:okSz sz (chs++new)=true:=okSz_app m2 hok
   have hlen:(chs++new).length=chs.length+new.length:=List.length_append
   have hmul:(chs.length+new.length)*sz=chs.length*sz+l.length:=by rw [hll,Nat.add_mul]
   have hold2:((vs.drop o).take (chs.length*sz)).length=chs.length*sz:=by simp;omega
   by_cases hcap:capU≤c
   ·have hc:=m5 hcap
    have hwr:writable s.get i e=true:=by simp only [writable,m1,beqNat,decide_true]
    refine ⟨⟨.slice (some ⟨s.next,0,none⟩) (chs.length+new.length) (capU+sz),[(i,none),(s.next,some ⟨0,.cells ((vs.drop o).take (chs.length*sz)++l) e false⟩)],s.next+1⟩,?_,?_⟩
    ·rw [hk] at hsm ⊢
     simp only [xappend,bleNat,decide_eq_true hcap,hold]
     rw [bleNat] at hsm hby
     simp only [hsm,hby,hc,beqNat,decide_true,hwr,Bool.and_self]
    ·have r1:=r.handSet hi none
     have mo1:=r.moOwn hi none
     have hv2:RVs (s.upd [(i,none)] s.next).get μ (Zo w Pr) (chs++new).flatten (((vs.drop o).take (chs.length*sz)++l).take ((chs.length+new.length)*sz)):=by
      rw [List.take_of_length_le (by rw [List.length_append,hold2,hmul];exact Nat.le_refl _),List.flatten_append]
      exact (m7.mono mo1).append (hl.mono mo1)
     obtain ⟨w',k1,k2⟩:=r1.newOwn hf hP (e:=e) hcl hlen (by rw [List.length_append,hold2,hmul];exact Nat.le_refl _) hv2 d
     refine ⟨w',k1,Nat.le_succ _,fun j hj hn=> ?_,fun p j e hj=>k2 p j e hj,mu_self⟩
     have h1:((s.upd [(i,none)] s.next).upd [(s.next,some ⟨0,.cells ((vs.drop o).take (chs.length*sz)++l) e false⟩)] (s.next+1)).get j=(s.upd [(i,none)] s.next).get j:=by
      rw [AS.upd_get];simp only [Hp.upd];exact Hp.set1_ne _ _ (by omega)
     refine Eq.trans h1 ?_
     rw [heapSet,if_neg];rintro rfl;exact hn _ hi
   ·have hlt:c<capU:=by omega
    obtain ⟨q1,q2⟩:=m4 hlt
    by_cases hroom:chs.length+new.length≤c
    ·have hmulc:(chs.length+new.length)*sz≤c*sz:=Nat.mul_le_mul_right sz hroom
     have hst:=storeList_of m1 (o:=o+chs.length*sz) (xs:=l) (by omega)
     refine ⟨⟨.slice (some ⟨i,o,none⟩) (chs.length+new.length) c,[(i,some ⟨ver+1,.cells (setList vs (o+chs.length*sz) l) e false⟩)],s.next⟩,?_,?_⟩
     ·rw [hk] at hroom ⊢
      simp only [xappend,bleNat,decide_eq_false hcap,decide_eq_true hroom,add_none,hst]
     ·have r1:=r.handSet hi (some ⟨ver+1,.cells (setList vs (o+chs.length*sz) l) e false⟩)
      have mo1:=r.moOwn hi (some ⟨ver+1,.cells (setList vs (o+chs.length*sz) l) e false⟩)
      have hro:RO (s.upd [(i,some ⟨ver+1,.cells (setList vs (o+chs.length*sz) l) e false⟩)] s.next).get μ (Zo w Pr) i (.sl (.own e sz) (chs++new)) (.slice (some ⟨i,o,none⟩) (chs.length+new.length) c):=by
       refine .mk (by rw [heapSet,if_pos rfl]) hcl hlen (fun _=>⟨hroom,by rw [setList_length];exact q2⟩) (fun h=>absurd h hcap) (by rw [setList_length];omega) ?_
       rw [hmul,setList_tail _ _ _ _ (by omega),List.flatten_append]
       exact (m7.mono mo1).append (hl.mono mo1)
      obtain ⟨w',k1,k2⟩:=r1.putHand hf hi hro d
      exact ⟨w',k1,after_set hi _ k2⟩
    ·refine ⟨⟨.slice (some ⟨s.next,0,none⟩) (chs.length+new.length) (capU+sz),[(s.next,some ⟨0,.cells ((vs.drop o).take (chs.length*sz)++l) e false⟩)],s.next+1⟩,?_,?_⟩
     ·rw [hk] at hsm hroom ⊢
      simp only [xappend,bleNat,decide_eq_false hcap,decide_eq_false hroom,hold]
      rw [bleNat] at hsm hby
      simp only [hsm,hby,Bool.and_self]
     ·obtain ⟨w',k1,k2⟩:=r.newOwn hf hP (e:=e) (vs:=(vs.drop o).take (chs.length*sz)++l) hcl hlen (by rw [List.length_append,hold2,hmul];exact Nat.le_refl _) (by
       rw [List.take_of_length_le (by rw [List.length_append,hold2,hmul];exact Nat.le_refl _),List.flatten_append]
       exact m7.append hl) d
      exact ⟨w',k1,after_new _ k2 mu_self⟩
theorem s_appRef (r:Rl Pr μ w a σ ax s) (hP:∀i,Pr i→i<s.next) {e size bytes:Nat} {x:Operand} {new:List (List TV)} {l:List Value} {v:TV} {k o sz n c:Nat} (hx:a.ev x=.ref k o sz n c) (h:tAppend a σ e size bytes x new=some (v,a',σ')) (hl:RVs s.get μ (Zo w Pr) new.flatten l) (d:Option Nat):
  ∃p,xappend s.get s.next e size bytes (ax.ev x) new.length l=some p∧Done Pr μ w ax s d v a' σ' p:=by
 simp only [tAppend,hx] at h
 split at h
 ·rename_i hemp
  have hnil:new=[]:=by simpa using hemp
  subst hnil
  cases h
  have h1:=r.plainOf hx rfl
  have hv:RV s.get μ (Zo w Pr) (.ref k o sz n c) (ax.ev x):=h1
  revert h1 hv;generalize ax.ev x=y;intro h1 hv;cases h1
  exact ⟨_,rfl,done_val r d hv⟩
 ·rename_i ver cs e' hemp hob
  split at h
  ·rename_i hb
   simp only [Bool.and_eq_true] at hb
   obtain ⟨⟨⟨⟨⟨⟨⟨b1,b2⟩,b3⟩,b4⟩,b5⟩,b6⟩,b7⟩,b8⟩:=hb
   have hsz:=beq_of b1
   have he:=beq_of b2
   subst hsz;subst he
   rw [bleNat] at b5
   have b5:=of_decide_eq_true b5
   rw [bltNat] at b4
   have b4:=of_decide_eq_true b4
   obtain ⟨q,hq⟩:∃q,new.length=q+1:=⟨new.length - 1,by omega⟩
   have h1:=r.plainOf hx rfl
   revert h1;generalize ax.ev x=y;intro h1;cases h1
   rename_i i hm hnc
   obtain ⟨i',vs,k1,k2,k3⟩:=r.objOf hob
   rw [hm] at k1;cases k1
   have hw:w (.obj k)=some i:=(r.wobj k).trans hm
   have hpl:=k3.plain b5 (by simpa using b6)
   have hld:=loadList_of k2 (o:=o) (n:=n*sz) (by rw [k3.len];exact b5)
   have hwr:writable s.get i e'=true:=by simp only [writable,k2,beqNat,decide_true]
   have b7':=b7
   have b8':=b8
   rw [bleNat] at b7 b8
   have hv2:RVs s.get μ (Zo w Pr) ((cs.drop o).take (n*sz)++new.flatten) ((vs.drop o).take (n*sz)++l):=hpl.append hl
   split at h
   ·rename_i hc
    have hc:=beq_of hc
    cases h
    have hcap:capU≤c:=by omega
    refine ⟨⟨.slice (some ⟨s.next,0,none⟩) (n+new.length) (capU+sz),[(i,none),(s.next,some ⟨0,.cells ((vs.drop o).take (n*sz)++l) e' false⟩)],s.next+1⟩,?_,?_⟩
    ·rw [hq] at b7 ⊢
     simp only [xappend,bleNat,decide_eq_true hcap,hld,b7,b8,hc,beqNat,decide_true,hwr,Bool.and_self]
     rw [decide_eq_true (show capU≤capU+sz by omega)]
    ·have mo1:=r.moOwn hw none
     have hne:∀p j,w p=some j→p≠.obj k→(s.upd [(i,none)] s.next).get j=s.get j:=fun p j e h=>by
      rw [heapSet,if_neg];rintro rfl;exact h (r.inj _ _ _ e hw)
     have r1:=r.objStep mo1 (r.toRs.setN (k:=k) mo1 (r.dmSet hw _) (Nat.le_refl _) (fun k' j hk' h=>by
      rcases h with h|⟨cc,h⟩
      ·exact hne _ _ h (by simpa using hk')
      ·exact hne _ _ h (by simp))) (fun _=>rfl) (fun _ _=>rfl) (fun t j h=>by
      rcases h with h|⟨cc,h⟩
      ·exact hne _ _ h (by simp)
      ·exact hne _ _ h (by simp))
     have hlen:(σ.set k none).length=σ.length:=List.length_set
     have r2:=r1.newObj (o:=⟨0,.cells ((cs.drop o).take (n*sz)++new.flatten) e'⟩) (b:=.cells ((vs.drop o).take (n*sz)++l) e' false) (s:=s.upd [(i,none)] s.next) hP (rb_cells (hv2.mono mo1))
     have r3:=r2.put d (tv:=.ref σ.length 0 sz (n+new.length) (capU+sz)) (v:=.slice (some ⟨s.next,0,none⟩) (n+new.length) (capU+sz)) (.inl (.ref (by rw [←hlen];exact r1.muNew _) (by have:=of_decide_eq_true b7;unfold small at this;unfold capU;omega)))
     refine ⟨_,_,r3,Nat.le_succ _,fun j hj hn=> ?_,fun p j e hj=> ?_,⟨_,rfl⟩⟩
     ·have h1:((s.upd [(i,none)] s.next).upd [(s.next,some ⟨0,.cells ((vs.drop o).take (n*sz)++l) e' false⟩)] (s.next+1)).get j=(s.upd [(i,none)] s.next).get j:=by
       rw [AS.upd_get];simp only [Hp.upd];exact Hp.set1_ne _ _ (by omega)
      refine Eq.trans h1 ?_
      rw [heapSet,if_neg];rintro rfl;exact hn _ hw
     ·exact newO_own p j (rel_le _ _ _ _ e) hj
   ·split at h
    ·rename_i hc hlt
     rw [bltNat] at hlt
     have hlt:=of_decide_eq_true hlt
     cases h
     have hcap:¬capU≤c:=by have:=of_decide_eq_true b7;unfold small at this;unfold capU;omega
     refine ⟨⟨.slice (some ⟨s.next,0,none⟩) (n+new.length) (capU+sz),[(s.next,some ⟨0,.cells ((vs.drop o).take (n*sz)++l) e' false⟩)],s.next+1⟩,?_,?_⟩
     ·rw [hq] at b7 hlt ⊢
      simp only [xappend,bleNat,decide_eq_false hcap,decide_eq_false (show ¬n+(q+1)≤c by omega),hld,b7,b8,Bool.and_self]
     ·have r2:=r.tick
      exact done_obj (o:=⟨0,.cells ((cs.drop o).take (n*sz)++new.flatten) e'⟩) (b:=.cells ((vs.drop o).take (n*sz)++l) e' false) r2 hP (rb_cells hv2) (tv:=.ref σ.length 0 sz (n+new.length) (capU+sz)) (fun g Z=>.ref (r.muNew _) (by have:=of_decide_eq_true b7;unfold small at this;unfold capU;omega)) d
    ·cases h
  ·cases h
 ·cases h
theorem s_app (r:Rl Pr μ w a σ ax s) (hP:∀i,Pr i→i<s.next) {e size bytes:Nat} {x:Operand} {new:List (List TV)} {l:List Value} {v:TV} (h:tAppend a σ e size bytes x new=some (v,a',σ')) (hl:RVs s.get μ (Zo w Pr) new.flatten l) (d:Option Nat):
  ∃p,xappend s.get s.next e size bytes (ax.ev x) new.length l=some p∧Done Pr μ w ax s d v a' σ' p:=by
 have hcopy:=h
 unfold tAppend at h
 split at h
 ·rename_i m c hx
  split at h
  ·rename_i hb
   simp only [Bool.and_eq_true] at hb
   obtain ⟨⟨⟨⟨b1,b2⟩,b3⟩,b4⟩,b5⟩:=hb
   cases h
   cases m with
   |fz=>simp [Md.app] at b1
   |nl=>
    have h1:=r.plainOf hx rfl
    have ho:isOwn (a.ev x)=false:=by rw [hx];rfl
    rw [taken_same ho]
    revert h1;generalize ax.ev x=y;intro h1;cases h1
    cases new with
    |nil=>exact ⟨_,rfl,done_val r.tick d .nl⟩
    |cons c0 new=>
     have hll:l.length=(c0::new).length*size:=by rw [hl.length,flat_len b3]
     refine ⟨⟨.slice (some ⟨s.next,0,none⟩) (0+(new.length+1)) (capU+size),[(s.next,some ⟨0,.cells ([]++l) e false⟩)],s.next+1⟩,?_,?_⟩
     ·simp only [List.length_nil] at b4
      rw [bleNat] at b4 b5
      simp only [List.length_cons] at b4 ⊢
      simp only [xappend,bleNat,decide_eq_false (show ¬capU≤0 by unfold capU;omega),decide_eq_false (show ¬0+(new.length+1)≤0 by omega),b4,b5,Bool.and_self]
     ·obtain ⟨w',k1,k2⟩:=r.tick.newOwn (fresh_tick r) hP (e:=e) (sz:=size) (n:=0+(new.length+1)) (vs:=[]++l) b3 (by simp) (by simp at hll ⊢;omega) (by simp only [List.nil_append];rw [List.take_of_length_le (by simp at hll ⊢;omega)];exact hl) d
      exact ⟨μ,w',k1,after_new _ k2 mu_self⟩
   |own e' s'=>
    simp only [Md.app,Bool.and_eq_true] at b1
    have he:=beq_of b1.1
    have hs:=beq_of b1.2
    subst he;subst hs
    have ho:isOwn (a.ev x)=true:=by rw [hx];rfl
    obtain ⟨t,rfl⟩:=isOwn_tmp ho
    obtain ⟨i,h1,h2,h3,h4⟩:=r.takeTmp ho
    rw [hx] at h2
    rw [taken_own ho]
    obtain ⟨p,k1,w',k2,k3⟩:=h3.tick.appOwn (fresh_tick h3) hP ((mv_to w (by simp)).trans h1) h2 b3 (hl.mono (Mo.mv _ _)) b4 b5 d
    have hap:apm e' s' (.own e' s') new=.own e' s':=by cases new<;>rfl
    refine ⟨p,k1,μ,w',by rw [hap];exact k2,k3.le,fun j hj hn=>k3.keep j hj (fun q e=> ?_),fun q j e hj=> ?_,k3.mu⟩
    ·obtain ⟨q',e⟩:=mv_owned e;exact hn q' e
    ·obtain ⟨q',e⟩:=k3.own q j e hj;exact mv_owned e
  ·cases h
 ·rename_i hx;exact s_appRef r hP hx hcopy hl d
 ·cases h
theorem tAppend_ok {e size bytes:Nat} {x:Operand} {new:List (List TV)} {v:TV} (h:tAppend a σ e size bytes x new=some (v,a',σ')):okSz size new=true:=by
 unfold tAppend at h
 split at h
 ·split at h
  ·rename_i hb;simp only [Bool.and_eq_true] at hb;exact hb.1.1.2
  ·cases h
 ·split at h
  ·rename_i hemp
   have hnil:new=[]:=by simpa using hemp
   subst hnil;rfl
  ·split at h
   ·rename_i hb;simp only [Bool.and_eq_true] at hb;exact hb.1.1.1.1.1.2
   ·cases h
  ·cases h
 ·cases h
theorem s_appNew (r:Rl Pr μ w a σ ax s) (hP:∀i,Pr i→i<s.next) {e size bytes:Nat} {x:Operand} {new:List (List TV)} {l:List Value} {v:TV} (h:tAppNew a σ e size bytes x new=some (v,a',σ')) (hl:RVs s.get μ (Zo w Pr) new.flatten l) (d:Option Nat):
  ∃p,xappend s.get s.next e size bytes (ax.ev x) new.length l=some p∧Done Pr μ w ax s d v a' σ' p:=by
 unfold tAppNew at h
 split at h
 ·rename_i c0 new' hx
  split at h
  ·rename_i hb
   simp only [Bool.and_eq_true] at hb
   obtain ⟨⟨b3,b4⟩,b5⟩:=hb
   cases h
   have h1:=r.plainOf hx rfl
   revert h1;generalize ax.ev x=y;intro h1;cases h1
   rw [bleNat] at b4 b5
   have hsm:=of_decide_eq_true b4
   refine ⟨⟨.slice (some ⟨s.next,0,none⟩) (0+(new'.length+1)) (capU+size),[(s.next,some ⟨0,.cells ([]++l) e false⟩)],s.next+1⟩,?_,?_⟩
   ·have b4':decide (0+(new'.length+1)≤small)=true:=by rw [Nat.zero_add];exact b4
    simp only [List.length_cons] at b4 ⊢
    simp only [xappend,bleNat,decide_eq_false (show ¬capU≤0 by unfold capU;omega),decide_eq_false (show ¬0+(new'.length+1)≤0 by omega),b4',b5,Bool.and_self]
   ·have r2:=r.tick
    rw [Nat.zero_add]
    exact done_obj (o:=⟨0,.cells (c0::new').flatten e⟩) (b:=.cells ([]++l) e false) r2 hP (rb_cells hl) (tv:=.ref σ.length 0 size (c0::new').length (capU+size)) (fun g Z=>.ref (r.muNew _) (by unfold small at hsm;unfold capU;simp only [List.length_cons] at hsm ⊢;omega)) d
  ·cases h
 ·exact s_app r hP h hl d
theorem tAppNew_ok {e size bytes:Nat} {x:Operand} {new:List (List TV)} {v:TV} (h:tAppNew a σ e size bytes x new=some (v,a',σ')):okSz size new=true:=by
 unfold tAppNew at h
 split at h
 ·split at h
  ·rename_i hb;simp only [Bool.and_eq_true] at hb;exact hb.1.1
  ·cases h
 ·exact tAppend_ok h
theorem s_append (md b:Nat) (d:Option Nat) (e size bytes:Nat) (x y:Operand):SimP md b d (.append e size bytes x y):=by
 intro Pr μ w a σ ax s v a' σ' h r hP
 simp only [tdo] at h
 simp only [xprim]
 split at h
 ·rename_i new hs
  split at h
  ·obtain ⟨l,k1,k2⟩:=r.src hs (tAppNew_ok h)
   rw [k1]
   exact s_appNew r hP h k2 d
  ·obtain ⟨l,k1,k2⟩:=r.src hs (tAppend_ok h)
   rw [k1]
   exact s_app r hP h k2 d
 ·cases h
theorem s_appendZ (md b:Nat) (d:Option Nat) (e:Nat) (z:List Value) (bytes:Nat) (x n:Operand):SimP md b d (.appendZ e z bytes x n):=by
 intro Pr μ w a σ ax s v a' σ' h r hP
 simp only [tdo] at h
 simp only [xprim]
 split at h
 ·rename_i n' hn
  have h1:=r.plainOf hn rfl
  revert h1;generalize ax.ev n=y;intro h1;cases h1
  split at h
  ·rename_i hb
   simp only [hb]
   have:=s_app r hP h (l:=rep z n') (by rw [flat_rep];exact repT_rel (RVs.ofVs _ _ _ z) n') d
   rwa [List.length_replicate] at this
  ·cases h
 ·cases h
end
end Go.Xt
end
section
namespace Go.Xt
open Go Go.Xe
section
variable {Pr:Nat→Prop} {μ μ':List Nat} {w w':Own} {a a':TAct} {σ σ':Sto} {ax ax':Xe.Act} {s s':AS}
theorem srcCells_slice {g:Hp} {size n:Nat} {v:Value} {l:List Value} (h:srcCells g size v=some (n,l)) (hs:∀st,v≠.string st) (hl:l.length=n*size):
  ∃b c,v=.slice b n c∧∀k,k≤n→0<k→∃a,b=some a∧loadList g a (k*size)=some (l.take (k*size)):=by
 unfold srcCells at h
 split at h
 ·split at h
  ·cases h;exact ⟨_,_,rfl,fun k h1 h2=>by omega⟩
  ·cases h
 ·rename_i a n0 c
  split at h
  ·cases h;exact ⟨_,_,rfl,fun k h1 h2=>by omega⟩
  ·rename_i n1
   split at h
   ·rename_i l0 hld
    cases h
    refine ⟨_,_,rfl,fun k h1 h2=>⟨a,rfl,?_⟩⟩
    obtain ⟨b,o,sp⟩:=a
    cases sp with
    |some _=>simp [loadList] at hld
    |none=>
     simp only [loadList] at hld ⊢
     split at hld
     ·rename_i ver vs e ro hg
      split at hld
      ·rename_i hle
       cases hld
       rw [bleNat] at hle
       have hle:=of_decide_eq_true hle
       have hmul:k*size≤(n1+1)*size:=Nat.mul_le_mul_right size h1
       rw [bleNat,decide_eq_true (show o+k*size≤vs.length by omega)]
       simp only [Option.some.injEq,List.take_take]
       rw [Nat.min_eq_left hmul]
      ·cases hld
     ·cases hld
   ·cases h
 ·rename_i st;exact absurd rfl (hs st)
 ·cases h
theorem s_copy (md b:Nat) (d:Option Nat) (size:Nat) (x y:Operand):SimP md b d (.copy size x y):=by
 intro Pr μ w a σ ax s v a' σ' h r hP
 simp only [tdo] at h
 split at h
 ·rename_i src hst hsrc
  unfold tCopy at h
  split at h
  ·rename_i k o sz n c hx
   split at h
   ·rename_i ver cs e hob
    split at h
    ·rename_i hb
     simp only [Bool.and_eq_true] at hb
     obtain ⟨⟨⟨b1,b2⟩,b3⟩,b4⟩:=hb
     have hsz:=beq_of b1
     subst hsz
     rw [bleNat] at b2
     have b2:=of_decide_eq_true b2
     have h1:=r.plainOf hx rfl
     obtain ⟨l,k1,k2⟩:=r.src hsrc b3
     have hll:l.length=src.length*sz:=by rw [k2.length,flat_len b3]
     have hns:∀st,ax.ev y≠.string st:=by
      intro st hst'
      have:∀tv,srcT a σ sz tv=some src→isStr tv=false→a.ev y=tv→False:=by
       intro tv q1 q2 q3
       cases tv<;>simp only [srcT] at q1<;>first|(cases q1;done)|(cases q2;done)|skip
       case sl m c=>
        cases q1
        cases ho:isOwn (a.ev y) with
        |false=>
         have:=r.plainOf q3 (by rw [q3] at ho;cases m<;>first|rfl|(simp [isOwn] at ho))
         rw [hst'] at this;cases this
        |true=>
         obtain ⟨t,rfl⟩:=isOwn_tmp ho
         obtain ⟨i,h1,h2⟩:=r.ownOf ho
         rw [q3,hst'] at h2;cases h2
       case via p ck=>
        split at q1
        ·rename_i hc
         have ha:a.at y=.via p ck:=by unfold TAct.at;rw [q3]
         obtain ⟨i,e,sz,h1,h2⟩:=r.viaOf (r.atAl ha rfl) hc q1
         rw [hst'] at h2;cases h2
        ·cases q1
       case ref=>
        have:=r.plainOf q3 rfl
        rw [hst'] at this;cases this
      exact this _ hsrc hst rfl
     obtain ⟨bb,cc,hv,hld⟩:=srcCells_slice k1 hns hll
     revert h1
     simp only [xprim]
     generalize ax.ev x=yy
     intro h1;cases h1
     rename_i i hm hnc
     obtain ⟨i',vs,q1,q2,q3⟩:=r.objOf hob
     rw [hm] at q1;cases q1
     rw [hv]
     simp only
     cases hmin:Nat.min src.length n with
     |zero=>
      rw [hmin] at h
      cases h
      exact ⟨_,rfl,done_val r d (.int _ _)⟩
     |succ m=>
      rw [hmin] at h
      cases h
      have hm1:m+1≤src.length:=by rw [←hmin];exact Nat.min_le_left _ _
      have hm2:m+1≤n:=by rw [←hmin];exact Nat.min_le_right _ _
      obtain ⟨a0,hbb,hld2⟩:=hld (m+1) hm1 (by omega)
      subst hbb
      have hlt:(l.take ((m+1)*sz)).length=(m+1)*sz:=by
       rw [List.length_take,hll]
       have:=Nat.mul_le_mul_right sz hm1;omega
      have hmul:(m+1)*sz≤n*sz:=Nat.mul_le_mul_right sz hm2
      simp only [hld2,storeList_of q2 (show o+(l.take ((m+1)*sz)).length≤vs.length by rw [hlt,q3.len];omega)]
      refine ⟨_,rfl,?_⟩
      have hl2:RVs s.get μ (Zo w Pr) (src.take (m+1)).flatten (l.take ((m+1)*sz)):=by
       rw [flat_take b3];exact k2.take _
      have st:=r.storeObj (o:=o) hm q2 q3 hl2 (by rw [←hl2.length,hlt];omega)
      have hw:w (.obj k)=some i:=(r.wobj k).trans hm
      exact ⟨μ,_,st.put d (.inl (.int _ _)),after_set hw _ (fun p j e=>⟨p,relO_le _ _ _ _ _ _ (rel_le _ _ _ _ e)⟩)⟩
    ·cases h
   ·cases h
  ·cases h
 ·cases h
theorem bytes_rel {g:Hp} {Z:Nat→Prop}:∀{chs:List (List TV)} {bs:List UInt8} {l:List Value},bytesT chs=some bs→RVs g μ Z chs.flatten l→okSz 1 chs=true∧toBytes l=some bs:=by
 intro chs
 induction chs with
 |nil=>intro bs l h hv;simp only [bytesT] at h;cases h;cases hv;exact ⟨rfl,rfl⟩
 |cons c chs ih=>
  intro bs l h hv
  unfold bytesT at h
  split at h
  ·rename_i heq;cases heq
  ·rename_i n r heq
   cases heq
   split at h
   ·rename_i bs' hb
    cases h
    simp only [List.flatten_cons,List.cons_append,List.nil_append] at hv
    cases hv with
    |cons h1 h2=>
     cases h1
     obtain ⟨k1,k2⟩:=ih hb h2
     refine ⟨?_,by simp only [toBytes,k2]⟩
     simp only [okSz,List.all_cons,Bool.and_eq_true]
     exact ⟨rfl,k1⟩
   ·cases h
  ·cases h
def b2s (g:Hp) (nx:Nat) (v:Value):Option PR:=
 match v with
 |.slice none _ _=>some ⟨.string ⟨#[]⟩,[],nx⟩
 |.slice (some a) n _=>match loadList g a n with
  |some l=>match toBytes l with
   |some bs=>some ⟨.string ⟨bs.toArray⟩,[],nx⟩
   |none=>none
  |none=>none
 |_=>none
theorem s_bytesToStr (md b:Nat) (d:Option Nat) (x:Operand):SimP md b d (.bytesToStr x):=by
 intro Pr μ w a σ ax s v a' σ' h r hP
 simp only [tdo] at h
 simp only [xprim]
 split at h
 ·rename_i chs hs
  split at h
  ·rename_i bs hb
   cases h
   have own:∀{i:Nat} {e sz:Nat} {v:Value},RO s.get μ (Zo w Pr) i (.sl (.own e sz) chs) v→∃p,b2s s.get s.next v=some p∧Done Pr μ w ax s d (.str ⟨bs.toArray⟩) a σ p:=by
    intro i e sz v h
    cases h with
    |mk m1 m2 m3 m4 m5 m6 m7=>
     obtain ⟨q1,q2⟩:=bytes_rel hb m7
     rcases sz_of m2 q1 with rfl|rfl
     ·simp at m3;subst m3
      simp at m6
      simp only [bytesT] at hb;cases hb
      simp only [b2s,loadList_of m1 (n:=0) (by omega),List.take_zero,toBytes]
      exact ⟨_,rfl,done_val r d (.str _)⟩
     ·simp only [Nat.mul_one] at m6 m7 q2
      simp only [b2s,loadList_of m1 m6,q2]
      exact ⟨_,rfl,done_val r d (.str _)⟩
   unfold bytesSrc at hs
   split at hs
   ·cases hs
   ·rename_i m c hno hx
    cases hs
    cases ho:isOwn (a.ev x) with
    |true=>
     obtain ⟨t,rfl⟩:=isOwn_tmp ho
     obtain ⟨i,h1,h2⟩:=r.ownOf ho
     cases m<;>first|(rw [hx] at ho;cases ho;done)|skip
     rw [hx] at h2
     exact own h2
    |false=>
     have h1:=r.plainOf hx (by rw [hx] at ho;cases m<;>first|rfl|(simp [isOwn] at ho))
     revert h1;generalize ax.ev x=y;intro h1
     cases h1 with
     |fz0=>exact absurd rfl (hno rfl)
     |nl=>
      simp only [bytesT] at hb;cases hb
      exact ⟨_,rfl,done_val r d (.str _)⟩
     |fz z hg ok hn hc hu hle hv=>
      obtain ⟨q1,q2⟩:=bytes_rel hb hv
      rcases sz_of ok q1 with rfl|rfl
      ·exact absurd rfl (hno rfl)
      ·simp only [Nat.mul_one] at hle hv q2
       simp only [loadList_of hg hle,q2]
       exact ⟨_,rfl,done_val r d (.str _)⟩
   ·rename_i p ck hx
    split at hs
    ·rename_i hc
     have ha:a.at x=.via p ck:=by unfold TAct.at;rw [hx]
     obtain ⟨i,e,sz,h1,h2⟩:=r.viaOf (r.atAl ha rfl) hc hs
     exact own h2
    ·cases hs
   ·cases hs
  ·cases h
 ·cases h
theorem tdo_sound (md b:Nat) (d:Option Nat) (op:XOp):SimP md b d op:=by
 cases op with
 |move x=>exact s_move md b d x
 |keep x=>exact s_keep md b d x
 |pick c x y=>exact s_pick md b d c x y
 |alloc e z=>exact s_alloc md b d e z
 |box e x=>exact s_box md b d e x
 |build z ps=>exact s_build md b d z ps
 |buildSlice e size z len ps=>exact s_buildSlice md b d e size z len ps
 |load1 p=>exact s_load1 md b d p
 |loadN n p=>exact s_loadN md b d n p
 |store n p x=>exact s_store md b d n p x
 |nilCheck x=>exact s_nilCheck md b d x
 |bin op x y=>exact s_bin md b d op x y
 |eq k neg x y=>exact s_eq md b d k neg x y
 |un op x=>exact s_un md b d op x
 |toInt k x=>exact s_toInt md b d k x
 |bytesToStr x=>exact s_bytesToStr md b d x
 |strToBytes e x=>exact s_strToBytes md b d e x
 |mkIface t x=>exact s_mkIface md b d t x
 |mkFunc fn first cap=>exact s_mkFunc md b d fn first cap
 |mkMap=>exact s_mkMap md b d
 |mkSlice e z bytes l c=>exact s_mkSlice md b d e z bytes l c
 |sliceStr x lo hi=>exact s_sliceStr md b d x lo hi
 |slice size x lo hi mx=>exact s_slice md b d size x lo hi mx
 |sliceArr n size x lo hi mx=>exact s_sliceArr md b d n size x lo hi mx
 |addr off x=>exact s_addr md b d off x
 |field1 off x=>exact s_field1 md b d off x
 |fieldN off n x=>exact s_fieldN md b d off n x
 |indexAddr size x i=>exact s_indexAddr md b d size x i
 |indexArrAddr len size x i=>exact s_indexArrAddr md b d len size x i
 |indexStr x i=>exact s_indexStr md b d x i
 |index1 len x i=>exact s_index1 md b d len x i
 |indexN len size x i=>exact s_indexN md b d len size x i
 |lookup k z m x ok=>exact s_lookup md b d k z m x ok
 |mapUpdate k m x v=>exact s_mapUpdate md b d k m x v
 |assertT t z x ok=>exact s_assertT md b d t z x ok
 |extract x i=>exact s_extract md b d x i
 |lenStr x=>exact s_lenStr md b d x
 |lenSlice x=>exact s_lenSlice md b d x
 |lenArr n=>exact s_lenArr md b d n
 |lenMap x=>exact s_lenMap md b d x
 |capSlice x=>exact s_capSlice md b d x
 |append e size bytes x y=>exact s_append md b d e size bytes x y
 |appendZ e z bytes x n=>exact s_appendZ md b d e z bytes x n
 |copy size x y=>exact s_copy md b d size x y
 |maxI xs=>exact s_maxI md b d xs
 |minI xs=>exact s_minI md b d xs
 |rangeStr x=>intro Pr μ w a σ ax s v a' σ' h r hP;simp [tdo] at h
 |nextStr x=>intro Pr μ w a σ ax s v a' σ' h r hP;simp [tdo] at h
 |call f args=>intro Pr μ w a σ ax s v a' σ' h r hP;simp [tdo] at h
 |callV x args=>intro Pr μ w a σ ax s v a' σ' h r hP;simp [tdo] at h
 |panic x=>intro Pr μ w a σ ax s v a' σ' h r hP;simp [tdo] at h
 |defer x args=>intro Pr μ w a σ ax s v a' σ' h r hP;simp [tdo] at h
 |recover=>intro Pr μ w a σ ax s v a' σ' h r hP;simp [tdo] at h
end
end Go.Xt
end
section
namespace Go.Xt
open Go Go.Xe
def sto (w:Own):Own
 |.obj k=>w (.obj k)
 |.cell k c=>w (.cell k c)
 |_=>none
def Pr2 (w:Own) (Pr:Nat→Prop) (i:Nat):Prop:=Pr i∨(∃t,w (.tmp t)=some i)∨(∃t o,w (.tcell t o)=some i)∨∃h,w (.hand h)=some i
structure OnlyS (w:Own):Prop where
 tmp:∀t,w (.tmp t)=none
 tcell:∀t o,w (.tcell t o)=none
 hand:∀h,w (.hand h)=none
def both (w w':Own):Own
 |.obj k=>w' (.obj k)
 |.cell k c=>w' (.cell k c)
 |p=>w p
theorem zo_sto (w:Own) (Pr:Nat→Prop):Zo (sto w) (Pr2 w Pr)=Zo w Pr:=by
 funext i
 apply propext
 constructor
 ·rintro ⟨h1,h2⟩
  refine ⟨fun p e=> ?_,fun h=>h2 (.inl h)⟩
  cases p with
  |tmp t=>exact h2 (.inr (.inl ⟨t,e⟩))
  |tcell t o=>exact h2 (.inr (.inr (.inl ⟨t,o,e⟩)))
  |hand h=>exact h2 (.inr (.inr (.inr ⟨h,e⟩)))
  |obj k=>exact h1 (.obj k) e
  |cell k c=>exact h1 (.cell k c) e
 ·rintro ⟨h1,h2⟩
  refine ⟨fun p e=> ?_,?_⟩
  ·cases p<;>first|(cases e;done)|exact h1 _ e
  ·rintro (h|⟨t,h⟩|⟨t,o,h⟩|⟨t,h⟩)
   ·exact h2 h
   ·exact h1 _ h
   ·exact h1 _ h
   ·exact h1 _ h
theorem sto_le (w:Own) (p:Pc) (i:Nat) (h:sto w p=some i):w p=some i:=by
 cases p<;>first|exact h|cases h
theorem sto_only (w:Own):OnlyS (sto w):=⟨fun _=>rfl,fun _ _=>rfl,fun _=>rfl⟩
section
variable {Pr:Nat→Prop} {μ μ':List Nat} {w w':Own} {a a':TAct} {σ σ':Sto} {ax ax':Xe.Act} {s s':AS}
theorem Rs.stoOf (r:Rs Pr μ w σ s):Rs (Pr2 w Pr) μ (sto w) σ s:=by
 refine ⟨r.dm,r.len,fun p q i e f=>r.inj p q i (sto_le w p i e) (sto_le w q i f),fun p i e h=> ?_,fun p i e=>r.live p i (sto_le w p i e),r.wobj,r.out,fun k o e=> ?_,r.full⟩
 ·have hw:=sto_le w p i e
  rcases h with h|⟨t,h⟩|⟨t,o,h⟩|⟨t,h⟩
  ·exact r.pr p i hw h
  ·have:=r.inj _ _ _ hw h;subst this;cases e
  ·have:=r.inj _ _ _ hw h;subst this;cases e
  ·have:=r.inj _ _ _ hw h;subst this;cases e
 ·have:=r.obj k o e
  obtain ⟨i,b,h1,h2,h3⟩:=this
  refine ⟨i,b,h1,h2,?_⟩
  rw [zo_sto]
  revert h3
  cases o.body<;>cases b<;>exact id
theorem After.refl (w:Own) (μ:List Nat) (s:AS):After w w μ μ s s:=⟨Nat.le_refl _,fun _ _ _=>rfl,fun p i e _=>⟨p,e⟩,mu_self⟩
theorem After.trans {w1 w2:Own} {μ1 μ2:List Nat} {s1 s2:AS} (h:After w w1 μ μ1 s s1) (k:After w1 w2 μ1 μ2 s1 s2):After w w2 μ μ2 s s2:=by
 refine ⟨Nat.le_trans h.le k.le,fun i hi hn=> ?_,fun p i e hi=> ?_,?_⟩
 ·rw [k.keep i (Nat.lt_of_lt_of_le hi h.le) (fun p e=>by obtain ⟨q,e⟩:=h.own p i e hi;exact hn q e)]
  exact h.keep i hi hn
 ·obtain ⟨q,e⟩:=k.own p i e (Nat.lt_of_lt_of_le hi h.le)
  exact h.own q i e hi
 ·obtain ⟨ν,h⟩:=h.mu
  obtain ⟨ν',k⟩:=k.mu
  exact ⟨ν++ν',by rw [k,h,List.append_assoc]⟩
theorem After.sub {w0:Own} (h:After w w' μ μ' s s') (hs:∀p i,w p=some i→w0 p=some i):After w0 w' μ μ' s s':=
 ⟨h.le,fun i hi hn=>h.keep i hi (fun p e=>hn p (hs p i e)),fun p i e hi=>by obtain ⟨q,e⟩:=h.own p i e hi;exact ⟨q,hs q i e⟩,h.mu⟩
theorem After.mo (h:After w w' μ μ' s s') (dm:Dm s):Mo s.get μ (Zo w Pr) s'.get μ' (Zo w' Pr):=by
 refine ⟨fun k i e=> ?_,fun i ver vs e ro z hg=> ?_⟩
 ·obtain ⟨ν,rfl⟩:=h.mu
  rw [List.getElem?_append_left (List.getElem?_eq_some_iff.1 e).1];exact e
 ·have hi:i<s.next:=by
   by_cases h:i<s.next
   ·exact h
   ·rw [dm i (by omega)] at hg;cases hg
  refine ⟨⟨fun p e=> ?_,z.2⟩,(h.keep i hi z.1).trans hg⟩
  obtain ⟨q,e⟩:=h.own p i e hi
  exact z.1 q e
def REnd (g:Hp) (μ:List Nat) (Z:Nat→Prop):TEnd→Xe.End→Prop
 |.ret v,.ret v'=>RV g μ Z v v'
 |.panic v,.panic v'=>RV g μ Z v v'
 |_,_=>False
structure CallOk (C:TCallee) (X:Xe.Callee):Prop where
 call:∀{b f:Nat} {args:List TV} {σ:Sto} {e:TEnd} {σ':Sto},C b f args σ=some (e,σ')→∀{Pr:Nat→Prop} {μ:List Nat} {w:Own} {s:AS} {args':List Value},Rs Pr μ w σ s→OnlyS w→(∀i,Pr i→i<s.next)→RVs s.get μ (Zo w Pr) args args'→
  ∃e' s' μ' w',X f args' s=some (e',s')∧Rs Pr μ' w' σ' s'∧OnlyS w'∧After w w' μ μ' s s'∧REnd s'.get μ' (Zo w' Pr) e e'
theorem both_zo (r:Rs (Pr2 w Pr) μ' w' σ' s') (ho:OnlyS w') (hP:∀i,Pr i→Pr2 w Pr i):Zo (both w w') Pr=Zo w' (Pr2 w Pr):=by
 funext i
 apply propext
 constructor
 ·rintro ⟨h1,h2⟩
  refine ⟨fun p e=> ?_,?_⟩
  ·cases p with
   |tmp t=>rw [ho.tmp] at e;cases e
   |tcell t o=>rw [ho.tcell] at e;cases e
   |hand h=>rw [ho.hand] at e;cases e
   |obj k=>exact h1 (.obj k) e
   |cell k c=>exact h1 (.cell k c) e
  ·rintro (h|⟨t,h⟩|⟨t,o,h⟩|⟨t,h⟩)
   ·exact h2 h
   ·exact h1 (.tmp t) h
   ·exact h1 (.tcell t o) h
   ·exact h1 (.hand t) h
 ·rintro ⟨h1,h2⟩
  refine ⟨fun p e=> ?_,fun h=>h2 (.inl h)⟩
  cases p with
  |tmp t=>exact h2 (.inr (.inl ⟨t,e⟩))
  |tcell t o=>exact h2 (.inr (.inr (.inl ⟨t,o,e⟩)))
  |hand h=>exact h2 (.inr (.inr (.inr ⟨h,e⟩)))
  |obj k=>exact h1 (.obj k) e
  |cell k c=>exact h1 (.cell k c) e
theorem Rl.back (r:Rl Pr μ w a σ ax s) (hP:∀i,Pr i→i<s.next) (h2:Rs (Pr2 w Pr) μ' w' σ' s') (h3:OnlyS w') (h4:After (sto w) w' μ μ' s s'):
  Rl Pr μ' (both w w') a.tick σ' ax s'∧After w (both w w') μ μ' s s'∧Zo (both w w') Pr=Zo w' (Pr2 w Pr)∧(∀i,i<s.next→(∀k,w (.obj k)≠some i)→(∀k c,w (.cell k c)≠some i)→s'.get i=s.get i):=by
 have hP2:∀i,Pr2 w Pr i→i<s.next:=by
  rintro i (h|⟨t,h⟩|⟨t,o,h⟩|⟨t,h⟩)
  ·exact hP i h
  ·exact r.live _ _ h
  ·exact r.live _ _ h
  ·exact r.live _ _ h
 have hz:=both_zo (w:=w) (Pr:=Pr) h2 h3 (fun i h=>.inl h)
 have hle:∀p i,both w w' p=some i→(w' p=some i∧¬Pr2 w Pr i)∨(w p=some i∧Pr2 w Pr i):=by
  intro p i e
  cases p with
  |tmp t=>exact .inr ⟨e,.inr (.inl ⟨t,e⟩)⟩
  |tcell t o=>exact .inr ⟨e,.inr (.inr (.inl ⟨t,o,e⟩))⟩
  |hand h=>exact .inr ⟨e,.inr (.inr (.inr ⟨h,e⟩))⟩
  |obj k=>exact .inl ⟨e,h2.pr _ _ e⟩
  |cell k c=>exact .inl ⟨e,h2.pr _ _ e⟩
 have hkeep:∀i,i<s.next→(∀k,w (.obj k)≠some i)→(∀k c,w (.cell k c)≠some i)→s'.get i=s.get i:=fun i hi ho hc=>h4.keep i hi (fun p e=>by
  cases p with
  |obj k=>exact ho k e
  |cell k c=>exact hc k c e
  |tmp t=>cases e
  |tcell t o=>cases e
  |hand h=>cases e)
 have hpk:∀i,Pr2 w Pr i→i<s.next→s'.get i=s.get i:=fun i hp hi=>h4.keep i hi (fun p e=>r.toRs.stoOf.pr p i e hp)
 have hown:∀p i,both w w' p=some i→i<s.next→∃q,w q=some i:=fun p i e hi=>by
  rcases hle p i e with ⟨h,_⟩|⟨h,_⟩
  ·obtain ⟨q,hq⟩:=h4.own p i h hi;exact ⟨q,sto_le w q i hq⟩
  ·exact ⟨p,h⟩
 have haft:After w (both w w') μ μ' s s':=⟨h4.le,fun i hi hn=>h4.keep i hi (fun p e=>hn p (sto_le w p i e)),hown,h4.mu⟩
 have rs:Rs Pr μ' (both w w') σ' s':=by
  refine ⟨h2.dm,h2.len,fun p q i e f=> ?_,fun p i e=> ?_,fun p i e=> ?_,h2.wobj,h2.out,fun k o e=> ?_,h2.full⟩
  ·rcases hle p i e with ⟨k1,k2⟩|⟨k1,k2⟩<;>rcases hle q i f with ⟨q1,q2⟩|⟨q1,q2⟩
   ·exact h2.inj p q i k1 q1
   ·exact absurd q2 k2
   ·exact absurd k2 q2
   ·exact r.inj p q i k1 q1
  ·rcases hle p i e with ⟨k1,k2⟩|⟨k1,k2⟩
   ·exact fun h=>k2 (.inl h)
   ·exact r.pr p i k1
  ·rcases hle p i e with ⟨k1,k2⟩|⟨k1,k2⟩
   ·exact h2.live p i k1
   ·exact Nat.lt_of_lt_of_le (hP2 i k2) h4.le
  ·obtain ⟨i,b,q1,q2,q3⟩:=h2.obj k o e
   refine ⟨i,b,q1,q2,?_⟩
   rw [hz]
   revert q3
   cases o.body<;>cases b<;>exact id
 exact ⟨r.step (haft.mo r.dm) rs (Nat.lt_succ_self _) (fun t=>.inl ⟨rfl,rfl,rfl,fun _=>rfl,fun i e=>hpk i (.inr (.inl ⟨t,e⟩)) (r.live _ _ e),fun o i e=>hpk i (.inr (.inr (.inl ⟨t,o,e⟩))) (r.live _ _ e)⟩) ⟨rfl,rfl⟩,haft,hz,hkeep⟩
theorem Rl.hP2 (r:Rl Pr μ w a σ ax s) (hP:∀i,Pr i→i<s.next):∀i,Pr2 w Pr i→i<s.next:=by
 rintro i (h|⟨t,h⟩|⟨t,o,h⟩|⟨t,h⟩)
 ·exact hP i h
 ·exact r.live _ _ h
 ·exact r.live _ _ h
 ·exact r.live _ _ h
theorem Rl.call {C:TCallee} {X:Xe.Callee} (hC:CallOk C X) (r:Rl Pr μ w a σ ax s) (hP:∀i,Pr i→i<s.next) {b f:Nat} {vs:List TV} {e:TEnd} (h:C b f vs σ=some (e,σ')) {args':List Value} (ha:RVs s.get μ (Zo w Pr) vs args'):
  ∃e' s' μ' w',X f args' s=some (e',s')∧Rl Pr μ' w' a.tick σ' ax s'∧After w w' μ μ' s s'∧REnd s'.get μ' (Zo w' Pr) e e'∧(∀i,i<s.next→(∀k,w (.obj k)≠some i)→(∀k c,w (.cell k c)≠some i)→s'.get i=s.get i):=by
 obtain ⟨e',s',μ',w',h1,h2,h3,h4,h5⟩:=hC.call h r.toRs.stoOf (sto_only w) (r.hP2 hP) (by rw [zo_sto];exact ha)
 obtain ⟨q1,q2,q3,q4⟩:=r.back hP h2 h3 h4
 exact ⟨e',s',μ',both w w',h1,q1,q2,by rw [q3];exact h5,q4⟩
theorem undT_val {g:Hp} {Z:Nat→Prop} {v:Value} (h:RV g μ Z undT v):v=.tuple #[]:=by
 cases h with
 |tuple h=>
  rename_i l
  cases l;cases h;rfl
theorem Rl.wanted (r:Rl Pr μ w a σ ax s) {g:Option (Nat×Bool)} {c:Bool} (h:wantedT a g=some c):wantedX ax g=c:=by
 cases g with
 |none=>simp only [wantedT,Option.some.injEq] at h;exact h
 |some p=>
  obtain ⟨t,b⟩:=p
  have ht:=r.plain (x:=.tmp t)
  simp only [wantedT] at h
  simp only [wantedX]
  simp only [TAct.ev,Act.ev] at ht
  cases hq:a.tm.get t with
  |none=>
   rw [hq] at h ht
   simp only [Option.some.injEq] at h
   subst h
   have:=undT_val (ht rfl)
   revert this
   cases ax.tm.get t with
   |none=>intro _;rfl
   |some v=>intro this;simp only at this;subst this;rfl
  |some tv=>
   rw [hq] at h ht
   simp only at h ht
   split at h
   ·rename_i c' heq
    cases heq;cases h
    have:=ht rfl
    revert this
    cases ax.tm.get t with
    |none=>intro this;cases this
    |some v=>intro this;cases this;rfl
   ·rename_i heq
    cases heq;cases h
    have:=undT_val (ht rfl)
    revert this
    cases ax.tm.get t with
    |none=>intro _;rfl
    |some v=>intro this;simp only at this;subst this;rfl
   ·rename_i heq;cases heq
   ·cases h
def REx (g:Hp) (μ:List Nat) (Z:Nat→Prop):TEx→Xe.Ex→Prop
 |.normal,.normal=>True
 |.exit k,.exit k'=>k'=k
 |.ret,.ret=>True
 |.panic v,.panic v'=>RV g μ Z v v'
 |_,_=>False
def Res (Pr:Nat→Prop) (μ:List Nat) (w:Own) (s:AS) (e:TEx) (a:TAct) (σ:Sto) (x:Option (Xe.Ex×Xe.Act×AS)):Prop:=
 ∃e' ax s' μ' w',x=some (e',ax,s')∧Rl Pr μ' w' a σ ax s'∧After w w' μ μ' s s'∧REx s'.get μ' (Zo w' Pr) e e'
theorem Res.after {w1:Own} {μ1:List Nat} {s1:AS} {e:TEx} {x:Option (Xe.Ex×Xe.Act×AS)} (h:After w w1 μ μ1 s s1) (k:Res Pr μ1 w1 s1 e a σ x):Res Pr μ w s e a σ x:=by
 obtain ⟨e',ax,s',μ',w',k1,k2,k3,k4⟩:=k
 exact ⟨e',ax,s',μ',w',k1,k2,h.trans k3,k4⟩
theorem Rl.putD (r:Rl Pr μ w a σ ax s) (d:Option Nat) {tv:TV} {v:Value} (h:RV s.get μ (Zo w Pr) tv v):∃w',Rl Pr μ w' (a.put d tv) σ (ax.put d v) s∧After w w' μ μ s s:=
 ⟨_,r.put d (.inl h),Nat.le_refl _,fun _ _ _=>rfl,fun p i e _=>⟨p,rel_le w d p i e⟩,mu_self⟩
theorem After.ofSub {w1:Own} (h:∀p i,w1 p=some i→w p=some i):After w w1 μ μ s s:=⟨Nat.le_refl _,fun _ _ _=>rfl,fun p i e _=>⟨p,h p i e⟩,mu_self⟩
theorem target_rel {g:Hp} {Z:Nat→Prop} {x:TV} {x':Value} {vs:List TV} {vs':List Value} {f:FuncId} {l:List TV} (hx:pl x=true→RV g μ Z x x') (hv:RVs g μ Z vs vs') (h:targetT x vs=some (f,l)):∃l',target x' vs'=some (f,l')∧RVs g μ Z l l':=by
 unfold targetT at h
 split at h
 ·cases h
  have:=hx rfl
  cases this with
  |func f h1 h2=>exact ⟨_,rfl,(h1.append hv).append h2⟩
 ·cases h
end
end Go.Xt
end
section
namespace Go.Xt
open Go Go.Xe
section
variable {Pr:Nat→Prop} {μ μ':List Nat} {w w':Own} {a a':TAct} {σ σ':Sto} {ax ax':Xe.Act} {s s':AS}
theorem After.hP {Pr:Nat→Prop} (h:After w w' μ μ' s s') (hP:∀i,Pr i→i<s.next):∀i,Pr i→i<s'.next:=fun i hi=>Nat.lt_of_lt_of_le (hP i hi) h.le
theorem Rl.callA {C:TCallee} {X:Xe.Callee} (hC:CallOk C X) (r:Rl Pr μ w a σ ax s) (hP:∀i,Pr i→i<s.next) {b f:Nat} {args:List Operand} {vs:List TV} {e:TEnd} (hg:gives (args.map a.ev)=some vs) (h:C b f vs σ=some (e,σ')):
  ∃e' s' μ' w',X f (args.map ax.ev) s=some (e',s')∧Rl Pr μ' w' (Xt.frzs a args).tick σ' ax s'∧After w w' μ μ' s s'∧REnd s'.get μ' (Zo w' Pr) e e':=by
 obtain ⟨w1,r1,hsub⟩:=r.frzs args
 have ha:=gives_rel r1 rfl args (fun x hx=>hx) hg
 obtain ⟨e',s',μ',w',k1,k2,k3,k4,_⟩:=r1.call hC hP h ha
 exact ⟨e',s',μ',w',k1,k2,k3.sub hsub,k4⟩
theorem Rl.callVA {C:TCallee} {X:Xe.Callee} (hC:CallOk C X) (r:Rl Pr μ w a σ ax s) (hP:∀i,Pr i→i<s.next) {b f:Nat} {x:Operand} {args:List Operand} {vs l:List TV} {e:TEnd} (hg:gives (args.map a.ev)=some vs) (ht:targetT (a.ev x) vs=some (f,l)) (h:C b f l σ=some (e,σ')):
  ∃e' s' μ' w' l',target (ax.ev x) (args.map ax.ev)=some (f,l')∧X f l' s=some (e',s')∧Rl Pr μ' w' (Xt.frzs a args).tick σ' ax s'∧After w w' μ μ' s s'∧REnd s'.get μ' (Zo w' Pr) e e':=by
 obtain ⟨w1,r1,hsub⟩:=r.frzs args
 have ha:=gives_rel r1 rfl args (fun x hx=>hx) hg
 have hx:pl (a.ev x)=true→RV s.get μ (Zo w1 Pr) (a.ev x) (ax.ev x):=fun h=>(r.plain h).mono (Mo.sub hsub)
 obtain ⟨l',t1,t2⟩:=target_rel hx ha ht
 obtain ⟨e',s',μ',w',k1,k2,k3,k4,_⟩:=r1.call hC hP h t2
 exact ⟨e',s',μ',w',l',t1,k1,k2,k3.sub hsub,k4⟩
theorem frz1_df (a:TAct) (x:Operand):(frz1 a x).df=a.df:=by
 cases x<;>simp only [frz1]
 split<;>rfl
theorem frzs_df:∀(l:List Operand) (a:TAct),(frzs a l).df=a.df
 |[],a=>rfl
 |x::l,a=>(frzs_df l _).trans (frz1_df a x)
theorem tops_sound {C:TCallee} {X:Xe.Callee} (hC:CallOk C X) {an:Ann} {b:Nat}:∀(ops:List XOper) {Pr:Nat→Prop} {μ:List Nat} {w:Own} {a:TAct} {σ:Sto} {ax:Xe.Act} {s:AS} {e:TEx} {a':TAct} {σ':Sto},
  tops an b C ops a σ=some (e,a',σ')→Rl Pr μ w a σ ax s→(∀i,Pr i→i<s.next)→Res Pr μ w s e a' σ' (xops X ops ax s)
 |[],Pr,μ,w,a,σ,ax,s,e,a',σ',h,r,hP=>by
  simp only [tops] at h
  cases h
  exact ⟨.normal,ax,s,μ,w,rfl,r,After.refl _ _ _,trivial⟩
 |⟨dst,op,guard⟩::ops,Pr,μ,w,a,σ,ax,s,e,a',σ',h,r,hP=>by
  have ih:=@tops_sound C X hC an b ops
  rw [tops] at h
  rw [xops]
  cases hg:wantedT a guard with
  |none=>simp only [hg] at h;cases h
  |some c=>
   have hw:=r.wanted hg
   cases c with
   |false=>
    simp only [hg] at h
    simp only [hw]
    obtain ⟨w1,r1,h1⟩:=r.putD dst (undef_rv _ _)
    exact (ih h r1 (h1.hP hP)).after h1
   |true=>
    simp only [hg] at h
    simp only [hw]
    cases op
    case call f args=>
     simp only at h ⊢
     split at h
     ·rename_i vs hgv
      split at h
      ·rename_i v σ1 hc
       obtain ⟨e',s',μ',w',k1,k2,k3,k4⟩:=r.callA hC hP hgv hc
       cases e' with
       |panic v'=>exact k4.elim
       |ret v'=>
        simp only [k1]
        obtain ⟨w2,r2,h2⟩:=k2.putD dst k4
        exact (ih h r2 (h2.hP (k3.hP hP))).after (k3.trans h2)
      ·rename_i v σ1 hc
       cases h
       obtain ⟨e',s',μ',w',k1,k2,k3,k4⟩:=r.callA hC hP hgv hc
       cases e' with
       |ret v'=>exact k4.elim
       |panic v'=>
        simp only [k1]
        exact ⟨.panic v',ax,s',μ',w',rfl,k2,k3,k4⟩
      ·cases h
     ·cases h
    case callV x args=>
     simp only at h ⊢
     split at h
     ·rename_i vs hgv
      split at h
      ·rename_i f l ht
       split at h
       ·rename_i v σ1 hc
        obtain ⟨e',s',μ',w',l',t1,k1,k2,k3,k4⟩:=r.callVA hC hP hgv ht hc
        cases e' with
        |panic v'=>exact k4.elim
        |ret v'=>
         simp only [t1,k1]
         obtain ⟨w2,r2,h2⟩:=k2.putD dst k4
         exact (ih h r2 (h2.hP (k3.hP hP))).after (k3.trans h2)
       ·rename_i v σ1 hc
        cases h
        obtain ⟨e',s',μ',w',l',t1,k1,k2,k3,k4⟩:=r.callVA hC hP hgv ht hc
        cases e' with
        |ret v'=>exact k4.elim
        |panic v'=>
         simp only [t1,k1]
         exact ⟨.panic v',ax,s',μ',w',rfl,k2,k3,k4⟩
       ·cases h
      ·cases h
     ·cases h
    case panic x=>
     simp only at h ⊢
     split at h
     ·rename_i t v hx
      cases h
      have h1:=r.plainOf hx rfl
      revert h1;generalize ax.ev x=y;intro h1
      cases h1 with
      |iface t h1=>exact ⟨.panic _,ax,s,μ,w,rfl,r,After.refl _ _ _,.iface t h1⟩
     ·cases h
    case defer x args=>
     simp only at h ⊢
     split at h
     ·rename_i vs hgv
      split at h
      ·rename_i f l ht
       obtain ⟨w1,r1,hsub⟩:=r.frzs args
       have ha:=gives_rel r1 rfl args (fun x hx=>hx) hgv
       have hx:pl (a.ev x)=true→RV s.get μ (Zo w1 Pr) (a.ev x) (ax.ev x):=fun h=>(r.plain h).mono (Mo.sub hsub)
       obtain ⟨l',t1,t2⟩:=target_rel hx ha ht
       simp only [t1]
       have r2:Rl Pr μ w1 ⟨(frzs a args).tm,⟨f,l⟩::(frzs a args).df,(frzs a args).clk⟩ σ ⟨ax.tm,⟨f,l'⟩::ax.df⟩ s:=
        ⟨r1.toRs,r1.tm,r1.al,⟨rfl,t2,r1.df⟩⟩
       have hdf:(frzs a args).df=a.df:=frzs_df args a
       rw [hdf] at r2
       obtain ⟨w2,r3,h3⟩:=r2.putD dst (undef_rv _ _)
       exact (ih h r3 (h3.hP hP)).after ((After.ofSub hsub).trans h3)
      ·cases h
     ·cases h
    all_goals
     simp only at h ⊢
     split at h
     ·rename_i v a1 σ1 hd
      obtain ⟨p,k1,μ1,w1,k2,k3⟩:=tdo_sound _ _ dst _ hd r hP
      simp only [k1]
      exact (ih h k2 (k3.hP hP)).after k3
     ·cases h
end
end Go.Xt
end
section
namespace Go.Xt
open Go Go.Xe
structure Snap where
 μ:List Nat
 w:Own
 a:TAct
 σ:Sto
 ax:Xe.Act
 s:AS
def KindOk (tr:TRec) (r:Rec) (n:Snap):TK→Prop
 |.bad=>True
 |.no=>r.call=false∧r.touched=[]∧r.wrote=[]
 |.rd q=>r.call=false∧r.wrote=[]∧∃i o,n.ax.ev q=.pointer (some ⟨i,o,none⟩)∧r.touched=[i]∧i<n.s.next
 |.wr q=>r.call=false∧∃i o,n.ax.ev q=.pointer (some ⟨i,o,none⟩)∧r.touched=[i]∧r.wrote=[i]
 |.new=>r.call=false∧r.touched=[]∧r.wrote=[n.s.next]
 |.call=>r.call=true∧(∀i,i<n.s.next→(∀k,n.w (.obj k)≠some i)→(∀k c,n.w (.cell k c)≠some i)→r.s1.get i=n.s.get i)∧
   ∀k i o o',n.μ[k]? =some i→tr.s0.at k=some o→tr.s1.at k=some o'→(∃b,r.s0.get i=some ⟨o.ver,b⟩)∧∃b,r.s1.get i=some ⟨o'.ver,b⟩
structure Good (Pr:Nat→Prop) (tr:TRec) (r:Rec) (n:Snap) (ax':Xe.Act) (s':AS):Prop where
 rl:Rl Pr n.μ n.w n.a n.σ n.ax n.s
 pre:tr.kind≠.bad→tr.pre=n.a
 s0:r.s0=n.s
 nx:n.s.next≤s'.next
 ax:∀t,tr.dst≠some t→ax'.ev (.tmp t)=n.ax.ev (.tmp t)
 kind:KindOk tr r n tr.kind
inductive Chn (Pr:Nat→Prop):Xe.Act→AS→List TRec→List Rec→Prop
 |nil (ax:Xe.Act) (s:AS):Chn Pr ax s [] []
 |cons {tr:TRec} {r:Rec} {n:Snap} {ax':Xe.Act} {s':AS} {l:List TRec} {rs:List Rec}:Good Pr tr r n ax' s'→Chn Pr ax' s' l rs→Chn Pr n.ax n.s (tr::l) (r::rs)
theorem Chn.drop {Pr:Nat→Prop} {ax:Xe.Act} {s:AS} {l:List TRec} {rs:List Rec} (h:Chn Pr ax s l rs):∀i,∃ax1 s1,Chn Pr ax1 s1 (l.drop i) (rs.drop i):=by
 induction h with
 |nil ax s=>intro i;exact ⟨ax,s,by simp;exact .nil ax s⟩
 |cons g t ih=>
  intro i
  cases i with
  |zero=>exact ⟨_,_,.cons g t⟩
  |succ i=>exact ih i
theorem Chn.path {Pr:Nat→Prop} {ax:Xe.Act} {s:AS} {l:List TRec} {rs:List Rec} (h:Chn Pr ax s l rs):∀{j:Nat} {y:TRec},l[j]? =some y→∃ry n ax' s',rs[j]? =some ry∧Good Pr y ry n ax' s'∧s.next≤n.s.next∧∀t,(∀r∈l.take j,r.dst≠some t)→n.ax.ev (.tmp t)=ax.ev (.tmp t):=by
 induction h with
 |nil ax s=>intro j y e;simp at e
 |cons g t ih=>
  intro j y e
  cases j with
  |zero=>simp at e;subst e;exact ⟨_,_,_,_,rfl,g,Nat.le_refl _,fun t _=>rfl⟩
  |succ j=>
   obtain ⟨ry,n,ax',s',h1,h2,h3,h4⟩:=ih (by simpa using e)
   refine ⟨ry,n,ax',s',by simpa using h1,h2,Nat.le_trans g.nx h3,fun t ht=> ?_⟩
   rw [h4 t (fun r hr=>ht r (by simp [hr])),g.ax t (ht _ (by simp))]
theorem Chn.head {Pr:Nat→Prop} {ax:Xe.Act} {s:AS} {l l':List TRec} {rs:List Rec} {x:TRec} (h:Chn Pr ax s l rs) (hl:l=x::l'):∃rx n ax' s',rs[0]? =some rx∧Good Pr x rx n ax' s'∧ax=n.ax∧s=n.s:=by
 cases h with
 |nil=>cases hl
 |cons g t=>cases hl;exact ⟨_,_,_,_,rfl,g,rfl,rfl⟩
section
variable {Pr:Nat→Prop} {μ μ':List Nat} {w w':Own} {a a':TAct} {σ σ':Sto} {ax ax':Xe.Act} {s s':AS}
inductive Cls (g:Hp) (w:Own) (Pr:Nat→Prop) (μ:List Nat) (a:TAct) (i:Nat):TV→Prop
 |box {t o ser:Nat}:(∃x,g i=some x)→w (.tmp t)=some i→Cls g w Pr μ a i (.vpt t o ser)
 |fz {ch:List TV} {o:Nat}:(∃x,g i=some x)→Zo w Pr i→Cls g w Pr μ a i (.elt ch o)
 |obj {k o:Nat}:μ[k]? =some i→w (.obj k)=some i→Cls g w Pr μ a i (.ptr k o)
theorem Rl.cls_elt (r:Rl Pr μ w a σ ax s) {q:Operand} {i o:Nat} (hv:ax.ev q=.pointer (some ⟨i,o,none⟩)) {ch:List TV} {o':Nat} (h:a.at q=.elt ch o'):Cls s.get w Pr μ a i (.elt ch o'):=by
 have h1:=r.atPlain h rfl
 rw [hv] at h1
 cases h1 with
 |elt z hg=>exact .fz ⟨_,hg⟩ z
theorem Rl.cls_ptr (r:Rl Pr μ w a σ ax s) {q:Operand} {i o:Nat} (hv:ax.ev q=.pointer (some ⟨i,o,none⟩)) {k o':Nat} (h:a.at q=.ptr k o'):Cls s.get w Pr μ a i (.ptr k o'):=by
 have h1:=r.atPlain h rfl
 rw [hv] at h1
 cases h1 with
 |ptr e=>exact .obj e ((r.wobj k).trans e)
theorem Rl.cls_vpt (r:Rl Pr μ w a σ ax s) {q:Operand} {i o:Nat} (hv:ax.ev q=.pointer (some ⟨i,o,none⟩)) {t o' ser:Nat} (h:a.at q=.vpt t o' ser) (hb:(boxAt a t ser).isSome=true):Cls s.get w Pr μ a i (.vpt t o' ser):=by
 have h1:=r.atAl h rfl
 cases hq:boxAt a t ser with
 |none=>rw [hq] at hb;cases hb
 |some p=>
  obtain ⟨cs,e⟩:=p
  obtain ⟨i',ver,vs,k1,k2,k3,k4⟩:=r.vptOf h1 hq
  rw [hv] at k1;cases k1
  exact .box ⟨_,k3⟩ k2
theorem stays_ok (r:Rl Pr μ w a σ ax s) {tr:TRec} {rc:Rec} {n:Snap} (hn:n=⟨μ,w,a,σ,ax,s⟩) (hk:KindOk tr rc n .call) (h0:rc.s0=s) {q:Operand} {i o:Nat} (hv:ax.ev q=.pointer (some ⟨i,o,none⟩)) (h:stays a tr.s0 tr.s1 q=true):sameVer rc.s0 rc.s1 [i]=true:=by
 subst hn
 obtain ⟨k1,k2,k3⟩:=hk
 have same:(∃x,s.get i=some x)→rc.s1.get i=s.get i→sameVer rc.s0 rc.s1 [i]=true:=by
  intro hi e
  obtain ⟨x,hx⟩:=hi
  simp only [sameVer,h0,e,hx,beqNat,decide_true]
 unfold stays at h
 split at h
 ·rename_i t o' ser hq
  cases r.cls_vpt hv hq h with
  |box hx hw=>obtain ⟨_,hx2⟩:=hx;exact same ⟨_,hx2⟩ (k2 i (r.lt hx2) (fun k e=>by have:=r.inj _ _ _ e hw;cases this) (fun k c e=>by have:=r.inj _ _ _ e hw;cases this))
 ·rename_i ch o' hq
  cases r.cls_elt hv hq with
  |fz hx z=>obtain ⟨_,hx2⟩:=hx;exact same ⟨_,hx2⟩ (k2 i (r.lt hx2) (fun k e=>z.1 _ e) (fun k c e=>z.1 _ e))
 ·rename_i k o' hq
  cases r.cls_ptr hv hq with
  |obj hm hw=>
   split at h
   ·rename_i o1 o2 q1 q2
    obtain ⟨⟨b1,p1⟩,b2,p2⟩:=k3 k i o1 o2 hm q1 q2
    simp only [sameVer,p1,p2,h]
   ·cases h
 ·cases h
theorem sep_ok (r:Rl Pr μ w a σ ax s) {q q':Operand} {i o i' o':Nat} (hv:ax.ev q=.pointer (some ⟨i,o,none⟩)) (hv':ax.ev q'=.pointer (some ⟨i',o',none⟩)) (h:sepT a q q'=true):i≠i':=by
 unfold sepT at h
 split at h
 ·rename_i t1 o1 s1 t2 o2 s2 h1 h2
  simp only [Bool.and_eq_true] at h
  cases r.cls_vpt hv h1 h.1.2 with
  |box _ w1=>cases r.cls_vpt hv' h2 h.2 with
   |box _ w2=>rintro rfl;have:=r.inj _ _ _ w1 w2;simp at this;exact beq_false.1 h.1.1 this
 ·rename_i k1 o1 k2 o2 h1 h2
  cases r.cls_ptr hv h1 with
  |obj _ w1=>cases r.cls_ptr hv' h2 with
   |obj _ w2=>rintro rfl;have:=r.inj _ _ _ w1 w2;simp at this;exact beq_false.1 h this
 ·rename_i t1 o1 s1 k2 o2 h1 h2
  cases r.cls_vpt hv h1 h with
  |box _ w1=>cases r.cls_ptr hv' h2 with
   |obj _ w2=>rintro rfl;have:=r.inj _ _ _ w1 w2;cases this
 ·rename_i k1 o1 t2 o2 s2 h1 h2
  cases r.cls_ptr hv h1 with
  |obj _ w1=>cases r.cls_vpt hv' h2 h with
   |box _ w2=>rintro rfl;have:=r.inj _ _ _ w1 w2;cases this
 ·rename_i ch o1 t2 o2 s2 h1 h2
  cases r.cls_elt hv h1 with
  |fz _ z=>cases r.cls_vpt hv' h2 h with
   |box _ w2=>rintro rfl;exact z.1 _ w2
 ·rename_i ch o1 k2 o2 h1 h2
  cases r.cls_elt hv h1 with
  |fz _ z=>cases r.cls_ptr hv' h2 with
   |obj _ w2=>rintro rfl;exact z.1 _ w2
 ·cases h
theorem sepV_ok (r:Rl Pr μ w a σ ax s) {q q':Operand} {i o i' o':Nat} (hv:ax.ev q=.pointer (some ⟨i,o,none⟩)) (hv':ax.ev q'=.pointer (some ⟨i',o',none⟩)) (h:sepV a q q'=true):i≠i':=by
 unfold sepV at h
 split at h
 ·rename_i t c j o1 k2 o2 h1 h2
  obtain ⟨ch,hch⟩:=Option.isSome_iff_exists.1 h
  have hch:velAt a σ (.tmp t) c j=some ch:=hch
  obtain ⟨i1,ver,vs,e,d,q1,q2,_⟩:=r.velOf (r.atAl h1 rfl) hch
  rw [hv] at q1;cases q1
  cases r.cls_ptr hv' h2 with
  |obj _ w2=>rintro rfl;have:=r.inj _ _ _ q2 w2;cases this
 ·exact sep_ok r hv hv' h
theorem load_has {g:Hp} {i o n:Nat} {l:List Value} (h:loadList g ⟨i,o,none⟩ n=some l):∃x,g i=some x:=by
 simp only [loadList] at h
 split at h
 ·rename_i hg;exact ⟨_,hg⟩
 ·cases h
theorem free_ax {l:List TRec} {i j:Nat} {q:Operand} {axi axj:Xe.Act} (h:freeT l i j q=true) (hax:∀t,(∀r∈(l.drop i).take (j - i),r.dst≠some t)→axj.ev (.tmp t)=axi.ev (.tmp t)):axj.ev q=axi.ev q:=by
 unfold freeT at h
 split at h
 ·rename_i t
  refine hax t fun r hr=> ?_
  have:=List.all_eq_true.1 h r hr
  intro e
  rw [e] at this
  simp [beqNat] at this
 ·cases h
theorem apart_nil:∀l,apart l []=true
 |[]=>rfl
 |x::l=>by simp only [apart,inList,apart_nil l]
theorem pair_ok {ax0:Xe.Act} {s0:AS} {l:List TRec} {rs:List Rec} (hc:Chn Pr ax0 s0 l rs) {i j:Nat} {x y:TRec} (hi:l[i]? =some x) (hj:l[j]? =some y) (hij:i<j) (h:pairOkT l i j x y=true):∃rx ry,rs[i]? =some rx∧rs[j]? =some ry∧pairOk rx ry=true:=by
 obtain ⟨ax1,s1,hd⟩:=hc.drop i
 obtain ⟨ry,ny,ax2',s2',p1,p2,p3,p4⟩:=hd.path (j:=j - i) (y:=y) (by rw [List.getElem?_drop];rw [show i+(j - i)=j by omega];exact hj)
 have hx:l.drop i=x::l.drop (i+1):=by
  have:=(List.getElem?_eq_some_iff.1 hi)
  rw [List.drop_eq_getElem_cons this.1,this.2]
 obtain ⟨rx,nx,ax1',s1',q1,q2,q3,q4⟩:=hd.head hx
 rw [List.getElem?_drop] at p1
 rw [show i+(j - i)=j by omega] at p1
 have q1:rs[i]? =some rx:=by simpa using q1
 refine ⟨rx,ry,q1,p1,?_⟩
 have kx:=q2.kind
 have ky:=p2.kind
 have hax:∀{q},freeT l i j q=true→ny.ax.ev q=nx.ax.ev q:=fun h=>by
  subst q3;exact free_ax h p4
 unfold pairOkT at h
 split at h
 ·rename_i hk1
  rw [hk1] at kx
  obtain ⟨a1,a2,a3⟩:=kx
  cases hc:ry.call<;>simp only [pairOk,a1,a2,a3,hc,apart,apart_nil,sameVer,Bool.and_self]
 ·rename_i hk2 hk1
  rw [hk2] at ky
  obtain ⟨a1,a2,a3⟩:=ky
  cases hc:rx.call<;>simp only [pairOk,a1,a2,a3,hc,apart,apart_nil,sameVer,Bool.and_self]
 ·rename_i q hk1 hk2
  simp only [Bool.and_eq_true] at h
  rw [hk1] at kx
  rw [hk2] at ky
  obtain ⟨a1,a2,i0,o0,a3,a4,a5⟩:=kx
  have hv:ny.ax.ev q=.pointer (some ⟨i0,o0,none⟩):=(hax h.1).trans a3
  have hpre:=p2.pre (by rw [hk2];simp)
  rw [hpre] at h
  have:=stays_ok p2.rl (n:=ny) rfl ky p2.s0 hv h.2
  simp only [pairOk,a1,ky.1,a4,this]
 ·rename_i q hk1 hk2
  rw [hk1] at kx
  rw [hk2] at ky
  obtain ⟨a1,a2,i0,o0,a3,a4,a5⟩:=ky
  rw [Bool.or_eq_true] at h
  rcases h with h|h
  case inr=>
   have hprex:=q2.pre (by rw [hk1];simp)
   have hprey:=p2.pre (by rw [hk2];simp)
   unfold stayB at h
   split at h
   ·rename_i t o s hq
    simp only [Bool.and_eq_true] at h
    obtain ⟨⟨h1,h2⟩,h3⟩:=h
    rw [hprex] at h2
    rw [hprey] at h3 hq
    have hat:=hax h1
    cases p2.rl.cls_vpt a3 hq h3 with
    |box _ hw=>
     obtain ⟨⟨cs,e⟩,hbx⟩:=Option.isSome_iff_exists.1 h2
     obtain ⟨⟨cs',e'⟩,hby⟩:=Option.isSome_iff_exists.1 h3
     obtain ⟨_,i1,ver1,vs1,w1,v1,g1,_⟩:=q2.rl.boxOf hbx
     obtain ⟨_,i2,ver2,vs2,w2,v2,g2,_⟩:=p2.rl.boxOf hby
     rw [v1,v2] at hat
     cases hat
     rw [hw] at w2
     cases w2
     obtain ⟨k1,k2,k3⟩:=kx
     have hs:=k2 i0 (q2.rl.lt g1) (fun k e=>by have:=q2.rl.inj _ _ _ e w1;cases this) (fun k c e=>by have:=q2.rl.inj _ _ _ e w1;cases this)
     simp only [pairOk,a1,k1,a4,sameVer,q2.s0,hs,g1,beqNat,decide_true]
   ·cases h
  simp only [Bool.and_eq_true] at h
  have hv:nx.ax.ev q=.pointer (some ⟨i0,o0,none⟩):=(hax h.1).symm.trans a3
  have hpre:=q2.pre (by rw [hk1];simp)
  rw [hpre] at h
  have:=stays_ok q2.rl (n:=nx) rfl kx q2.s0 hv h.2
  simp only [pairOk,a1,kx.1,a4,this]
 ·rename_i q hk1 hk2
  rw [hk1] at kx
  rw [hk2] at ky
  obtain ⟨a1,a2,i0,o0,a3,a4,a5⟩:=kx
  obtain ⟨b1,b2,b3⟩:=ky
  have:ny.s.next≠i0:=by subst q4;omega
  simp only [pairOk,a1,b1,a2,a4,b2,b3,apart,inList,beqNat,decide_eq_false this,Bool.and_self]
 ·rename_i q q' hk1 hk2
  simp only [Bool.and_eq_true] at h
  rw [hk1] at kx
  rw [hk2] at ky
  obtain ⟨a1,a2,i0,o0,a3,a4,a5⟩:=kx
  obtain ⟨b1,i1,o1,b2,b3,b4⟩:=ky
  have hv:ny.ax.ev q=.pointer (some ⟨i0,o0,none⟩):=(hax h.1).trans a3
  have hpre:=p2.pre (by rw [hk2];simp)
  rw [hpre] at h
  have:i1≠i0:=(sep_ok p2.rl hv b2 h.2).symm
  simp only [pairOk,a1,b1,a2,a4,b3,b4,apart,inList,beqNat,decide_eq_false this,Bool.and_self]
 ·rename_i q q' hk1 hk2
  simp only [Bool.and_eq_true] at h
  rw [hk1] at kx
  rw [hk2] at ky
  obtain ⟨a1,i0,o0,a3,a4,a5⟩:=kx
  obtain ⟨b1,i1,o1,b2,b3,b4⟩:=ky
  have hv':nx.ax.ev q'=.pointer (some ⟨i1,o1,none⟩):=(hax h.1).symm.trans b2
  have hpre:=q2.pre (by rw [hk1];simp)
  rw [hpre] at h
  have hne:=sepV_ok q2.rl a3 hv' h.2
  have hne':i1≠i0:=hne.symm
  simp only [pairOk,a1,b1,a4,a5,b3,b4,apart,inList,beqNat,decide_eq_false hne,decide_eq_false hne',Bool.and_self]
 ·cases h
theorem pairs_ok {ax0:Xe.Act} {s0:AS} {l:List TRec} {rs:List Rec} (hc:Chn Pr ax0 s0 l rs):∀ps:List (Nat×Nat),pairsOkT l ps=true→pairsOk rs ps=true
 |[],_=>rfl
 |(i,j)::ps,h=>by
  simp only [pairsOkT] at h
  split at h
  ·rename_i x y hi hj
   split at h
   ·rename_i hb
    simp only [Bool.and_eq_true] at hb
    have hlt:=hb.1
    rw [bltNat] at hlt
    obtain ⟨rx,ry,k1,k2,k3⟩:=pair_ok hc hi hj (of_decide_eq_true hlt) hb.2
    simp only [pairsOk,k1,k2,k3]
    exact pairs_ok hc ps h
   ·cases h
  ·cases h
theorem kind_prim {op:XOp} {p:PR} (hp:xprim s.get s.next ax.ev op=some p) (dm:Dm s) (tr:TRec) (n:Snap) (hn:n.ax=ax) (hs:n.s=s):
  KindOk tr ⟨false,touch s.get ax.ev op,p.δ.map (·.1),s,s.upd p.δ p.nx⟩ n (kindOf op):=by
 have hlt:∀{i x},s.get i=some x→i<s.next:=fun {i x} e=>by
  by_cases h:i<s.next
  ·exact h
  ·rw [dm i (by omega)] at e;cases e
 cases op<;>simp only [kindOf]<;>first|trivial|skip
 case load1 q=>
  simp only [xprim] at hp
  split at hp
  ·rename_i ad hq
   split at hp
   ·rename_i v hl
    cases hp
    obtain ⟨b,o,sp⟩:=ad
    cases sp with
    |some _=>simp [loadList] at hl
    |none=>
     obtain ⟨x,hx⟩:=load_has hl
     exact ⟨rfl,rfl,b,o,by rw [hn];exact hq,by simp only [touch,hq,idsV],by rw [hs];exact hlt hx⟩
   ·cases hp
  ·cases hp
 case loadN m q=>
  simp only [xprim] at hp
  split at hp
  ·rename_i ad hq
   split at hp
   ·rename_i v hl
    cases hp
    obtain ⟨b,o,sp⟩:=ad
    cases sp with
    |some _=>simp [loadList] at hl
    |none=>
     obtain ⟨x,hx⟩:=load_has hl
     exact ⟨rfl,rfl,b,o,by rw [hn];exact hq,by simp only [touch,hq,idsV],by rw [hs];exact hlt hx⟩
   ·cases hp
  ·cases hp
 case store m q x=>
  simp only [xprim] at hp
  split at hp
  ·rename_i ad hq
   split at hp
   ·split at hp
    ·rename_i δ hl
     cases hp
     obtain ⟨b,o,sp⟩:=ad
     cases sp with
     |some _=>simp [storeList] at hl
     |none=>
      simp only [storeList] at hl
      split at hl
      ·split at hl
       ·cases hl
        exact ⟨rfl,b,o,by rw [hn];exact hq,by simp only [touch,hq,idsV],rfl⟩
       ·cases hl
      ·cases hl
    ·cases hp
   ·cases hp
  ·cases hp
 all_goals
  refine ⟨rfl,rfl,?_⟩
  simp only [xprim] at hp
  rw [hs]
  first
   |(cases hp;rfl)
   |(split at hp<;>first|(cases hp;rfl)|(cases hp;done)|(split at hp<;>first|(cases hp;rfl)|(cases hp;done)|(split at hp<;>first|(cases hp;rfl)|(cases hp;done))))
end
end Go.Xt
end
