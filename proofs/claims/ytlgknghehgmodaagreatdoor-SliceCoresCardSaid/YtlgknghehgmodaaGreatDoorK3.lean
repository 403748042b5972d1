/-
  A part of the proof: it is imported by YtlgknghehgmodaaGreatDoorTop. Nothing here is a claim of its own.
-/
import Derived.Test.YtlgknghehgmodaaGreatDoorK2
import Derived.Deep.Slices
import Derived.ChangeArms
import Derived.DataReads
set_option linter.unusedVariables false
set_option linter.unusedSimpArgs false
set_option linter.unusedSectionVars false
set_option maxRecDepth 100000
namespace Go.Xe.YtlgknghehgmodaaGreatDoor
section
open Go Go.Xe Go.Proofs
theorem C7c:A8 Tryz.prog J9 Tryz.f4=some x1004:=by kernel_rfl
theorem C7d:A8 Tryz.prog J9 Tryz.f9=some x1009:=by kernel_rfl
theorem C7e:A8 Tryz.prog J9 Tryz.f10=some x1010:=by kernel_rfl
theorem C7f:A8 Tryz.prog J9 Tryz.f11=some x1011:=by kernel_rfl
theorem C7g:A8 Tryz.prog J9 Tryz.f12=some x1012:=by kernel_rfl
theorem C7h:A8 Tryz.prog J9 Tryz.f13=some x1013:=by kernel_rfl
theorem C7i:A8 Tryz.prog J9 Tryz.f15=some x1015:=by kernel_rfl
theorem d6:A8 Tryz.prog J9 Tryz.f16=some x6:=by kernel_rfl
theorem C7j:A8 Tryz.prog J9 Tryz.f17=some x1017:=by kernel_rfl
theorem C7k:A8 Tryz.prog J9 Tryz.f18=some x1018:=by kernel_rfl
theorem C7l:A8 Tryz.prog J9 Tryz.f19=some x1019:=by kernel_rfl
theorem C7m:A8 Tryz.prog J9 Tryz.f20=some x1020:=by kernel_rfl
theorem C7n:A8 Tryz.prog J9 Tryz.f21=some x1021:=by kernel_rfl
theorem C7o:A8 Tryz.prog J9 Tryz.f22=some x1022:=by kernel_rfl
theorem d9:A8 Tryz.prog J9 Tryz.f26=some x9:=by kernel_rfl
theorem d24:A8 Tryz.prog J9 Tryz.f29=some x24:=by kernel_rfl
theorem C7p:A8 Tryz.prog J9 Tryz.f31=some x1031:=by kernel_rfl
theorem d66:A8 Tryz.prog J9 Tryz.f32=some x66:=by kernel_rfl
theorem C7q:A8 Tryz.prog J9 Tryz.f33=some x1033:=by kernel_rfl
theorem C7r:A8 Tryz.prog J9 Tryz.f34=some x1034:=by kernel_rfl
theorem C7s:A8 Tryz.prog J9 Tryz.f35=some x1035:=by kernel_rfl
theorem d19:A8 Tryz.prog J9 Tryz.f36=some x19:=by kernel_rfl
theorem d20:A8 Tryz.prog J9 Tryz.f37=some x20:=by kernel_rfl
theorem C7t:A8 Tryz.prog J9 Tryz.f38=some x1038:=by kernel_rfl
theorem d16:A8 Tryz.prog J9 Tryz.f39=some x16:=by kernel_rfl
theorem C7u:A8 Tryz.prog J9 Tryz.f40=some x1040:=by kernel_rfl
theorem C7v:A8 Tryz.prog J9 Tryz.f41=some x1041:=by kernel_rfl
theorem C7w:A8 Tryz.prog J9 Tryz.f42=some x1042:=by kernel_rfl
theorem C7x:A8 Tryz.prog J9 Tryz.f43=some x1043:=by kernel_rfl
theorem C7y:A8 Tryz.prog J9 Tryz.f44=some x1044:=by kernel_rfl
theorem d65:A8 Tryz.prog J9 Tryz.f45=some x65:=by kernel_rfl
theorem d23:A8 Tryz.prog J9 Tryz.f46=some x23:=by kernel_rfl
theorem C7z:A8 Tryz.prog J9 Tryz.f47=some x1047:=by kernel_rfl
theorem C7A:A8 Tryz.prog J9 Tryz.f48=some x1048:=by kernel_rfl
theorem C7B:A8 Tryz.prog J9 Tryz.f49=some x1049:=by kernel_rfl
theorem C7C:A8 Tryz.prog J9 Tryz.f50=some x1050:=by kernel_rfl
theorem C7D:A8 Tryz.prog J9 Tryz.f51=some x1051:=by kernel_rfl
theorem d10:A8 Tryz.prog J9 Tryz.f52=some x10:=by kernel_rfl
theorem C7E:A8 Tryz.prog J9 Tryz.f53=some x1053:=by kernel_rfl
theorem C7F:A8 Tryz.prog J9 Tryz.f54=some x1054:=by kernel_rfl
theorem C7G:A8 Tryz.prog J9 Tryz.f55=some x1055:=by kernel_rfl
theorem C7H:A8 Tryz.prog J9 Tryz.f56=some x1056:=by kernel_rfl
theorem C7I:A8 Tryz.prog J9 Tryz.f57=some x1057:=by kernel_rfl
theorem d28:A8 Tryz.prog J9 Tryz.f62=some x28:=by kernel_rfl
theorem d29:A8 Tryz.prog J9 Tryz.f63=some x29:=by kernel_rfl
theorem d35:A8 Tryz.prog J9 Tryz.f64=some x35:=by kernel_rfl
theorem d37:A8 Tryz.prog J9 Tryz.f66=some x37:=by kernel_rfl
theorem d21:A8 Tryz.prog J9 Tryz.f68=some x21:=by kernel_rfl
theorem d7:A8 Tryz.prog J9 Tryz.f69=some x7:=by kernel_rfl
theorem d111:A8 Tryz.prog J9 Tryz.f72=some x111:=by kernel_rfl
theorem C7J:A8 Tryz.prog J9 Tryz.f73=some x1073:=by kernel_rfl
theorem d41:A8 Tryz.prog J9 Tryz.f74=some x41:=by kernel_rfl
theorem d44:A8 Tryz.prog J9 Tryz.f77=some x44:=by kernel_rfl
theorem d45:A8 Tryz.prog J9 Tryz.f78=some x45:=by kernel_rfl
theorem d46:A8 Tryz.prog J9 Tryz.f79=some x46:=by kernel_rfl
theorem C7K:A8 Tryz.prog J9 Tryz.f80=some x1080:=by kernel_rfl
theorem d67:A8 Tryz.prog J9 Tryz.f81=some x67:=by kernel_rfl
theorem C7L:A8 Tryz.prog J9 Tryz.f82=some x1082:=by kernel_rfl
theorem C7M:A8 Tryz.prog J9 Tryz.f83=some x1083:=by kernel_rfl
theorem C7N:A8 Tryz.prog J9 Tryz.f84=some x1084:=by kernel_rfl
theorem d109:A8 Tryz.prog J9 Tryz.f85=some x109:=by kernel_rfl
theorem d110:A8 Tryz.prog J9 Tryz.f86=some x110:=by kernel_rfl
theorem d47:A8 Tryz.prog J9 Tryz.f87=some x47:=by kernel_rfl
theorem C7O:A8 Tryz.prog J9 Tryz.f88=some x1088:=by kernel_rfl
theorem C7P:A8 Tryz.prog J9 Tryz.f89=some x1089:=by kernel_rfl
theorem C7Q:A8 Tryz.prog J9 Tryz.f90=some x1090:=by kernel_rfl
theorem d30:A8 Tryz.prog J9 Tryz.f91=some x30:=by kernel_rfl
theorem d31:A8 Tryz.prog J9 Tryz.f92=some x31:=by kernel_rfl
theorem C7R:A8 Tryz.prog J9 Tryz.f93=some x1093:=by kernel_rfl
theorem C7S:A8 Tryz.prog J9 Tryz.f94=some x1094:=by kernel_rfl
theorem C7T:A8 Tryz.prog J9 Tryz.f95=some x1095:=by kernel_rfl
theorem d56:A8 Tryz.prog J9 Tryz.f97=some x56:=by kernel_rfl
theorem d57:A8 Tryz.prog J9 Tryz.f98=some x57:=by kernel_rfl
theorem d25:A8 Tryz.prog J9 Tryz.f100=some x25:=by kernel_rfl
theorem C7U:A8 Tryz.prog J9 Tryz.f111=some x1111:=by kernel_rfl
theorem d106:A8 Tryz.prog J9 Tryz.f112=some x106:=by kernel_rfl
theorem d107:A8 Tryz.prog J9 Tryz.f113=some x107:=by kernel_rfl
theorem d108:A8 Tryz.prog J9 Tryz.f114=some x108:=by kernel_rfl
theorem d159:A8 Tryz.prog J9 Tryz.f115=some x159:=by kernel_rfl
theorem d58:A8 Tryz.prog J9 Tryz.f116=some x58:=by kernel_rfl
theorem d59:A8 Tryz.prog J9 Tryz.f117=some x59:=by kernel_rfl
theorem C7V:A8 Tryz.prog J9 Tryz.f118=some x1118:=by kernel_rfl
theorem d95:A8 Tryz.prog J9 Tryz.f119=some x95:=by kernel_rfl
theorem d96:A8 Tryz.prog J9 Tryz.f120=some x96:=by kernel_rfl
theorem d97:A8 Tryz.prog J9 Tryz.f121=some x97:=by kernel_rfl
theorem d98:A8 Tryz.prog J9 Tryz.f122=some x98:=by kernel_rfl
theorem d99:A8 Tryz.prog J9 Tryz.f123=some x99:=by kernel_rfl
theorem d100:A8 Tryz.prog J9 Tryz.f124=some x100:=by kernel_rfl
theorem d101:A8 Tryz.prog J9 Tryz.f125=some x101:=by kernel_rfl
theorem d158:A8 Tryz.prog J9 Tryz.f162=some x158:=by kernel_rfl
theorem d182:A8 Tryz.prog J9 Tryz.f163=some x182:=by kernel_rfl
theorem d102:A8 Tryz.prog J9 Tryz.f164=some x102:=by kernel_rfl
theorem d149:A8 Tryz.prog J9 Tryz.f165=some x149:=by kernel_rfl
theorem d150:A8 Tryz.prog J9 Tryz.f166=some x150:=by kernel_rfl
theorem d151:A8 Tryz.prog J9 Tryz.f167=some x151:=by kernel_rfl
theorem d61:A8 Tryz.prog J9 Tryz.f168=some x61:=by kernel_rfl
theorem d152:A8 Tryz.prog J9 Tryz.f169=some x152:=by kernel_rfl
theorem d165:A8 Tryz.prog J9 Tryz.f201=some x165:=by kernel_rfl
theorem d180:A8 Tryz.prog J9 Tryz.f202=some x180:=by kernel_rfl
theorem d181:A8 Tryz.prog J9 Tryz.f203=some x181:=by kernel_rfl
theorem d153:A8 Tryz.prog J9 Tryz.f204=some x153:=by kernel_rfl
theorem d154:A8 Tryz.prog J9 Tryz.f205=some x154:=by kernel_rfl
theorem d155:A8 Tryz.prog J9 Tryz.f206=some x155:=by kernel_rfl
theorem d156:A8 Tryz.prog J9 Tryz.f207=some x156:=by kernel_rfl
theorem d60:A8 Tryz.prog J9 Tryz.f208=some x60:=by kernel_rfl
theorem d178:A8 Tryz.prog J9 Tryz.f209=some x178:=by kernel_rfl
theorem d63:A8 Tryz.prog J9 Tryz.f223=some x63:=by kernel_rfl
theorem d179:A8 Tryz.prog J9 Tryz.f224=some x179:=by kernel_rfl
theorem d103:A8 Tryz.prog J9 Tryz.f226=some x103:=by kernel_rfl
theorem d104:A8 Tryz.prog J9 Tryz.f227=some x104:=by kernel_rfl
theorem d105:A8 Tryz.prog J9 Tryz.f234=some x105:=by kernel_rfl
theorem d62:A8 Tryz.prog J9 Tryz.f235=some x62:=by kernel_rfl
theorem d190:A8 Tryz.prog J9 Tryz.f236=some x190:=by kernel_rfl
theorem d157:A8 Tryz.prog J9 Tryz.f237=some x157:=by kernel_rfl
end
end Go.Xe.YtlgknghehgmodaaGreatDoor
namespace Go.Xe
section
open Go
inductive Rdx (P:Program) (g:Hp) {H:Type}:TypeId->List Value->DataW H->Prop
 |bool {t:TypeId} (b:Bool):P.underlying t=some .bool->Rdx P g t [.bool b] (.lit (.bool b))
 |int {t:TypeId} {k:IntKind} (n:Int):P.underlying t=some (.int k)->(Lit.int k n).wf=true->Rdx P g t [.int k n] (.lit (.int k n))
 |str {t:TypeId} (s:ByteArray):P.underlying t=some .string->s.size<=maxLen->Rdx P g t [.string s] (.lit (.string s.data.toList))
 |nil {t e:TypeId}:P.underlying t=some (.slice e)->Rdx P g t [.slice none 0 0] .nil
 |slice {t e:TypeId} (id len cap:Nat) (ds sp:List (DataW H)) (C:Nat->List Value):P.underlying t=some (.slice e)->ds.length=len->len<=cap->cap<=maxLen->
  (∀(i:Nat) (d:DataW H),ds[i]? =some d->B8 g ⟨id,i*P.cellsOf e,none⟩ (P.cellsOf e)=some (C i))->(∀(i:Nat) (d:DataW H),ds[i]? =some d->Rdx P g e (C i) d)->Rdx P g t [.slice (some ⟨id,0,none⟩) len cap] (.slice ds sp)
 |struct {t:TypeId} {fs:Array Field} (cs:List Value) (ds:List (DataW H)):P.underlying t=some (.struct fs)->cs.length=P.cellsOf t->ds.length=fs.size->
  (∀(i:Nat) (f:Field) (d:DataW H),fs[i]? =some f->ds[i]? =some d->Rdx P g f.type ((cs.drop f.offset).take (P.cellsOf f.type)) d)->Rdx P g t cs (.agg ds)
theorem A3L {g g':Hp} (h:∀k o,g k=some o->g' k=some o) {a:Addr} {n:Nat} {l:List Value} (hl:B8 g a n=some l):B8 g' a n=some l:=by
 obtain ⟨i,o,ver,vs,e,ro,rfl,hg,hle,rfl⟩:=P0 hl;simp only [B8,h _ _ hg];have:Nat.ble (o+n) vs.length=true:=Nat.ble_eq_true_of_le hle;rw [this]
theorem Rdx.mono {P:Program} {g g':Hp} {H:Type} (h:∀k o,g k=some o->g' k=some o) {t:TypeId} {cs:List Value} {d:DataW H} (r:Rdx P g t cs d):Rdx P g' t cs d:=by
 induction r with
 |bool b ht=>exact .bool b ht
 |int n ht hw=>exact .int n ht hw
 |str s ht hs=>exact .str s ht hs
 |nil ht=>exact .nil ht
 |slice id len cap ds sp C ht hl hc hm h1 h2 ih=>exact .slice id len cap ds sp C ht hl hc hm (fun i d hd=>A3L h (h1 i d hd)) ih
 |struct cs ds ht hl hn h2 ih=>exact .struct cs ds ht hl hn ih
abbrev Lst:=List (AObj×(Nat×Nat×Nat))
def gL (L:Lst):Hp:=fun k=>(L[k]?).map (·.1)
def φL (L:Lst):Loc:=fun k=>(L[k]?).map (·.2)
def ExtL (L L':Lst):Prop:=∃M,L'=L++M
theorem ExtL.refl (L:Lst):ExtL L L:=⟨[],by simp⟩
theorem ExtL.trans {L L' L'':Lst} (a:ExtL L L') (b:ExtL L' L''):ExtL L L'':=by
 obtain ⟨M,rfl⟩:=a;obtain ⟨N,rfl⟩:=b;exact ⟨M++N,by simp⟩
theorem ExtL.get {L L':Lst} (h:ExtL L L') {k:Nat} {x:AObj×(Nat×Nat×Nat)} (hk:L[k]? =some x):L'[k]? =some x:=by
 obtain ⟨M,rfl⟩:=h;grind
theorem ExtL.g {L L':Lst} (h:ExtL L L'):∀k o,gL L k=some o->gL L' k=some o:=fun k o e=>by
 unfold gL at e ⊢;cases hk:L[k]? with
 |none=>rw [hk] at e;cases e
 |some x=>rw [hk] at e;rw [h.get hk];exact e
theorem ExtL.φ {L L':Lst} (h:ExtL L L'):(φL L).le (φL L'):=fun k o e=>by
 unfold φL at e ⊢;cases hk:L[k]? with
 |none=>rw [hk] at e;cases e
 |some x=>rw [hk] at e;rw [h.get hk];exact e
def LOk (w:World) (L:Lst):Prop:=∀(k:Nat) (o:AObj) (b d t:Nat),L[k]? =some (o,(b,d,t))->o.body.isRo=true/\∃ob,w.heap[b]? =some ob/\ORel (φL L) d t o.body ob
theorem LOk.nil (w:World):LOk w []:=fun k o b d t h=>by simp at h
section
variable {H:Type} {enc:TypeId×Value->H} {P:Program} {w:World}
def Lay (P:Program) (w:World) (t:TypeId) (cs:List Value) (d:DataW H):Prop:=
 ∀L,LOk w L->∃L':Lst,∃cs':List Value,ExtL L L'/\LOk w L'/\VRels (φL L') cs' cs/\ones cs'=true/\Rdx P (gL L') t cs' d
theorem B8d (t:TypeId) {n:Nat} {cs:Nat->List Value} {D:Nat->DataW H} (h:∀i,i<n->Lay P w t (cs i) (D i)):∀L,LOk w L->
  ∃L':Lst,∃C:Nat->List Value,ExtL L L'/\LOk w L'/\∀i,i<n->VRels (φL L') (C i) (cs i)/\ones (C i)=true/\Rdx P (gL L') t (C i) (D i):=by
 induction n with
 |zero=>grind [ExtL.refl]
 |succ n ih=>
  intro L hL;obtain ⟨L1,C,h1,h2,h3⟩:=ih (fun i hi=>h i (by omega)) L hL;obtain ⟨L2,c,k1,k2,k3,k4,k5⟩:=h n (by omega) L1 h2;refine ⟨L2,fun i=>if i=n then c else C i,h1.trans k1,k2,fun i hi=> ?_⟩
  by_cases e:i=n
  ·grind
  ·simp only [if_neg e];obtain ⟨q1,q2,q3⟩:=h3 i (by omega);exact ⟨q1.mono k1.φ,q2,q3.mono k1.g⟩
def I5 (C:Nat->List Value):Nat->List Value
 |0=>[]
 |n+1=>I5 C n++C n
theorem A1b {C:Nat->List Value} {c:Nat}:∀n,(∀i,i<n->(C i).length=c)->(I5 C n).length=n*c
 |0,_=>by simp [I5]
 |n+1,h=>by rw [I5,List.length_append,A1b n (fun i hi=>h i (by omega)),h n (by omega),Nat.succ_mul]
theorem A1R {C:Nat->List Value} {c:Nat}:∀n,(∀i,i<n->(C i).length=c)->∀i,i<n->((I5 C n).drop (i*c)).take c=C i
 |0,_,i,h=>by omega
 |n+1,hl,i,hi=>by
  have hn:=A1b n (fun i hi=>hl i (by omega));rw [I5]
  by_cases e:i=n
  ·grind
  ·have hle:i*c+c<=n*c:=by have:=Nat.mul_le_mul_right c (show i+1<=n by omega);rw [Nat.succ_mul] at this;exact this
   rw [List.drop_append_of_le_length (by omega),List.take_append_of_le_length (by simp;omega)];exact A1R n (fun i hi=>hl i (by omega)) i (by omega)
theorem A2O {φ:Loc} {C D:Nat->List Value}:∀n,(∀i,i<n->VRels φ (C i) (D i))->VRels φ (I5 C n) (I5 D n)
 |0,_=>.nil
 |n+1,h=>(A2O n (fun i hi=>h i (by omega))).append (h n (by omega))
theorem A2y {C:Nat->List Value}:∀n,(∀i,i<n->ones (C i)=true)->ones (I5 C n)=true
 |0,_=>rfl
 |n+1,h=>Y3 (A2y n (fun i hi=>h i (by omega))) (h n (by omega))
def A2P (P:Program):Nat->List Field->Option Nat
 |o,[]=>some o
 |o,f::r=>match Nat.beq f.offset o with
  |true=>A2P P (o+P.cellsOf f.type) r
  |false=>none
def plainT (P:Program) (T:List TypeId) (t:TypeId):Bool:=
 match P.underlying t with
 |some .bool|some (.int _)|some .string=>true
 |some (.slice e)=>T.contains e&&Nat.blt 0 (P.cellsOf e)
 |some (.struct fs)=>(fs.toList.all fun f=>T.contains f.type)&&(match A2P P 0 fs.toList with|some n=>Nat.beq n (P.cellsOf t)|none=>false)
 |_=>false
theorem B0Y {t:TypeId} {v:Value} {d:DataW H} (hv:∀φ,VRel φ v v) (ho:ones [v]=true) (hr:∀g,Rdx P g t [v] d):Lay P w t [v] d:=
 fun L hL=>⟨L,[v],ExtL.refl L,hL,.cons (hv _) .nil,ho,hr _⟩
theorem LOk.push {L:Lst} (hL:LOk w L) {o:AObj} {b d t:Nat} (hro:o.body.isRo=true) {ob:Obj} (hb:w.heap[b]? =some ob) (h:ORel (φL (L++[(o,(b,d,t))])) d t o.body ob):LOk w (L++[(o,(b,d,t))]):=by
 intro k o' b' d' t' hk
 by_cases hlt:k<L.length
 ·rw [List.getElem?_append_left hlt] at hk;obtain ⟨h1,ob',h2,h3⟩:=hL k o' b' d' t' hk;exact ⟨h1,ob',h2,h3.mono (ExtL.φ ⟨[_],rfl⟩)⟩
 grind
theorem A92 {a:Addr} {v:Value} {n:Nat} (h:w.cell? (a.add n)=some v) (hn:n=0):a.spot=none:=by
 subst hn;have:a.add 0=a:=by unfold Addr.add;simp
 rw [this] at h;exact World.cell?_spot h
theorem B6t {t e:TypeId} (ht:P.underlying t=some (.slice e)) (hc:0<P.cellsOf e) {a:Addr} {len cap:Nat} (hlc:len<=cap) (hcm:cap<=maxLen) {cs:Nat->List Value} {D:Nat->DataW H} {sp:List (DataW H)}
  (hcells:∀i,i<cap->w.cells? 0 (a.add (i*P.cellsOf e)) (P.cellsOf e)=some (cs i)) (hlay:∀i,i<cap->Lay P w e (cs i) (D i)):
  Lay P w t [.slice (some a) len cap] (.slice ((List.range len).map D) sp):=by
 intro L hL
 by_cases h0:cap=0
 ·obtain rfl:cap=0:=h0;obtain rfl:len=0:=by omega
  refine ⟨L,[.slice (some ⟨0,0,none⟩) 0 0],ExtL.refl L,hL,.cons (.slice0 _ _ _) .nil,rfl,?_⟩;exact .slice 0 0 0 [] sp (fun _=>[]) ht rfl (Nat.le_refl _) (Nat.zero_le _) (fun i d h=>by simp at h) (fun i d h=>by simp at h)
 ·obtain ⟨L1,C,h1,h2,h3⟩:=B8d e (n:=cap) hlay L hL;obtain ⟨c,hcdef⟩:∃c,c=P.cellsOf e:=⟨_,rfl⟩;rw [<-hcdef] at hcells hc;have hcell:=fun i hi=>World.cells?_some (hcells i hi)
  have hlenC:∀i,i<cap->(C i).length=c:=fun i hi=>by rw [<-(h3 i hi).1.length];exact (hcell i hi).2.1
  have hlenD:∀i,i<cap->(cs i).length=c:=fun i hi=>(hcell i hi).2.1
  have hfirst:∃v,w.cell? (a.add 0)=some v:=by
   have:=(hcell 0 (by omega)).2.2 0 hc;rw [Nat.zero_mul,Deep.add_add,List.getElem?_eq_getElem (by rw [hlenD 0 (by omega)];exact hc)] at this;exact ⟨_,this⟩
  obtain ⟨v0,hv0⟩:=hfirst;have hspot:=A92 hv0 rfl;obtain ⟨b,off,spot⟩:=a;simp only at hspot;subst hspot;have hblk:∃cc e' fr,w.heap[b]? =some (.cells cc e' fr):=by
   rw [E0] at hv0;unfold World.cell? at hv0;grind
  obtain ⟨cc,e',fr,hb⟩:=hblk;have hrow:∀i,i<cap->∀j,j<c->cc[off+(i*c+j)]? =(cs i)[j]? :=fun i hi j hj=>by
   grind [E0,A1q]
  have hpiece:∀m,m<=cap->(cc.toList.drop off).take (m*c)=I5 cs m:=by
   intro m
   induction m with
   |zero=>grind [I5]
   |succ m ih=>
    intro hm;rw [I5,<-ih (by omega),Nat.succ_mul,List.take_add];congr 1;apply List.ext_getElem?;grind
  have hrl:=A1b (C:=C) cap hlenC
  let ob:AObj:=⟨0,.cells (I5 C cap) e' true⟩
  have hext:ExtL L1 (L1++[(ob,(b,off,cc.size))]):=⟨_,rfl⟩;have hφ:φL (L1++[(ob,(b,off,cc.size))]) L1.length=some (b,off,cc.size):=by simp [φL]
  have hg:gL (L1++[(ob,(b,off,cc.size))]) L1.length=some ob:=by simp [gL]
  refine ⟨L1++[(ob,(b,off,cc.size))],[.slice (some ⟨L1.length,0,none⟩) len cap],h1.trans hext,?_,?_,rfl,?_⟩
  ·refine h2.push rfl hb ⟨rfl,rfl,(fun h=>by cases h),A2y cap (fun i hi=>(h3 i hi).2.1),?_⟩;rw [hrl,hpiece cap (Nat.le_refl _)];exact (A2O cap fun i hi=>(h3 i hi).1).mono hext.φ
  ·refine .cons ?_ .nil;have:=VRel.slice (o:=0) len cap hφ hlc (by unfold D3;unfold maxLen at hcm;omega);exact this
  ·refine .slice L1.length len cap _ sp C ht (by simp) hlc hcm (fun i d hd=> ?_) (fun i d hd=> ?_)
   ·have hi:i<len:=by
     grind
    rw [<-hcdef];simp only [B8,hg,ob];have hle:i*c+c<=(I5 C cap).length:=by
     rw [hrl];have:=Nat.mul_le_mul_right c (show i+1<=cap by omega);rw [Nat.succ_mul] at this;exact this
    have hbl:Nat.ble (i*c+c) (I5 C cap).length=true:=Nat.ble_eq_true_of_le hle;grind [A1R]
   ·have hi:i<len:=by
     grind
    have hdi:d=D i:=by
     grind
    rw [hdi];exact (h3 i (by omega)).2.2.mono hext.g
end
section
variable {H:Type} {enc:TypeId×Value->H} {P:Program} {w:World}
theorem A7x (cs:List Value):∀(fs:List Field) (o e:Nat) (ds:List (DataW H)),A2P P o fs=some e->e<=cs.length->ds.length=fs.length->
  (∀(i:Nat) (f:Field) (d:DataW H),fs[i]? =some f->ds[i]? =some d->Lay P w f.type ((cs.drop f.offset).take (P.cellsOf f.type)) d)->
  ∀L,LOk w L->∃L':Lst,∃C:List Value,ExtL L L'/\LOk w L'/\VRels (φL L') C ((cs.drop o).take (e - o))/\o<=e/\ones C=true/\C.length=e - o/\
   ∀(i:Nat) (f:Field) (d:DataW H),fs[i]? =some f->ds[i]? =some d->o<=f.offset/\Rdx P (gL L') f.type ((C.drop (f.offset - o)).take (P.cellsOf f.type)) d
 |[],o,e,ds,ht,he,hl,h,L,hL=>by
  simp only [A2P] at ht;cases ht;refine ⟨L,[],ExtL.refl L,hL,by simp;exact .nil,Nat.le_refl _,rfl,by simp,fun i f d hf=>by simp at hf⟩
 |f::fs,o,e,ds,ht,he,hl,h,L,hL=>by
  cases ds with
  |nil=>simp at hl
  |cons d ds=>
   simp only [A2P] at ht;split at ht
   ·rename_i hb;rw [D8] at hb;have ho:=of_decide_eq_true hb;obtain ⟨L1,c,k1,k2,k3,k4,k5⟩:=h 0 f d rfl rfl L hL;obtain ⟨L2,C,q1,q2,q3,q4,q5,q6,q7⟩:=A7x cs fs (o+P.cellsOf f.type) e ds ht he (by simpa using hl) (fun i f' d' hf hd=>h (i+1) f' d' (by simpa using hf) (by simpa using hd)) L1 k2;have hclen:c.length=P.cellsOf f.type:=by
     rw [<-k3.length,List.length_take,List.length_drop];omega
    have hsplit:(cs.drop o).take (e - o)=(cs.drop f.offset).take (P.cellsOf f.type)++(cs.drop (o+P.cellsOf f.type)).take (e - (o+P.cellsOf f.type)):=by
     rw [ho,show e - o=P.cellsOf f.type+(e - (o+P.cellsOf f.type)) by omega,List.take_add,List.drop_drop]
    refine ⟨L2,c++C,k1.trans q1,q2,?_,by omega,Y3 k4 q5,by rw [List.length_append,hclen,q6];omega,fun i f' d' hf hd=> ?_⟩
    ·rw [hsplit];exact (k3.mono q1.φ).append q3
    ·cases i with
     |zero=>
      simp at hf hd;subst hf;subst hd;refine ⟨by omega,?_⟩;rw [ho,Nat.sub_self,List.drop_zero,List.take_append_of_le_length (by omega),List.take_of_length_le (by omega)];exact k5.mono q1.g
     |succ i=>
      obtain ⟨p1,p2⟩:=q7 i f' d' (by simpa using hf) (by simpa using hd);refine ⟨by omega,?_⟩;have:f'.offset - o=P.cellsOf f.type+(f'.offset - (o+P.cellsOf f.type)):=by omega
      rw [this,<-hclen,List.drop_append];rw [show c.length+(f'.offset - (o+c.length)) - c.length=f'.offset - (o+c.length) by omega];have hd0:c.drop (c.length+(f'.offset - (o+c.length)))=[]:=List.drop_of_length_le (by omega);grind
   ·cases ht
theorem B45 {t:TypeId} {fs:Array Field} (ht:P.underlying t=some (.struct fs)) (htl:A2P P 0 fs.toList=some (P.cellsOf t)) {cs:List Value} (hl:cs.length=P.cellsOf t) {ds:List (DataW H)} (hn:ds.length=fs.size)
  (h:∀(i:Nat) (f:Field) (d:DataW H),fs[i]? =some f->ds[i]? =some d->Lay P w f.type ((cs.drop f.offset).take (P.cellsOf f.type)) d):Lay P w t cs (.agg ds):=by
 intro L hL;obtain ⟨L',C,h1,h2,h3,_,h4,h5,h6⟩:=A7x (P:=P) (w:=w) cs fs.toList 0 (P.cellsOf t) ds htl (by omega) (by simpa using hn) (fun i f d hf hd=>h i f d (by simpa using hf) hd) L hL;rw [List.drop_zero,Nat.sub_zero,List.take_of_length_le (by omega)] at h3;refine ⟨L',C,h1,h2,h3,h4,.struct C ds ht (by omega) hn fun i f d hf hd=> ?_⟩;grind
theorem C0D (T:List TypeId) (hT:T.all (plainT P T)=true):∀(fuel:Nat) (t:TypeId),T.contains t=true->∀(cs:List Value) (x:DataW H×List MemPlace),DataW.trod enc P w 0 (fun _=>true) true fuel t cs=some x->Lay P w t cs x.1:=by
 intro fuel
 induction fuel using Nat.strongRecOn with
 |_ fuel ih=>
  intro t htT cs x h;have hp:=List.all_eq_true.1 hT t (by simpa using htT);unfold plainT at hp;split at hp
  ·rename_i hu;obtain ⟨b,rfl,rfl⟩:=DataW.trod_bool hu h;exact B0Y (fun φ=>.bool b) rfl (fun g=>.bool b hu)
  ·rename_i k hu;obtain ⟨n,rfl,rfl,hw⟩:=DataW.trod_int hu h;exact B0Y (fun φ=>.int k n) rfl (fun g=>.int n hu hw)
  ·rename_i hu;obtain ⟨s,rfl,rfl,hs⟩:=DataW.trod_string hu h;exact B0Y (fun φ=>.string s) rfl (fun g=>.str s hu hs)
  ·rename_i e hu;simp only [Bool.and_eq_true,G6,decide_eq_true_eq] at hp;rcases DataW.trod_slice hu h with ⟨rfl,rfl⟩|⟨a,len,cap,elems,rest,n,hfu,rfl,rfl,hb,hlc,hm,hlen,hel,hsp,hns⟩
   ·exact fun L hL=>⟨L,[.slice none 0 0],ExtL.refl L,hL,.cons .sliceN .nil,rfl,.nil hu⟩
   ·obtain ⟨hrl,hrest⟩:=hsp rfl;have key:∀i,i<cap->(w.cells? 0 (a.add (i*P.cellsOf e)) (P.cellsOf e)).bind (DataW.trod enc P w 0 (fun _=>true) true n e)=(elems++rest)[i]? :=by
     grind
    have hall:(elems++rest).length=cap:=by rw [List.length_append,hlen,hrl];omega
    have hD:∀i,i<cap->∃cs',w.cells? 0 (a.add (i*P.cellsOf e)) (P.cellsOf e)=some cs'/\DataW.trod enc P w 0 (fun _=>true) true n e cs'=some ((elems++rest).getD i (.nil,[])):=fun i hi=>by
     have:=key i hi;rw [List.getElem?_eq_getElem (by omega)] at this;obtain ⟨cs',h1,h2⟩:=Option.bind_eq_some_iff.1 this;grind
    obtain ⟨cs,hcs⟩:=Deep.choose_lt (α:=List Value) hD;have hl2:=B6t (P:=P) (w:=w) hu hp.2 (a:=a) (len:=len) (cap:=cap) hlc hm (cs:=cs) (D:=fun i=>((elems++rest).getD i (.nil,[])).1) (sp:=rest.map (·.1)) (fun i hi=>(hcs i hi).1)
     (fun i hi=>ih n (by omega) e hp.1 _ _ (hcs i hi).2)
    have he:elems.map (·.1)=(List.range len).map fun i=>((elems++rest).getD i (.nil,[])).1:=by
     apply List.ext_getElem?;grind
    grind
  ·rename_i fs hu;simp only [Bool.and_eq_true,List.all_eq_true] at hp;obtain ⟨xs,n,rfl,rfl,hl,hn,hf⟩:=DataW.trod_struct hu h;have htl:A2P P 0 fs.toList=some (P.cellsOf t):=by
    have h2:=hp.2;split at h2
    ·simp_all
    ·cases h2
   simp_all<;>grind [B45]
  ·cases hp
end
end
section
open Go Go.RowKit
theorem B8e {gl:Glb} (hgl:∀i,gl.is i=false) {w:World} (hg:gl.good w w.heap.size) {L:Lst} (hL:LOk w L):Inv gl w w.heap.size (φL L) ⟨gL L,.nil,L.length⟩ w:=by
 have hget:(AS.mk (gL L) .nil L.length).get=gL L:=by
  funext k
  simp only [AS.get,Tri.get_nil]
 refine ⟨⟨Nat.le_refl _,fun _ _=>rfl,rfl,rfl,rfl,fun i o h=> ?_,fun i j b d d' t t' hi hj hib hjb=> ?_⟩,fun i hi=> ?_,fun i h=> ?_,hg⟩
 ·rw [hget] at h;unfold gL at h;cases hk:L[i]? with
  |none=>rw [hk] at h;cases h
  |some x=>
   rw [hk] at h;cases h;obtain ⟨o,b,d,t⟩:=x;obtain ⟨h1,ob,h2,h3⟩:=hL i o b d t hk;exact ⟨b,d,t,ob,by simp [φL,hk],h2,h3,fun _=>h1⟩
 ·left;rw [hget] at hi;unfold gL at hi;cases hk:L[i]? with
  |none=>rw [hk] at hi;exact absurd rfl hi
  |some x=>
   obtain ⟨o,b',d2,t2⟩:=x;obtain ⟨h1,ob,h2,h3⟩:=hL i o b' d2 t2 hk;simp [φL,hk] at hib;obtain ⟨rfl,_,_⟩:=hib;exact (Array.getElem?_eq_some_iff.1 h2).1
 ·rw [hget];unfold gL;rw [List.getElem?_eq_none (by exact hi)];rfl
 ·rw [hgl] at h;cases h
theorem B6u {P:Program} {gl:Glb} {F:FuncId->Option XFun} {O:FuncId->List Value->Option Value} (hE:Env P gl F O) (hgl:∀i,gl.is i=false) {n:Nat} {f:FuncId} {args args':List Value} {L:Lst} {w:World} (hg:gl.good w w.heap.size)
  (hL:LOk w L) (ha:VRels (φL L) args args') {s':AS} (h:P4 F O n f args ⟨gL L,.nil,L.length⟩=some (.ret (.bool true),s')):Calls P f args'.toArray w fun E w'=>E=.returned (.bool true)/\Below w.heap.size w w':=by
 obtain ⟨_,hc⟩:=A2L hE n f args _ _ _ h;refine Calls.mono (hc w w.heap.size (φL L) w args' (B8e hgl hg hL) (fun i h1 h2=> ?_) ha) ?_
 ·unfold φL;rw [List.getElem?_eq_none (by exact h1)];rfl
 ·rintro E w' ⟨ψ,hE',hi,hs⟩;obtain ⟨v',rfl,hv⟩:=hE';cases hv;exact ⟨rfl,hi.rel.below rfl⟩
structure Ex1 (s s':AS):Prop where
 next:s.next<=s'.next
 same:∀k,k<s.next->s'.get k=s.get k
 dm:Dm s'
theorem Ex1.refl {s:AS} (h:Dm s):Ex1 s s:=⟨Nat.le_refl _,fun _ _=>rfl,h⟩
theorem Ex1.trans {a b c:AS} (h:Ex1 a b) (k:Ex1 b c):Ex1 a c:=⟨Nat.le_trans h.next k.next,fun i hi=>by rw [k.same i (Nat.lt_of_lt_of_le hi h.next),h.same i hi],k.dm⟩
theorem Ex1.load {a b:AS} (h:Ex1 a b) (hd:Dm a) {ad:Addr} {n:Nat} {l:List Value} (hl:B8 a.get ad n=some l):B8 b.get ad n=some l:=by
 refine A3L (fun k o hk=> ?_) hl;rw [h.same k ?_]
 ·exact hk
 ·by_cases hlt:k<a.next
  ·exact hlt
  ·rw [hd k (by omega)] at hk;cases hk
end
section
open Go
theorem B5p (s:AS):s.upd [] s.next=s:=rfl
theorem wrap_small (n:Int) (h0:-9223372036854775808<=n) (h1:n<=9223372036854775807):IntKind.i64.wrap n=n:=by
 rw [IntKind.wrap_i64];omega
theorem A0s {g:Hp} {b o:Nat} {ver:Nat} {vs:List Value} {e:TypeId} {ro:Bool} (hg:g b=some ⟨ver,.cells vs e ro⟩) {v:Value} (h:vs[o]? =some v):B8 g ⟨b,o,none⟩ 1=some [v]:=by
 have hlt:=(List.getElem?_eq_some_iff.1 h).1;simp only [B8,hg];have:Nat.ble (o+1) vs.length=true:=Nat.ble_eq_true_of_le hlt;rw [this];simp only [Option.some.injEq];apply List.ext_getElem?;intro j;cases j with
 |zero=>rw [List.getElem?_take,if_pos (by omega),List.getElem?_drop,Nat.add_zero,h];rfl
 |succ j=>rw [List.getElem?_take,if_neg (by omega)];rfl
theorem add_lit (b o n:Nat):(⟨b,o,none⟩:Addr).add n=⟨b,o+n,none⟩:=E0 b o n
end
end Go.Xe
namespace Go.Xt
section
open Go Go.Xe
inductive Md where
 |fz
 |own (e s:Nat)
 |nl
inductive Pl where
 |tmp (t:Nat)
 |tcell (t o ser:Nat)
 |cell (k o:Nat)
inductive TV where
 |int (k:IntKind) (n:Int)
 |bool (b:Bool)
 |str (s:ByteArray)
 |nilp
 |ptr (k o:Nat)
 |elt (ch:List TV) (o:Nat)
 |via (p:Pl) (c:Nat)
 |vel (p:Pl) (c j o:Nat)
 |bx (ser:Nat) (cells:List TV) (e:TypeId)
 |vpt (t o ser:Nat)
 |sl (m:Md) (chs:List (List TV))
 |ref (k o size n c:Nat)
 |nilm
 |map (k:Nat)
 |nilf
 |func (f:FuncId) (first cap:List TV)
 |nili
 |iface (t:TypeId) (v:TV)
 |agg (l:List TV)
 |tuple (l:List TV)
 |dead
inductive TBody where
 |cells (vs:List TV) (e:TypeId)
 |map (es:List (TV×TV×Nat)) (clock:Nat)
 |iter (s:ByteArray) (pos:Nat)
structure TObj where
 ver:Nat
 body:TBody
abbrev Sto:=List (Option TObj)
def Sto.at (σ:Sto) (k:Nat):Option TObj:=
 match σ[k]? with
 |some (some o)=>some o
 |_=>none
def ofV:Value->TV
 |.int k n=>.int k n
 |.bool b=>.bool b
 |.string s=>.str s
 |.pointer none=>.nilp
 |.slice none 0 0=>.sl .nl []
 |.map none=>.nilm
 |.nilFunc=>.nilf
 |.nilIface=>.nili
 |.agg ⟨l⟩=>.agg (ofVs l)
 |.tuple ⟨l⟩=>.tuple (ofVs l)
 |_=>.dead
where
 ofVs:List Value->List TV
  |[]=>[]
  |v::l=>ofV v::ofVs l
def give:TV->Option TV
 |.sl (.own _ _) c=>some (.sl .fz c)
 |.via _ _=>none
 |.vel _ _ _ _=>none
 |.bx _ _ _=>none
 |.vpt _ _ _=>none
 |.dead=>none
 |v=>some v
def W9:List TV->Option (List TV)
 |[]=>some []
 |v::l=>match give v,W9 l with
  |some v,some l=>some (v::l)
  |_,_=>none
def D1:TV->Bool
 |.sl (.own _ _) _=>true
 |_=>false
def frz:TV->TV
 |.sl (.own _ _) c=>.sl .fz c
 |v=>v
def below (b:Nat):TV->Bool
 |.ptr k _=>Nat.blt k b
 |.ref k _ _ _ _=>Nat.blt k b
 |.map k=>Nat.blt k b
 |.elt ch _=>belows ch
 |.sl _ chs=>belowss chs
 |.func _ x y=>belows x&&belows y
 |.iface _ v=>below b v
 |.agg l=>belows l
 |.tuple l=>belows l
 |_=>true
where
 belows:List TV->Bool
  |[]=>true
  |v::l=>below b v&&belows l
 belowss:List (List TV)->Bool
  |[]=>true
  |v::l=>belows v&&belowss l
def canon:TV->TV
 |.sl (.own _ _) c=>.sl .fz c
 |.sl .nl c=>.sl .fz c
 |.agg l=>.agg (canons l)
 |.tuple l=>.tuple (canons l)
 |v=>v
where
 canons:List TV->List TV
  |[]=>[]
  |v::l=>canon v::canons l
def TV.cells:TV->List TV
 |.agg l=>l
 |v=>[v]
def A4O:List TV->Bool
 |[]=>true
 |.agg _::_=>false
 |.tuple _::_=>false
 |.dead::_=>false
 |.bx _ _ _::_=>false
 |.vpt _ _ _::_=>false
 |_::r=>A4O r
def B8f (op:BinOp) (k:IntKind) (a b:Int):Option TV:=
 match op with
 |.add=>some (.int k (k.wrap (a+b)))
 |.sub=>some (.int k (k.wrap (a - b)))
 |.mul=>some (.int k (k.wrap (a*b)))
 |.quo=>if A0F b 0 then none else some (.int k (k.wrap (a.tdiv b)))
 |.rem=>if A0F b 0 then none else some (.int k (a.tmod b))
 |.and=>some (.int k (k.wrap (BitVec.ofInt k.bits a &&& BitVec.ofInt k.bits b).toNat))
 |.or=>some (.int k (k.wrap (BitVec.ofInt k.bits a ||| BitVec.ofInt k.bits b).toNat))
 |.xor=>some (.int k (k.wrap (BitVec.ofInt k.bits a ^^^ BitVec.ofInt k.bits b).toNat))
 |.andNot=>some (.int k (k.wrap (BitVec.ofInt k.bits a &&& ~~~(BitVec.ofInt k.bits b)).toNat))
 |.eql=>some (.bool (A0F a b))
 |.neq=>some (.bool (!(A0F a b)))
 |.lss=>some (.bool (ltInt a b))
 |.leq=>some (.bool (A3y a b))
 |.gtr=>some (.bool (ltInt b a))
 |.geq=>some (.bool (A3y b a))
 |_=>none
def C2K (op:BinOp) (x y:ByteArray):Option TV:=
 match op with
 |.add=>if Nat.ble (x.data.toList.length+y.data.toList.length) 9223372036854775807 then some (.str ⟨(x.data.toList++y.data.toList).toArray⟩) else none
 |.eql=>some (.bool (N4 x.data.toList y.data.toList))
 |.neq=>some (.bool (!(N4 x.data.toList y.data.toList)))
 |.lss=>some (.bool (Z6 x.data.toList y.data.toList))
 |.leq=>some (.bool (Z6 x.data.toList y.data.toList||N4 x.data.toList y.data.toList))
 |.gtr=>some (.bool (!(Z6 x.data.toList y.data.toList||N4 x.data.toList y.data.toList)))
 |.geq=>some (.bool (!(Z6 x.data.toList y.data.toList)))
 |_=>none
def A3v (op:BinOp) (x y:TV):Option TV:=
 match op,x,y with
 |.shl,.int k a,.int _ b=>match ltInt b 0 with
  |true=>none
  |false=>some (.int k (k.wrap (a*2^(min b.toNat k.bits))))
 |.shr,.int k a,.int _ b=>match ltInt b 0 with
  |true=>none
  |false=>some (.int k (a.fdiv (2^(min b.toNat k.bits))))
 |op,.int k a,.int k' b=>match A38 k k' with
  |true=>B8f op k a b
  |false=>none
 |op,.str a,.str b=>C2K op a b
 |_,_,_=>none
def tun (op:UnOp) (x:TV):Option TV:=
 match op,x with
 |.neg,.int k n=>some (.int k (k.wrap (0 - n)))
 |.xor,.int k n=>B8f .xor k (if k.signed then -1 else k.max) n
 |.not,.bool b=>some (.bool !b)
 |_,_=>none
def plainT (σ:Sto) (k o:Nat):Bool:=
 match σ.at k with
 |some ⟨_,.cells vs _⟩=>Nat.blt o vs.length
 |_=>false
mutual
def teq (σ:Sto):EqK->TV->TV->Option Bool
 |.int,.int k a,.int k' b=>match A38 k k' with
  |true=>some (A0F a b)
  |false=>none
 |.bool,.bool a,.bool b=>some (a==b)
 |.str,.str a,.str b=>some (N4 a.data.toList b.data.toList)
 |.ptr,.nilp,.nilp=>some true
 |.ptr,.nilp,.ptr _ _=>some false
 |.ptr,.ptr _ _,.nilp=>some false
 |.ptr,.ptr b o,.ptr b' o'=>
  match plainT σ b o&&plainT σ b' o' with
  |true=>some (Nat.beq b b'&&Nat.beq o o')
  |false=>none
 |.ifaceNil,.nili,.nili=>some true
 |.ifaceNil,.nili,.iface _ _=>some false
 |.ifaceNil,.iface _ _,.nili=>some false
 |.sliceNil,.sl .nl _,.sl .nl _=>some true
 |.sliceNil,.sl .fz (_::_),.sl .nl _=>some false
 |.sliceNil,.sl .nl _,.sl .fz (_::_)=>some false
 |.sliceNil,.ref _ _ _ _ _,.sl .nl _=>some false
 |.mapNil,.nilm,.nilm=>some true
 |.mapNil,.nilm,.map _=>some false
 |.mapNil,.map _,.nilm=>some false
 |.funcNil,.nilf,.nilf=>some true
 |.funcNil,.nilf,.func _ _ _=>some false
 |.funcNil,.func _ _ _,.nilf=>some false
 |.agg ps,.agg xs,.agg ys=>B6v σ ps xs ys
 |_,_,_=>none
def B6v (σ:Sto):List (Nat×EqK)->List TV->List TV->Option Bool
 |[],_,_=>some true
 |(i,k)::r,xs,ys=>
  match xs[i]?,ys[i]? with
  |some x,some y=>match teq σ k x y with
   |some true=>B6v σ r xs ys
   |some false=>some false
   |none=>none
  |_,_=>none
end
def A64 (σ:Sto) (k:EqK) (x:TV):List (TV×TV×Nat)->Nat->Option (Option (Nat×TV))
 |[],_=>some none
 |e::es,i=>match teq σ k x e.1 with
  |some true=>some (some (i,e.2.1))
  |some false=>A64 σ k x es (i+1)
  |none=>none
def putAt (vs:List TV) (o:Nat) (l:List TV):List TV:=vs.take o++l++vs.drop (o+l.length)
def A3M (cells:List TV):List (Nat×Nat×TV)->Option (List TV)
 |[]=>some cells
 |(off,size,v)::r=>
  match give v with
  |some v=>match Nat.beq v.cells.length size&&Nat.ble (off+size) cells.length with
   |true=>A3M (putAt cells off v.cells) r
   |false=>none
  |none=>none
def A1S (s:Nat):Nat->List TV->List (List TV)
 |0,_=>[]
 |n+1,l=>l.take s::A1S s n (l.drop s)
def A4P (z:List TV):Nat->List TV
 |0=>[]
 |n+1=>z++A4P z n
def A2g (x:TV) (y:Nat):Option Nat:=
 match x with
 |.int _ (.ofNat i)=>match Nat.ble i y with
  |true=>some i
  |false=>none
 |_=>none
def A7y (x:Option TV) (y d:Nat):Option Nat:=
 match x with
 |some v=>A2g v y
 |none=>some d
def hiB (hi mx:Option TV) (m len:Nat):Option Nat:=
 match hi with
 |some v=>A2g v m
 |none=>match mx with
  |none=>some len
  |some _=>none
def P7 (len cap:Nat) (lo hi mx:Option TV):Option (Nat×Nat×Nat):=
 match A7y mx cap cap with
 |none=>none
 |some m=>match hiB hi mx m len with
  |none=>none
  |some h=>match A7y lo h 0 with
   |none=>none
   |some l=>some (l,h,m)
def K5 (s:Nat) (chs:List (List TV)):Bool:=chs.all fun c=>Nat.beq c.length s
def A0t:List TV->Option (List (IntKind×Int))
 |[]=>some []
 |.int k n::r=>match A0t r with
  |some l=>some ((k,n)::l)
  |none=>none
 |_=>none
def X5:List (List TV)->Option (List UInt8)
 |[]=>some []
 |[.int .u8 (.ofNat n)]::r=>match X5 r with
  |some l=>some (UInt8.ofNat n::l)
  |none=>none
 |_=>none
def Md.app (e s:Nat):Md->Bool
 |.own e' s'=>Nat.beq e' e&&Nat.beq s' s
 |.nl=>true
 |.fz=>false
structure TDfr where
 f:FuncId
 args:List TV
structure TAct where
 tm:Tri TV
 df:List TDfr
 clk:Nat
def A6:TV:=.tuple []
def TAct.ev (a:TAct):Operand->TV
 |.tmp t=>match a.tm.get t with
  |some v=>v
  |none=>A6
 |.const v=>ofV v
 |.global _=>.dead
 |.func f=>.func f [] []
def TAct.put (a:TAct) (d:Option Nat) (v:TV):TAct:=
 match d with
 |some t=>⟨a.tm.set t v,a.df,a.clk⟩
 |none=>a
def TAct.tick (a:TAct):TAct:=⟨a.tm,a.df,a.clk+1⟩
def frz1 (a:TAct):Operand->TAct
 |.tmp t=>match D1 (a.ev (.tmp t)) with
  |true=>⟨a.tm.set t (frz (a.ev (.tmp t))),a.df,a.clk+1⟩
  |false=>a
 |_=>a
def frzs (a:TAct):List Operand->TAct
 |[]=>a
 |x::l=>frzs (frz1 a x) l
def taken (a:TAct):Operand->TAct
 |.tmp t=>match D1 (a.ev (.tmp t)) with
  |true=>⟨a.tm.set t .dead,a.df,a.clk+1⟩
  |false=>a
 |_=>a
def A1G:TV->Option (List (List TV))
 |.sl (.own _ _) c=>some c
 |_=>none
def B6w (chs:List (List TV)):TV->TV
 |.sl m _=>.sl m chs
 |v=>v
def M6 (a:TAct) (t ser:Nat):Option (List TV×TypeId):=
 match a.ev (.tmp t) with
 |.bx s cs e=>match Nat.beq s ser with
  |true=>some (cs,e)
  |false=>none
 |_=>none
def W1 (a:TAct) (t ser:Nat) (cs:List TV) (e:TypeId):TAct:=⟨a.tm.set t (.bx ser cs e),a.df,a.clk+1⟩
def TAct.at (a:TAct) (x:Operand):TV:=
 match a.ev x with
 |.bx s cs e=>match x with
  |.tmp t=>.vpt t 0 s
  |_=>.bx s cs e
 |v=>v
def K6 (a:TAct) (σ:Sto):Pl->Option (List (List TV))
 |.tmp t=>A1G (a.ev (.tmp t))
 |.tcell t o s=>match M6 a t s with
  |some (cs,_)=>match cs[o]? with
   |some v=>A1G v
   |none=>none
  |none=>none
 |.cell k o=>match σ.at k with
  |some ⟨_,.cells vs _⟩=>match vs[o]? with
   |some v=>A1G v
   |none=>none
  |_=>none
def A4Q (a:TAct) (σ:Sto) (p:Pl) (c j:Nat):Option (List TV):=
 match Nat.beq c a.clk with
 |true=>match K6 a σ p with
  |some chs=>chs[j]?
  |none=>none
 |false=>none
def A0u (a:TAct) (σ:Sto) (f:TV->TV):Pl->TAct×Sto
 |.tmp t=>(⟨a.tm.set t (f (a.ev (.tmp t))),a.df,a.clk+1⟩,σ)
 |.tcell t o s=>match M6 a t s with
  |some (cs,e)=>match cs[o]? with
   |some v=>(W1 a t s (cs.set o (f v)) e,σ)
   |none=>(a.tick,σ)
  |none=>(a.tick,σ)
 |.cell k o=>match σ.at k with
  |some ⟨ver,.cells vs e⟩=>match vs[o]? with
   |some v=>(a.tick,σ.set k (some ⟨ver,.cells (vs.set o (f v)) e⟩))
   |none=>(a.tick,σ)
  |_=>(a.tick,σ)
def B6x:TV->Bool
 |.via _ _=>false
 |.vel _ _ _ _=>false
 |.bx _ _ _=>false
 |.vpt _ _ _=>false
 |.dead=>false
 |_=>true
def B46 (a:TAct) (σ:Sto) (size:Nat):TV->Option (List (List TV))
 |.sl _ c=>some c
 |.via p ck=>match Nat.beq ck a.clk with
  |true=>K6 a σ p
  |false=>none
 |.ref k o s n _=>match σ.at k with
  |some ⟨_,.cells vs _⟩=>match Nat.beq s size&&Nat.ble (o+n*s) vs.length&& !((vs.drop o).take (n*s)).any D1 with
   |true=>some (A1S s n (vs.drop o))
   |false=>none
  |_=>none
 |.str s=>match size with
  |1=>some (s.data.toList.map fun b=>[.int .u8 b.toNat])
  |_=>none
 |_=>none
def A7z (a:TAct) (σ:Sto):TV->Option (List (List TV))
 |.sl .fz []=>none
 |.sl m c=>some c
 |.via p ck=>match Nat.beq ck a.clk with
  |true=>K6 a σ p
  |false=>none
 |_=>none
def isStr:TV->Bool
 |.str _=>true
 |_=>false
def B6y (size:Nat):Md->List (List TV)->Bool
 |.own _ s,_=>Nat.beq s size
 |.nl,_=>true
 |.fz,[]=>false
 |.fz,_::_=>true
def apm (e s:Nat) (m:Md):List (List TV)->Md
 |[]=>m
 |_::_=>.own e s
def A3Y (b k:Nat) (l:List TV):Bool:=Nat.ble b k||below.belows 0 l
abbrev A5u:=Option (TV×TAct×Sto)
def Pl.offX:Pl->Operand->Bool
 |.tmp t,.tmp t'=> !(Nat.beq t t')
 |_,_=>true
def Pl.old (b:Nat) (l:List TV):Pl->Bool
 |.cell k _=>A3Y b k l
 |_=>true
section
variable (md b:Nat) (a:TAct) (σ:Sto)
def B5r (x:Operand):A5u:=
 match D1 (a.ev x) with
 |false=>some (a.at x,a,σ)
 |true=>match x with
  |.tmp t=>match md with
   |1=>some (a.ev x,taken a x,σ)
   |2=>some (frz (a.ev x),frz1 a x,σ)
   |_=>some (.via (.tmp t) a.clk,a,σ)
  |_=>none
def B0Z:TV->A5u
 |.ptr k o=>match σ.at k with
  |some ⟨ver,.cells vs e⟩=>match vs[o]? with
   |some v=>match D1 v with
    |false=>some (v,a,σ)
    |true=>match md with
     |1=>some (v,a.tick,σ.set k (some ⟨ver,.cells (vs.set o .dead) e⟩))
     |2=>some (frz v,a.tick,σ.set k (some ⟨ver,.cells (vs.set o (frz v)) e⟩))
     |_=>some (.via (.cell k o) a.clk,a,σ)
   |none=>none
  |_=>none
 |.vpt t o s=>match M6 a t s with
  |some (cs,e)=>match cs[o]? with
   |some v=>match D1 v with
    |false=>some (v,a,σ)
    |true=>match md with
     |1=>some (v,W1 a t s (cs.set o .dead) e,σ)
     |2=>some (frz v,W1 a t s (cs.set o (frz v)) e,σ)
     |_=>some (.via (.tcell t o s) a.clk,a,σ)
   |none=>none
  |none=>none
 |.elt ch o=>match ch[o]? with
  |some v=>some (v,a,σ)
  |none=>none
 |.vel p c j o=>match A4Q a σ p c j with
  |some ch=>match ch[o]? with
   |some v=>some (v,a,σ)
   |none=>none
  |none=>none
 |_=>none
def B10 (n:Nat):TV->A5u
 |.ptr k o=>match σ.at k with
  |some ⟨ver,.cells vs e⟩=>match Nat.ble (o+n) vs.length with
   |true=>match ((vs.drop o).take n).any D1 with
    |false=>some (.agg ((vs.drop o).take n),a,σ)
    |true=>some (.agg (((vs.drop o).take n).map frz),a.tick,σ.set k (some ⟨ver,.cells (putAt vs o (((vs.drop o).take n).map frz)) e⟩))
   |false=>none
  |_=>none
 |.vpt t o s=>match M6 a t s with
  |some (cs,e)=>match Nat.ble (o+n) cs.length with
   |true=>match ((cs.drop o).take n).any D1 with
    |false=>some (.agg ((cs.drop o).take n),a,σ)
    |true=>some (.agg (((cs.drop o).take n).map frz),W1 a t s (putAt cs o (((cs.drop o).take n).map frz)) e,σ)
   |false=>none
  |none=>none
 |.elt ch o=>match Nat.ble (o+n) ch.length with
  |true=>some (.agg ((ch.drop o).take n),a,σ)
  |false=>none
 |.vel p c j o=>match A4Q a σ p c j with
  |some ch=>match Nat.ble (o+n) ch.length with
   |true=>some (.agg ((ch.drop o).take n),a,σ)
   |false=>none
  |none=>none
 |_=>none
def B11 (n:Nat) (x:Operand):TV->A5u
 |.ptr k o=>match σ.at k with
  |some ⟨ver,.cells vs e⟩=>match Nat.beq (a.ev x).cells.length n&&A4O (a.ev x).cells&&Nat.ble (o+n) vs.length&&B6x (a.ev x)&&A3Y b k (a.ev x).cells with
   |true=>some (A6,(taken a x).tick.tick,σ.set k (some ⟨ver+1,.cells (putAt vs o (a.ev x).cells) e⟩))
   |false=>none
  |_=>none
 |.vpt t o s=>match M6 a t s with
  |some (cs,e)=>match Nat.beq (a.ev x).cells.length n&&A4O (a.ev x).cells&&Nat.ble (o+n) cs.length&&B6x (a.ev x) with
   |true=>some (A6,(W1 (taken a x) t s (putAt cs o (a.ev x).cells) e).tick,σ)
   |false=>none
  |none=>none
 |.vel p c j o=>match Nat.beq c a.clk&&p.offX x with
  |true=>match K6 a σ p,give (a.ev x) with
   |some chs,some v=>match chs[j]? with
    |some ch=>match Nat.beq v.cells.length n&&A4O v.cells&&Nat.ble (o+n) ch.length&&p.old b v.cells with
     |true=>some (A6,(A0u (frz1 a x) σ (B6w (chs.set j (putAt ch o v.cells))) p).1,(A0u (frz1 a x) σ (B6w (chs.set j (putAt ch o v.cells))) p).2)
     |false=>none
    |none=>none
   |_,_=>none
  |false=>none
 |_=>none
def U7 (e size bytes:Nat) (x:Operand) (new:List (List TV)):A5u:=
 match a.ev x with
 |.sl m c=>match m.app e size&&K5 size c&&K5 size new&&Nat.ble (c.length+new.length) small&&Nat.ble bytes 65536 with
  |true=>some (.sl (apm e size m new) (c++new),(taken a x).tick,σ)
  |false=>none
 |.ref k o s n c=>match new.isEmpty,σ.at k with
  |true,_=>some (.ref k o s n c,a,σ)
  |false,some ⟨_,.cells vs e'⟩=>match Nat.beq s size&&Nat.beq e' e&&K5 size new&&Nat.blt 0 new.length&&Nat.ble (o+n*s) vs.length&& !((vs.drop o).take (n*s)).any D1&&Nat.ble (n+new.length) small&&Nat.ble bytes 65536 with
   |true=>match Nat.beq c (D3+s) with
    |true=>some (.ref σ.length 0 s (n+new.length) (D3+s),a.tick.tick,(σ.set k none)++[some ⟨0,.cells ((vs.drop o).take (n*s)++new.flatten) e⟩])
    |false=>match Nat.blt c (n+new.length) with
     |true=>some (.ref σ.length 0 s (n+new.length) (D3+s),a.tick.tick,σ++[some ⟨0,.cells ((vs.drop o).take (n*s)++new.flatten) e⟩])
     |false=>none
   |false=>none
  |_,_=>none
 |_=>none
def A2h (e size bytes:Nat) (x:Operand) (new:List (List TV)):A5u:=
 match a.ev x,new with
 |.sl .nl [],c::l=>match K5 size (c::l)&&Nat.ble (c::l).length small&&Nat.ble bytes 65536 with
  |true=>some (.ref σ.length 0 size (c::l).length (D3+size),a.tick.tick,σ++[some ⟨0,.cells (c::l).flatten e⟩])
  |false=>none
 |_,_=>U7 a σ e size bytes x new
def A3Z (size:Nat) (x:Operand) (j:Nat):TV->A5u
 |.sl (.own _ _) c=>match x,c[j]? with
  |.tmp t,some ch=>match Nat.beq ch.length size with
   |true=>some (.vel (.tmp t) a.clk j 0,a,σ)
   |false=>none
  |_,_=>none
 |.sl _ c=>match c[j]? with
  |some ch=>match Nat.beq ch.length size with
   |true=>some (.elt ch 0,a,σ)
   |false=>none
  |none=>none
 |.via p ck=>match Nat.beq ck a.clk with
  |true=>match K6 a σ p with
   |some chs=>match chs[j]? with
    |some ch=>match Nat.beq ch.length size with
     |true=>some (.vel p ck j 0,a,σ)
     |false=>none
    |none=>none
   |none=>none
  |false=>none
 |.ref k o s n c=>match Nat.beq s size&&Nat.blt j n with
  |true=>some (.ptr k (o+j*size),a,σ)
  |false=>none
 |_=>none
def C2L:TV->Option Nat
 |.sl _ c=>some c.length
 |.via p ck=>match Nat.beq ck a.clk with
  |true=>match K6 a σ p with
   |some chs=>some chs.length
   |none=>none
  |false=>none
 |.ref _ _ _ n _=>some n
 |_=>none
def B12 (size:Nat) (x:Operand) (lo hi mx:Option TV):TV->A5u
 |.sl m c=>match mx with
  |none=>match P7 c.length c.length lo hi none with
   |some (l,h,_)=>match K5 size c&&B6y size m c with
    |true=>some (.sl m ((c.drop l).take (h - l)),taken a x,σ)
    |false=>none
   |none=>none
  |some _=>none
 |.via p ck=>match mx,Nat.beq ck a.clk with
  |none,true=>match K6 a σ p with
   |some c=>match P7 c.length c.length lo hi none with
    |some (l,h,_)=>match K5 size c&&B6y size .fz c with
     |true=>some (.sl .fz ((c.drop l).take (h - l)),(A0u a σ frz p).1,(A0u a σ frz p).2)
     |false=>none
    |none=>none
   |none=>none
  |_,_=>none
 |.ref k o s n c=>match Nat.ble D3 c with
  |true=>none
  |false=>match P7 n c lo hi mx with
   |some (l,h,m)=>match Nat.beq s size with
    |true=>some (.ref k (match Nat.beq m l with|true=>o|false=>o+l*size) s (h - l) (m - l),a,σ)
    |false=>none
   |none=>none
 |_=>none
def B8g (size:Nat) (x:TV) (src:List (List TV)):A5u:=
 match x with
 |.ref k o s n c=>match σ.at k with
  |some ⟨ver,.cells vs e⟩=>
   match Nat.beq s size&&Nat.ble (o+n*s) vs.length&&K5 size src&&A3Y b k (src.take (Nat.min src.length n)).flatten with
   |true=>match Nat.min src.length n with
    |0=>some (.int .i64 0,a,σ)
    |m+1=>some (.int .i64 (.ofNat (m+1)),a.tick,σ.set k (some ⟨ver+1,.cells (putAt vs o (src.take (m+1)).flatten) e⟩))
   |false=>none
  |_=>none
 |_=>none
def A5v (o:TObj) (v:TV):A5u:=some (v,a.tick,σ++[some o])
def A4R:Option TV->A5u
 |some v=>some (v,a,σ)
 |none=>none
def B13 (k:EqK) (z:TV) (m x:TV) (ok:Bool):Option TV:=
 match (match m with
  |.nilm=>some (some none)
  |.map r=>match σ.at r with
   |some ⟨_,.map es _⟩=>some (A64 σ k x es 0)
   |_=>none
  |_=>none) with
 |some (some (some (_,v)))=>some (match ok with|true=>.tuple [v,.bool true]|false=>v)
 |some (some none)=>some (match ok with|true=>.tuple [z,.bool false]|false=>z)
 |_=>none
def A2i (k:EqK) (m x v:TV):A5u:=
 match m,give x,give v with
 |.map r,some x,some v=>match σ.at r with
  |some ⟨ver,.map es clock⟩=>match A3Y b r [x,v] with
   |true=>match A64 σ k x es 0 with
    |some (some (i,_))=>some (A6,a.tick,σ.set r (some ⟨ver+1,.map (es.modify i fun e=>(x,v,e.2.2)) clock⟩))
    |some none=>some (A6,a.tick,σ.set r (some ⟨ver+1,.map (es++[(x,v,clock)]) (clock+1)⟩))
    |none=>none
   |false=>none
  |_=>none
 |_,_,_=>none
def Z5:XOp->A5u
 |.move x=>B5r md a σ x
 |.keep x=>match a.ev x with
  |.str s=>some (.str s,a,σ)
  |_=>none
 |.pick c x y=>match a.ev c with
  |.bool true=>match D1 (a.ev x) with|false=>some (a.at x,a,σ)|true=>none
  |.bool false=>match D1 (a.ev y) with|false=>some (a.at y,a,σ)|true=>none
  |_=>none
 |.alloc e z=>match ones z with
  |false=>none
  |true=>match md with
   |3=>A5v a σ ⟨0,.cells (ofV.ofVs z) e⟩ (.ptr σ.length 0)
   |_=>some (.bx a.clk (ofV.ofVs z) e,a.tick,σ)
 |.box e x=>match A4O (a.ev x).cells&&B6x (a.ev x) with
  |false=>none
  |true=>match md with
   |3=>A5v (taken a x).tick σ ⟨0,.cells (a.ev x).cells e⟩ (.ptr σ.length 0)
   |_=>some (.bx (taken a x).clk (a.ev x).cells e,(taken a x).tick.tick,σ)
 |.build z ps=>match A3M (ofV.ofVs z) (ps.map fun (o,n,x)=>(o,n,a.ev x)) with
  |some cs=>some (.agg cs,frzs a (ps.map fun p=>p.2.2),σ)
  |none=>none
 |.buildSlice e size z len ps=>match Nat.beq z.length size&&Nat.ble len small,A3M (A4P (ofV.ofVs z) len) (ps.map fun (o,n,x)=>(o,n,a.ev x)) with
  |true,some cs=>match A4O cs with
   |false=>none
   |true=>match md with
    |3=>A5v (frzs a (ps.map fun p=>p.2.2)) σ ⟨0,.cells cs e⟩ (.ref σ.length 0 size len len)
    |_=>some (.sl (.own e size) (A1S size len cs),(frzs a (ps.map fun p=>p.2.2)).tick,σ)
  |_,_=>none
 |.load1 p=>B0Z md a σ (a.at p)
 |.loadN n p=>B10 a σ n (a.at p)
 |.store n p x=>B11 b a σ n x (a.at p)
 |.nilCheck x=>match a.at x with
  |.vpt t o s=>match M6 a t s with
   |some _=>some (.vpt t o s,a,σ)
   |none=>none
  |.ptr k o=>some (.ptr k o,a,σ)
  |.elt ch o=>some (.elt ch o,a,σ)
  |.func f x y=>some (.func f x y,a,σ)
  |_=>none
 |.bin op x y=>A4R a σ (A3v op (a.ev x) (a.ev y))
 |.eq k neg x y=>match teq σ k (a.ev x) (a.ev y) with
  |some r=>some (.bool (xor r neg),a,σ)
  |none=>none
 |.un op x=>A4R a σ (tun op (a.ev x))
 |.toInt k x=>match a.ev x with
  |.int _ n=>some (.int k (k.wrap n),a,σ)
  |_=>none
 |.bytesToStr x=>match A7z a σ (a.ev x) with
  |some chs=>match X5 chs with
   |some bs=>some (.str ⟨bs.toArray⟩,a,σ)
   |none=>none
  |none=>none
 |.strToBytes e x=>match a.ev x with
  |.str s=>match Nat.ble s.data.toList.length small with
   |true=>some (.sl .fz (s.data.toList.map fun b=>[.int .u8 b.toNat]),a,σ)
   |false=>none
  |_=>none
 |.mkIface t x=>match give (a.ev x) with
  |some v=>some (.iface t v,frz1 a x,σ)
  |none=>none
 |.mkFunc fn first cap=>match fn,W9 (first.map a.ev),W9 (cap.map a.ev) with
  |.func f,some x,some y=>some (.func f x y,frzs (frzs a first) cap,σ)
  |_,_,_=>none
 |.mkMap=>A5v a σ ⟨0,.map [] 0⟩ (.map σ.length)
 |.mkSlice e z bytes l c=>match a.ev l,a.ev c with
  |.int .i64 (.ofNat l),.int .i64 (.ofNat c)=>match Nat.ble l c&&Nat.ble (bytes*c) 281474976710656&&Nat.ble c 9223372036854775807&&ones z with
   |true=>match md with
    |3=>A5v a σ ⟨0,.cells (A4P (ofV.ofVs z) c) e⟩ (.ref σ.length 0 z.length l c)
    |_=>some (.sl (.own e z.length) (List.replicate l (ofV.ofVs z)),a.tick,σ)
   |false=>none
  |_,_=>none
 |.sliceStr x lo hi=>match a.ev x with
  |.str s=>match P7 s.data.toList.length s.data.toList.length (lo.map a.ev) (hi.map a.ev) none with
   |some (l,h,_)=>some (.str ⟨((s.data.toList.drop l).take (h - l)).toArray⟩,a,σ)
   |none=>none
  |_=>none
 |.slice size x lo hi mx=>B12 a σ size x (lo.map a.ev) (hi.map a.ev) (mx.map a.ev) (a.ev x)
 |.sliceArr n size x lo hi mx=>match a.ev x with
  |.ptr k o=>match P7 n n (lo.map a.ev) (hi.map a.ev) (mx.map a.ev) with
   |some (l,h,m)=>some (.ref k (match Nat.beq m l with|true=>o|false=>o+l*size) size (h - l) (m - l),a,σ)
   |none=>none
  |_=>none
 |.addr off x=>match a.at x with
  |.ptr k o=>some (.ptr k (o+off),a,σ)
  |.vpt t o s=>match M6 a t s with
   |some _=>some (.vpt t (o+off) s,a,σ)
   |none=>none
  |.elt ch o=>some (.elt ch (o+off),a,σ)
  |.vel p c j o=>match A4Q a σ p c j with
   |some _=>some (.vel p c j (o+off),a,σ)
   |none=>none
  |_=>none
 |.field1 off x=>match a.ev x with
  |.agg cs=>A4R a σ cs[off]?
  |_=>none
 |.fieldN off n x=>match a.ev x with
  |.agg cs=>some (.agg ((cs.drop off).take n),a,σ)
  |_=>none
 |.indexAddr size x i=>match a.ev i with
  |.int _ (.ofNat j)=>A3Z a σ size x j (a.ev x)
  |_=>none
 |.indexArrAddr len size x i=>match a.at x,a.ev i with
  |.ptr k o,.int _ (.ofNat j)=>match Nat.blt j len with
   |true=>some (.ptr k (o+j*size),a,σ)
   |false=>none
  |.vpt t o s,.int _ (.ofNat j)=>match Nat.blt j len,M6 a t s with
   |true,some _=>some (.vpt t (o+j*size) s,a,σ)
   |_,_=>none
  |.elt ch o,.int _ (.ofNat j)=>match Nat.blt j len with
   |true=>some (.elt ch (o+j*size),a,σ)
   |false=>none
  |_,_=>none
 |.indexStr x i=>match a.ev x,a.ev i with
  |.str s,.int _ (.ofNat j)=>match s.data.toList[j]? with
   |some b=>some (.int .u8 b.toNat,a,σ)
   |none=>none
  |_,_=>none
 |.index1 len x i=>match a.ev x,a.ev i with
  |.agg cs,.int _ (.ofNat j)=>match Nat.blt j len with
   |true=>A4R a σ cs[j]?
   |false=>none
  |_,_=>none
 |.indexN len size x i=>match a.ev x,a.ev i with
  |.agg cs,.int _ (.ofNat j)=>match Nat.blt j len with
   |true=>some (.agg ((cs.drop (j*size)).take size),a,σ)
   |false=>none
  |_,_=>none
 |.lookup k z m x ok=>A4R a σ (B13 σ k (ofV z) (a.ev m) (a.ev x) ok)
 |.mapUpdate k m x v=>match A2i b (frzs a [x,v]) σ k (a.ev m) (a.ev x) (a.ev v) with
  |some r=>some r
  |none=>none
 |.assertT t z x ok=>match a.ev x with
  |.iface u v=>match Nat.beq u t with
   |true=>some (match ok with|true=>.tuple [v,.bool true]|false=>v,a,σ)
   |false=>match ok with
    |true=>some (.tuple [ofV z,.bool false],a,σ)
    |false=>none
  |.nili=>match ok with
   |true=>some (.tuple [ofV z,.bool false],a,σ)
   |false=>none
  |_=>none
 |.extract x i=>match a.ev x with
  |.tuple vs=>A4R a σ vs[i]?
  |_=>none
 |.lenStr x=>match a.ev x with
  |.str s=>some (.int .i64 (.ofNat s.data.toList.length),a,σ)
  |_=>none
 |.lenSlice x=>match C2L a σ (a.ev x) with
  |some n=>some (.int .i64 (.ofNat n),a,σ)
  |none=>none
 |.lenArr n=>some (.int .i64 (.ofNat n),a,σ)
 |.lenMap x=>match a.ev x with
  |.nilm=>some (.int .i64 0,a,σ)
  |.map r=>match σ.at r with
   |some ⟨_,.map es _⟩=>some (.int .i64 (.ofNat es.length),a,σ)
   |_=>none
  |_=>none
 |.capSlice x=>match a.ev x with
  |.ref _ _ _ _ c=>match Nat.ble D3 c with
   |true=>none
   |false=>some (.int .i64 (.ofNat c),a,σ)
  |_=>none
 |.append e size bytes x y=>match B46 a σ size (a.ev y) with
  |some new=>match md with
   |3=>A2h a σ e size bytes x new
   |_=>U7 a σ e size bytes x new
  |none=>none
 |.appendZ e z bytes x n=>match a.ev n with
  |.int .i64 (.ofNat n)=>match Nat.ble n small&&Nat.ble bytes 65536&&ones z with
   |true=>U7 a σ e z.length bytes x (List.replicate n (ofV.ofVs z))
   |false=>none
  |_=>none
 |.copy size x y=>match isStr (a.ev y),B46 a σ size (a.ev y) with
  |false,some src=>B8g b a σ size (a.ev x) src
  |_,_=>none
 |.maxI xs=>match A0t (xs.map a.ev) with
  |some ((k,n)::r)=>some (.int k (r.foldl (fun a b=>match ltInt a b.2 with|true=>b.2|false=>a) n),a,σ)
  |_=>none
 |.minI xs=>match A0t (xs.map a.ev) with
  |some ((k,n)::r)=>some (.int k (r.foldl (fun a b=>match ltInt b.2 a with|true=>b.2|false=>a) n),a,σ)
  |_=>none
 |_=>none
end
inductive TEx where
 |normal
 |exit (id:Nat)
 |ret
 |panic (v:TV)
inductive TEnd where
 |ret (v:TV)
 |panic (v:TV)
abbrev G5:=Nat->FuncId->List TV->Sto->Option (TEnd×Sto)
abbrev Ann:=Nat->Nat
def Ann.md (an:Ann):Option Nat->Nat
 |some d=>an d
 |none=>0
def P8 (a:TAct):Option (Nat×Bool)->Option Bool
 |none=>some true
 |some (t,b)=>match a.tm.get t with
  |some (.bool c)=>some (c==b)
  |some (.tuple [])=>some false
  |none=>some false
  |_=>none
def A1v (v:TV) (args:List TV):Option (FuncId×List TV):=
 match v with
 |.func f first cap=>some (f,first++args++cap)
 |_=>none
def A2Q (an:Ann) (b:Nat) (C:G5):List XOper->TAct->Sto->Option (TEx×TAct×Sto)
 |[],a,σ=>some (.normal,a,σ)
 |o::r,a,σ=>
  match P8 a o.guard with
  |none=>none
  |some false=>A2Q an b C r (a.put o.dst A6) σ
  |some true=>match o.op with
   |.call f args=>match W9 (args.map a.ev) with
    |some vs=>match C b f vs σ with
     |some (.ret v,σ')=>A2Q an b C r ((frzs a args).tick.put o.dst v) σ'
     |some (.panic v,σ')=>some (.panic v,(frzs a args).tick,σ')
     |none=>none
    |none=>none
   |.callV x args=>match W9 (args.map a.ev) with
    |some vs=>match A1v (a.ev x) vs with
     |some (f,l)=>match C b f l σ with
      |some (.ret v,σ')=>A2Q an b C r ((frzs a args).tick.put o.dst v) σ'
      |some (.panic v,σ')=>some (.panic v,(frzs a args).tick,σ')
      |none=>none
     |none=>none
    |none=>none
   |.panic x=>match a.ev x with
    |.iface t v=>some (.panic (.iface t v),a,σ)
    |_=>none
   |.defer x args=>match W9 (args.map a.ev) with
    |some vs=>match A1v (a.ev x) vs with
     |some (f,l)=>A2Q an b C r (TAct.put ⟨(frzs a args).tm,⟨f,l⟩::a.df,(frzs a args).clk⟩ o.dst A6) σ
     |none=>none
    |none=>none
   |op=>match Z5 (an.md o.dst) b a σ op with
    |some (v,a',σ')=>A2Q an b C r (a'.put o.dst v) σ'
    |none=>none
inductive TK where
 |bad
 |no
 |rd (q:Operand)
 |wr (q:Operand)
 |new
 |call
structure TRec where
 kind:TK
 dst:Option Nat
 pre:TAct
 s0:Sto
 s1:Sto
def kindOf:XOp->TK
 |.load1 p=>.rd p
 |.loadN _ p=>.rd p
 |.store _ p _=>.wr p
 |.alloc _ _=>.new
 |.box _ _=>.new
 |.buildSlice _ _ _ _ _=>.new
 |.mkSlice _ _ _ _ _=>.new
 |.strToBytes _ _=>.new
 |.mkMap=>.new
 |_=>.bad
def A01 (an:Ann) (b:Nat) (C:G5):List XOper->TAct->Sto->List TRec->Option (TAct×Sto×List TRec)
 |[],a,σ,l=>some (a,σ,l.reverse)
 |o::r,a,σ,l=>
  match P8 a o.guard with
  |none=>none
  |some false=>A01 an b C r (a.put o.dst A6) σ (⟨.no,o.dst,a,σ,σ⟩::l)
  |some true=>match o.op with
   |.call f args=>match W9 (args.map a.ev) with
    |some vs=>match C b f vs σ with
     |some (.ret v,σ')=>A01 an b C r ((frzs a args).tick.put o.dst v) σ' (⟨.call,o.dst,frzs a args,σ,σ'⟩::l)
     |_=>none
    |none=>none
   |.callV x args=>match W9 (args.map a.ev) with
    |some vs=>match A1v (a.ev x) vs with
     |some (f,l')=>match C b f l' σ with
      |some (.ret v,σ')=>A01 an b C r ((frzs a args).tick.put o.dst v) σ' (⟨.call,o.dst,frzs a args,σ,σ'⟩::l)
      |_=>none
     |none=>none
    |none=>none
   |op=>match Z5 (an.md o.dst) b a σ op with
    |some (v,a',σ')=>A01 an b C r (a'.put o.dst v) σ' (⟨kindOf op,o.dst,a,σ,σ'⟩::l)
    |none=>none
def A4S (l:List TRec) (i j:Nat):Operand->Bool
 |.tmp t=>((l.drop i).take (j - i)).all fun r=>match r.dst with
  |some d=> !(Nat.beq d t)
  |none=>true
 |_=>false
def stays (a:TAct) (σ σ':Sto) (q:Operand):Bool:=
 match a.at q with
 |.vpt t _ s=>(M6 a t s).isSome
 |.elt _ _=>true
 |.ptr k _=>match σ.at k,σ'.at k with
  |some o,some o'=>Nat.beq o.ver o'.ver
  |_,_=>false
 |_=>false
def B8h (a:TAct) (q q':Operand):Bool:=
 match a.at q,a.at q' with
 |.vpt t _ s,.vpt t' _ s'=> !(Nat.beq t t')&&(M6 a t s).isSome&&(M6 a t' s').isSome
 |.ptr k _,.ptr k' _=> !(Nat.beq k k')
 |.vpt t _ s,.ptr _ _=>(M6 a t s).isSome
 |.ptr _ _,.vpt t' _ s'=>(M6 a t' s').isSome
 |.elt _ _,.vpt t' _ s'=>(M6 a t' s').isSome
 |.elt _ _,.ptr _ _=>true
 |_,_=>false
def C0E (a:TAct) (q q':Operand):Bool:=
 match a.at q,a.at q' with
 |.vel (.tmp t) c j _,.ptr _ _=>(A4Q a [] (.tmp t) c j).isSome
 |_,_=>B8h a q q'
def B8i (l:List TRec) (i j:Nat) (x y:TRec) (q:Operand):Bool:=
 match y.pre.at q with
 |.vpt t _ s=>A4S l i j (.tmp t)&&(M6 x.pre t s).isSome&&(M6 y.pre t s).isSome
 |_=>false
def A6G (l:List TRec) (i j:Nat) (x y:TRec):Bool:=
 match x.kind,y.kind with
 |.no,_=>true
 |_,.no=>true
 |.rd q,.call=>A4S l i j q&&stays y.pre y.s0 y.s1 q
 |.call,.rd q=>(A4S l i j q&&stays x.pre x.s0 x.s1 q)||B8i l i j x y q
 |.rd _,.new=>true
 |.rd q,.wr q'=>A4S l i j q&&B8h y.pre q q'
 |.wr q,.wr q'=>A4S l i j q'&&C0E x.pre q q'
 |_,_=>false
def A0v (l:List TRec):List (Nat×Nat)->Bool
 |[]=>true
 |(i,j)::r=>match l[i]?,l[j]? with
  |some x,some y=>match Nat.blt i j&&A6G l i j x y with
   |true=>A0v l r
   |false=>false
  |_,_=>false
def A2z (body:TAct->Sto->Option (TEx×TAct×Sto)):Nat->TAct->Sto->Option (TEx×TAct×Sto)
 |0,_,_=>none
 |n+1,a,σ=>match body a σ with
  |some (.normal,a,σ)=>A2z body n a σ
  |r=>r
def B6 (an:Ann) (b:Nat) (C:G5) (n:Nat):XCode->TAct->Sto->Option (TEx×TAct×Sto)
 |.skip,a,σ=>some (.normal,a,σ)
 |.region ops,a,σ=>A2Q an b C ops a σ
 |.regionD ops ps,a,σ=>match A01 an b C ops a σ [] with
  |some (a,σ,l)=>match A0v l ps with
   |true=>some (.normal,a,σ)
   |false=>none
  |none=>none
 |.seq x y,a,σ=>match B6 an b C n x a σ with
  |some (.normal,a,σ)=>B6 an b C n y a σ
  |r=>r
 |.cond c x y,a,σ=>match a.ev c with
  |.bool true=>B6 an b C n x a σ
  |.bool false=>B6 an b C n y a σ
  |_=>none
 |.block id c,a,σ=>match B6 an b C n c a σ with
  |some (.exit k,a,σ)=>match Nat.beq k id with
   |true=>some (.normal,a,σ)
   |false=>some (.exit k,a,σ)
  |r=>r
 |.loop c,a,σ=>A2z (B6 an b C n c) n a σ
 |.exit id,a,σ=>some (.exit id,a,σ)
 |.ret,a,σ=>some (.ret,a,σ)
def A93 (a:TAct) (σ:Sto):XRes->Option TV
 |.tmp t=>some (a.ev (.tmp t))
 |.cell1 t=>match a.ev (.tmp t) with
  |.bx _ cs _=>cs[0]?
  |.ptr k o=>match σ.at k with
   |some ⟨_,.cells vs _⟩=>match vs[o]? with
    |some v=>match D1 v with
     |true=>none
     |false=>some v
    |none=>none
   |_=>none
  |_=>none
 |.cellN t n=>match a.ev (.tmp t) with
  |.bx _ cs _=>match Nat.ble n cs.length with
   |true=>some (.agg ((cs.take n).map frz))
   |false=>none
  |.ptr k o=>match σ.at k with
   |some ⟨_,.cells vs _⟩=>match Nat.ble (o+n) vs.length&& !((vs.drop o).take n).any D1 with
    |true=>some (.agg ((vs.drop o).take n))
    |false=>none
   |_=>none
  |_=>none
def O5 (a:TAct) (σ:Sto):List XRes->Option (List TV)
 |[]=>some []
 |r::l=>match A93 a σ r,O5 a σ l with
  |some v,some vs=>some (v::vs)
  |_,_=>none
def A6H:List TV->TV
 |[v]=>v
 |l=>.tuple l
inductive TMode where
 |ret
 |panicking (v:TV)
 |recovered
def topsR (an:Ann) (b:Nat) (C:G5):List XOper->TAct->Sto->TMode->Option (TEx×TAct×Sto×TMode)
 |[],a,σ,m=>some (.normal,a,σ,m)
 |o::r,a,σ,m=>
  match P8 a o.guard with
  |none=>none
  |some false=>topsR an b C r (a.put o.dst A6) σ m
  |some true=>match o.op with
   |.recover=>match m with
    |.panicking v=>topsR an b C r (a.put o.dst v) σ .recovered
    |m=>topsR an b C r (a.put o.dst .nili) σ m
   |_=>match A2Q an b C [o] a σ with
    |some (.normal,a,σ)=>topsR an b C r a σ m
    |some (e,a,σ)=>some (e,a,σ,m)
    |none=>none
def tcodeR (an:Ann) (b:Nat) (C:G5) (n:Nat):XCode->TAct->Sto->TMode->Option (TEx×TAct×Sto×TMode)
 |.region ops,a,σ,m=>topsR an b C ops a σ m
 |.seq x y,a,σ,m=>match tcodeR an b C n x a σ m with
  |some (.normal,a,σ,m)=>tcodeR an b C n y a σ m
  |r=>r
 |.cond c x y,a,σ,m=>match a.ev c with
  |.bool true=>tcodeR an b C n x a σ m
  |.bool false=>tcodeR an b C n y a σ m
  |_=>none
 |.block id c,a,σ,m=>match tcodeR an b C n c a σ m with
  |some (.exit k,a,σ,m)=>match Nat.beq k id with
   |true=>some (.normal,a,σ,m)
   |false=>some (.exit k,a,σ,m)
  |r=>r
 |c,a,σ,m=>match B6 an b C n c a σ with
  |some (e,a,σ)=>some (e,a,σ,m)
  |none=>none
def A1H (args:List TV):TAct:=⟨Tri.ofList args 0 .nil,[],0⟩
def TMode.settle:TMode->TMode
 |.recovered=>.ret
 |m=>m
structure TFun where
 fn:XFun
 an:Ann
 keep:Bool
 clone:Bool:=false
def B6z:Bool->List TV->Bool
 |true,[.sl .fz []]=>true
 |_,_=>false
def P9 (C:G5) (F:FuncId->Option TFun) (b n:Nat):List TDfr->Sto->TMode->Option (Sto×TMode)
 |[],σ,m=>some (σ,m)
 |d::r,σ,m=>match F d.f with
  |some fn=>match tcodeR fn.an b C n fn.fn.body (A1H d.args) σ m with
   |some (e,a,σ,m)=>match a.df,e,O5 a σ fn.fn.results with
    |[],.normal,some _=>P9 C F b n r σ m.settle
    |[],.ret,some _=>P9 C F b n r σ m.settle
    |_,_,_=>none
   |none=>none
  |none=>none
def X8 (σ:Sto) (k:Nat):Nat->TV->TV
 |n+1,.ref j o s m c=>match Nat.ble k j,σ.at j with
  |true,some ⟨_,.cells vs _⟩=>match Nat.ble (o+m*s) vs.length&& !((vs.drop o).take (m*s)).any D1&&(Nat.blt c D3||Nat.beq c (D3+s)) with
   |true=>.sl .fz ((A1S s m (vs.drop o)).map fun ch=>ch.map (X8 σ k n))
   |false=>.ref j o s m c
  |_,_=>.ref j o s m c
 |n+1,.agg l=>.agg (l.map (X8 σ k n))
 |n+1,.tuple l=>.tuple (l.map (X8 σ k n))
 |_,v=>v
def A2j (keep:Bool) (k:Nat) (σ:Sto) (v:TV):Option (TV×Sto):=
 match keep with
 |true=>some (v,σ)
 |false=>match below k (X8 σ k 4 (canon v)) with
  |true=>some (X8 σ k 4 (canon v),σ.take k)
  |false=>none
def M2 (a:TAct) (fn:TFun) (k:Nat) (σ:Sto):TMode->Option (TEnd×Sto)
 |.panicking v=>match A2j fn.keep k σ v with
  |some (v,σ)=>some (.panic v,σ)
  |none=>none
 |_=>match O5 a σ fn.fn.results with
  |some l=>match W9 l with
   |some l=>match A2j fn.keep k σ (A6H l) with
    |some (v,σ)=>some (.ret v,σ)
    |none=>none
   |none=>none
  |none=>none
def W2 (keep:Bool) (b k:Nat):Nat:=
 match keep with
 |true=>b
 |false=>k
def A4T:TV->Option Mk
 |.agg []=>some .sort
 |.agg [.bool true]=>some .compact
 |_=>none
def A6I:TV->Bool
 |.dead=>true
 |.agg [.dead]=>true
 |_=>false
def A40:List TV->Option (List Int)
 |[]=>some []
 |.int .i64 z::l=>match A40 l with
  |some zs=>some (z::zs)
  |none=>none
 |_=>none
def encZT (zs:List Int):List TV:=zs.map fun z=>.int .i64 z
def B5s:Mk->Nat->Nat->Nat->List Int->Nat->TV
 |.sort,_,_,_,_,_=>.tuple []
 |.compact,k,o,s,zs,c=>.ref k o s (F0 zs).length c
def A7A:Mk->TV->TV
 |.sort,_=>.tuple []
 |.compact,v=>v
def B8j (mk:Mk) (args:List TV) (σ:Sto):Option (TEnd×Sto):=
 match args with
 |[.ref k o s n c]=>match Nat.beq n 0,σ.at k with
  |true,_=>some (.ret (A7A mk (.ref k o s n c)),σ)
  |false,some ⟨ver,.cells vs e⟩=>match Nat.ble (o+n) vs.length&&Nat.ble n 1073741824,A40 ((vs.drop o).take n) with
   |true,some zs=>some (.ret (B5s mk k o s zs c),σ.set k (some ⟨ver+1,.cells (putAt vs o (encZT (A0b mk zs))) e⟩))
   |_,_=>none
  |false,_=>none
 |[.sl m []]=>some (.ret (A7A mk (.sl m [])),σ)
 |_=>none
def A94 (v:TV) (args:List TV) (σ:Sto):Option (TEnd×Sto):=
 match A4T v,A6I v with
 |some mk,_=>B8j mk args σ
 |none,false=>some (.ret v,σ)
 |none,true=>none
def A4 (F:FuncId->Option TFun) (O:FuncId->List TV->Option TV):Nat->G5
 |0,_,_,_,_=>none
 |n+1,b,f,args,σ=>match F f with
  |some fn=>match B6z fn.clone args with
   |true=>some (.ret (.sl .fz []),σ)
   |false=>match B6 fn.an (W2 fn.keep b σ.length) (A4 F O n) n fn.fn.body (A1H args) σ with
    |some (.normal,a,σ1)=>match P9 (A4 F O n) F (W2 fn.keep b σ.length) n a.df σ1 .ret with
     |some (σ2,m)=>M2 a fn σ.length σ2 m
     |none=>none
    |some (.ret,a,σ1)=>match P9 (A4 F O n) F (W2 fn.keep b σ.length) n a.df σ1 .ret with
     |some (σ2,m)=>M2 a fn σ.length σ2 m
     |none=>none
    |some (.panic v,a,σ1)=>match P9 (A4 F O n) F (W2 fn.keep b σ.length) n a.df σ1 (.panicking v) with
     |some (σ2,m)=>M2 a fn σ.length σ2 m
     |none=>none
    |_=>none
  |none=>match O f args with
   |some v=>A94 v args σ
   |none=>none
abbrev Str:=ByteArray
inductive PTyp where
 |mk (kind:Int) (list:List PTyp)
inductive PExpr where
 |mk (kind n:Int) (name:Str) (names:List Str) (odds:List Int) (kids:List PExpr) (line col:Int)
namespace PTyp
def kind:PTyp->Int|.mk k _=>k
def list:PTyp->List PTyp|.mk _ l=>l
end PTyp
namespace PExpr
def kind:PExpr->Int|.mk k _ _ _ _ _ _ _=>k
def n:PExpr->Int|.mk _ n _ _ _ _ _ _=>n
def name:PExpr->Str|.mk _ _ s _ _ _ _ _=>s
def names:PExpr->List Str|.mk _ _ _ l _ _ _ _=>l
def odds:PExpr->List Int|.mk _ _ _ _ l _ _ _=>l
def kids:PExpr->List PExpr|.mk _ _ _ _ _ l _ _=>l
def line:PExpr->Int|.mk _ _ _ _ _ _ l _=>l
def col:PExpr->Int|.mk _ _ _ _ _ _ _ c=>c
end PExpr
def i64 (n:Int):TV:=.int .i64 n
def encI (n:Int):List TV:=[.int .i64 n]
def K0 (s:Bool):List TV:=[.bool s]
mutual
def K2:PTyp->List TV
 |.mk k l=>[.int .i64 k,.sl .fz (A3N l)]
def A3N:List PTyp->List (List TV)
 |[]=>[]
 |t::l=>K2 t::A3N l
end
theorem B2s:∀l,A3N l=l.map K2
 |[]=>rfl
 |t::l=>by simp only [A3N,List.map_cons,B2s l]
theorem F6 (t:PTyp):K2 t=[.int .i64 t.kind,.sl .fz (t.list.map K2)]:=by cases t;simp only [K2,B2s,PTyp.kind,PTyp.list]
mutual
def szT:PTyp->Nat
 |.mk _ l=>A1c l+4
def A1c:List PTyp->Nat
 |[]=>0
 |t::l=>szT t+1+A1c l
end
theorem A0w:∀l,l.length<=A1c l
 |[]=>Nat.le_refl _
 |t::l=>by simp only [A1c,List.length_cons];have:=A0w l;omega
theorem A02:∀(l:List PTyp) (t:PTyp),t∈l->szT t+1<=A1c l
 |[],t,h=>by cases h
 |x::l,t,h=>by
  simp only [A1c];rcases List.mem_cons.1 h with rfl|h
  ·omega
  ·have:=A02 l t h;omega
theorem A1w (t:PTyp):szT t=A1c t.list+4:=by cases t;simp only [szT,PTyp.list]
inductive Pc where
 |tmp (t:Nat)
 |tcell (t o:Nat)
 |obj (k:Nat)
 |cell (k o:Nat)
 |hand (h:Nat)
deriving DecidableEq
abbrev J3:=Pc->Option Nat
def Zo (w:J3) (Pr:Nat->Prop) (i:Nat):Prop:=(∀p,w p≠some i)/\¬Pr i
mutual
inductive RV (g:Hp) (μ:List Nat) (Z:Nat->Prop):TV->Value->Prop
 |int (k:IntKind) (n:Int):RV g μ Z (.int k n) (.int k n)
 |bool (b:Bool):RV g μ Z (.bool b) (.bool b)
 |str (s:ByteArray):RV g μ Z (.str s) (.string s)
 |nilp:RV g μ Z .nilp (.pointer none)
 |ptr {k o i:Nat}:μ[k]? =some i->RV g μ Z (.ptr k o) (.pointer (some ⟨i,o,none⟩))
 |elt {ch:List TV} {o i d ver:Nat} {vs:List Value} {e:TypeId} {ro:Bool}:Z i->g i=some ⟨ver,.cells vs e ro⟩->d+ch.length<=vs.length->RVs g μ Z ch ((vs.drop d).take ch.length)->
   RV g μ Z (.elt ch o) (.pointer (some ⟨i,d+o,none⟩))
 |fz {chs:List (List TV)} {n i o c s ver:Nat} {vs:List Value} {e:TypeId} {ro:Bool}:Z i->g i=some ⟨ver,.cells vs e ro⟩->K5 s chs=true->chs.length=n->(c<D3->n<=c)->(D3<=c->c=D3+s)->o+n*s<=vs.length->
   RVs g μ Z chs.flatten ((vs.drop o).take (n*s))->RV g μ Z (.sl .fz chs) (.slice (some ⟨i,o,none⟩) n c)
 |fz0 (b:Option Addr) (c:Nat):RV g μ Z (.sl .fz []) (.slice b 0 c)
 |nl:RV g μ Z (.sl .nl []) (.slice none 0 0)
 |ref {k o s n c i:Nat}:μ[k]? =some i->n<=c->RV g μ Z (.ref k o s n c) (.slice (some ⟨i,o,none⟩) n c)
 |nilm:RV g μ Z .nilm (.map none)
 |map {k i:Nat}:μ[k]? =some i->RV g μ Z (.map k) (.map (some i))
 |nilf:RV g μ Z .nilf .nilFunc
 |func (f:FuncId) {x y:List TV} {x' y':Array Value}:RVs g μ Z x x'.toList->RVs g μ Z y y'.toList->RV g μ Z (.func f x y) (.func (.func f) x' y')
 |nili:RV g μ Z .nili .nilIface
 |iface (t:TypeId) {v:TV} {v':Value}:RV g μ Z v v'->RV g μ Z (.iface t v) (.iface t v')
 |agg {l:List TV} {l':Array Value}:RVs g μ Z l l'.toList->RV g μ Z (.agg l) (.agg l')
 |tuple {l:List TV} {l':Array Value}:RVs g μ Z l l'.toList->RV g μ Z (.tuple l) (.tuple l')
 |dead (v:Value):RV g μ Z .dead v
inductive RVs (g:Hp) (μ:List Nat) (Z:Nat->Prop):List TV->List Value->Prop
 |nil:RVs g μ Z [] []
 |cons {v:TV} {v':Value} {l:List TV} {l':List Value}:RV g μ Z v v'->RVs g μ Z l l'->RVs g μ Z (v::l) (v'::l')
end
structure Mo (g:Hp) (μ:List Nat) (Z:Nat->Prop) (g':Hp) (μ':List Nat) (Z':Nat->Prop):Prop where
 mu:∀(k i:Nat),μ[k]? =some i->μ'[k]? =some i
 z:∀(i ver:Nat) (vs:List Value) (e:TypeId) (ro:Bool),Z i->g i=some ⟨ver,.cells vs e ro⟩->Z' i/\g' i=some ⟨ver,.cells vs e ro⟩
mutual
theorem RV.mono {g g':Hp} {μ μ':List Nat} {Z Z':Nat->Prop} (h:Mo g μ Z g' μ' Z'):∀{v:TV} {v':Value},RV g μ Z v v'->RV g' μ' Z' v v'
 |_,_,.int k n=>.int k n
 |_,_,.bool b=>.bool b
 |_,_,.str s=>.str s
 |_,_,.nilp=>.nilp
 |_,_,.ptr e=>.ptr (h.mu _ _ e)
 |_,_,.elt a b c d=>.elt (h.z _ _ _ _ _ a b).1 (h.z _ _ _ _ _ a b).2 c (d.mono h)
 |_,_,.fz a b c d e f m k=>.fz (h.z _ _ _ _ _ a b).1 (h.z _ _ _ _ _ a b).2 c d e f m (k.mono h)
 |_,_,.fz0 b c=>.fz0 b c
 |_,_,.nl=>.nl
 |_,_,.ref e n=>.ref (h.mu _ _ e) n
 |_,_,.nilm=>.nilm
 |_,_,.map e=>.map (h.mu _ _ e)
 |_,_,.nilf=>.nilf
 |_,_,.func f a b=>.func f (a.mono h) (b.mono h)
 |_,_,.nili=>.nili
 |_,_,.iface t a=>.iface t (a.mono h)
 |_,_,.agg a=>.agg (a.mono h)
 |_,_,.tuple a=>.tuple (a.mono h)
 |_,_,.dead v=>.dead v
theorem RVs.mono {g g':Hp} {μ μ':List Nat} {Z Z':Nat->Prop} (h:Mo g μ Z g' μ' Z'):∀{l:List TV} {l':List Value},RVs g μ Z l l'->RVs g' μ' Z' l l'
 |_,_,.nil=>.nil
 |_,_,.cons a b=>.cons (a.mono h) (b.mono h)
end
namespace RVs
variable {g:Hp} {μ:List Nat} {Z:Nat->Prop}
theorem length {l:List TV} {l':List Value} (h:RVs g μ Z l l'):l'.length=l.length:=by
 induction l generalizing l' with
 |nil=>cases h;rfl
 |cons v l ih=>cases h with|cons _ h=>simp [ih h]
theorem get {l:List TV} {l':List Value} (h:RVs g μ Z l l'):∀{i:Nat} {v:TV},l[i]? =some v->∃v',l'[i]? =some v'/\RV g μ Z v v':=by
 induction l generalizing l' with
 |nil=>intro i v e;simp at e
 |cons x l ih=>
  intro i v e;cases h with
  |cons hx h=>
   grind
theorem append {l m:List TV} {l' m':List Value} (h:RVs g μ Z l l') (k:RVs g μ Z m m'):RVs g μ Z (l++m) (l'++m'):=by
 induction l generalizing l' with
 |nil=>cases h;exact k
 |cons x l ih=>cases h with|cons hx h=>exact .cons hx (ih h)
theorem drop {l:List TV} {l':List Value} (h:RVs g μ Z l l'):∀n,RVs g μ Z (l.drop n) (l'.drop n):=by
 induction l generalizing l' with
 |nil=>cases h;intro n;simp;exact .nil
 |cons x l ih=>
  intro n;cases h with
  |cons hx h=>
   cases n with
   |zero=>exact .cons hx h
   |succ n=>exact ih h n
theorem take {l:List TV} {l':List Value} (h:RVs g μ Z l l'):∀n,RVs g μ Z (l.take n) (l'.take n):=by
 induction l generalizing l' with
 |nil=>cases h;intro n;simp;exact .nil
 |cons x l ih=>
  intro n;cases h with
  |cons hx h=>
   cases n with
   |zero=>exact .nil
   |succ n=>exact .cons hx (ih h n)
theorem of_get {l:List TV} {l':List Value} (hl:l'.length=l.length) (h:∀(i:Nat) (v:TV) (v':Value),l[i]? =some v->l'[i]? =some v'->RV g μ Z v v'):RVs g μ Z l l':=by
 induction l generalizing l' with
 |nil=>cases l' with|nil=>exact .nil|cons=>simp at hl
 |cons x l ih=>
  cases l' with
  |nil=>simp at hl
  |cons x' l'=>exact .cons (h 0 x x' rfl rfl) (ih (by simpa using hl) fun i v v' e e'=>h (i+1) v v' (by simpa using e) (by simpa using e'))
theorem map {α:Type} {f:α->TV} {f':α->Value} (h:∀a,RV g μ Z (f a) (f' a)):∀l:List α,RVs g μ Z (l.map f) (l.map f')
 |[]=>.nil
 |a::l=>.cons (h a) (map h l)
theorem set {l:List TV} {l':List Value} (h:RVs g μ Z l l') {v:TV} {v':Value} (hv:RV g μ Z v v'):∀i,RVs g μ Z (l.set i v) (l'.set i v'):=by
 induction l generalizing l' with
 |nil=>cases h;intro n;exact .nil
 |cons x l ih=>
  intro n;cases h with
  |cons hx h=>
   cases n with
   |zero=>exact .cons hv h
   |succ n=>exact .cons hx (ih h n)
theorem setList:∀{xs:List TV} {xs':List Value},RVs g μ Z xs xs'->∀{vs:List TV} {vs':List Value} (i:Nat),RVs g μ Z vs vs'->i+xs.length<=vs.length->RVs g μ Z (putAt vs i xs) (Xe.setList vs' i xs')
 |_,_,.nil,vs,vs',i,h,_=>by simpa [putAt,Xe.setList] using h
 |x::xs,x'::xs',.cons hx hxs,vs,vs',i,h,hl=>by
  simp only [List.length_cons] at hl;have ih:=setList hxs (i+1) (h.set hx i) (by simp;omega);rw [Xe.setList];have:putAt (vs.set i x) (i+1) xs=putAt vs i (x::xs):=by
   unfold putAt;have h1:(vs.set i x).take (i+1)=vs.take i++[x]:=by
    rw [List.take_add_one];simp [List.take_set,List.getElem?_set,show i<vs.length by omega];rw [List.set_eq_of_length_le (by simp;omega)]
   have h2:(vs.set i x).drop (i+1+xs.length)=vs.drop (i+(x::xs).length):=by
    rw [List.drop_set,if_pos (by omega),List.length_cons];congr 1;omega
   rw [h1,h2];simp
  grind
end RVs
inductive RO (g:Hp) (μ:List Nat) (Z:Nat->Prop) (i:Nat):TV->Value->Prop
 |mk {chs:List (List TV)} {n o c s ver:Nat} {vs:List Value} {e:TypeId}:g i=some ⟨ver,.cells vs e false⟩->K5 s chs=true->chs.length=n->(c<D3->n<=c/\o+c*s<=vs.length)->(D3<=c->c=D3+s)->o+n*s<=vs.length->
   RVs g μ Z chs.flatten ((vs.drop o).take (n*s))->RO g μ Z i (.sl (.own e s) chs) (.slice (some ⟨i,o,none⟩) n c)
theorem RO.mono {g g':Hp} {μ μ':List Nat} {Z Z':Nat->Prop} (h:Mo g μ Z g' μ' Z') {i:Nat} (hi:g' i=g i) {v:TV} {v':Value} (r:RO g μ Z i v v'):RO g' μ' Z' i v v':=by
 cases r with
 |mk a b c d e f k=>exact .mk (hi▸a) b c d e f (k.mono h)
theorem RO.frz {g:Hp} {μ:List Nat} {Z:Nat->Prop} {i:Nat} {v:TV} {v':Value} (r:RO g μ Z i v v') (hz:Z i):RV g μ Z (frz v) v':=by
 cases r with
 |mk a b c d e f k=>exact .fz hz a b c (fun h=>(d h).1) e f k
def A41:TV->Bool
 |.via _ _=>true
 |.vel _ _ _ _=>true
 |.vpt _ _ _=>true
 |_=>false
def RC (g:Hp) (μ:List Nat) (Z:Nat->Prop):Option Nat->TV->Value->Prop
 |none,tv,v=>RV g μ Z tv v
 |some i,tv,v=>RO g μ Z i tv v
structure RCs (g:Hp) (μ:List Nat) (Z:Nat->Prop) (ow:Nat->Option Nat) (cs:List TV) (vs:List Value):Prop where
 len:vs.length=cs.length
 get:∀(o:Nat) (tv:TV) (v:Value),cs[o]? =some tv->vs[o]? =some v->RC g μ Z (ow o) tv v
 out:∀o,cs.length<=o->ow o=none
inductive RT (g:Hp) (μ:List Nat) (Z:Nat->Prop) (w:J3) (clk t:Nat):TV->Value->Prop
 |plain {tv:TV} {v:Value}:RV g μ Z tv v->w (.tmp t)=none->(∀o,w (.tcell t o)=none)->RT g μ Z w clk t tv v
 |own {i:Nat} {tv:TV} {v:Value}:w (.tmp t)=some i->(∀o,w (.tcell t o)=none)->RO g μ Z i tv v->RT g μ Z w clk t tv v
 |bx {i ser:Nat} {cs:List TV} {e:TypeId} {ver:Nat} {vs:List Value}:w (.tmp t)=some i->g i=some ⟨ver,.cells vs e false⟩->RCs g μ Z (fun o=>w (.tcell t o)) cs vs->ser<clk->
   RT g μ Z w clk t (.bx ser cs e) (.pointer (some ⟨i,0,none⟩))
 |al {tv:TV} {v:Value}:A41 tv=true->w (.tmp t)=none->(∀o,w (.tcell t o)=none)->RT g μ Z w clk t tv v
def A3w (μ:List Nat) (w:J3) (ax:Xe.Act) (g:Hp):Pl->Value->Prop
 |.tmp t,v=>v=ax.ev (.tmp t)
 |.tcell t o _,v=>∃i ver vs e,w (.tmp t)=some i/\g i=some ⟨ver,.cells vs e false⟩/\vs[o]? =some v
 |.cell k o,v=>∃i ver vs e,μ[k]? =some i/\g i=some ⟨ver,.cells vs e false⟩/\vs[o]? =some v
def AL (μ:List Nat) (w:J3) (a:TAct) (σ:Sto) (ax:Xe.Act) (g:Hp):TV->Value->Prop
 |.via p c,v=>c<=a.clk/\(c=a.clk->∀chs,K6 a σ p=some chs->A3w μ w ax g p v)
 |.vel p c j o,v=>c<=a.clk/\(c=a.clk->∀chs ch,K6 a σ p=some chs->chs[j]? =some ch->∃i b n cc,A3w μ w ax g p (.slice (some ⟨i,b,none⟩) n cc)/\v=.pointer (some ⟨i,b+j*ch.length+o,none⟩))
 |.vpt t o ser,v=>ser<a.clk/\∀cs e,a.ev (.tmp t)=.bx ser cs e->∃i,w (.tmp t)=some i/\v=.pointer (some ⟨i,o,none⟩)
 |_,_=>True
def RB (g:Hp) (μ:List Nat) (Z:Nat->Prop) (w:J3) (k:Nat):TBody->ABody->Prop
 |.cells cs e,.cells vs e' ro=>e'=e/\ro=false/\RCs g μ Z (fun o=>w (.cell k o)) cs vs
 |.map es ck,.map es' ck'=>ck'=ck/\es'.length=es.length/\(∀(j:Nat) (x:TV×TV×Nat) (y:MapEntry),es[j]? =some x->es'[j]? =some y->RV g μ Z x.1 y.key/\RV g μ Z x.2.1 y.val/\y.born=x.2.2)/\∀o,w (.cell k o)=none
 |.iter s p,.iter s' p'=>s'=s/\p'=p/\∀o,w (.cell k o)=none
 |_,_=>False
def RObj (g:Hp) (μ:List Nat) (Z:Nat->Prop) (w:J3) (k:Nat) (o:TObj):Prop:=
 ∃i b,μ[k]? =some i/\g i=some ⟨o.ver,b⟩/\RB g μ Z w k o.body b
def RDf (g:Hp) (μ:List Nat) (Z:Nat->Prop):List TDfr->List Dfr->Prop
 |[],[]=>True
 |d::l,d'::l'=>d'.f=d.f/\RVs g μ Z d.args d'.args/\RDf g μ Z l l'
 |_,_=>False
structure Rs (Pr:Nat->Prop) (μ:List Nat) (w:J3) (σ:Sto) (s:AS):Prop where
 dm:Dm s
 len:μ.length=σ.length
 inj:∀p q i,w p=some i->w q=some i->p=q
 pr:∀p i,w p=some i->¬Pr i
 live:∀p i,w p=some i->i<s.next
 wobj:∀k,w (.obj k)=μ[k]?
 out:∀k c,σ.length<=k->w (.cell k c)=none
 obj:∀k o,σ.at k=some o->RObj s.get μ (Zo w Pr) w k o
 full:True
structure Rl (Pr:Nat->Prop) (μ:List Nat) (w:J3) (a:TAct) (σ:Sto) (ax:Xe.Act) (s:AS):Prop extends Rs Pr μ w σ s where
 tm:∀t,RT s.get μ (Zo w Pr) w a.clk t (a.ev (.tmp t)) (ax.ev (.tmp t))
 al:∀t,AL μ w a σ ax s.get (a.ev (.tmp t)) (ax.ev (.tmp t))
 df:RDf s.get μ (Zo w Pr) a.df ax.df
theorem RC.mono {g g':Hp} {μ μ':List Nat} {Z Z':Nat->Prop} (h:Mo g μ Z g' μ' Z'):∀{ow:Option Nat},(∀i,ow=some i->g' i=g i)->∀{tv:TV} {v:Value},RC g μ Z ow tv v->RC g' μ' Z' ow tv v
 |none,_,_,_,r=>RV.mono h r
 |some i,hi,_,_,r=>RO.mono h (hi i rfl) r
theorem RCs.mono {g g':Hp} {μ μ':List Nat} {Z Z':Nat->Prop} (h:Mo g μ Z g' μ' Z') {ow:Nat->Option Nat} (hi:∀o i,ow o=some i->g' i=g i) {cs:List TV} {vs:List Value} (r:RCs g μ Z ow cs vs):RCs g' μ' Z' ow cs vs:=
 ⟨r.len,fun o tv v h1 h2=>(r.get o tv v h1 h2).mono h (hi o),r.out⟩
theorem RT.mono {g g':Hp} {μ μ':List Nat} {Z Z':Nat->Prop} {w w':J3} {clk clk' t:Nat} (h:Mo g μ Z g' μ' Z') (h1:w' (.tmp t)=w (.tmp t)) (h2:∀o,w' (.tcell t o)=w (.tcell t o)) (h3:∀i,w (.tmp t)=some i->g' i=g i)
  (h4:∀o i,w (.tcell t o)=some i->g' i=g i) (hc:clk<=clk') {tv:TV} {v:Value} (r:RT g μ Z w clk t tv v):RT g' μ' Z' w' clk' t tv v:=by
 cases r with
 |plain a b c=>exact .plain (a.mono h) (h1.trans b) fun o=>(h2 o).trans (c o)
 |own a b c=>exact .own (h1.trans a) (fun o=>(h2 o).trans (b o)) (c.mono h (h3 _ a))
 |bx a b c d=>
  refine .bx (h1.trans a) ((h3 _ a).trans b) ?_ (by omega);have:(fun o=>w' (.tcell t o))=fun o=>w (.tcell t o):=funext h2
  rw [this];exact c.mono h h4
 |al a b c=>exact .al a (h1.trans b) fun o=>(h2 o).trans (c o)
theorem RB.mono {g g':Hp} {μ μ':List Nat} {Z Z':Nat->Prop} {w w':J3} {k:Nat} (h:Mo g μ Z g' μ' Z') (h2:∀o,w' (.cell k o)=w (.cell k o)) (h4:∀o i,w (.cell k o)=some i->g' i=g i) {b:TBody} {b':ABody} (r:RB g μ Z w k b b'):RB g' μ' Z' w' k b b':=by
 cases b<;>cases b'<;>simp only [RB] at r ⊢
 ·refine ⟨r.1,r.2.1,?_⟩;have:(fun o=>w' (.cell k o))=fun o=>w (.cell k o):=funext h2
  rw [this];exact r.2.2.mono h h4
 ·exact ⟨r.1,r.2.1,fun j x y hx hy=>⟨(r.2.2.1 j x y hx hy).1.mono h,(r.2.2.1 j x y hx hy).2.1.mono h,(r.2.2.1 j x y hx hy).2.2⟩,fun o=>(h2 o).trans (r.2.2.2 o)⟩
 grind
theorem RObj.mono {g g':Hp} {μ μ':List Nat} {Z Z':Nat->Prop} {w w':J3} {k:Nat} (h:Mo g μ Z g' μ' Z') (h2:∀o,w' (.cell k o)=w (.cell k o)) (h3:∀i,μ[k]? =some i->g' i=g i) (h4:∀o i,w (.cell k o)=some i->g' i=g i) {o:TObj} (r:RObj g μ Z w k o):RObj g' μ' Z' w' k o:=by
 obtain ⟨i,b,a1,a2,a3⟩:=r;exact ⟨i,b,h.mu _ _ a1,(h3 _ a1).trans a2,a3.mono h h2 h4⟩
theorem RDf.mono {g g':Hp} {μ μ':List Nat} {Z Z':Nat->Prop} (h:Mo g μ Z g' μ' Z'):∀{l:List TDfr} {l':List Dfr},RDf g μ Z l l'->RDf g' μ' Z' l l'
 |[],[],_=>trivial
 |_::_,_::_,⟨a,b,c⟩=>⟨a,b.mono h,c.mono h⟩
 |[],_::_,h=>h.elim
 |_::_,[],h=>h.elim
theorem RV.notown {g:Hp} {μ:List Nat} {Z:Nat->Prop} {tv:TV} {v:Value} (r:RV g μ Z tv v):A1G tv=none/\D1 tv=false/\A41 tv=false/\∀s cs e,tv≠.bx s cs e:=by
 cases r<;>exact ⟨rfl,rfl,rfl,fun _ _ _ h=>by cases h⟩
section
variable {Pr:Nat->Prop} {μ μ':List Nat} {w w':J3} {a a':TAct} {σ σ':Sto} {ax ax':Xe.Act} {s s':AS}
theorem Rl.step (r:Rl Pr μ w a σ ax s) (mo:Mo s.get μ (Zo w Pr) s'.get μ' (Zo w' Pr)) (rs:Rs Pr μ' w' σ' s') (hclk:a.clk<a'.clk)
  (tm:∀t,(a'.ev (.tmp t)=a.ev (.tmp t)/\ax'.ev (.tmp t)=ax.ev (.tmp t)/\w' (.tmp t)=w (.tmp t)/\(∀o,w' (.tcell t o)=w (.tcell t o))/\(∀i,w (.tmp t)=some i->s'.get i=s.get i)/\(∀o i,w (.tcell t o)=some i->s'.get i=s.get i))\/
   (RT s'.get μ' (Zo w' Pr) w' a'.clk t (a'.ev (.tmp t)) (ax'.ev (.tmp t))/\A41 (a'.ev (.tmp t))=false/\∀ser cs e,a'.ev (.tmp t)=.bx ser cs e->a.clk<=ser\/((∃cs' e',a.ev (.tmp t)=.bx ser cs' e')/\w' (.tmp t)=w (.tmp t))))
  (df:a'.df=a.df/\ax'.df=ax.df):Rl Pr μ' w' a' σ' ax' s':=by
 refine ⟨rs,fun t=> ?_,fun t=> ?_,?_⟩
 ·rcases tm t with ⟨h1,h2,h3,h4,h5,h6⟩|⟨h,_⟩
  ·rw [h1,h2];exact (r.tm t).mono mo h3 h4 h5 h6 (Nat.le_of_lt hclk)
  ·exact h
 ·rcases tm t with ⟨h1,h2,h3,h4,h5,h6⟩|⟨h,hal,_⟩
  ·rw [h1,h2];have ha:=r.al t;simp_all [AL]<;>grind
  ·revert hal
   generalize a'.ev (.tmp t)=x;intro hal;cases x<;>first|trivial|(cases hal)
 ·rw [df.1,df.2];exact r.df.mono mo
def rel (w:J3) (d:Option Nat):J3
 |.tmp t=>match d with
  |some d=>if d=t then none else w (.tmp t)
  |none=>w (.tmp t)
 |.tcell t o=>match d with
  |some d=>if d=t then none else w (.tcell t o)
  |none=>w (.tcell t o)
 |p=>w p
theorem P1 (w:J3) (d:Option Nat) (p:Pc) (i:Nat) (h:rel w d p=some i):w p=some i:=by
 simp_all [rel]<;>grind
theorem Zo.sub {w w':J3} (h:∀p i,w' p=some i->w p=some i) {i:Nat} (z:Zo w Pr i):Zo w' Pr i:=⟨fun p e=>z.1 p (h p i e),z.2⟩
theorem Mo.sub {g:Hp} {w w':J3} (h:∀p i,w' p=some i->w p=some i):Mo g μ (Zo w Pr) g μ (Zo w' Pr):=⟨fun _ _ e=>e,fun i _ _ _ _ z hg=>⟨z.sub h,hg⟩⟩
theorem Mo.refl (g:Hp) (μ:List Nat) (Z:Nat->Prop):Mo g μ Z g μ Z:=⟨fun _ _ e=>e,fun i _ _ _ _ z hg=>⟨z,hg⟩⟩
theorem Mo.trans {g g1 g2:Hp} {μ μ1 μ2:List Nat} {Z Z1 Z2:Nat->Prop} (a:Mo g μ Z g1 μ1 Z1) (b:Mo g1 μ1 Z1 g2 μ2 Z2):Mo g μ Z g2 μ2 Z2:=
 ⟨fun k i e=>b.mu k i (a.mu k i e),fun i ver vs e ro z hg=>have h:=a.z i ver vs e ro z hg;b.z i ver vs e ro h.1 h.2⟩
theorem Rs.sub (r:Rs Pr μ w σ s) (h:∀p i,w' p=some i->w p=some i) (ho:∀k,w' (.obj k)=w (.obj k)) (hc:∀k c,w' (.cell k c)=w (.cell k c)):Rs Pr μ w' σ s:=
 ⟨r.dm,r.len,fun p q i e f=>r.inj p q i (h p i e) (h q i f),fun p i e=>r.pr p i (h p i e),fun p i e=>r.live p i (h p i e),fun k=>(ho k).trans (r.wobj k),fun k c hk=>(hc k c).trans (r.out k c hk),
  fun k o e=>(r.obj k o e).mono (Mo.sub h) (hc k) (fun _ _=>rfl) (fun _ _ _=>rfl),r.full⟩
theorem TAct.ev_put_same (a:TAct) (d:Nat) (v:TV):(a.put (some d) v).ev (.tmp d)=v:=by
 simp only [TAct.put,TAct.ev,Tri.get_set_same]
theorem TAct.ev_put_ne (a:TAct) {d t:Nat} (v:TV) (h:d≠t):(a.put (some d) v).ev (.tmp t)=a.ev (.tmp t):=by
 simp only [TAct.put,TAct.ev,Tri.get_set_ne _ _ h]
def Pl.offT (d:Nat):Pl->Bool
 |.tmp t=> !(Nat.beq d t)
 |.tcell t _ _=> !(Nat.beq d t)
 |.cell _ _=>true
theorem beq_false {a b:Nat}:(!(Nat.beq a b))=true↔a≠b:=by
 rw [D8];simp
theorem A3d {d:Nat} {tv:TV} {p:Pl} (h:A1G tv=none) (hb:∀s cs e,tv≠.bx s cs e) {chs:List (List TV)} (hp:K6 (a.put (some d) tv) σ p=some chs):p.offT d=true/\K6 a σ p=some chs:=by
 cases p with
 |tmp t=>
  by_cases e:d=t
  ·grind [K6,TAct.ev_put_same]
  ·simp only [K6,TAct.ev_put_ne a tv e] at hp ⊢;exact ⟨beq_false.2 e,hp⟩
 |tcell t o ser=>
  by_cases e:d=t
  ·grind [K6,M6,TAct.ev_put_same]
  ·simp only [K6,M6,TAct.ev_put_ne a tv e] at hp ⊢;exact ⟨beq_false.2 e,hp⟩
 |cell k o=>exact ⟨rfl,hp⟩
theorem B2t {g:Hp} {d:Nat} {p:Pl} {x v:Value} (h:p.offT d=true) (hv:A3w μ w ax g p v):A3w μ (rel w (some d)) (ax.put (some d) x) g p v:=by
 cases p with
 |tmp t=>
  have e:=beq_false.1 h;grind [A3w,Act.ev_put_ne]
 |tcell t o ser=>
  have e:=beq_false.1 h;obtain ⟨i,ver,vs,e',h1,h2,h3⟩:=hv;exact ⟨i,ver,vs,e',by simp only [rel,if_neg e];exact h1,h2,h3⟩
 |cell k o=>exact hv
theorem A03 (w:J3) (d:Nat):rel w (some d) (.tmp d)=none:=by simp [rel]
theorem T6 (w:J3) (d o:Nat):rel w (some d) (.tcell d o)=none:=by simp [rel]
theorem X9 (w:J3) {d t:Nat} (h:d≠t):rel w (some d) (.tmp t)=w (.tmp t):=by simp [rel,h]
theorem A0X (w:J3) {d t:Nat} (o:Nat) (h:d≠t):rel w (some d) (.tcell t o)=w (.tcell t o):=by simp [rel,h]
theorem B8l (w:J3):rel w none=w:=by funext p;cases p<;>rfl
theorem Rl.put (r:Rl Pr μ w a σ ax s) (d:Option Nat) {tv:TV} {v:Value} (h:RV s.get μ (Zo w Pr) tv v\/(A41 tv=true/\AL μ w a σ ax s.get tv v)):Rl Pr μ (rel w d) (a.put d tv) σ (ax.put d v) s:=by
 have hsub:=P1 w d;cases d with
 |none=>rw [B8l];exact r
 |some d=>
  have hno:A1G tv=none/\∀s cs e,tv≠.bx s cs e:=by
   rcases h with h|⟨h,_⟩
   ·exact ⟨h.notown.1,h.notown.2.2.2⟩
   ·cases tv<;>simp [A41] at h<;>exact ⟨rfl,fun _ _ _ h=>by cases h⟩
  have hal:∀x y,AL μ w a σ ax s.get x y->AL μ (rel w (some d)) (a.put (some d) tv) σ (ax.put (some d) v) s.get x y:=by
   intro x y hx;cases x<;>first|trivial|skip
   ·exact ⟨hx.1,fun hc chs hp=>B2t (A3d hno.1 hno.2 hp).1 (hx.2 hc chs (A3d hno.1 hno.2 hp).2)⟩
   ·refine ⟨hx.1,fun hc chs ch hp hj=> ?_⟩;obtain ⟨i,b,n,cc,h1,h2⟩:=hx.2 hc chs ch (A3d hno.1 hno.2 hp).2 hj;exact ⟨i,b,n,cc,B2t (A3d hno.1 hno.2 hp).1 h1,h2⟩
   ·rename_i t o ser;refine ⟨hx.1,fun cs e hb=> ?_⟩
    by_cases e2:d=t
    ·grind [TAct.ev_put_same]
    ·rw [TAct.ev_put_ne a tv e2] at hb;rw [X9 w e2];exact hx.2 cs e hb
  refine ⟨r.toRs.sub hsub (fun _=>rfl) (fun _ _=>rfl),fun t=> ?_,fun t=> ?_,?_⟩
  ·by_cases e:d=t
   ·subst e;rw [TAct.ev_put_same,Act.ev_put_same];rcases h with h|⟨h,_⟩
    ·exact .plain (h.mono (Mo.sub hsub)) (A03 w d) (T6 w d)
    ·exact .al h (A03 w d) (T6 w d)
   ·rw [TAct.ev_put_ne a tv e,Act.ev_put_ne ax v e];exact (r.tm t).mono (Mo.sub hsub) (X9 w e) (fun o=>A0X w o e) (fun _ _=>rfl) (fun _ _ _=>rfl) (Nat.le_refl _)
  ·by_cases e:d=t
   ·subst e;rw [TAct.ev_put_same,Act.ev_put_same];rcases h with h|⟨h,h'⟩
    ·have:=h.notown.2.2.1
     revert this
     generalize tv=x;intro this;cases x<;>first|trivial|cases this
    ·exact hal _ _ h'
   ·rw [TAct.ev_put_ne a tv e,Act.ev_put_ne ax v e];exact hal _ _ (r.al t)
  ·exact r.df.mono (Mo.sub hsub)
end
section
variable {Pr:Nat->Prop} {μ μ':List Nat} {w w':J3} {a a':TAct} {σ σ':Sto} {ax ax':Xe.Act} {s s':AS}
theorem Rl.env (r:Rl Pr μ w a σ ax s) (mo:Mo s.get μ (Zo w Pr) s'.get μ (Zo w' Pr)) (rs:Rs Pr μ w' σ s') (h1:∀t,w' (.tmp t)=w (.tmp t)) (h2:∀t o,w' (.tcell t o)=w (.tcell t o))
  (hg:∀p i,w p=some i->(∀h,p≠.hand h)->s'.get i=s.get i):Rl Pr μ w' a σ ax s':=by
 refine ⟨rs,fun t=>(r.tm t).mono mo (h1 t) (h2 t) (fun i e=>hg _ i e (fun h=>by simp)) (fun o i e=>hg _ i e (fun h=>by simp)) (Nat.le_refl _),fun t=> ?_,r.df.mono mo⟩;have hv:∀p v,A3w μ w ax s.get p v->A3w μ w' ax s'.get p v:=by
  intro p v h;cases p with
  |tmp t=>exact h
  |tcell t o ser=>
   obtain ⟨i,ver,vs,e,k1,k2,k3⟩:=h;exact ⟨i,ver,vs,e,(h1 t).trans k1,(hg _ i k1 (fun h=>by simp)).trans k2,k3⟩
  |cell k o=>
   obtain ⟨i,ver,vs,e,k1,k2,k3⟩:=h;exact ⟨i,ver,vs,e,k1,(hg (.obj k) i ((r.wobj k).trans k1) (fun h=>by simp)).trans k2,k3⟩
 have ha:=r.al t
 revert ha
 generalize a.ev (.tmp t)=x;generalize ax.ev (.tmp t)=y;intro ha;cases x<;>first|trivial|skip
 ·exact ⟨ha.1,fun hc chs hp=>hv _ _ (ha.2 hc chs hp)⟩
 ·refine ⟨ha.1,fun hc chs ch hp hj=> ?_⟩;obtain ⟨i,b,n,cc,k1,k2⟩:=ha.2 hc chs ch hp hj;grind
 ·refine ⟨ha.1,fun cs e hb=> ?_⟩;obtain ⟨i,k1,k2⟩:=ha.2 cs e hb;grind
theorem Rl.sub (r:Rl Pr μ w a σ ax s) (h:∀p i,w' p=some i->w p=some i) (h1:∀p,(∀k,p≠.hand k)->w' p=w p):Rl Pr μ w' a σ ax s:=
 r.env (Mo.sub h) (r.toRs.sub h (fun k=>h1 _ (by simp)) (fun k c=>h1 _ (by simp))) (fun t=>h1 _ (by simp)) (fun t o=>h1 _ (by simp)) (fun _ _ _ _=>rfl)
def A3O (a:TAct):Prop:=∀t,match a.ev (.tmp t) with
 |.via _ c=>c<a.clk
 |.vel _ c _ _=>c<a.clk
 |_=>True
theorem Rl.tick (r:Rl Pr μ w a σ ax s):Rl Pr μ w a.tick σ ax s:=
 r.step (Mo.refl _ _ _) r.toRs (Nat.lt_succ_self _) (fun t=>.inl ⟨rfl,rfl,rfl,fun _=>rfl,fun _ _=>rfl,fun _ _ _=>rfl⟩) ⟨rfl,rfl⟩
theorem Rl.fresh (r:Rl Pr μ w a σ ax s) {clk:Nat} (hc:a.clk<clk) (h:∀t,A41 (a'.ev (.tmp t))=true->a'.ev (.tmp t)=a.ev (.tmp t)) (h2:a'.clk=clk):A3O a':=by
 intro t;have h1:=h t;have ha:=r.al t
 revert h1
 generalize a'.ev (.tmp t)=x;intro h1;cases x<;>first|trivial|skip
 ·rw [<-h1 rfl] at ha;have:=ha.1;grind
 ·rw [<-h1 rfl] at ha;have:=ha.1;grind
theorem O6 (a:TAct) (t:Nat) (v:TV) (d:List TDfr) (c:Nat):(TAct.mk (a.tm.set t v) d c).ev (.tmp t)=v:=by simp only [TAct.ev,Tri.get_set_same]
theorem U8 (a:TAct) {t t':Nat} (v:TV) (d:List TDfr) (c:Nat) (h:t≠t'):(TAct.mk (a.tm.set t v) d c).ev (.tmp t')=a.ev (.tmp t'):=by simp only [TAct.ev,Tri.get_set_ne _ _ h]
theorem Rl.reTmp (r:Rl Pr μ w a σ ax s) (t:Nat) {tv:TV} (h:RV s.get μ (Zo (rel w (some t)) Pr) tv (ax.ev (.tmp t))):Rl Pr μ (rel w (some t)) ⟨a.tm.set t tv,a.df,a.clk+1⟩ σ ax s:=by
 have hsub:=P1 w (some t);refine r.step (Mo.sub hsub) (r.toRs.sub hsub (fun _=>rfl) (fun _ _=>rfl)) (Nat.lt_succ_self _) (fun t'=> ?_) ⟨rfl,rfl⟩
 by_cases e:t=t'
 ·subst e;rw [O6];exact .inr ⟨.plain h (A03 w t) (T6 w t),h.notown.2.2.1,fun ser cs e hb=>absurd hb (h.notown.2.2.2 _ _ _)⟩
 grind [U8,X9,A0X]
def mv (w:J3) (p q:Pc):J3:=fun x=>if x=p then none else if x=q then w p else w x
theorem B14 (w:J3) (p q:Pc):mv w p q p=none:=by simp [mv]
theorem A1d (w:J3) {p q:Pc} (h:q≠p):mv w p q q=w p:=by simp [mv,h]
theorem C5 (w:J3) {p q x:Pc} (h1:x≠p) (h2:x≠q):mv w p q x=w x:=by simp [mv,h1,h2]
theorem A3e {w:J3} {p q x:Pc} {i:Nat} (h:mv w p q x=some i):(x=q/\x≠p/\w p=some i)\/(x≠p/\x≠q/\w x=some i):=by
 grind [mv]
theorem G8 {w:J3} {p q x:Pc} {i:Nat} (h:mv w p q x=some i):∃y,w y=some i:=by
 grind [A3e]
theorem Zo.mv {w:J3} {p q:Pc} {i:Nat} (z:Zo w Pr i):Zo (mv w p q) Pr i:=⟨fun x e=>by obtain ⟨y,h⟩:=G8 e;exact z.1 y h,z.2⟩
theorem Mo.mv {g:Hp} {w:J3} (p q:Pc):Mo g μ (Zo w Pr) g μ (Zo (mv w p q) Pr):=⟨fun _ _ e=>e,fun i _ _ _ _ z hg=>⟨z.mv,hg⟩⟩
theorem Rs.mv (r:Rs Pr μ w σ s) (p q:Pc) (ho:∀k,Xt.mv w p q (.obj k)=w (.obj k)) (hc:∀k c,Xt.mv w p q (.cell k c)=w (.cell k c)):Rs Pr μ (Xt.mv w p q) σ s:=by
 refine ⟨r.dm,r.len,fun x y i e f=> ?_,fun x i e=> ?_,fun x i e=> ?_,fun k=>(ho k).trans (r.wobj k),fun k c hk=>(hc k c).trans (r.out k c hk),fun k o e=>(r.obj k o e).mono (Mo.mv p q) (hc k) (fun _ _=>rfl) (fun _ _ _=>rfl),r.full⟩
 ·rcases A3e e with ⟨h1,h2,h3⟩|⟨h1,h2,h3⟩<;>rcases A3e f with ⟨k1,k2,k3⟩|⟨k1,k2,k3⟩
  ·rw [h1,k1]
  ·exact absurd (r.inj _ _ _ h3 k3).symm k1
  ·exact absurd (r.inj _ _ _ h3 k3) h1
  ·exact r.inj _ _ _ h3 k3
 ·obtain ⟨y,h⟩:=G8 e;exact r.pr y i h
 ·obtain ⟨y,h⟩:=G8 e;exact r.live y i h
theorem Rl.takeTmp (r:Rl Pr μ w a σ ax s) {t:Nat} (ht:D1 (a.ev (.tmp t))=true):∃i,w (.tmp t)=some i/\RO s.get μ (Zo (mv w (.tmp t) (.hand 0)) Pr) i (a.ev (.tmp t)) (ax.ev (.tmp t))/\
  Rl Pr μ (mv w (.tmp t) (.hand 0)) ⟨a.tm.set t .dead,a.df,a.clk+1⟩ σ ax s/\A3O ⟨a.tm.set t .dead,a.df,a.clk+1⟩:=by
 have h:=r.tm t;have key:∃i,w (.tmp t)=some i/\(∀o,w (.tcell t o)=none)/\RO s.get μ (Zo w Pr) i (a.ev (.tmp t)) (ax.ev (.tmp t)):=by
  revert ht h
  generalize a.ev (.tmp t)=x;generalize ax.ev (.tmp t)=y;intro ht h;cases h with
  |plain h _ _=>rw [h.notown.2.1] at ht;cases ht
  |own h1 h2 h3=>grind
  |bx=>cases ht
  |al h _ _=>cases x<;>first|cases ht|cases h
 obtain ⟨i,h1,h2,h3⟩:=key;refine ⟨i,h1,h3.mono (Mo.mv _ _) rfl,?_,?_⟩
 ·refine r.step (Mo.mv _ _) (r.toRs.mv _ _ (fun k=>C5 w (by simp) (by simp)) (fun k c=>C5 w (by simp) (by simp))) (Nat.lt_succ_self _) (fun t'=> ?_) ⟨rfl,rfl⟩
  by_cases e:t=t'
  ·subst e;rw [O6];exact .inr ⟨.plain (.dead _) (B14 w _ _) (fun o=>(C5 w (by simp) (by simp)).trans (h2 o)),rfl,fun ser cs e hb=>by cases hb⟩
  grind [U8,C5]
 ·refine r.fresh (Nat.lt_succ_self _) (fun t' ht'=> ?_) rfl
  by_cases e:t=t'
  ·subst e;rw [O6] at ht';cases ht'
  grind [U8]
theorem Rl.putOwn (r:Rl Pr μ w a σ ax s) (hf:A3O a) (d:Nat) {i:Nat} (hi:w (.hand 0)=some i) {tv:TV} {v:Value} (h:RO s.get μ (Zo w Pr) i tv v):
  Rl Pr μ (mv (rel w (some d)) (.hand 0) (.tmp d)) (a.put (some d) tv) σ (ax.put (some d) v) s:=by
 have hsub:=P1 w (some d);have mo:Mo s.get μ (Zo w Pr) s.get μ (Zo (mv (rel w (some d)) (.hand 0) (.tmp d)) Pr):=(Mo.sub hsub).trans (Mo.mv _ _);have hni:A41 tv=false/\∀s cs e,tv≠.bx s cs e:=by cases h;exact ⟨rfl,fun _ _ _ h=>by cases h⟩
 refine ⟨(r.toRs.sub hsub (fun _=>rfl) (fun _ _=>rfl)).mv _ _ (fun k=>C5 _ (by simp) (by simp)) (fun k c=>C5 _ (by simp) (by simp)),fun t=> ?_,fun t=> ?_,r.df.mono mo⟩
 ·by_cases e:d=t
  ·subst e;rw [TAct.ev_put_same,Act.ev_put_same];exact .own (i:=i) ((A1d _ (by simp)).trans hi) (fun o=>(C5 _ (by simp) (by simp)).trans (T6 w d o)) (h.mono mo rfl)
  ·rw [TAct.ev_put_ne a tv e,Act.ev_put_ne ax v e];exact (r.tm t).mono mo ((C5 _ (by simp) (by simp;omega)).trans (X9 w e)) (fun o=>(C5 _ (by simp) (by simp)).trans (A0X w o e)) (fun _ _=>rfl) (fun _ _ _=>rfl) (Nat.le_refl _)
 ·by_cases e:d=t
  ·subst e;rw [TAct.ev_put_same];have:=hni.1
   revert this
   generalize tv=x;intro this;cases x<;>first|trivial|cases this
  ·rw [TAct.ev_put_ne a tv e,Act.ev_put_ne ax v e];have ha:=r.al t;have hft:=hf t
   revert ha hft
   generalize a.ev (.tmp t)=x;intro ha hft;cases x<;>first|trivial|skip
   ·exact ⟨ha.1,fun hc=>by have:_<a.clk:=hft;have hc:_=a.clk:=hc;omega⟩
   ·exact ⟨ha.1,fun hc=>by have:_<a.clk:=hft;have hc:_=a.clk:=hc;omega⟩
   ·rename_i t' o ser;refine ⟨ha.1,fun cs e2 hb=> ?_⟩
    by_cases e3:d=t'
    ·grind [TAct.ev_put_same]
    ·rw [TAct.ev_put_ne a tv e3] at hb;obtain ⟨i2,k1,k2⟩:=ha.2 cs e2 hb;grind [C5,X9]
theorem Rl.putBx (r:Rl Pr μ w a σ ax s) (hf:A3O a) (d:Nat) {i:Nat} (hi:w (.hand 0)=some i) {ser ver:Nat} {cs:List TV} {vs:List Value} {e:TypeId} (hg:s.get i=some ⟨ver,.cells vs e false⟩) (hv:RVs s.get μ (Zo w Pr) cs vs) (hser:ser+1=a.clk)
  (hold:∀t o,a.ev (.tmp t)≠.vpt d o ser):
  Rl Pr μ (mv (rel w (some d)) (.hand 0) (.tmp d)) (a.put (some d) (.bx ser cs e)) σ (ax.put (some d) (.pointer (some ⟨i,0,none⟩))) s:=by
 have hsub:=P1 w (some d);have mo:Mo s.get μ (Zo w Pr) s.get μ (Zo (mv (rel w (some d)) (.hand 0) (.tmp d)) Pr):=(Mo.sub hsub).trans (Mo.mv _ _);refine ⟨(r.toRs.sub hsub (fun _=>rfl) (fun _ _=>rfl)).mv _ _ (fun k=>C5 _ (by simp) (by simp)) (fun k c=>C5 _ (by simp) (by simp)),fun t=> ?_,fun t=> ?_,r.df.mono mo⟩
 ·by_cases e:d=t
  ·subst e;rw [TAct.ev_put_same,Act.ev_put_same];have hn:∀o,mv (rel w (some d)) (.hand 0) (.tmp d) (.tcell d o)=none:=fun o=>(C5 _ (by simp) (by simp)).trans (T6 w d o)
   refine .bx (i:=i) ((A1d _ (by simp)).trans hi) hg ⟨hv.length,fun o tv v h1 h2=> ?_,fun o _=>hn o⟩ (by show ser<a.clk;omega);obtain ⟨v',h3,h4⟩:=hv.get h1;rw [h2] at h3;cases h3;simp only [hn o];exact h4.mono mo
  ·rw [TAct.ev_put_ne a _ e,Act.ev_put_ne ax _ e];exact (r.tm t).mono mo ((C5 _ (by simp) (by simp;omega)).trans (X9 w e)) (fun o=>(C5 _ (by simp) (by simp)).trans (A0X w o e)) (fun _ _=>rfl) (fun _ _ _=>rfl) (Nat.le_refl _)
 ·by_cases e:d=t
  ·subst e;rw [TAct.ev_put_same];trivial
  ·rw [TAct.ev_put_ne a _ e,Act.ev_put_ne ax _ e];have ha:=r.al t;have hft:=hf t;have hold':=hold t
   revert ha hft hold'
   generalize a.ev (.tmp t)=x;intro ha hft hold';cases x<;>first|trivial|skip
   ·exact ⟨ha.1,fun hc=>by have:_<a.clk:=hft;have hc:_=a.clk:=hc;omega⟩
   ·exact ⟨ha.1,fun hc=>by have:_<a.clk:=hft;have hc:_=a.clk:=hc;omega⟩
   ·rename_i t' o ser';refine ⟨ha.1,fun cs e2 hb=> ?_⟩
    by_cases e3:d=t'
    ·grind [TAct.ev_put_same]
    ·rw [TAct.ev_put_ne a _ e3] at hb;obtain ⟨i2,k1,k2⟩:=ha.2 cs e2 hb;grind [C5,X9]
def holds (w:J3) (i:Nat):J3:=fun p=>if p=.hand 0 then some i else w p
theorem A1e (w:J3) (i:Nat):holds w i (.hand 0)=some i:=by simp [holds]
theorem A0x (w:J3) (i:Nat) {p:Pc} (h:∀k,p≠.hand k):holds w i p=w p:=by simp [holds,h 0]
theorem Rl.alloc (r:Rl Pr μ w a σ ax s) (o:AObj) (hp:¬Pr s.next):Rl Pr μ (holds w s.next) a σ ax (s.upd [(s.next,some o)] (s.next+1)):=by
 have hget:∀i,i<s.next->(s.upd [(s.next,some o)] (s.next+1)).get i=s.get i:=fun i hi=>by
  rw [AS.upd_get];simp only [Hp.upd];exact Hp.set1_ne _ _ (by omega)
 have hsome:∀i x,s.get i=some x->i<s.next:=fun i x e=>by
  by_cases h:i<s.next
  ·exact h
  ·rw [r.dm i (by omega)] at e;cases e
 have mo:Mo s.get μ (Zo w Pr) (s.upd [(s.next,some o)] (s.next+1)).get μ (Zo (holds w s.next) Pr):=by
  refine ⟨fun _ _ e=>e,fun i ver vs e ro z hg=> ?_⟩;have hi:=hsome i _ hg;refine ⟨⟨fun p e=> ?_,z.2⟩,(hget i hi).trans hg⟩;unfold holds at e;split at e
  ·cases e;omega
  ·exact z.1 p e
 have hold:∀p i,holds w s.next p=some i->(p=.hand 0/\i=s.next)\/(p≠.hand 0/\w p=some i):=fun p i e=>by
  grind [holds]
 have hdm:Dm (s.upd [(s.next,some o)] (s.next+1)):=fun i hi=>by
  have hi:s.next+1<=i:=hi;rw [AS.upd_get];simp only [Hp.upd];rw [Hp.set1_ne _ _ (by omega)];exact r.dm i (by omega)
 refine r.env mo ⟨hdm,r.len,fun p q i e f=> ?_,fun p i e=> ?_,fun p i e=> ?_,fun k=>(A0x w _ (by simp)).trans (r.wobj k),fun k c hk=>(A0x w _ (by simp)).trans (r.out k c hk),fun k o' e=> ?_,r.full⟩ (fun t=>A0x w _ (by simp)) (fun t o=>A0x w _ (by simp)) (fun p i e _=>hget i (r.live p i e))
 ·rcases hold p i e with ⟨h1,h2⟩|⟨h1,h2⟩<;>rcases hold q i f with ⟨k1,k2⟩|⟨k1,k2⟩
  ·rw [h1,k1]
  ·have:=r.live _ _ k2;omega
  ·have:=r.live _ _ h2;omega
  ·exact r.inj _ _ _ h2 k2
 ·rcases hold p i e with ⟨_,rfl⟩|⟨_,h⟩
  ·exact hp
  ·exact r.pr p i h
 ·rcases hold p i e with ⟨_,rfl⟩|⟨_,h⟩
  ·constructor<;>grind
  ·exact Nat.lt_succ_of_lt (r.live p i h)
 ·exact (r.obj k o' e).mono mo (fun c=>A0x w _ (by simp)) (fun i e=>hget i (r.live (.obj k) i ((r.wobj k).trans e))) (fun c i e=>hget i (r.live _ i e))
theorem Rl.handSet (r:Rl Pr μ w a σ ax s) {i:Nat} (hi:w (.hand 0)=some i) (o:Option AObj):Rl Pr μ w a σ ax (s.upd [(i,o)] s.next):=by
 have hget:∀j,j≠i->(s.upd [(i,o)] s.next).get j=s.get j:=fun j hj=>by
  rw [AS.upd_get];simp only [Hp.upd];exact Hp.set1_ne _ _ (fun h=>hj h.symm)
 have hne:∀p j,w p=some j->p≠.hand 0->j≠i:=fun p j e h h2=>by subst h2;exact h (r.inj _ _ _ e hi)
 have mo:Mo s.get μ (Zo w Pr) (s.upd [(i,o)] s.next).get μ (Zo w Pr):=by
  refine ⟨fun _ _ e=>e,fun j ver vs e ro z hg=>⟨z,(hget j ?_).trans hg⟩⟩;rintro rfl;exact z.1 _ hi
 have hdm:Dm (s.upd [(i,o)] s.next):=fun j hj=>by
  have hj:s.next<=j:=hj;have:=r.live _ _ hi;rw [hget j (by omega)];exact r.dm j hj
 refine r.env mo ⟨hdm,r.len,r.inj,r.pr,r.live,r.wobj,r.out,fun k o' e=> ?_,r.full⟩ (fun _=>rfl) (fun _ _=>rfl) (fun p j e h=>hget j (hne p j e (h 0)));exact (r.obj k o' e).mono mo (fun _=>rfl) (fun j e=>hget j (hne (.obj k) j ((r.wobj k).trans e) (by simp))) (fun c j e=>hget j (hne _ j e (by simp)))
theorem Rl.putObj (r:Rl Pr μ w a σ ax s) {i:Nat} (hi:w (.hand 0)=some i) {o:TObj} {b:ABody} (hg:s.get i=some ⟨o.ver,b⟩) (hb:(∀c,mv w (.hand 0) (.obj σ.length) (.cell σ.length c)=none)->Mo s.get μ (Zo w Pr) s.get (μ++[i]) (Zo (mv w (.hand 0) (.obj σ.length)) Pr)->RB s.get (μ++[i]) (Zo (mv w (.hand 0) (.obj σ.length)) Pr) (mv w (.hand 0) (.obj σ.length)) σ.length o.body b):
  Rl Pr (μ++[i]) (mv w (.hand 0) (.obj σ.length)) a.tick (σ++[some o]) ax s:=by
 have mo:Mo s.get μ (Zo w Pr) s.get (μ++[i]) (Zo (mv w (.hand 0) (.obj σ.length)) Pr):=⟨fun k j e=>by rw [List.getElem?_append_left (List.getElem?_eq_some_iff.1 e).1];exact e,fun j _ _ _ _ z hg=>⟨z.mv,hg⟩⟩;have hcell:∀k c,mv w (.hand 0) (.obj σ.length) (.cell k c)=w (.cell k c):=fun k c=>C5 w (by simp) (by simp)
 have hat:∀k,k<σ.length->(σ++[some o]:Sto).at k=σ.at k:=fun k hk=>by simp only [Sto.at,List.getElem?_append_left hk]
 have hat2:(σ++[some o]:Sto).at σ.length=some o:=by simp [Sto.at]
 have hlt:∀k x,(σ++[some o]:Sto).at k=some x->k<σ.length\/k=σ.length:=fun k x e=>by
  grind [Sto.at]
 refine r.step mo ⟨r.dm,by simp [r.len],fun x y j e f=> ?_,fun x j e=> ?_,fun x j e=> ?_,fun k=> ?_,fun k c hk=> ?_,fun k x e=> ?_,trivial⟩ (Nat.lt_succ_self _) (fun t=>.inl ⟨rfl,rfl,C5 w (by simp) (by simp),fun o=>C5 w (by simp) (by simp),fun _ _=>rfl,fun _ _ _=>rfl⟩) ⟨rfl,rfl⟩
 ·rcases A3e e with ⟨h1,h2,h3⟩|⟨h1,h2,h3⟩<;>rcases A3e f with ⟨k1,k2,k3⟩|⟨k1,k2,k3⟩
  ·rw [h1,k1]
  ·exact absurd (r.inj _ _ _ h3 k3).symm k1
  ·exact absurd (r.inj _ _ _ h3 k3) h1
  ·exact r.inj _ _ _ h3 k3
 ·obtain ⟨y,h⟩:=G8 e;exact r.pr y j h
 ·obtain ⟨y,h⟩:=G8 e;exact r.live y j h
 ·by_cases e:k=σ.length
  ·subst e;rw [A1d w (by simp),hi,<-r.len];simp
  ·rw [C5 w (by simp) (by simpa using e),r.wobj k]
   by_cases h:k<μ.length
   ·grind
   ·have:=r.len;grind
 ·rw [hcell];exact r.out k c (by simp at hk;omega)
 ·rcases hlt k x e with h|rfl
  ·rw [hat k h] at e;exact (r.obj k x e).mono mo (hcell k) (fun _ _=>rfl) (fun _ _ _=>rfl)
  ·rw [hat2] at e;cases e;exact ⟨i,b,by rw [<-r.len];simp,hg,hb (fun c=>(hcell _ c).trans (r.out _ c (Nat.le_refl _))) mo⟩
end
theorem B6A {vs l:List TV} {o:Nat} (h:o+l.length<=vs.length) (j:Nat):(putAt vs o l)[j]? =if j<o then vs[j]? else if j<o+l.length then l[j - o]? else vs[j]? :=by
 grind [putAt]
theorem A13 {vs l:List TV} {o:Nat} (h:o+l.length<=vs.length):(putAt vs o l).length=vs.length:=by
 grind [putAt]
theorem Q7:∀(l vs:List Value) (o:Nat),o+l.length<=vs.length->∀j,(setList vs o l)[j]? =if j<o then vs[j]? else if j<o+l.length then l[j - o]? else vs[j]?
 |[],vs,o,h,j=>by
  grind [setList]
 |x::l,vs,o,h,j=>by
  simp only [List.length_cons] at h;rw [setList,Q7 l (vs.set o x) (o+1) (by simp;omega) j];grind
def clr (ow:Nat->Option Nat) (o n:Nat) (x:Option Nat):Nat->Option Nat:=fun j=>if j<o then ow j else if j<o+n then x else ow j
section
variable {g:Hp} {μ:List Nat} {Z:Nat->Prop}
theorem RCs.put {ow:Nat->Option Nat} {cs:List TV} {vs:List Value} (r:RCs g μ Z ow cs vs) {l:List TV} {l':List Value} (hl:RVs g μ Z l l') {o:Nat} (h:o+l.length<=cs.length):RCs g μ Z (clr ow o l.length none) (putAt cs o l) (setList vs o l'):=by
 have hlen:=hl.length;refine ⟨by rw [J5,A13 h,r.len],fun j tv v h1 h2=> ?_,fun j hj=> ?_⟩
 ·rw [B6A h] at h1;rw [Q7 _ _ _ (by rw [hlen,r.len];exact h),hlen] at h2;unfold clr
  by_cases h3:j<o
  ·rw [if_pos h3] at h1 h2 ⊢;exact r.get j tv v h1 h2
  ·rw [if_neg h3] at h1 h2 ⊢
   by_cases h4:j<o+l.length
   ·rw [if_pos h4] at h1 h2 ⊢;obtain ⟨v',h5,h6⟩:=hl.get h1;rw [h2] at h5;cases h5;exact h6
   ·rw [if_neg h4] at h1 h2 ⊢;exact r.get j tv v h1 h2
 ·rw [A13 h] at hj;unfold clr;rw [if_neg (by omega),if_neg (by omega)];exact r.out j hj
theorem RCs.plain {ow:Nat->Option Nat} {cs:List TV} {vs:List Value} (r:RCs g μ Z ow cs vs) {o n:Nat} (h:o+n<=cs.length) (hn:((cs.drop o).take n).any D1=false):RVs g μ Z ((cs.drop o).take n) ((vs.drop o).take n):=by
 refine RVs.of_get (by simp [r.len]) fun j tv v h1 h2=> ?_
 have hno:D1 tv=false:=by
  grind
 simp only [List.getElem?_take,List.getElem?_drop] at h1 h2;split at h1
 ·rename_i hj;rw [if_pos hj] at h2;have:=r.get _ _ _ h1 h2
  revert this
  cases ow (o+j) with
  |none=>exact id
  |some i=>intro h;cases h;cases hno
 ·cases h1
theorem RCs.at {ow:Nat->Option Nat} {cs:List TV} {vs:List Value} (r:RCs g μ Z ow cs vs) {o:Nat} {tv:TV} (h:cs[o]? =some tv):∃v,vs[o]? =some v/\RC g μ Z (ow o) tv v:=by
 have hlt:=(List.getElem?_eq_some_iff.1 h).1;have:o<vs.length:=by rw [r.len];exact hlt
 exact ⟨vs[o],by simp [this],r.get o tv _ h (by simp [this])⟩
theorem RC.plainOf {ow:Option Nat} {tv:TV} {v:Value} (r:RC g μ Z ow tv v) (h:D1 tv=false):ow=none/\RV g μ Z tv v:=by
 cases ow with
 |none=>exact ⟨rfl,r⟩
 |some i=>cases r;cases h
theorem RC.ownOf {ow:Option Nat} {tv:TV} {v:Value} (r:RC g μ Z ow tv v) (h:D1 tv=true):∃i,ow=some i/\RO g μ Z i tv v:=by
 cases ow with
 |none=>rw [(RV.notown r).2.1] at h;cases h
 |some i=>exact ⟨i,rfl,r⟩
end
section
variable {Pr:Nat->Prop} {μ μ':List Nat} {w w':J3} {a a':TAct} {σ σ':Sto} {ax ax':Xe.Act} {s s':AS}
theorem Rl.boxStep (r:Rl Pr μ w a σ ax s) {t ser:Nat} {cs cs':List TV} {e:TypeId} (hb:a.ev (.tmp t)=.bx ser cs e) (mo:Mo s.get μ (Zo w Pr) s'.get μ (Zo w' Pr)) (rs:Rs Pr μ w' σ s')
  (h1:∀t',w' (.tmp t')=w (.tmp t')) (h2:∀t' o,t'≠t->w' (.tcell t' o)=w (.tcell t' o)) (hg:∀p i,w p=some i->(∀h,p≠.hand h)->p≠.tmp t->(∀o,p≠.tcell t o)->s'.get i=s.get i)
  (hi:∀i,w (.tmp t)=some i->∃ver vs,s'.get i=some ⟨ver,.cells vs e false⟩/\RCs s'.get μ (Zo w' Pr) (fun o=>w' (.tcell t o)) cs' vs):Rl Pr μ w' (W1 a t ser cs' e) σ ax s':=by
 refine r.step mo rs (Nat.lt_succ_self _) (fun t'=> ?_) ⟨rfl,rfl⟩
 by_cases ht:t=t'
 ·subst ht;refine .inr ?_;have hev:(W1 a t ser cs' e).ev (.tmp t)=.bx ser cs' e:=O6 _ _ _ _ _;rw [hev];have h:=r.tm t;rw [hb] at h
  revert h
  generalize ax.ev (.tmp t)=y;intro h;cases h with
  |plain h _ _=>exact absurd rfl (h.notown.2.2.2 _ _ _)
  |own _ _ h=>cases h
  |al h _ _=>cases h
  |bx k1 k2 k3 k4=>
   obtain ⟨ver,vs,q1,q2⟩:=hi _ k1;exact ⟨.bx ((h1 t).trans k1) q1 q2 (by show ser<a.clk+1;omega),rfl,fun ser' cs2 e2 hq=>by cases hq;exact .inr ⟨⟨_,_,hb⟩,h1 t⟩⟩
 grind [W1,U8]
theorem Rl.boxOf (r:Rl Pr μ w a σ ax s) {t ser:Nat} {cs:List TV} {e:TypeId} (hb:M6 a t ser=some (cs,e)):a.ev (.tmp t)=.bx ser cs e/\∃i ver vs,w (.tmp t)=some i/\ax.ev (.tmp t)=.pointer (some ⟨i,0,none⟩)/\s.get i=some ⟨ver,.cells vs e false⟩/\RCs s.get μ (Zo w Pr) (fun o=>w (.tcell t o)) cs vs:=by
 have hbx:a.ev (.tmp t)=.bx ser cs e:=by
  grind [M6,D8]
 refine ⟨hbx,?_⟩;have h:=r.tm t;rw [hbx] at h
 revert h
 generalize ax.ev (.tmp t)=y;intro h;cases h with
 |plain h _ _=>exact absurd rfl (h.notown.2.2.2 _ _ _)
 |own _ _ h=>cases h
 |al h _ _=>cases h
 |bx k1 k2 k3 k4=>grind
theorem Rl.vptOf (r:Rl Pr μ w a σ ax s) {t ser o:Nat} {cs:List TV} {e:TypeId} {v:Value} (hv:AL μ w a σ ax s.get (.vpt t o ser) v) (hb:M6 a t ser=some (cs,e)):∃i ver vs,v=.pointer (some ⟨i,o,none⟩)/\w (.tmp t)=some i/\s.get i=some ⟨ver,.cells vs e false⟩/\RCs s.get μ (Zo w Pr) (fun o=>w (.tcell t o)) cs vs:=by
 obtain ⟨hbx,i,ver,vs,h1,h2,h3,h4⟩:=r.boxOf hb;obtain ⟨i',k1,k2⟩:=hv.2 _ _ hbx;grind
def A04 (w:J3) (t o n:Nat) (x:Option Nat):J3:=fun p=>match p with
 |.tcell t' j=>if t'=t then clr (fun j=>w (.tcell t j)) o n x j else w p
 |p=>w p
theorem A7C (w:J3) (t o n:Nat) (x:Option Nat):(fun j=>A04 w t o n x (.tcell t j))=clr (fun j=>w (.tcell t j)) o n x:=by
 funext j;simp [A04]
theorem K3 (w:J3) (t o n:Nat) (p:Pc) (i:Nat) (h:A04 w t o n none p=some i):w p=some i:=by
 simp_all [A04,clr]<;>grind
def Z0 (w:J3) (k o n:Nat) (x:Option Nat):J3:=fun p=>match p with
 |.cell k' j=>if k'=k then clr (fun j=>w (.cell k j)) o n x j else w p
 |p=>w p
theorem A9C (w:J3) (k o n:Nat) (x:Option Nat):(fun j=>Z0 w k o n x (.cell k j))=clr (fun j=>w (.cell k j)) o n x:=by
 funext j;simp [Z0]
theorem J1 (w:J3) (k o n:Nat) (p:Pc) (i:Nat) (h:Z0 w k o n none p=some i):w p=some i:=by
 simp_all [Z0,clr]<;>grind
theorem M3 (s:AS) (i:Nat) (o:Option AObj) (j:Nat):(s.upd [(i,o)] s.next).get j=if i=j then o else s.get j:=by
 rw [AS.upd_get];rfl
theorem Rl.moSet (r:Rl Pr μ w a σ ax s) {p:Pc} {i:Nat} (hi:w p=some i) (o:Option AObj) {w':J3} (hw:∀p i,w' p=some i->∃q,w q=some i):Mo s.get μ (Zo w Pr) (s.upd [(i,o)] s.next).get μ (Zo w' Pr):=by
 refine ⟨fun _ _ e=>e,fun j ver vs e ro z hg=>⟨⟨fun q e=> ?_,z.2⟩,?_⟩⟩
 ·obtain ⟨q',h⟩:=hw q j e;exact z.1 q' h
 ·rw [M3,if_neg];exact hg;rintro rfl;exact z.1 _ hi
theorem Rl.dmSet (r:Rl Pr μ w a σ ax s) {p:Pc} {i:Nat} (hi:w p=some i) (o:Option AObj):Dm (s.upd [(i,o)] s.next):=fun j hj=>by
 have hj:s.next<=j:=hj;have:=r.live _ _ hi;rw [M3,if_neg (by omega)];exact r.dm j hj
theorem Rs.setT (r:Rs Pr μ w σ s) {s':AS} (mo:Mo s.get μ (Zo w Pr) s'.get μ (Zo w' Pr)) (hdm:Dm s') (hle:s.next<=s'.next) (inj:∀p q i,w' p=some i->w' q=some i->p=q) (own:∀p i,w' p=some i->∃q,w q=some i)
  (ho:∀k,w' (.obj k)=w (.obj k)) (hc:∀k c,w' (.cell k c)=w (.cell k c)) (hg:∀k i,(w (.obj k)=some i\/∃c,w (.cell k c)=some i)->s'.get i=s.get i):Rs Pr μ w' σ s':=
 ⟨hdm,r.len,inj,fun p i e=>by obtain ⟨q,h⟩:=own p i e;exact r.pr q i h,fun p i e=>by obtain ⟨q,h⟩:=own p i e;exact Nat.lt_of_lt_of_le (r.live q i h) hle,fun k=>(ho k).trans (r.wobj k),fun k c hk=>(hc k c).trans (r.out k c hk),
  fun k o e=>(r.obj k o e).mono mo (hc k) (fun i e=>hg k i (.inl ((r.wobj k).trans e))) (fun c i e=>hg k i (.inr ⟨c,e⟩)),r.full⟩
theorem Rs.setO (r:Rs Pr μ w σ s) {s':AS} {k:Nat} {o:TObj} (hk:k<σ.length) (mo:Mo s.get μ (Zo w Pr) s'.get μ (Zo w' Pr)) (hdm:Dm s') (hle:s.next<=s'.next) (inj:∀p q i,w' p=some i->w' q=some i->p=q) (own:∀p i,w' p=some i->∃q,w q=some i)
  (ho:∀k,w' (.obj k)=w (.obj k)) (hc:∀k' c,k'≠k->w' (.cell k' c)=w (.cell k' c)) (hg:∀k' i,k'≠k->(w (.obj k')=some i\/∃c,w (.cell k' c)=some i)->s'.get i=s.get i)
  (new:RObj s'.get μ (Zo w' Pr) w' k o):Rs Pr μ w' (σ.set k (some o)) s':=by
 have hat:∀k',k'≠k->Sto.at (σ.set k (some o)) k'=σ.at k':=fun k' h=>by simp only [Sto.at];rw [List.getElem?_set_ne (fun e=>h e.symm)]
 have hat2:Sto.at (σ.set k (some o)) k=some o:=by simp [Sto.at,hk]
 refine ⟨hdm,by simp [r.len],inj,fun p i e=>by obtain ⟨q,h⟩:=own p i e;exact r.pr q i h,fun p i e=>by obtain ⟨q,h⟩:=own p i e;exact Nat.lt_of_lt_of_le (r.live q i h) hle,fun k=>(ho k).trans (r.wobj k),fun k' c hk'=> ?_,fun k' o' e=> ?_,trivial⟩
 ·simp at hk';rw [hc k' c (by omega)];exact r.out k' c hk'
 ·by_cases h:k'=k
  ·grind
  ·rw [hat k' h] at e;exact (r.obj k' o' e).mono mo (fun c=>hc k' c h) (fun i e=>hg k' i h (.inl ((r.wobj k').trans e))) (fun c i e=>hg k' i h (.inr ⟨c,e⟩))
theorem Rs.setN (r:Rs Pr μ w σ s) {s':AS} {k:Nat} (mo:Mo s.get μ (Zo w Pr) s'.get μ (Zo w Pr)) (hdm:Dm s') (hle:s.next<=s'.next) (hg:∀k' i,k'≠k->(w (.obj k')=some i\/∃c,w (.cell k' c)=some i)->s'.get i=s.get i):Rs Pr μ w (σ.set k none) s':=by
 have hat:∀k' o,Sto.at (σ.set k none) k'=some o->k'≠k/\σ.at k'=some o:=fun k' o h=>by
  grind [Sto.at]
 refine ⟨hdm,by simp [r.len],r.inj,r.pr,fun p i e=>Nat.lt_of_lt_of_le (r.live p i e) hle,r.wobj,fun k' c hk'=>r.out k' c (by simpa using hk'),fun k' o' e=> ?_,trivial⟩;obtain ⟨h,e⟩:=hat k' o' e;exact (r.obj k' o' e).mono mo (fun _=>rfl) (fun i e=>hg k' i h (.inl ((r.wobj k').trans e))) (fun c i e=>hg k' i h (.inr ⟨c,e⟩))
theorem Rl.objStep (r:Rl Pr μ w a σ ax s) (mo:Mo s.get μ (Zo w Pr) s'.get μ (Zo w' Pr)) (rs:Rs Pr μ w' σ' s') (h1:∀t',w' (.tmp t')=w (.tmp t')) (h2:∀t' o,w' (.tcell t' o)=w (.tcell t' o))
  (hg:∀t i,(w (.tmp t)=some i\/∃o,w (.tcell t o)=some i)->s'.get i=s.get i):Rl Pr μ w' a.tick σ' ax s':=
 r.step mo rs (Nat.lt_succ_self _) (fun t=>.inl ⟨rfl,rfl,h1 t,h2 t,fun i e=>hg t i (.inl e),fun o i e=>hg t i (.inr ⟨o,e⟩)⟩) ⟨rfl,rfl⟩
end
mutual
theorem RV.ofV (g:Hp) (μ:List Nat) (Z:Nat->Prop):∀v:Value,RV g μ Z (Xt.ofV v) v
 |.int k n=>.int k n
 |.bool b=>.bool b
 |.string s=>.str s
 |.pointer none=>.nilp
 |.slice none 0 0=>.nl
 |.map none=>.nilm
 |.nilFunc=>.nilf
 |.nilIface=>.nili
 |.agg ⟨l⟩=>.agg (RVs.ofVs g μ Z l)
 |.tuple ⟨l⟩=>.tuple (RVs.ofVs g μ Z l)
 |.float _ _=>.dead _
 |.complex _ _ _=>.dead _
 |.pointer (some _)=>.dead _
 |.slice none 0 (_+1)=>.dead _
 |.slice none (_+1) _=>.dead _
 |.slice (some _) _ _=>.dead _
 |.map (some _)=>.dead _
 |.chan _=>.dead _
 |.func _ _ _=>.dead _
 |.iface _ _=>.dead _
theorem RVs.ofVs (g:Hp) (μ:List Nat) (Z:Nat->Prop):∀l:List Value,RVs g μ Z (Xt.ofV.ofVs l) l
 |[]=>.nil
 |v::l=>.cons (RV.ofV g μ Z v) (RVs.ofVs g μ Z l)
end
def pl:TV->Bool
 |.sl (.own _ _) _=>false
 |.via _ _=>false
 |.vel _ _ _ _=>false
 |.bx _ _ _=>false
 |.vpt _ _ _=>false
 |_=>true
theorem RV.pl {g:Hp} {μ:List Nat} {Z:Nat->Prop} {tv:TV} {v:Value} (h:RV g μ Z tv v):Xt.pl tv=true:=by cases h<;>rfl
section
variable {Pr:Nat->Prop} {μ μ':List Nat} {w w':J3} {a a':TAct} {σ σ':Sto} {ax ax':Xe.Act} {s s':AS}
theorem Rl.plain (r:Rl Pr μ w a σ ax s) {x:Operand} (h:pl (a.ev x)=true):RV s.get μ (Zo w Pr) (a.ev x) (ax.ev x):=by
 cases x with
 |tmp t=>
  have ht:=r.tm t
  revert h ht
  generalize a.ev (.tmp t)=tv;generalize ax.ev (.tmp t)=v;intro h ht;cases ht with
  |plain k _ _=>exact k
  |own _ _ k=>cases k;cases h
  |bx=>cases h
  |al k _ _=>cases tv<;>first|(simp [Xt.pl] at h;done)|(simp [A41] at k;done)
 |const v=>exact RV.ofV _ _ _ v
 |global g=>exact .dead _
 |func f=>exact .func f .nil .nil
theorem Rl.plainOf (r:Rl Pr μ w a σ ax s) {x:Operand} {tv:TV} (h:a.ev x=tv) (hp:pl tv=true):RV s.get μ (Zo w Pr) tv (ax.ev x):=by
 have:=r.plain (x:=x) (by rw [h];exact hp)
 rwa [h] at this
theorem Rl.ownOf (r:Rl Pr μ w a σ ax s) {t:Nat} (h:D1 (a.ev (.tmp t))=true):∃i,w (.tmp t)=some i/\RO s.get μ (Zo w Pr) i (a.ev (.tmp t)) (ax.ev (.tmp t)):=by
 have ht:=r.tm t
 revert h ht
 generalize a.ev (.tmp t)=tv;generalize ax.ev (.tmp t)=v;intro h ht;cases ht with
 |plain k _ _=>rw [k.notown.2.1] at h;cases h
 |own h1 _ k=>exact ⟨_,h1,k⟩
 |bx=>cases h
 |al k _ _=>simp_all [D1,A41]<;>grind
theorem A65 (v:Value):D1 (ofV v)=false:=(RV.ofV (fun _=>none) [] (fun _=>True) v).notown.2.1
theorem Q4 {x:Operand} (h:D1 (a.ev x)=true):∃t,x=.tmp t:=by
 cases x with
 |tmp t=>exact ⟨t,rfl⟩
 |const v=>rw [show a.ev (.const v)=ofV v from rfl,A65] at h;cases h
 |global g=>cases h
 |func f=>cases h
theorem B8m (v:TV):frz (frz v)=frz v:=by
 cases v<;>try rfl
 rename_i m c;cases m<;>rfl
theorem A2R {v:TV} (h:D1 v=false):frz v=v:=by
 cases v<;>try rfl
 rename_i m c;cases m<;>first|rfl|cases h
theorem B47 (v:TV):D1 (frz v)=false:=by
 cases v<;>try rfl
 rename_i m c;cases m<;>rfl
theorem B15 (a:TAct) (x y:Operand):(frz1 a x).ev y=a.ev y\/(x=y/\(frz1 a x).ev y=frz (a.ev y)):=by
 cases x with
 |tmp t=>
  cases ho:D1 (a.ev (.tmp t)) with
  |true=>
   simp only [frz1,ho];cases y with
   |tmp t'=>
    grind [O6,U8]
   |_=>exact .inl rfl
  |false=>grind [frz1]
 |_=>exact .inl rfl
theorem A14 (a:TAct) (x:Operand):(frz1 a x).ev x=frz (a.ev x):=by
 cases x with
 |tmp t=>
  grind [D1,frz1,O6,A2R]
 |const v=>exact (A2R (A65 v)).symm
 |global g=>rfl
 |func f=>rfl
theorem B8n (a:TAct) (x y:Operand):frz ((frz1 a x).ev y)=frz (a.ev y):=by
 grind [B15,B8m]
theorem B6B {a:TAct} {x y:Operand} (h:D1 (a.ev y)=false):(frz1 a x).ev y=a.ev y:=by
 grind [B15,A2R]
theorem A9D:∀(l:List Operand) (a:TAct) (y:Operand),D1 (a.ev y)=false->(frzs a l).ev y=a.ev y
 |[],a,y,_=>rfl
 |x::l,a,y,h=>by
  simp_all [B6B,frzs,A9D]
theorem B2u:∀(l:List Operand) (a:TAct) (y:Operand),y∈l->(frzs a l).ev y=frz (a.ev y)
 |[],a,y,h=>by cases h
 |x::l,a,y,h=>by
  simp only [frzs]
  by_cases e:x=y
  ·grind [A9D,A14,B47]
  ·rcases List.mem_cons.1 h with h|h
   ·exact absurd h.symm e
   simp_all [B2u,B8n]
theorem Rl.frz1 (r:Rl Pr μ w a σ ax s) (x:Operand):∃w1,Rl Pr μ w1 (Xt.frz1 a x) σ ax s/\∀p i,w1 p=some i->w p=some i:=by
 cases x with
 |tmp t=>
  cases h:D1 (a.ev (.tmp t)) with
  |true=>
   simp only [Xt.frz1,h];obtain ⟨i,h1,h2⟩:=r.ownOf h;refine ⟨rel w (some t),r.reTmp t (RO.frz (h2.mono (Mo.sub (P1 w _)) rfl) ⟨fun p e=> ?_,r.pr _ i h1⟩),P1 w _⟩;have:=r.inj _ _ _ (P1 w _ p i e) h1;subst this;rw [A03] at e;cases e
  |false=>simp only [Xt.frz1,h];exact ⟨w,r,fun _ _ h=>h⟩
 |const v=>exact ⟨w,r,fun _ _ h=>h⟩
 |global g=>exact ⟨w,r,fun _ _ h=>h⟩
 |func f=>exact ⟨w,r,fun _ _ h=>h⟩
theorem Rl.frzs:∀(l:List Operand) {w:J3} {a:TAct},Rl Pr μ w a σ ax s->∃w1,Rl Pr μ w1 (Xt.frzs a l) σ ax s/\∀p i,w1 p=some i->w p=some i
 |[],w,a,r=>⟨w,r,fun _ _ h=>h⟩
 |x::l,w,a,r=>by
  obtain ⟨w1,h1,h2⟩:=r.frz1 x;obtain ⟨w2,h3,h4⟩:=Rl.frzs l h1;exact ⟨w2,h3,fun p i e=>h2 p i (h4 p i e)⟩
theorem A1T {v v':TV} (h:give v=some v'):v'=frz v/\pl v'=true:=by
 cases v<;>simp only [give] at h<;>first|(cases h;exact ⟨rfl,rfl⟩)|(cases h;done)|skip
 rename_i m c;cases m<;>simp only [give] at h<;>cases h<;>exact ⟨rfl,rfl⟩
theorem Rl.given (r:Rl Pr μ w a σ ax s) {l:List Operand} {a0:TAct} (ha:a=Xt.frzs a0 l) {x:Operand} (hx:x∈l) {v:TV} (h:give (a0.ev x)=some v):RV s.get μ (Zo w Pr) v (ax.ev x):=by
 obtain ⟨h1,h2⟩:=A1T h;subst ha;have:=B2u l a0 x hx;rw [<-h1] at this;exact r.plainOf this h2
theorem Y6 (r:Rl Pr μ w a σ ax s) {L:List Operand} {a0:TAct} (ha:a=Xt.frzs a0 L):∀(l:List Operand),(∀x∈l,x∈L)->∀{vs:List TV},W9 (l.map a0.ev)=some vs->RVs s.get μ (Zo w Pr) vs (l.map ax.ev)
 |[],_,vs,h=>by simp only [List.map_nil,W9] at h;cases h;exact .nil
 |x::l,hl,vs,h=>by
  simp only [List.map_cons,W9] at h;split at h
  ·rename_i v vs' h1 h2;cases h;exact .cons (r.given ha (hl x (by simp)) h1) (Y6 r ha l (fun y hy=>hl y (by simp [hy])) h2)
  ·cases h
structure After (w w':J3) (μ μ':List Nat) (s s':AS):Prop where
 le:s.next<=s'.next
 keep:∀i,i<s.next->(∀p,w p≠some i)->s'.get i=s.get i
 own:∀p i,w' p=some i->i<s.next->∃q,w q=some i
 mu:∃ν,μ'=μ++ν
def A4U (Pr:Nat->Prop) (μ:List Nat) (w:J3) (ax:Xe.Act) (s:AS) (d:Option Nat) (v:TV) (a':TAct) (σ':Sto) (p:PR):Prop:=
 ∃μ' w',Rl Pr μ' w' (a'.put d v) σ' (ax.put d p.v) (s.upd p.δ p.nx)/\After w w' μ μ' s (s.upd p.δ p.nx)
theorem L6 {w1:J3} (r:Rl Pr μ w1 a' σ' ax s) (hw:∀p i,w1 p=some i->∃q,w q=some i) (d:Option Nat) {tv:TV} {v:Value} (h:RV s.get μ (Zo w1 Pr) tv v\/(A41 tv=true/\AL μ w1 a' σ' ax s.get tv v)):
  A4U Pr μ w ax s d tv a' σ' ⟨v,[],s.next⟩:=
 ⟨μ,rel w1 d,r.put d h,Nat.le_refl _,fun _ _ _=>rfl,fun p i e _=>hw p i (P1 w1 d p i e),[],(List.append_nil μ).symm⟩
theorem B4 (r:Rl Pr μ w a σ ax s) (d:Option Nat) {tv:TV} {v:Value} (h:RV s.get μ (Zo w Pr) tv v):A4U Pr μ w ax s d tv a σ ⟨v,[],s.next⟩:=
 L6 r (fun p i e=>⟨p,e⟩) d (.inl h)
end
theorem A4V {s:Nat} {chs:List (List TV)} (h:K5 s chs=true) {j:Nat} {ch:List TV} (e:chs[j]? =some ch):ch.length=s:=by
 have:=List.all_eq_true.1 h ch (List.mem_of_getElem? e);simp_all
theorem A2S {s:Nat}:∀{chs:List (List TV)},K5 s chs=true->chs.flatten.length=chs.length*s
 |[],_=>by simp
 |c::chs,h=>by
  simp_all [K5,D8,A2S]<;>grind
theorem A42 {s:Nat}:∀{chs:List (List TV)},K5 s chs=true->∀{j:Nat} {ch:List TV},chs[j]? =some ch->(chs.flatten.drop (j*s)).take s=ch
 |[],_,j,ch,e=>by simp at e
 |c::chs,h,j,ch,e=>by
  simp only [K5,List.all_cons,Bool.and_eq_true] at h;rw [D8] at h;have h1:=of_decide_eq_true h.1;cases j with
  |zero=>
   grind
  |succ j=>
   rw [List.flatten_cons,Nat.succ_mul,Nat.add_comm,<-h1,<-List.drop_drop,List.drop_left,h1];exact A42 h.2 (by simpa using e)
def N6 (md b:Nat) (d:Option Nat) (op:XOp):Prop:=
 ∀{Pr:Nat->Prop} {μ:List Nat} {w:J3} {a:TAct} {σ:Sto} {ax:Xe.Act} {s:AS} {v:TV} {a':TAct} {σ':Sto},Z5 md b a σ op=some (v,a',σ')->Rl Pr μ w a σ ax s->(∀i,Pr i->i<s.next)->
  ∃p,B0 s.get s.next ax.ev op=some p/\A4U Pr μ w ax s d v a' σ' p
section
variable {Pr:Nat->Prop} {μ μ':List Nat} {w w':J3} {a a':TAct} {σ σ':Sto} {ax ax':Xe.Act} {s s':AS}
theorem Rl.at (r:Rl Pr μ w a σ ax s) {x:Operand} (h:D1 (a.ev x)=false):RV s.get μ (Zo w Pr) (a.at x) (ax.ev x)\/(A41 (a.at x)=true/\AL μ w a σ ax s.get (a.at x) (ax.ev x)):=by
 by_cases hp:pl (a.ev x)=true
 ·left;have:a.at x=a.ev x:=by
   grind [TAct.at,pl]
  rw [this];exact r.plain hp
 ·have hx:∃t,x=.tmp t:=by
   cases x with
   |tmp t=>exact ⟨t,rfl⟩
   |const v=>exact absurd (RV.ofV (fun _=>none) [] (fun _=>True) v).pl hp
   |global g=>exact absurd rfl hp
   |func f=>exact absurd rfl hp
  obtain ⟨t,rfl⟩:=hx;have ha:=r.al t;have ht:=r.tm t;unfold TAct.at
  revert h hp ha ht
  generalize hv:a.ev (.tmp t)=v;intro h hp ha ht;cases v<;>first|(simp [pl] at hp;done)|skip
  ·exact .inr ⟨rfl,ha⟩
  ·exact .inr ⟨rfl,ha⟩
  ·rename_i ser cs e;right;simp only
   revert ht
   generalize hy:ax.ev (.tmp t)=y;intro ht;cases ht with
   |plain k _ _=>exact absurd rfl (k.notown.2.2.2 _ _ _)
   |own _ _ k=>cases k
   |al k _ _=>cases k
   |bx k1 k2 k3 k4=>(repeat constructor)<;>grind
  ·exact .inr ⟨rfl,ha⟩
  ·rename_i m c;cases m<;>first|(simp [pl] at hp;done)|cases h
theorem A0Y (r:Rl Pr μ w a σ ax s) (d:Option Nat) {tv:TV} {v:Value} (h:A41 tv=true) (h2:AL μ w a σ ax s.get tv v):A4U Pr μ w ax s d tv a σ ⟨v,[],s.next⟩:=
 L6 r (fun p i e=>⟨p,e⟩) d (.inr ⟨h,h2⟩)
end
theorem C2M (md b:Nat) (d:Option Nat) (x:Operand):N6 md b d (.keep x):=by
 intro Pr μ w a σ ax s v a' σ' h r hP;simp only [Z5] at h;split at h
 ·rename_i st hx;cases h;have:=r.plainOf hx rfl
  revert this
  simp only [B0];generalize ax.ev x=y;intro h;cases h;exact ⟨_,rfl,B4 r d (.str _)⟩
 ·cases h
theorem C2N (md b:Nat) (d:Option Nat) (c x y:Operand):N6 md b d (.pick c x y):=by
 intro Pr μ w a σ ax s v a' σ' h r hP;simp only [Z5] at h;simp only [B0];split at h
 ·rename_i hc;have hc':=r.plainOf hc rfl
  revert hc'
  generalize ax.ev c=z;intro hc';cases hc';split at h
  ·rename_i ho;cases h;exact ⟨_,rfl,L6 r (fun p i e=>⟨p,e⟩) d (r.at ho)⟩
  ·cases h
 ·rename_i hc;have hc':=r.plainOf hc rfl
  revert hc'
  generalize ax.ev c=z;intro hc';cases hc';split at h
  ·rename_i ho;cases h;exact ⟨_,rfl,L6 r (fun p i e=>⟨p,e⟩) d (r.at ho)⟩
  ·cases h
 ·cases h
theorem B2v {g:Hp} {μ:List Nat} {Z:Nat->Prop} {op:BinOp} {k:IntKind} {x y:Int} {v:TV} (h:B8f op k x y=some v):∃v',B6b op k x y=some v'/\RV g μ Z v v':=by
 cases op<;>simp only [B8f] at h<;>simp only [B6b]<;>first|(cases h;done)|(cases h;exact ⟨_,rfl,.int _ _⟩)|(cases h;exact ⟨_,rfl,.bool _⟩)|skip
 all_goals
  split at h
  ·cases h
  ·rename_i hb;cases h;rw [if_neg hb];exact ⟨_,rfl,.int _ _⟩
theorem B8o {g:Hp} {μ:List Nat} {Z:Nat->Prop} {op:BinOp} {x y:ByteArray} {v:TV} (h:C2K op x y=some v):∃v',B6c op x y=some v'/\RV g μ Z v v':=by
 cases op<;>simp only [C2K] at h<;>simp only [B6c]<;>first|(cases h;done)|(cases h;exact ⟨_,rfl,.bool _⟩)|skip
 split at h
 ·rename_i hb;cases h;rw [if_pos hb];exact ⟨_,rfl,.str _⟩
 ·cases h
theorem B8p (op:BinOp) (x y:ByteArray):A6S op (.string x) (.string y)=B6c op x y:=by cases op<;>rfl
theorem B8q {g:Hp} {μ:List Nat} {Z:Nat->Prop} {op:BinOp} {x y v:TV} {x' y':Value} (hx:pl x=true->RV g μ Z x x') (hy:pl y=true->RV g μ Z y y') (h:A3v op x y=some v):∃v',A6S op x' y'=some v'/\RV g μ Z v v':=by
 unfold A3v at h;split at h
 ·have h1:=hx rfl;have h2:=hy rfl;cases h1;cases h2;split at h
  ·cases h
  ·rename_i hb;cases h;exact ⟨_,by simp only [A6S,hb],.int _ _⟩
 ·have h1:=hx rfl;have h2:=hy rfl;cases h1;cases h2;split at h
  ·cases h
  ·rename_i hb;cases h;exact ⟨_,by simp only [A6S,hb],.int _ _⟩
 ·rename_i op' k p k' q hn1 hn2;have h1:=hx rfl;have h2:=hy rfl;cases h1;cases h2;split at h
  ·simp_all [B2v,A6S,B8f]
  ·cases h
 ·have h1:=hx rfl;have h2:=hy rfl;cases h1;cases h2;simp_all [B8o,B8p]
 ·cases h
theorem C7W (md b:Nat) (d:Option Nat) (op:BinOp) (x y:Operand):N6 md b d (.bin op x y):=by
 intro Pr μ w a σ ax s v a' σ' h r hP;simp only [Z5,A4R] at h;split at h
 ·rename_i v0 hv;cases h;obtain ⟨v',h3,h4⟩:=B8q (fun h=>r.plain h) (fun h=>r.plain h) hv;simp_all [B0,A3z,B4]
 ·cases h
theorem D2k (md b:Nat) (d:Option Nat) (op:UnOp) (x:Operand):N6 md b d (.un op x):=by
 intro Pr μ w a σ ax s v a' σ' h r hP;simp only [Z5,A4R] at h;split at h
 ·rename_i v0 hv;cases h;unfold tun at hv;split at hv
  ·rename_i hx;have h1:=r.plainOf hx rfl;cases hv;simp only [B0]
   revert h1;generalize ax.ev x=y;intro h1;cases h1
   exact ⟨_,rfl,B4 r d (.int _ _)⟩
  ·rename_i hx;have h1:=r.plainOf hx rfl;simp only [B0]
   revert h1;generalize ax.ev x=y;intro h1;cases h1
   obtain ⟨v',h3,h4⟩:=B2v (g:=s.get) (μ:=μ) (Z:=Zo w Pr) hv;simp_all [xun,A3z,B4]
  ·rename_i hx;have h1:=r.plainOf hx rfl;cases hv;simp only [B0]
   revert h1;generalize ax.ev x=y;intro h1;cases h1
   exact ⟨_,rfl,B4 r d (.bool _)⟩
  ·cases hv
 ·cases h
theorem C0F (md b:Nat) (d:Option Nat) (k:IntKind) (x:Operand):N6 md b d (.toInt k x):=by
 intro Pr μ w a σ ax s v a' σ' h r hP;simp only [Z5] at h;split at h
 ·rename_i hx;have h1:=r.plainOf hx rfl;cases h;simp only [B0]
  revert h1;generalize ax.ev x=y;intro h1;cases h1
  exact ⟨_,rfl,B4 r d (.int _ _)⟩
 ·cases h
theorem B48 (md b:Nat) (d:Option Nat) (x i:Operand):N6 md b d (.indexStr x i):=by
 intro Pr μ w a σ ax s v a' σ' h r hP;simp only [Z5] at h;split at h
 ·rename_i hx hi;have h1:=r.plainOf hx rfl;have h2:=r.plainOf hi rfl;split at h
  ·rename_i bb hb;cases h;simp only [B0]
   revert h1 h2;generalize ax.ev x=y;generalize ax.ev i=z;intro h1 h2;cases h1;cases h2
   simp only [hb];exact ⟨_,rfl,B4 r d (.int _ _)⟩
  ·cases h
 ·cases h
theorem B8r (md b:Nat) (d:Option Nat) (x:Operand):N6 md b d (.lenStr x):=by
 intro Pr μ w a σ ax s v a' σ' h r hP;simp only [Z5] at h;split at h
 ·rename_i hx;have h1:=r.plainOf hx rfl;cases h;simp only [B0]
  revert h1;generalize ax.ev x=y;intro h1;cases h1
  exact ⟨_,rfl,B4 r d (.int _ _)⟩
 ·cases h
theorem B8s (md b:Nat) (d:Option Nat) (n:Nat):N6 md b d (.lenArr n):=by
 intro Pr μ w a σ ax s v a' σ' h r hP;simp only [Z5] at h;cases h;exact ⟨_,rfl,B4 r d (.int _ _)⟩
theorem B6C (md b:Nat) (d:Option Nat) (x:Operand) (i:Nat):N6 md b d (.extract x i):=by
 intro Pr μ w a σ ax s v a' σ' h r hP;simp only [Z5,A4R] at h;split at h
 ·rename_i vs hx;have h1:=r.plainOf hx rfl;split at h
  ·rename_i v0 hv;cases h;simp only [B0]
   revert h1;generalize ax.ev x=y;intro h1;cases h1
   rename_i h1;obtain ⟨v',h3,h4⟩:=h1.get hv;simp_all [B4]
  ·cases h
 ·cases h
theorem B8t (md b:Nat) (d:Option Nat) (off:Nat) (x:Operand):N6 md b d (.field1 off x):=by
 intro Pr μ w a σ ax s v a' σ' h r hP;simp only [Z5,A4R] at h;split at h
 ·rename_i vs hx;have h1:=r.plainOf hx rfl;split at h
  ·rename_i v0 hv;cases h;simp only [B0]
   revert h1;generalize ax.ev x=y;intro h1;cases h1
   rename_i h1;obtain ⟨v',h3,h4⟩:=h1.get hv;simp_all [B4]
  ·cases h
 ·cases h
theorem B8u (md b:Nat) (d:Option Nat) (off n:Nat) (x:Operand):N6 md b d (.fieldN off n x):=by
 intro Pr μ w a σ ax s v a' σ' h r hP;simp only [Z5] at h;split at h
 ·rename_i vs hx;have h1:=r.plainOf hx rfl;cases h;simp only [B0]
  revert h1;generalize ax.ev x=y;intro h1;cases h1
  rename_i h1;exact ⟨_,rfl,B4 r d (.agg ((h1.drop off).take n))⟩
 ·cases h
theorem B8v (md b:Nat) (d:Option Nat) (len:Nat) (x i:Operand):N6 md b d (.index1 len x i):=by
 intro Pr μ w a σ ax s v a' σ' h r hP;simp only [Z5,A4R] at h;split at h
 ·rename_i vs j hx hi;have h1:=r.plainOf hx rfl;have h2:=r.plainOf hi rfl;split at h
  ·rename_i hj;split at h
   ·rename_i v0 hv;cases h;simp only [B0]
    revert h1 h2;generalize ax.ev x=y;generalize ax.ev i=z;intro h1 h2;cases h1;cases h2
    rename_i h1;obtain ⟨v',h3,h4⟩:=h1.get hv;simp only [hj,h3];grind [B4]
   ·cases h
  ·cases h
 ·cases h
theorem B8w (md b:Nat) (d:Option Nat) (len size:Nat) (x i:Operand):N6 md b d (.indexN len size x i):=by
 intro Pr μ w a σ ax s v a' σ' h r hP;simp only [Z5] at h;split at h
 ·rename_i vs j hx hi;have h1:=r.plainOf hx rfl;have h2:=r.plainOf hi rfl;split at h
  ·rename_i hj;cases h;simp only [B0]
   revert h1 h2;generalize ax.ev x=y;generalize ax.ev i=z;intro h1 h2;cases h1;cases h2
   rename_i h1;simp only [hj];exact ⟨_,rfl,B4 r d (.agg ((h1.drop _).take _))⟩
  ·cases h
 ·cases h
theorem B6D (md b:Nat) (d:Option Nat) (t:TypeId) (z:Value) (x:Operand) (ok:Bool):N6 md b d (.assertT t z x ok):=by
 intro Pr μ w a σ ax s v a' σ' h r hP;simp only [Z5] at h;split at h
 ·rename_i u v0 hx;have h1:=r.plainOf hx rfl;simp only [B0]
  revert h1;generalize ax.ev x=y;intro h1;cases h1
  rename_i h1;split at h
  ·rename_i hb;cases h;simp only [hb];refine ⟨_,rfl,B4 r d ?_⟩;cases ok
   ·exact h1
   ·exact .tuple (.cons h1 (.cons (.bool _) .nil))
  ·rename_i hb;simp only [hb];split at h
   ·cases h;exact ⟨_,rfl,B4 r d (.tuple (.cons (RV.ofV _ _ _ _) (.cons (.bool _) .nil)))⟩
   ·cases h
 ·rename_i hx;have h1:=r.plainOf hx rfl;simp only [B0]
  revert h1;generalize ax.ev x=y;intro h1;cases h1
  split at h
  ·cases h;exact ⟨_,rfl,B4 r d (.tuple (.cons (RV.ofV _ _ _ _) (.cons (.bool _) .nil)))⟩
  ·cases h
 ·cases h
def ORV (g:Hp) (μ:List Nat) (Z:Nat->Prop):Option TV->Option Value->Prop
 |none,none=>True
 |some x,some y=>pl x=true->RV g μ Z x y
 |_,_=>False
theorem A7D {g:Hp} {μ:List Nat} {Z:Nat->Prop} {x:TV} {y:Value} (h:pl x=true->RV g μ Z x y) {n i:Nat} (e:A2g x n=some i):bound y n=some i:=by
 unfold A2g at e;split at e
 ·have h1:=h rfl;cases h1;grind [bound]
 ·cases e
def C2O (y:Option Value) (n dflt:Nat):Option Nat:=
 match y with
 |some v=>bound v n
 |none=>some dflt
def C7X (hi mx:Option Value) (m len:Nat):Option Nat:=
 match hi with
 |some v=>bound v m
 |none=>match mx with
  |none=>some len
  |some _=>none
def C7Y (len cap:Nat) (lo hi mx:Option Value):Option (Nat×Nat×Nat):=
 match C2O mx cap cap with
 |none=>none
 |some m=>match C7X hi mx m len with
  |none=>none
  |some h=>match C2O lo h 0 with
   |none=>none
   |some l=>some (l,h,m)
theorem B6E (len cap:Nat) (lo hi mx:Option Value):bounds len cap lo hi mx=C7Y len cap lo hi mx:=by
 cases mx<;>cases hi<;>cases lo<;>rfl
theorem B8x {g:Hp} {μ:List Nat} {Z:Nat->Prop} {x:Option TV} {y:Option Value} (h:ORV g μ Z x y) {n dflt i:Nat} (e:A7y x n dflt=some i):C2O y n dflt=some i:=by
 cases x<;>cases y<;>simp only [ORV,A7y] at h e
 ·exact e
 ·exact A7D h e
theorem C0G {g:Hp} {μ:List Nat} {Z:Nat->Prop} {x m:Option TV} {y m':Option Value} (h:ORV g μ Z x y) (hm:ORV g μ Z m m') {n len i:Nat} (e:hiB x m n len=some i):C7X y m' n len=some i:=by
 cases x<;>cases y<;>simp only [ORV,hiB] at h e
 ·cases m<;>cases m'<;>simp only [ORV] at hm e
  ·exact e
  ·cases e
 ·exact A7D h e
theorem A0l {g:Hp} {μ:List Nat} {Z:Nat->Prop} {lo hi mx:Option TV} {lo' hi' mx':Option Value} (h1:ORV g μ Z lo lo') (h2:ORV g μ Z hi hi') (h3:ORV g μ Z mx mx') {len cap l h m:Nat} (e:P7 len cap lo hi mx=some (l,h,m)):bounds len cap lo' hi' mx'=some (l,h,m):=by
 unfold P7 at e
 rw [B6E]
 unfold C7Y
 cases e1 : A7y mx cap cap with
 | none => rw [e1] at e; cases e
 | some m0 =>
  rw [e1] at e
  simp only at e
  cases e2 : hiB hi mx m0 len with
  | none => rw [e2] at e; cases e
  | some h0 =>
   rw [e2] at e
   simp only at e
   cases e3 : A7y lo h0 0 with
   | none => rw [e3] at e; cases e
   | some l0 =>
    rw [e3] at e
    cases e
    rw [B8x h3 e1]
    simp only
    rw [C0G h2 h3 e2]
    simp only
    rw [B8x h1 e3]
theorem ORV.map {Pr:Nat->Prop} {μ:List Nat} {w:J3} {a:TAct} {σ:Sto} {ax:Xe.Act} {s:AS} (r:Rl Pr μ w a σ ax s):∀o:Option Operand,ORV s.get μ (Zo w Pr) (o.map a.ev) (o.map ax.ev)
 |none=>trivial
 |some x=>fun h=>r.plain h
theorem B49 (md b:Nat) (d:Option Nat) (x:Operand) (lo hi:Option Operand):N6 md b d (.sliceStr x lo hi):=by
 intro Pr μ w a σ ax s v a' σ' h r hP;simp only [Z5] at h;split at h
 ·rename_i st hx;have h1:=r.plainOf hx rfl;split at h
  ·rename_i l h' m hb;cases h;have hb':=A0l (mx:=none) (mx':=none) (ORV.map r lo) (ORV.map r hi) trivial hb;simp only [B0]
   revert h1;generalize ax.ev x=y;intro h1;cases h1
   simp only [hb'];exact ⟨_,rfl,B4 r d (.str _)⟩
  ·cases h
 ·cases h
theorem B2w {g:Hp} {μ:List Nat} {Z:Nat->Prop}:∀{l:List TV} {l':List Value},l.length=l'.length->(∀(i:Nat) (x:TV) (y:Value),l[i]? =some x->l'[i]? =some y->pl x=true->RV g μ Z x y)->∀{r:List (IntKind×Int)},A0t l=some r->U1 l'=some r
 |[],[],_,_,r,e=>by simp only [A0t] at e;cases e;rfl
 |x::l,y::l',hl,h,r,e=>by
  unfold A0t at e;split at e
  ·rename_i heq;cases heq
  ·rename_i k n rest heq;cases heq;split at e
   ·rename_i rr he;cases e;have h1:=h 0 _ _ rfl rfl rfl;cases h1;simp only [U1];rw [B2w (by simpa using hl) (fun i x y hx hy=>h (i+1) x y (by simpa using hx) (by simpa using hy)) he]
   ·cases e
  ·cases e
 |[],_::_,hl,_,_,_=>by simp at hl
 |_::_,[],hl,_,_,_=>by simp at hl
theorem B5t {Pr:Nat->Prop} {μ:List Nat} {w:J3} {a:TAct} {σ:Sto} {ax:Xe.Act} {s:AS} (r:Rl Pr μ w a σ ax s) {xs:List Operand} {l:List (IntKind×Int)} (h:A0t (xs.map a.ev)=some l):U1 (xs.map ax.ev)=some l:=by
 refine B2w (g:=s.get) (μ:=μ) (Z:=Zo w Pr) (by simp) (fun i x y hx hy hp=> ?_) h;rw [List.getElem?_map] at hx hy;cases hq:xs[i]? with
 |none=>rw [hq] at hx;cases hx
 |some o=>rw [hq] at hx hy;cases hx;cases hy;exact r.plain hp
theorem C2P (md b:Nat) (d:Option Nat) (xs:List Operand):N6 md b d (.maxI xs):=by
 intro Pr μ w a σ ax s v a' σ' h r hP;simp only [Z5] at h;split at h
 ·rename_i k n l hx;cases h;refine ⟨_,by simp only [B0,B5t r hx];rfl,B4 r d (.int _ _)⟩
 ·cases h
theorem C2Q (md b:Nat) (d:Option Nat) (xs:List Operand):N6 md b d (.minI xs):=by
 intro Pr μ w a σ ax s v a' σ' h r hP;simp only [Z5] at h;split at h
 ·rename_i k n l hx;cases h;refine ⟨_,by simp only [B0,B5t r hx];rfl,B4 r d (.int _ _)⟩
 ·cases h
theorem H7 {g:Hp} {i o n ver:Nat} {vs:List Value} {e:TypeId} {ro:Bool} (hg:g i=some ⟨ver,.cells vs e ro⟩) (h:o+n<=vs.length):B8 g ⟨i,o,none⟩ n=some ((vs.drop o).take n):=by
 grind [B8,D4]
theorem O7 {g:Hp} {i o ver:Nat} {vs xs:List Value} {e:TypeId} (hg:g i=some ⟨ver,.cells vs e false⟩) (h:o+xs.length<=vs.length):F8 g ⟨i,o,none⟩ xs=some [(i,some ⟨ver+1,.cells (setList vs o xs) e false⟩)]:=by
 grind [F8,D4]
section
variable {Pr:Nat->Prop} {μ μ':List Nat} {w w':J3} {a a':TAct} {σ σ':Sto} {ax ax':Xe.Act} {s s':AS}
theorem B8y (a:TAct) (x:Operand):D1 (a.ev x)=D1 (a.at x):=by
 unfold TAct.at;generalize a.ev x=v;cases v<;>try rfl
 cases x<;>rfl
theorem Rl.atPlain (r:Rl Pr μ w a σ ax s) {x:Operand} {tv:TV} (h:a.at x=tv) (hp:pl tv=true):RV s.get μ (Zo w Pr) tv (ax.ev x):=by
 have ho:D1 (a.ev x)=false:=by
  rw [B8y,h];cases tv<;>first|rfl|skip
  rename_i m c;cases m<;>first|rfl|(simp [pl] at hp)
 rcases r.at ho with k|⟨k,_⟩
 ·rwa [h] at k
 simp_all [pl,A41]<;>grind
theorem Rl.atAl (r:Rl Pr μ w a σ ax s) {x:Operand} {tv:TV} (h:a.at x=tv) (ha:A41 tv=true):AL μ w a σ ax s.get tv (ax.ev x):=by
 have ho:D1 (a.ev x)=false:=by
  rw [B8y,h];cases tv<;>first|rfl|(simp [A41] at ha)
 rcases r.at ho with k|⟨_,k⟩
 ·have:=k.notown.2.2.1;rw [h,ha] at this;cases this
 ·rwa [h] at k
theorem Rl.objOf (r:Rl Pr μ w a σ ax s) {k ver:Nat} {cs:List TV} {e:TypeId} (h:σ.at k=some ⟨ver,.cells cs e⟩):∃i vs,μ[k]? =some i/\s.get i=some ⟨ver,.cells vs e false⟩/\RCs s.get μ (Zo w Pr) (fun o=>w (.cell k o)) cs vs:=by
 obtain ⟨i,b,h1,h2,h3⟩:=r.obj k _ h;simp_all [RB]<;>grind
theorem Rl.mapOf (r:Rl Pr μ w a σ ax s) {k ver:Nat} {es:List (TV×TV×Nat)} {ck:Nat} (h:σ.at k=some ⟨ver,.map es ck⟩):∃i es',μ[k]? =some i/\s.get i=some ⟨ver,.map es' ck⟩/\es'.length=es.length/\(∀(j:Nat) (x:TV×TV×Nat) (y:MapEntry),es[j]? =some x->es'[j]? =some y->RV s.get μ (Zo w Pr) x.1 y.key/\RV s.get μ (Zo w Pr) x.2.1 y.val/\y.born=x.2.2)/\∀o,w (.cell k o)=none:=by
 obtain ⟨i,b,h1,h2,h3⟩:=r.obj k _ h;simp_all [RB]<;>grind
def Pl.pc:Pl->Pc
 |.tmp t=>.tmp t
 |.tcell t o _=>.tcell t o
 |.cell k o=>.cell k o
theorem T7 {v:TV} {chs:List (List TV)} (h:A1G v=some chs):D1 v=true/\∃e s,v=.sl (.own e s) chs:=by
 unfold A1G at h;split at h
 ·cases h;exact ⟨rfl,_,_,rfl⟩
 ·cases h
theorem Rl.place (r:Rl Pr μ w a σ ax s) {p:Pl} {chs:List (List TV)} (h:K6 a σ p=some chs):∃i e sz v,w p.pc=some i/\RO s.get μ (Zo w Pr) i (.sl (.own e sz) chs) v/\A3w μ w ax s.get p v:=by
 cases p with
 |tmp t=>
  obtain ⟨h1,e,sz,h2⟩:=T7 h;obtain ⟨i,h3,h4⟩:=r.ownOf h1;rw [h2] at h4;exact ⟨i,e,sz,_,h3,h4,rfl⟩
 |tcell t o ser=>
  simp only [K6] at h;split at h
  ·rename_i cs e hb;split at h
   ·rename_i v hv;obtain ⟨h1,e',sz,rfl⟩:=T7 h;obtain ⟨hbx,i,ver,vs,k1,k2,k3,k4⟩:=r.boxOf hb;obtain ⟨v',q1,q2⟩:=k4.at hv;obtain ⟨j,q3,q4⟩:=q2.ownOf rfl;exact ⟨j,e',sz,v',q3,q4,i,ver,vs,e,k1,k3,q1⟩
   ·cases h
  ·cases h
 |cell k o=>
  simp only [K6] at h;split at h
  ·rename_i ver cs e hb;split at h
   ·rename_i v hv;obtain ⟨h1,e',sz,rfl⟩:=T7 h;obtain ⟨i,vs,k1,k2,k3⟩:=r.objOf hb;obtain ⟨v',q1,q2⟩:=k3.at hv;obtain ⟨j,q3,q4⟩:=q2.ownOf rfl;exact ⟨j,e',sz,v',q3,q4,i,ver,vs,e,k1,k2,q1⟩
   ·cases h
  ·cases h
theorem A7E {g:Hp} {p:Pl} {v v':Value} (h:A3w μ w ax g p v) (h':A3w μ w ax g p v'):v=v':=by
 cases p with
 |tmp t=>exact Eq.trans h (Eq.symm h')
 |tcell t o ser=>
  obtain ⟨i,ver,vs,e,k1,k2,k3⟩:=h;obtain ⟨i',ver',vs',e',q1,q2,q3⟩:=h';grind
 |cell k o=>
  obtain ⟨i,ver,vs,e,k1,k2,k3⟩:=h;obtain ⟨i',ver',vs',e',q1,q2,q3⟩:=h';grind
theorem Rl.viaOf (r:Rl Pr μ w a σ ax s) {p:Pl} {c:Nat} {v:Value} (ha:AL μ w a σ ax s.get (.via p c) v) (hc:Nat.beq c a.clk=true) {chs:List (List TV)} (h:K6 a σ p=some chs):∃i e sz,w p.pc=some i/\RO s.get μ (Zo w Pr) i (.sl (.own e sz) chs) v:=by
 rw [D8] at hc;have hv:=ha.2 (of_decide_eq_true hc) chs h;obtain ⟨i,e,sz,v',h1,h2,h3⟩:=r.place h;grind [A7E]
theorem A7F {p:Pl} {c j:Nat} {ch:List TV} (h:A4Q a σ p c j=some ch):c=a.clk/\∃chs,K6 a σ p=some chs/\chs[j]? =some ch:=by
 grind [A4Q,D8]
theorem Rl.velOf (r:Rl Pr μ w a σ ax s) {p:Pl} {c j o:Nat} {v:Value} (ha:AL μ w a σ ax s.get (.vel p c j o) v) {ch:List TV} (h:A4Q a σ p c j=some ch):
  ∃i ver vs e d,v=.pointer (some ⟨i,d+o,none⟩)/\w p.pc=some i/\s.get i=some ⟨ver,.cells vs e false⟩/\d+ch.length<=vs.length/\RVs s.get μ (Zo w Pr) ch ((vs.drop d).take ch.length):=by
 obtain ⟨hc,chs,hp,hj⟩:=A7F h;obtain ⟨i,b,n,cc,h1,h2⟩:=ha.2 hc chs ch hp hj;obtain ⟨i',e,sz,v',k1,k2,k3⟩:=r.place hp;rw [A7E k3 h1] at k2;cases k2 with
 |mk q1 q2 q3 q4 q5 q6 q7=>
  have hlen:=A4V q2 hj;have hjl:=(List.getElem?_eq_some_iff.1 hj).1;have hmul:j*sz+sz<=n*sz:=by rw [<-Nat.succ_mul];exact Nat.mul_le_mul_right sz (by omega)
  refine ⟨_,_,_,_,b+j*sz,?_,k1,q1,by omega,?_⟩
  ·rw [h2,hlen]
  ·have hd:=(q7.drop (j*sz)).take sz;rw [A42 q2 hj] at hd;rw [List.drop_take,List.take_take,List.drop_drop,Nat.min_eq_left (by omega)] at hd;rw [hlen];exact hd
theorem C2R (md b:Nat) (d:Option Nat) (off:Nat) (x:Operand):N6 md b d (.addr off x):=by
 intro Pr μ w a σ ax s v a' σ' h r hP;simp only [Z5] at h;simp only [B0];split at h
 ·rename_i k o hx;cases h;have h1:=r.atPlain hx rfl
  revert h1;generalize ax.ev x=y;intro h1;cases h1
  rename_i hm;exact ⟨_,rfl,B4 r d (by rw [E0];exact .ptr hm)⟩
 ·rename_i t o ser hx;split at h
  ·rename_i bx hb;cases h;have h1:=r.atAl hx rfl;obtain ⟨i,ver,vs,q1,q2,q3,q4⟩:=r.vptOf (e:=bx.2) (cs:=bx.1) h1 hb;rw [q1];refine ⟨_,rfl,A0Y r d rfl ⟨h1.1,fun cs e hbx=>⟨i,q2,by rw [E0]⟩⟩⟩
  ·cases h
 ·rename_i ch o hx;cases h;have h1:=r.atPlain hx rfl
  revert h1;generalize ax.ev x=y;intro h1;cases h1
  rename_i k1 k2 k3 k4;exact ⟨_,rfl,B4 r d (by rw [E0,Nat.add_assoc];exact .elt k1 k2 k3 k4)⟩
 ·rename_i p c j o hx;split at h
  ·rename_i ch hch;cases h;have h1:=r.atAl hx rfl;obtain ⟨hc,chs,hp,hj⟩:=A7F hch;obtain ⟨i,bb,n,cc,q1,q2⟩:=h1.2 hc chs ch hp hj;rw [q2];refine ⟨_,rfl,A0Y r d rfl ⟨h1.1,fun _ chs' ch' hp' hj'=> ?_⟩⟩;rw [hp] at hp';cases hp';rw [hj] at hj';cases hj';exact ⟨i,bb,n,cc,q1,by rw [E0,Nat.add_assoc]⟩
  ·cases h
 ·cases h
theorem A7G (md b:Nat) (d:Option Nat) (len size:Nat) (x i:Operand):N6 md b d (.indexArrAddr len size x i):=by
 intro Pr μ w a σ ax s v a' σ' h r hP;simp only [Z5] at h;simp only [B0];split at h
 ·rename_i k o kk j hx hi;have h2:=r.plainOf hi rfl
  revert h2;generalize ax.ev i=z;intro h2;cases h2
  split at h
  ·rename_i hj;cases h;have h1:=r.atPlain hx rfl
   revert h1;generalize ax.ev x=y;intro h1;cases h1
   rename_i hm;simp only [hj];exact ⟨_,rfl,B4 r d (by rw [E0];exact .ptr hm)⟩
  ·cases h
 ·rename_i t o ser kk j hx hi;have h2:=r.plainOf hi rfl
  revert h2;generalize ax.ev i=z;intro h2;cases h2
  split at h
  ·rename_i bx hj hb;cases h;have h1:=r.atAl hx rfl;obtain ⟨i,ver,vs,q1,q2,q3,q4⟩:=r.vptOf (e:=bx.2) (cs:=bx.1) h1 hb;rw [q1];simp only [hj];refine ⟨_,rfl,A0Y r d rfl ⟨h1.1,fun cs e hbx=>⟨i,q2,by rw [E0]⟩⟩⟩
  ·cases h
 ·rename_i ch o kk j hx hi;have h2:=r.plainOf hi rfl
  revert h2;generalize ax.ev i=z;intro h2;cases h2
  split at h
  ·rename_i hj;cases h;have h1:=r.atPlain hx rfl
   revert h1;generalize ax.ev x=y;intro h1;cases h1
   rename_i k1 k2 k3 k4;simp only [hj];exact ⟨_,rfl,B4 r d (by rw [E0,Nat.add_assoc];exact .elt k1 k2 k3 k4)⟩
  ·cases h
 ·cases h
theorem B4a (md b:Nat) (d:Option Nat) (x:Operand):N6 md b d (.nilCheck x):=by
 intro Pr μ w a σ ax s v a' σ' h r hP;simp only [Z5] at h;simp only [B0];split at h
 ·rename_i t o ser hx;split at h
  ·rename_i bx hb;cases h;have h1:=r.atAl hx rfl;obtain ⟨i,ver,vs,q1,q2,q3,q4⟩:=r.vptOf (e:=bx.2) (cs:=bx.1) h1 hb;have h1':=h1;rw [q1] at h1' ⊢;exact ⟨_,rfl,A0Y r d rfl h1'⟩
  ·cases h
 ·rename_i k o hx;cases h;have h1:=r.atPlain hx rfl;have h1':=h1
  revert h1 h1';generalize ax.ev x=y;intro h1 h1';cases h1
  grind [B4]
 ·rename_i ch o hx;cases h;have h1:=r.atPlain hx rfl;have h1':=h1
  revert h1 h1';generalize ax.ev x=y;intro h1 h1';cases h1
  grind [B4]
 ·rename_i f p q hx;cases h;have h1:=r.atPlain hx rfl;have h1':=h1
  revert h1 h1';generalize ax.ev x=y;intro h1 h1';cases h1
  grind [B4]
 ·cases h
theorem B4b (r:Rl Pr μ w a σ ax s) {k o i:Nat} (hk:μ[k]? =some i) (h:plainT σ k o=true):R0 s.get i o=true:=by
 unfold plainT at h;split at h
 ·rename_i ver vs e hb;obtain ⟨i',vs',h1,h2,h3⟩:=r.objOf hb;rw [hk] at h1;cases h1;simp only [R0,h2];rw [h3.len];exact h
 ·cases h
theorem C2S (r:Rl Pr μ w a σ ax s) {k k' i:Nat} (h:μ[k]? =some i) (h':μ[k']? =some i):k=k':=by
 have:=r.inj (.obj k) (.obj k') i ((r.wobj k).trans h) ((r.wobj k').trans h');cases this;rfl
mutual
theorem A4W (r:Rl Pr μ w a σ ax s):∀(k:EqK) {x y:TV} {x' y':Value} {b:Bool},(pl x=true->RV s.get μ (Zo w Pr) x x')->(pl y=true->RV s.get μ (Zo w Pr) y y')->teq σ k x y=some b->xeq s.get k x' y'=some b
 |.int,x,y,x',y',b,hx,hy,h=>by
  unfold teq at h;split at h<;>first|(cases h;done)|skip
  all_goals first|contradiction|skip
  have h1:=hx rfl;have h2:=hy rfl;cases h1;cases h2;grind [xeq]
 |.bool,x,y,x',y',b,hx,hy,h=>by
  unfold teq at h;split at h<;>first|(cases h;done)|skip
  all_goals first|contradiction|skip
  have h1:=hx rfl;have h2:=hy rfl;cases h1;cases h2;grind [xeq]
 |.str,x,y,x',y',b,hx,hy,h=>by
  unfold teq at h;split at h<;>first|(cases h;done)|skip
  all_goals first|contradiction|skip
  have h1:=hx rfl;have h2:=hy rfl;cases h1;cases h2;grind [xeq]
 |.ptr,x,y,x',y',b,hx,hy,h=>by
  unfold teq at h;split at h<;>first|(cases h;done)|skip
  all_goals first|contradiction|skip
  ·have h1:=hx rfl;have h2:=hy rfl;cases h1;cases h2;grind [xeq]
  ·have h1:=hx rfl;have h2:=hy rfl;cases h1;cases h2;grind [xeq]
  ·have h1:=hx rfl;have h2:=hy rfl;cases h1;cases h2;grind [xeq]
  ·have h1:=hx rfl;have h2:=hy rfl;cases h1;cases h2;grind [xeq,B4b,D8,C2S]
 |.ifaceNil,x,y,x',y',b,hx,hy,h=>by
  unfold teq at h;split at h<;>first|(cases h;done)|skip
  all_goals first|contradiction|skip
  all_goals
   have h1:=hx rfl;have h2:=hy rfl;cases h1;cases h2;cases h;simp only [xeq]
 |.sliceNil,x,y,x',y',b,hx,hy,h=>by
  unfold teq at h;split at h<;>first|(cases h;done)|skip
  all_goals first|contradiction|skip
  ·have h1:=hx rfl;have h2:=hy rfl;cases h1;cases h2;grind [xeq]
  ·have h1:=hx rfl;have h2:=hy rfl;cases h1;cases h2;grind [xeq]
  ·have h1:=hx rfl;have h2:=hy rfl;cases h1;cases h2;grind [xeq]
  ·have h1:=hx rfl;have h2:=hy rfl;cases h1;cases h2;grind [xeq]
 |.mapNil,x,y,x',y',b,hx,hy,h=>by
  unfold teq at h;split at h<;>first|(cases h;done)|skip
  all_goals first|contradiction|skip
  all_goals
   have h1:=hx rfl;have h2:=hy rfl;cases h1;cases h2;cases h;simp only [xeq];try rfl
 |.funcNil,x,y,x',y',b,hx,hy,h=>by
  unfold teq at h;split at h<;>first|(cases h;done)|skip
  all_goals first|contradiction|skip
  all_goals
   have h1:=hx rfl;have h2:=hy rfl;cases h1;cases h2;cases h;simp only [xeq]
 |.agg ps,x,y,x',y',b,hx,hy,h=>by
  unfold teq at h;split at h<;>first|(cases h;done)|skip
  all_goals first|contradiction|skip
  rename_i ps' xs ys heq;cases heq;have h1:=hx rfl;have h2:=hy rfl;cases h1 with
  |agg h1=>
   cases h2 with
   |agg h2=>
    simp only [xeq];exact B2x r ps h1 h2 h
theorem B2x (r:Rl Pr μ w a σ ax s):∀(ps:List (Nat×EqK)) {xs ys:List TV} {xs' ys':List Value} {b:Bool},RVs s.get μ (Zo w Pr) xs xs'->RVs s.get μ (Zo w Pr) ys ys'->B6v σ ps xs ys=some b->A6v s.get ps xs' ys'=some b
 |[],xs,ys,xs',ys',b,hx,hy,h=>by simp only [B6v] at h;cases h;simp only [A6v]
 |(i,k)::ps,xs,ys,xs',ys',b,hx,hy,h=>by
  simp only [B6v] at h;split at h
  ·rename_i x y e1 e2;obtain ⟨x',q1,q2⟩:=hx.get e1;obtain ⟨y',q3,q4⟩:=hy.get e2;simp only [A6v,q1,q3];split at h
   ·rename_i ht;rw [A4W r k (fun _=>q2) (fun _=>q4) ht];exact B2x r ps hx hy h
   ·rename_i ht;cases h;rw [A4W r k (fun _=>q2) (fun _=>q4) ht]
   ·cases h
  ·cases h
end
end
section
variable {Pr:Nat->Prop} {μ μ':List Nat} {w w':J3} {a a':TAct} {σ σ':Sto} {ax ax':Xe.Act} {s s':AS}
theorem D2l (md b:Nat) (d:Option Nat) (k:EqK) (neg:Bool) (x y:Operand):N6 md b d (.eq k neg x y):=by
 intro Pr μ w a σ ax s v a' σ' h r hP;simp only [Z5] at h;split at h
 ·rename_i q hq;cases h;have:=A4W r k (fun h=>r.plain h) (fun h=>r.plain h) hq;exact ⟨_,by simp only [B0,this],B4 r d (.bool _)⟩
 ·cases h
theorem Rl.putHand (r:Rl Pr μ w a σ ax s) (hf:A3O a) {i:Nat} (hi:w (.hand 0)=some i) {tv:TV} {v:Value} (h:RO s.get μ (Zo w Pr) i tv v) (d:Option Nat):
  ∃w',Rl Pr μ w' (a.put d tv) σ (ax.put d v) s/\∀p j,w' p=some j->∃q,w q=some j:=by
 cases d with
 |none=>exact ⟨w,r,fun p j e=>⟨p,e⟩⟩
 |some d=>
  refine ⟨_,r.putOwn hf d hi h,fun p j e=> ?_⟩;grind [G8,P1]
theorem A15 {t:Nat} (h:D1 (a.ev (.tmp t))=true):taken a (.tmp t)=⟨a.tm.set t .dead,a.df,a.clk+1⟩:=by simp only [taken,h]
theorem C2T (md b:Nat) (d:Option Nat) (x:Operand):N6 md b d (.move x):=by
 intro Pr μ w a σ ax s v a' σ' h r hP;simp only [Z5,B5r] at h;refine ⟨⟨ax.ev x,[],s.next⟩,rfl,?_⟩;cases ho:D1 (a.ev x) with
 |false=>rw [ho] at h;cases h;exact L6 r (fun p i e=>⟨p,e⟩) d (r.at ho)
 |true=>
  rw [ho] at h;simp only at h;obtain ⟨t,rfl⟩:=Q4 ho;simp only at h;split at h
  ·cases h;rw [A15 ho];obtain ⟨i,h1,h2,h3,h4⟩:=r.takeTmp ho;obtain ⟨w',k1,k2⟩:=h3.putHand h4 ((A1d w (by simp)).trans h1) h2 d;exact ⟨μ,w',k1,Nat.le_refl _,fun _ _ _=>rfl,fun p i e _=>by obtain ⟨q,e⟩:=k2 p i e;exact G8 e,[],(List.append_nil μ).symm⟩
  ·cases h;obtain ⟨w1,h1,h2⟩:=r.frz1 (.tmp t);refine L6 h1 (fun p i e=>⟨p,h2 p i e⟩) d (.inl ?_)
   have:=h1.plain (x:=.tmp t) (by
    rw [A14]
    revert ho;generalize a.ev (.tmp t)=z;intro ho
    cases z<;>first|(simp [D1] at ho;done)|skip
    rename_i m c;cases m<;>first|rfl|(simp [D1] at ho))
   rwa [A14] at this
  ·cases h;exact A0Y r d rfl ⟨Nat.le_refl _,fun _ chs hp=>rfl⟩
theorem RCs.re {g:Hp} {μ:List Nat} {Z Z':Nat->Prop} {ow ow':Nat->Option Nat} {cs:List TV} {vs:List Value} (r:RCs g μ Z ow cs vs) (mo:Mo g μ Z g μ Z') {o:Nat} {tv:TV} (ho:o<cs.length) (h1:∀j,j≠o->ow' j=ow j) (h2:∀v,vs[o]? =some v->RC g μ Z' (ow' o) tv v):RCs g μ Z' ow' (cs.set o tv) vs:=by
 refine ⟨by rw [List.length_set];exact r.len,fun j x v e1 e2=> ?_,fun j hj=> ?_⟩
 ·by_cases h:j=o
  ·grind
  ·rw [List.getElem?_set_ne (fun e=>h e.symm)] at e1;rw [h1 j h];exact (r.get j x v e1 e2).mono mo (fun _ _=>rfl)
 ·rw [List.length_set] at hj;rw [h1 j (by omega)];exact r.out j hj
theorem Mo.owned {g:Hp} {w w':J3} (h:∀p i,w' p=some i->∃q,w q=some i):Mo g μ (Zo w Pr) g μ (Zo w' Pr):=
 ⟨fun _ _ e=>e,fun i _ _ _ _ z hg=>⟨⟨fun p e=>by obtain ⟨q,k⟩:=h p i e;exact z.1 q k,z.2⟩,hg⟩⟩
theorem Rl.reCell (r:Rl Pr μ w a σ ax s) {k ver o:Nat} {cs:List TV} {e:TypeId} (h:σ.at k=some ⟨ver,.cells cs e⟩) (ho:o<cs.length) {w':J3} {tv:TV} (own:∀p i,w' p=some i->∃q,w q=some i) (inj:∀p q i,w' p=some i->w' q=some i->p=q)
  (h1:∀t,w' (.tmp t)=w (.tmp t)) (h2:∀t o,w' (.tcell t o)=w (.tcell t o)) (h3:∀k,w' (.obj k)=w (.obj k)) (hc:∀k' c,(k'≠k\/c≠o)->w' (.cell k' c)=w (.cell k' c))
  (new:∀i vs v,μ[k]? =some i->s.get i=some ⟨ver,.cells vs e false⟩->vs[o]? =some v->RC s.get μ (Zo w' Pr) (w' (.cell k o)) tv v):Rl Pr μ w' a.tick (σ.set k (some ⟨ver,.cells (cs.set o tv) e⟩)) ax s:=by
 obtain ⟨i,vs,k1,k2,k3⟩:=r.objOf h;have mo:=Mo.owned (g:=s.get) (μ:=μ) (Pr:=Pr) own;have hk:k<σ.length:=by rw [<-r.len];exact (List.getElem?_eq_some_iff.1 k1).1
 refine r.objStep mo (r.toRs.setO hk mo r.dm (Nat.le_refl _) inj own h3 (fun k' c hk'=>hc k' c (.inl hk')) (fun _ _ _ _=>rfl) ?_) h1 h2 (fun _ _ _=>rfl);refine ⟨i,_,k1,k2,rfl,rfl,?_⟩;exact k3.re mo ho (fun j hj=>hc k j (.inr hj)) (fun v hv=>new i vs v k1 k2 hv)
theorem Rl.reBox (r:Rl Pr μ w a σ ax s) {t ser o:Nat} {cs:List TV} {e:TypeId} (h:M6 a t ser=some (cs,e)) (ho:o<cs.length) {w':J3} {tv:TV} (own:∀p i,w' p=some i->∃q,w q=some i) (inj:∀p q i,w' p=some i->w' q=some i->p=q)
  (h1:∀t,w' (.tmp t)=w (.tmp t)) (h2:∀k o,w' (.cell k o)=w (.cell k o)) (h3:∀k,w' (.obj k)=w (.obj k)) (hc:∀t' c,(t'≠t\/c≠o)->w' (.tcell t' c)=w (.tcell t' c))
  (new:∀i ver vs v,w (.tmp t)=some i->s.get i=some ⟨ver,.cells vs e false⟩->vs[o]? =some v->RC s.get μ (Zo w' Pr) (w' (.tcell t o)) tv v):Rl Pr μ w' (W1 a t ser (cs.set o tv) e) σ ax s:=by
 obtain ⟨hbx,i,ver,vs,k1,k2,k3,k4⟩:=r.boxOf h;have mo:=Mo.owned (g:=s.get) (μ:=μ) (Pr:=Pr) own;refine r.boxStep hbx mo (r.toRs.setT mo r.dm (Nat.le_refl _) inj own h3 h2 (fun _ _ _=>rfl)) h1 (fun t' o' ht=>hc t' o' (.inl ht)) (fun _ _ _ _ _ _=>rfl) (fun i' hi'=> ?_);rw [k1] at hi';cases hi';exact ⟨ver,vs,k3,k4.re mo ho (fun j hj=>hc t j (.inr hj)) (fun v hv=>new i ver vs v k1 k3 hv)⟩
theorem B16 {w:J3} (inj:∀p q i,w p=some i->w q=some i->p=q) (p q:Pc):∀x y i,mv w p q x=some i->mv w p q y=some i->x=y:=by
 grind [A3e]
theorem A5w {w1:J3} {tv:TV} {v:Value} {i:Nat} (r:Rl Pr μ w1 a' σ' ax s) (hf:A3O a') (hi:w1 (.hand 0)=some i) (h:RO s.get μ (Zo w1 Pr) i tv v) (hw:∀p j,w1 p=some j->∃q,w q=some j) (d:Option Nat):A4U Pr μ w ax s d tv a' σ' ⟨v,[],s.next⟩:=by
 obtain ⟨w',k1,k2⟩:=r.putHand hf hi h d;exact ⟨μ,w',k1,Nat.le_refl _,fun _ _ _=>rfl,fun p i e _=>by obtain ⟨q,e⟩:=k2 p i e;exact hw q i e,[],(List.append_nil μ).symm⟩
theorem A1f (r:Rl Pr μ w a σ ax s):A3O a.tick:=r.fresh (Nat.lt_succ_self _) (fun t _=>rfl) rfl
theorem B6F (r:Rl Pr μ w a σ ax s) (t ser:Nat) (cs:List TV) (e:TypeId):A3O (W1 a t ser cs e):=by
 refine r.fresh (Nat.lt_succ_self _) (fun t' ht'=> ?_) rfl
 by_cases h:t=t'
 ·subst h;rw [show (W1 a t ser cs e).ev (.tmp t)=.bx ser cs e from O6 _ _ _ _ _] at ht';cases ht'
 ·exact U8 a _ _ _ h
theorem C0H (md b:Nat) (d:Option Nat) (x:Operand):N6 md b d (.load1 x):=by
 intro Pr μ w a σ ax s v a' σ' h r hP;simp only [Z5] at h;simp only [B0];cases hx:a.at x<;>rw [hx] at h<;>simp only [B0Z] at h<;>first|(cases h;done)|skip
 case ptr k o=>
  have h1:=r.atPlain hx rfl
  revert h1;generalize ax.ev x=y;intro h1;cases h1
  rename_i i0 hm;split at h
  ·rename_i ver cs e hob;obtain ⟨i,vs,k1,k2,k3⟩:=r.objOf hob;rw [hm] at k1;cases k1;split at h
   ·rename_i tv htv;obtain ⟨v',q1,q2⟩:=k3.at htv;have hlo:=A0s k2 q1;have hlt:=(List.getElem?_eq_some_iff.1 htv).1;simp only [hlo];refine ⟨_,rfl,?_⟩;split at h
    ·rename_i ho;cases h;exact B4 r d (q2.plainOf ho).2
    ·rename_i ho;obtain ⟨j,q3,q4⟩:=q2.ownOf ho;split at h
     ·cases h;have:=r.reCell (w':=mv w (.cell k o) (.hand 0)) (tv:=.dead) hob hlt (fun p i e=>G8 e) (B16 r.inj _ _) (fun t=>C5 w (by simp) (by simp)) (fun t o=>C5 w (by simp) (by simp)) (fun t=>C5 w (by simp) (by simp))
       (fun k' c hk=>C5 w (by simp;omega) (by simp)) (fun i vs v _ _ _=>by rw [B14];exact .dead v)
      exact A5w this (A1f r) ((A1d w (by simp)).trans q3) (q4.mono (Mo.mv _ _) rfl) (fun p j e=>G8 e) d
     ·cases h
      have hz:Zo (Z0 w k o 1 none) Pr j:=⟨fun p e=>by
       have:=r.inj _ _ _ (J1 w k o 1 p j e) q3;subst this
       simp [Z0,clr] at e,r.pr _ _ q3⟩
      have hfz:RV s.get μ (Zo (Z0 w k o 1 none) Pr) (frz tv) v':=RO.frz (q4.mono (Mo.sub (J1 w k o 1)) rfl) hz;have:=r.reCell (w':=Z0 w k o 1 none) (tv:=frz tv) hob hlt (fun p i e=>⟨p,J1 w k o 1 p i e⟩) (fun p q i e f=>r.inj p q i (J1 w k o 1 p i e) (J1 w k o 1 q i f)) (fun _=>rfl) (fun _ _=>rfl) (fun _=>rfl)
       (fun k' c hk=>by
        simp only [Z0];split
        ·rename_i h;subst h;have hc:c≠o:=by
          rcases hk with h|h
          · exact absurd rfl h
          · exact h
         unfold clr;split
         ·rfl
         ·rw [if_neg (by omega)]
        ·rfl) (fun i' vs' v2 e1 e2 e3=>by
        rw [hm] at e1;cases e1;rw [k2] at e2;cases e2;rw [q1] at e3;cases e3;have:Z0 w k o 1 none (.cell k o)=none:=by simp [Z0,clr]
        rw [this];exact hfz)
      grind [L6,J1]
     ·cases h;exact A0Y r d rfl ⟨Nat.le_refl _,fun _ chs hp=>⟨i0,ver,vs,e,hm,k2,q1⟩⟩
   ·cases h
  ·cases h
 case vpt t o ser=>
  have h1:=r.atAl hx rfl;split at h
  ·rename_i cs e hb;obtain ⟨hbx,i,ver,vs,k1,k2,k3,k4⟩:=r.boxOf hb;obtain ⟨i',k1',hy⟩:=h1.2 _ _ hbx;rw [k1] at k1';cases k1';rw [hy];split at h
   ·rename_i tv htv;obtain ⟨v',q1,q2⟩:=k4.at htv;have hlo:=A0s k3 q1;have hlt:=(List.getElem?_eq_some_iff.1 htv).1;simp only [hlo];refine ⟨_,rfl,?_⟩;split at h
    ·rename_i ho;cases h;exact B4 r d (q2.plainOf ho).2
    ·rename_i ho;obtain ⟨j,q3,q4⟩:=q2.ownOf ho;split at h
     ·cases h;have:=r.reBox (w':=mv w (.tcell t o) (.hand 0)) (tv:=.dead) hb hlt (fun p i e=>G8 e) (B16 r.inj _ _) (fun t=>C5 w (by simp) (by simp)) (fun t o=>C5 w (by simp) (by simp)) (fun t=>C5 w (by simp) (by simp))
       (fun k' c hk=>C5 w (by simp;omega) (by simp)) (fun i ver vs v _ _ _=>by rw [B14];exact .dead v)
      exact A5w this (B6F r _ _ _ _) ((A1d w (by simp)).trans q3) (q4.mono (Mo.mv _ _) rfl) (fun p j e=>G8 e) d
     ·cases h
      have hz:Zo (A04 w t o 1 none) Pr j:=⟨fun p e=>by
       have:=r.inj _ _ _ (K3 w t o 1 p j e) q3;subst this
       simp [A04,clr] at e,r.pr _ _ q3⟩
      have hfz:RV s.get μ (Zo (A04 w t o 1 none) Pr) (frz tv) v':=RO.frz (q4.mono (Mo.sub (K3 w t o 1)) rfl) hz;have:=r.reBox (w':=A04 w t o 1 none) (tv:=frz tv) hb hlt (fun p i e=>⟨p,K3 w t o 1 p i e⟩) (fun p q i e f=>r.inj p q i (K3 w t o 1 p i e) (K3 w t o 1 q i f)) (fun _=>rfl) (fun _ _=>rfl) (fun _=>rfl)
       (fun k' c hk=>by
        simp only [A04];split
        ·rename_i h;subst h;have hc:c≠o:=by
          rcases hk with h|h
          · exact absurd rfl h
          · exact h
         unfold clr;split
         ·rfl
         ·rw [if_neg (by omega)]
        ·rfl) (fun i' ver' vs' v2 e1 e2 e3=>by
        rw [k1] at e1;cases e1;rw [k3] at e2;cases e2;rw [q1] at e3;cases e3;have:A04 w t o 1 none (.tcell t o)=none:=by simp [A04,clr]
        rw [this];exact hfz)
      grind [L6,K3]
     ·cases h;exact A0Y r d rfl ⟨Nat.le_refl _,fun _ chs hp=>⟨i,ver,vs,e,k1,k3,q1⟩⟩
   ·cases h
  ·cases h
 case elt ch o=>
  have h1:=r.atPlain hx rfl
  revert h1;generalize ax.ev x=y;intro h1;cases h1
  rename_i k1 k2 k3 k4;split at h
  ·rename_i tv htv;cases h;obtain ⟨v',q1,q2⟩:=k4.get htv;have hlt:=(List.getElem?_eq_some_iff.1 htv).1;rw [List.getElem?_take,if_pos hlt,List.getElem?_drop] at q1;simp only [A0s k2 q1];grind [B4]
  ·cases h
 case vel p c j o=>
  have h1:=r.atAl hx rfl;split at h
  ·rename_i ch hch;obtain ⟨i,ver,vs,e,dd,q0,q1,q2,q3,q4⟩:=r.velOf h1 hch;rw [q0];split at h
   ·rename_i tv htv;cases h;obtain ⟨v',q5,q6⟩:=q4.get htv;have hlt:=(List.getElem?_eq_some_iff.1 htv).1;rw [List.getElem?_take,if_pos hlt,List.getElem?_drop] at q5;simp only [A0s q2 q5];grind [B4]
   ·cases h
  ·cases h
end
theorem A4X {vs:List Value} {o n:Nat} (h:o+n<=vs.length):setList vs o ((vs.drop o).take n)=vs:=by
 apply List.ext_getElem?;intro j;have hl:((vs.drop o).take n).length=n:=by simp;omega
 simp_all<;>grind [Q7]
section
variable {Pr:Nat->Prop} {μ μ':List Nat} {w w':J3} {a a':TAct} {σ σ':Sto} {ax ax':Xe.Act} {s s':AS}
theorem A7H {g:Hp} {w w':J3} {P:Nat->Pc} {cs:List TV} {vs:List Value} (r:RCs g μ (Zo w Pr) (fun o=>w (P o)) cs vs) (inj:∀p q i,w p=some i->w q=some i->p=q) (pr:∀p i,w p=some i->¬Pr i) {o n:Nat} (hn:o+n<=cs.length)
  (hsub:∀p i,w' p=some i->w p=some i) (hno:∀j,o<=j->j<o+n->w' (P j)=none):RVs g μ (Zo w' Pr) (((cs.drop o).take n).map frz) ((vs.drop o).take n):=by
 refine RVs.of_get (by simp [r.len]) fun j tv v h1 h2=> ?_
 rw [List.getElem?_map] at h1;simp only [List.getElem?_take,List.getElem?_drop] at h1 h2
 by_cases hj:j<n
 ·rw [if_pos hj] at h1 h2;cases hc:cs[o+j]? with
  |none=>rw [hc] at h1;cases h1
  |some tv0=>
   rw [hc] at h1;cases h1;have:=r.get _ _ _ hc h2
   revert this
   cases hw:w (P (o+j)) with
   |none=>
    intro this;have this:RV g μ (Zo w Pr) tv0 v:=this;rw [A2R this.notown.2.1];exact this.mono (Mo.sub hsub)
   |some i=>
    intro this;have this:RO g μ (Zo w Pr) i tv0 v:=this;refine RO.frz (this.mono (Mo.sub hsub) rfl) ⟨fun p e=> ?_,pr _ _ hw⟩;grind
 grind
theorem C0I (md b:Nat) (d:Option Nat) (n:Nat) (x:Operand):N6 md b d (.loadN n x):=by
 intro Pr μ w a σ ax s v a' σ' h r hP;simp only [Z5] at h;simp only [B0];cases hx:a.at x<;>rw [hx] at h<;>simp only [B10] at h<;>first|(cases h;done)|skip
 case ptr k o=>
  have h1:=r.atPlain hx rfl
  revert h1;generalize ax.ev x=y;intro h1;cases h1
  rename_i i0 hm;split at h
  ·rename_i ver cs e hob;obtain ⟨i,vs,k1,k2,k3⟩:=r.objOf hob;rw [hm] at k1;cases k1;split at h
   ·rename_i hle;rw [D4] at hle;have hle:=of_decide_eq_true hle;simp only [H7 k2 (by rw [k3.len];exact hle)];refine ⟨_,rfl,?_⟩;split at h
    ·rename_i ho;cases h;exact B4 r d (.agg (k3.plain hle ho))
    ·cases h;have hnone:∀j,o<=j->j<o+n->Z0 w k o n none (.cell k j)=none:=fun j h1 h2=>by
      grind [Z0,clr]
     have hf:=A7H (w':=Z0 w k o n none) k3 r.inj r.pr hle (J1 w k o n) hnone;have mo:=Mo.sub (g:=s.get) (μ:=μ) (Pr:=Pr) (J1 w k o n);have hk:k<σ.length:=by rw [<-r.len];exact (List.getElem?_eq_some_iff.1 hm).1
     have hll:(((cs.drop o).take n).map frz).length=n:=by simp;omega
     have hput:=(k3.mono mo (fun _ _ _=>rfl)).put hf (by rw [hll];exact hle);rw [A4X (by rw [k3.len];exact hle),hll,<-A9C] at hput
     have st:=r.objStep (w':=Z0 w k o n none) mo (r.toRs.setO (o:=⟨ver,.cells (putAt cs o (((cs.drop o).take n).map frz)) e⟩) hk mo r.dm (Nat.le_refl _) (fun p q i e f=>r.inj p q i (J1 w k o n p i e) (J1 w k o n q i f)) (fun p i e=>⟨p,J1 w k o n p i e⟩) (fun _=>rfl)
      (fun k' c hk'=>by simp only [Z0,if_neg hk']) (fun _ _ _ _=>rfl) ⟨i0,_,hm,k2,rfl,rfl,hput⟩) (fun _=>rfl) (fun _ _=>rfl) (fun _ _ _=>rfl)
     exact L6 st (fun p i e=>⟨p,J1 w k o n p i e⟩) d (.inl (.agg hf))
   ·cases h
  ·cases h
 case vpt t o ser=>
  have h1:=r.atAl hx rfl;split at h
  ·rename_i cs e hb;obtain ⟨hbx,i,ver,vs,k1,k2,k3,k4⟩:=r.boxOf hb;obtain ⟨i',k1',hy⟩:=h1.2 _ _ hbx;rw [k1] at k1';cases k1';rw [hy];split at h
   ·rename_i hle;rw [D4] at hle;have hle:=of_decide_eq_true hle;simp only [H7 k3 (by rw [k4.len];exact hle)];refine ⟨_,rfl,?_⟩;split at h
    ·rename_i ho;cases h;exact B4 r d (.agg (k4.plain hle ho))
    ·cases h;have hnone:∀j,o<=j->j<o+n->A04 w t o n none (.tcell t j)=none:=fun j h1 h2=>by
      grind [A04,clr]
     have hf:=A7H (w':=A04 w t o n none) k4 r.inj r.pr hle (K3 w t o n) hnone;have mo:=Mo.sub (g:=s.get) (μ:=μ) (Pr:=Pr) (K3 w t o n);have hll:(((cs.drop o).take n).map frz).length=n:=by simp;omega
     have hput:=(k4.mono mo (fun _ _ _=>rfl)).put hf (by rw [hll];exact hle);rw [A4X (by rw [k4.len];exact hle),hll,<-A7C] at hput;have st:=r.boxStep (w':=A04 w t o n none) hbx mo (r.toRs.setT mo r.dm (Nat.le_refl _) (fun p q i e f=>r.inj p q i (K3 w t o n p i e) (K3 w t o n q i f)) (fun p i e=>⟨p,K3 w t o n p i e⟩) (fun _=>rfl) (fun _ _=>rfl) (fun _ _ _=>rfl)) (fun _=>rfl)
      (fun t' c ht'=>by simp only [A04,if_neg ht']) (fun _ _ _ _ _ _=>rfl) (fun i' hi'=>by rw [k1] at hi';cases hi';exact ⟨ver,vs,k3,hput⟩)
     exact L6 st (fun p i e=>⟨p,K3 w t o n p i e⟩) d (.inl (.agg hf))
   ·cases h
  ·cases h
 case elt ch o=>
  have h1:=r.atPlain hx rfl
  revert h1;generalize ax.ev x=y;intro h1;cases h1
  rename_i i0 dd ver0 vs0 e0 ro0 k1 k2 k3 k4;split at h
  ·rename_i hle;rw [D4] at hle;have hle:=of_decide_eq_true hle;cases h;simp only [H7 k2 (show dd+o+n<=vs0.length by omega)];refine ⟨_,rfl,B4 r d (.agg ?_)⟩;have:=(k4.drop o).take n
   rwa [List.drop_take,List.take_take,List.drop_drop,Nat.min_eq_left (by omega)] at this
  ·cases h
 case vel p c j o=>
  have h1:=r.atAl hx rfl;split at h
  ·rename_i ch hch;obtain ⟨i,ver,vs,e,dd,q0,q1,q2,q3,q4⟩:=r.velOf h1 hch;rw [q0];split at h
   ·rename_i hle;rw [D4] at hle;have hle:=of_decide_eq_true hle;cases h;simp only [H7 q2 (show dd+o+n<=_ by omega)];refine ⟨_,rfl,B4 r d (.agg ?_)⟩;have:=(q4.drop o).take n
    rwa [List.drop_take,List.take_take,List.drop_drop,Nat.min_eq_left (by omega)] at this
   ·cases h
  ·cases h
theorem J7 {a b:Nat} (h:Nat.beq a b=true):a=b:=by rw [D8] at h;exact of_decide_eq_true h
theorem RV.fzOf {g:Hp} {Z:Nat->Prop} {chs:List (List TV)} {v:Value} (h:RV g μ Z (.sl .fz chs) v) (hne:chs≠[]):∃i o n c s ver vs e ro,v=.slice (some ⟨i,o,none⟩) n c/\Z i/\g i=some ⟨ver,.cells vs e ro⟩/\K5 s chs=true/\chs.length=n/\(c<D3->n<=c)/\(D3<=c->c=D3+s)/\o+n*s<=vs.length/\
  RVs g μ Z chs.flatten ((vs.drop o).take (n*s)):=by
 cases h with
 |fz a b c d e f k m=>exact ⟨_,_,_,_,_,_,_,_,_,rfl,a,b,c,d,e,f,k,m⟩
 |fz0=>exact absurd rfl hne
theorem RV.lenOf {g:Hp} {Z:Nat->Prop} {m:Md} {chs:List (List TV)} {v:Value} (h:RV g μ Z (.sl m chs) v):∃bb c,v=.slice bb chs.length c:=by
 cases h with
 |fz a b c d=>simp_all
 |fz0 b c=>exact ⟨b,c,rfl⟩
 |nl=>exact ⟨_,_,rfl⟩
theorem RO.lenOf {g:Hp} {Z:Nat->Prop} {i:Nat} {m:Md} {chs:List (List TV)} {v:Value} (h:RO g μ Z i (.sl m chs) v):∃bb c,v=.slice bb chs.length c:=by
 cases h with
 |mk a b c=>simp_all
theorem B4c (md b:Nat) (d:Option Nat) (x:Operand):N6 md b d (.lenSlice x):=by
 intro Pr μ w a σ ax s v a' σ' h r hP;simp only [Z5] at h;simp only [B0];split at h
 ·rename_i n hn;cases h;have key:∃bb c,ax.ev x=.slice bb n c:=by
   unfold C2L at hn;split at hn
   ·rename_i m c hx;cases hn;cases ho:D1 (a.ev x) with
    |true=>
     obtain ⟨t,rfl⟩:=Q4 ho;obtain ⟨i,h1,h2⟩:=r.ownOf ho;rw [hx] at h2;exact h2.lenOf
    |false=>
     have:=r.plainOf hx (by rw [hx] at ho;cases m<;>first|rfl|(simp [D1] at ho));exact this.lenOf
   ·rename_i p ck hx;split at hn
    ·rename_i hc;split at hn
     ·rename_i chs hp;cases hn;have ha:a.at x=.via p ck:=by unfold TAct.at;rw [hx]
      obtain ⟨i,e,sz,h1,h2⟩:=r.viaOf (r.atAl ha rfl) hc hp;exact h2.lenOf
     ·cases hn
    ·cases hn
   ·rename_i k o sz n' c hx;cases hn;have:=r.plainOf hx rfl
    revert this;generalize ax.ev x=y;intro this;cases this
    exact ⟨_,_,rfl⟩
   ·cases hn
  obtain ⟨bb,c,hv⟩:=key;rw [hv];exact ⟨_,rfl,B4 r d (.int _ _)⟩
 ·cases h
theorem B4d (md b:Nat) (d:Option Nat) (x:Operand):N6 md b d (.capSlice x):=by
 intro Pr μ w a σ ax s v a' σ' h r hP;simp only [Z5] at h;simp only [B0];split at h
 ·rename_i k o sz n c hx;split at h
  ·cases h
  ·rename_i hc;cases h;have:=r.plainOf hx rfl
   revert this;generalize ax.ev x=y;intro this;cases this
   simp only [hc];exact ⟨_,rfl,B4 r d (.int _ _)⟩
 ·cases h
theorem B2y (md b:Nat) (d:Option Nat) (size:Nat) (x i:Operand):N6 md b d (.indexAddr size x i):=by
 intro Pr μ w a σ ax s v a' σ' h r hP;simp only [Z5] at h;simp only [B0];split at h
 ·rename_i kk j hi;have h2:=r.plainOf hi rfl
  revert h2;generalize ax.ev i=z;intro h2;cases h2
  cases hx:a.ev x<;>rw [hx] at h<;>simp only [A3Z] at h<;>first|(cases h;done)|skip
  case sl m chs=>
   cases m with
   |own e sz=>
    simp only [A3Z] at h;have ho:D1 (a.ev x)=true:=by rw [hx];rfl
    obtain ⟨t,rfl⟩:=Q4 ho;obtain ⟨i,h1,h2⟩:=r.ownOf ho;rw [hx] at h2;split at h
    ·rename_i t' ch heq hch;cases heq;split at h
     ·rename_i hsz;cases h;have hy:∃oo n c,ax.ev (.tmp t)=.slice (some ⟨i,oo,none⟩) n c/\chs.length=n:=by
       revert h2;generalize ax.ev (.tmp t)=y;intro h2
       cases h2 with
       |mk q1 q2 q3=>grind
      obtain ⟨oo,n,c,hy,hn⟩:=hy;have hlt:j<n:=by rw [<-hn];exact (List.getElem?_eq_some_iff.1 hch).1
      rw [hy];simp only [G6,decide_eq_true hlt];refine ⟨_,rfl,A0Y r d rfl ⟨Nat.le_refl _,fun _ chs' ch' hp' hj'=> ?_⟩⟩;have:K6 a σ (.tmp t)=some chs:=by simp only [K6,hx,A1G]
      rw [this] at hp';cases hp';rw [hch] at hj';cases hj';refine ⟨i,oo,n,c,hy.symm,?_⟩;grind [E0,J7]
     ·cases h
    ·cases h
   |fz=>
    simp only [A3Z] at h;split at h
    ·rename_i ch hch;split at h
     ·rename_i hsz;cases h;have h1:=r.plainOf hx rfl;have hne:chs≠[]:=by rintro rfl;simp at hch
      obtain ⟨i,oo,n,c,s',ver,vs,e,ro,hv,q1,q2,q3,q4,q5,q6,q7,q8⟩:=h1.fzOf hne;rw [hv];have hlt:j<n:=by rw [<-q4];exact (List.getElem?_eq_some_iff.1 hch).1
      have hs':=A4V q3 hch;rw [J7 hsz] at hs';subst hs';have hmul:j*size+size<=n*size:=by rw [<-Nat.succ_mul];exact Nat.mul_le_mul_right size (by omega)
      simp only [G6,decide_eq_true hlt];refine ⟨_,rfl,B4 r d ?_⟩;rw [E0];have hd:=(q8.drop (j*size)).take size;rw [A42 q3 hch,List.drop_take,List.take_take,List.drop_drop,Nat.min_eq_left (by omega)] at hd;refine RV.elt (d:=oo+j*size) (o:=0) q1 q2 (by rw [J7 hsz];omega) ?_;simp_all
     ·cases h
    ·cases h
   |nl=>
    have h1:=r.plainOf hx rfl
    revert h1;generalize ax.ev x=y;intro h1;cases h1
    simp [A3Z] at h
  case via p ck=>
   have ha:a.at x=.via p ck:=by unfold TAct.at;rw [hx]
   have hal:=r.atAl ha rfl;split at h
   ·rename_i hc;split at h
    ·rename_i chs hp;split at h
     ·rename_i ch hch;split at h
      ·rename_i hsz;cases h;have hce:=J7 hc;have hv:=hal.2 hce chs hp;obtain ⟨i,e,sz,h1,h2⟩:=r.viaOf hal hc hp
       revert hv h2
       generalize ax.ev x=y;intro hv h2;cases h2 with
       |mk q1 q2 q3 q4 q5 q6 q7=>
        have hlt:=(List.getElem?_eq_some_iff.1 hch).1;rw [q3] at hlt;simp only [G6,decide_eq_true hlt];refine ⟨_,rfl,A0Y r d rfl ⟨Nat.le_of_eq hce,fun _ chs' ch' hp' hj'=> ?_⟩⟩;grind [E0,J7]
      ·cases h
     ·cases h
    ·cases h
   ·cases h
  case ref k o sz n c=>
   split at h
   ·rename_i hb;simp only [Bool.and_eq_true] at hb;cases h;have h1:=r.plainOf hx rfl
    revert h1;generalize ax.ev x=y;intro h1;cases h1
    rename_i hm hnc;simp only [hb.2];exact ⟨_,rfl,B4 r d (by rw [E0];exact .ptr hm)⟩
   ·cases h
 ·cases h
end
section
variable {Pr:Nat->Prop} {μ μ':List Nat} {w w':J3} {a a':TAct} {σ σ':Sto} {ax ax':Xe.Act} {s s':AS}
theorem A9E (h:∀t,a'.ev (.tmp t)=a.ev (.tmp t)) (p:Pl):K6 a' σ p=K6 a σ p:=by
 simp_all [K6,M6]
theorem Rl.ext (r:Rl Pr μ w a σ ax s) (h:∀t,a'.ev (.tmp t)=a.ev (.tmp t)) (hd:a'.df=a.df) (hc:a'.clk=a.clk):Rl Pr μ w a' σ ax s:=by
 refine ⟨r.toRs,fun t=> ?_,fun t=> ?_,by rw [hd];exact r.df⟩
 ·rw [h,hc];exact r.tm t
 ·rw [h];have ha:=r.al t
  revert ha
  generalize a.ev (.tmp t)=x;generalize ax.ev (.tmp t)=y;intro ha;cases x<;>first|trivial|skip
  ·grind [AL,A9E]
  ·grind [AL,A9E]
  grind [AL]
theorem X3 (s:AS) (o:Option AObj) (j:Nat):(s.upd [(s.next,o)] (s.next+1)).get j=if s.next=j then o else s.get j:=by
 rw [AS.upd_get];rfl
theorem B6G (s:AS) (δ:List (Nat×Option AObj)) (n:Nat):(s.upd δ n).next=n:=rfl
theorem Rl.lt (r:Rl Pr μ w a σ ax s) {i:Nat} {x:AObj} (e:s.get i=some x):i<s.next:=by
 by_cases h:i<s.next
 ·exact h
 ·rw [r.dm i (by omega)] at e;cases e
theorem Rl.moNew (r:Rl Pr μ w a σ ax s) (o:Option AObj):Mo s.get μ (Zo w Pr) (s.upd [(s.next,o)] (s.next+1)).get μ (Zo (holds w s.next) Pr):=by
 refine ⟨fun _ _ e=>e,fun i ver vs e ro z hg=> ?_⟩;have hi:=r.lt hg;refine ⟨⟨fun p e=> ?_,z.2⟩,by rw [X3,if_neg (by omega)];exact hg⟩;unfold holds at e;split at e
 ·cases e;omega
 ·exact z.1 p e
theorem A0m {i:Nat}:∀p j,holds w i p=some j->j<i->∃q,w q=some j:=fun p j e h=>by
 grind [holds]
theorem R9 {w1:J3} (o:Option AObj) (h:∀p i,w1 p=some i->i<s.next->∃q,w q=some i) (hm:∃ν,μ'=μ++ν):After w w1 μ μ' s (s.upd [(s.next,o)] (s.next+1)):=
 ⟨Nat.le_succ _,fun i hi _=>by rw [X3,if_neg (by omega)],h,hm⟩
theorem R5:∃ν,μ=μ++ν:=⟨[],(List.append_nil μ).symm⟩
theorem Rl.hands (r:Rl Pr μ w a σ ax s) (h k:Nat):Rl Pr μ (mv w (.hand h) (.hand k)) a σ ax s:=
 r.env (Mo.mv _ _) (r.toRs.mv _ _ (fun _=>C5 w (by simp) (by simp)) (fun _ _=>C5 w (by simp) (by simp))) (fun _=>C5 w (by simp) (by simp)) (fun _ _=>C5 w (by simp) (by simp)) (fun _ _ _ _=>rfl)
theorem A7I (d:Nat):∀p i,mv (rel w (some d)) (.hand 0) (.tmp d) p=some i->∃q,w q=some i:=fun p i e=>by
 grind [G8,P1]
theorem Rl.newBox (r:Rl Pr μ w a σ ax s) (hP:∀i,Pr i->i<s.next) {cs:List TV} {vs:List Value} (hv:RVs s.get μ (Zo w Pr) cs vs) (e:TypeId) (d:Nat):
  Rl Pr μ (mv (rel (holds w s.next) (some d)) (.hand 0) (.tmp d)) (a.tick.put (some d) (.bx a.clk cs e)) σ (ax.put (some d) (.pointer (some ⟨s.next,0,none⟩))) (s.upd [(s.next,some ⟨0,.cells vs e false⟩)] (s.next+1)):=by
 have hnp:¬Pr s.next:=fun h=>Nat.lt_irrefl _ (hP _ h)
 have r1:=r.alloc ⟨0,.cells vs e false⟩ hnp;refine r1.tick.putBx (A1f r1) d (A1e w _) (ver:=0) (vs:=vs) (by rw [X3,if_pos rfl]) (hv.mono (r.moNew _)) rfl (fun t o h=> ?_);have ha:=r.al t;rw [show a.tick.ev (.tmp t)=a.ev (.tmp t) from rfl] at h;rw [h] at ha;exact Nat.lt_irrefl _ ha.1
theorem B2z (r:Rl Pr μ w a σ ax s) (hP:∀i,Pr i->i<s.next) {cs:List TV} {vs:List Value} (hv:RVs s.get μ (Zo w Pr) cs vs) (e:TypeId) (d:Option Nat):
  A4U Pr μ w ax s d (.bx a.clk cs e) a.tick σ ⟨.pointer (some ⟨s.next,0,none⟩),[(s.next,some ⟨0,.cells vs e false⟩)],s.next+1⟩:=by
 have hnp:¬Pr s.next:=fun h=>Nat.lt_irrefl _ (hP _ h)
 cases d with
 |none=>exact ⟨μ,holds w s.next,(r.alloc _ hnp).tick,R9 _ (A0m (w:=w)) R5⟩
 |some d=>
  refine ⟨μ,_,r.newBox hP hv e d,R9 _ (fun p i h hi=> ?_) R5⟩;grind [A7I,A0m]
def A2T (w:J3) (n k:Nat):J3:=mv (holds w n) (.hand 0) (.obj k)
theorem A7J {n k:Nat}:∀p i,A2T w n k p=some i->i<n->∃q,w q=some i:=fun p i e hi=>by
 obtain ⟨q,e⟩:=G8 e;exact A0m q i e hi
theorem Rl.newObj (r:Rl Pr μ w a σ ax s) (hP:∀i,Pr i->i<s.next) {o:TObj} {b:ABody} (hb:∀(s':AS),(∀c,A2T w s.next σ.length (.cell σ.length c)=none)->Mo s.get μ (Zo w Pr) s'.get (μ++[s.next]) (Zo (A2T w s.next σ.length) Pr)->RB s'.get (μ++[s.next]) (Zo (A2T w s.next σ.length) Pr) (A2T w s.next σ.length) σ.length o.body b):
  Rl Pr (μ++[s.next]) (A2T w s.next σ.length) a.tick (σ++[some o]) ax (s.upd [(s.next,some ⟨o.ver,b⟩)] (s.next+1)):=by
 have hnp:¬Pr s.next:=fun h=>Nat.lt_irrefl _ (hP _ h)
 have r1:=r.alloc ⟨o.ver,b⟩ hnp;exact r1.putObj (A1e w _) (by rw [X3,if_pos rfl]) (fun hc mo=>hb _ hc ((r.moNew _).trans mo))
theorem Rl.muNew (r:Rl Pr μ w a σ ax s) (n:Nat):(μ++[n])[σ.length]? =some n:=by rw [<-r.len];simp
theorem A1g (r:Rl Pr μ w a σ ax s) (hP:∀i,Pr i->i<s.next) {o:TObj} {b:ABody} (hb:∀(s':AS),(∀c,A2T w s.next σ.length (.cell σ.length c)=none)->Mo s.get μ (Zo w Pr) s'.get (μ++[s.next]) (Zo (A2T w s.next σ.length) Pr)->RB s'.get (μ++[s.next]) (Zo (A2T w s.next σ.length) Pr) (A2T w s.next σ.length) σ.length o.body b)
  {tv:TV} {v:Value} (hv:∀g Z,RV g (μ++[s.next]) Z tv v) (d:Option Nat):A4U Pr μ w ax s d tv a.tick (σ++[some o]) ⟨v,[(s.next,some ⟨o.ver,b⟩)],s.next+1⟩:=by
 have h:=(r.newObj hP hb).put d (.inl (hv _ _));exact ⟨_,_,h,R9 _ (fun p i e hi=>A7J p i (P1 _ _ _ _ e) hi) ⟨_,rfl⟩⟩
theorem A0y {cs:List TV} {vs:List Value} {e:TypeId} (hv:RVs s.get μ (Zo w Pr) cs vs) {n k:Nat}:∀(s':AS),(∀c,A2T w n k (.cell k c)=none)->Mo s.get μ (Zo w Pr) s'.get (μ++[n]) (Zo (A2T w n k) Pr)->RB s'.get (μ++[n]) (Zo (A2T w n k) Pr) (A2T w n k) k (.cells cs e) (.cells vs e false):=fun s' hc mo=>by
 refine ⟨rfl,rfl,hv.length,fun o tv v h1 h2=> ?_,fun o _=>hc o⟩;obtain ⟨v',h3,h4⟩:=hv.get h1;rw [h2] at h3;cases h3;simp only [hc o];exact h4.mono mo
end
theorem C0J (md b:Nat) (d:Option Nat) (e:TypeId) (z:List Value):N6 md b d (.alloc e z):=by
 intro Pr μ w a σ ax s v a' σ' h r hP;simp only [Z5] at h;simp only [B0];split at h
 ·cases h
 ·rename_i hz;simp only [hz];refine ⟨_,rfl,?_⟩;split at h
  ·simp only [A5v] at h;cases h;exact A1g r hP (A0y (RVs.ofVs _ _ _ z)) (fun g Z=>.ptr (r.muNew _)) d
  grind [B2z,RVs.ofVs]
theorem C0K (md b:Nat) (d:Option Nat):N6 md b d .mkMap:=by
 intro Pr μ w a σ ax s v a' σ' h r hP;simp only [Z5,A5v] at h;cases h;simp only [B0];refine ⟨_,rfl,A1g (o:=⟨0,.map [] 0⟩) (b:=.map [] 0) r hP (fun s' hc mo=>⟨rfl,rfl,fun j x y h1 h2=>by simp at h1,hc⟩) (fun g Z=>.map (r.muNew _)) d⟩
section
variable {Pr:Nat->Prop} {μ μ':List Nat} {w w':J3} {a a':TAct} {σ σ':Sto} {ax ax':Xe.Act} {s s':AS}
theorem RV.cells {g:Hp} {Z:Nat->Prop} {tv:TV} {v:Value} (h:RV g μ Z tv v) (hd:tv≠.dead):RVs g μ Z tv.cells v.cells.toList:=by
 cases h<;>first|exact absurd rfl hd|assumption|skip
 case tuple=>exact .cons (.tuple (by assumption)) .nil
 all_goals first
  |exact .cons (.int _ _) .nil
  |exact .cons (.bool _) .nil
  |exact .cons (.str _) .nil
  |exact .cons .nilp .nil
  |exact .cons (.ptr (by assumption)) .nil
  |exact .cons (.elt (by assumption) (by assumption) (by assumption) (by assumption)) .nil
  |exact .cons (.fz (by assumption) (by assumption) (by assumption) (by assumption) (by assumption) (by assumption) (by assumption) (by assumption)) .nil
  |exact .cons (.fz0 _ _) .nil
  |exact .cons .nl .nil
  |exact .cons (.ref (by assumption) (by assumption)) .nil
  |exact .cons .nilm .nil
  |exact .cons (.map (by assumption)) .nil
  |exact .cons .nilf .nil
  |exact .cons (.func _ (by assumption) (by assumption)) .nil
  |exact .cons .nili .nil
  |exact .cons (.iface _ (by assumption)) .nil
theorem RVs.ones {g:Hp} {Z:Nat->Prop}:∀{l:List TV} {l':List Value},RVs g μ Z l l'->A4O l=true->Xe.ones l'=true
 |_,_,.nil,_=>rfl
 |v::l,_,.cons h t,k=>by
  cases h<;>simp only [A4O] at k<;>first|(cases k;done)|(simp only [Xe.ones];exact t.ones k)
theorem RO.one {g:Hp} {Z:Nat->Prop} {i:Nat} {tv:TV} {v:Value} (h:RO g μ Z i tv v):tv.cells=[tv]/\v.cells.toList=[v]/\Xe.ones [v]=true:=by
 cases h;exact ⟨rfl,rfl,rfl⟩
theorem B17 {v:TV} (h:B6x v=true) (ho:D1 v=false):pl v=true/\v≠.dead:=by
 cases v<;>first|(simp [B6x] at h;done)|exact ⟨rfl,by simp⟩|skip
 rename_i m c;cases m<;>first|exact ⟨rfl,by simp⟩|(simp [D1] at ho)
end
theorem A7K (cs:List TV) {o:Nat} (h:o<cs.length) (tv:TV):(putAt cs o [.dead]).set o tv=putAt cs o [tv]:=by
 unfold putAt;rw [List.append_assoc,List.set_append_right _ _ (by simp;omega)];have:o - (cs.take o).length=0:=by simp;omega
 rw [this];simp
theorem A66 (vs:List Value) (o:Nat) (v:Value):setList vs o [v]=vs.set o v:=rfl
section
variable {Pr:Nat->Prop} {μ μ':List Nat} {w w':J3} {a a':TAct} {σ σ':Sto} {ax ax':Xe.Act} {s s':AS}
theorem B6H (w:J3) (k o n:Nat) (x:Option Nat) (h:Nat):Z0 w k o n x (.hand h)=w (.hand h):=rfl
theorem B6I (w:J3) (k o n:Nat) (x:Option Nat) (h:Nat):A04 w k o n x (.hand h)=w (.hand h):=rfl
theorem Rl.storeObj (r:Rl Pr μ w a σ ax s) {k o ver i:Nat} {cs:List TV} {vs:List Value} {e:TypeId} (hm:μ[k]? =some i) (hg:s.get i=some ⟨ver,.cells vs e false⟩) (hc:RCs s.get μ (Zo w Pr) (fun o=>w (.cell k o)) cs vs)
  {l:List TV} {l':List Value} (hl:RVs s.get μ (Zo w Pr) l l') (hle:o+l.length<=cs.length):
  Rl Pr μ (Z0 w k o l.length none) a.tick (σ.set k (some ⟨ver+1,.cells (putAt cs o l) e⟩)) ax (s.upd [(i,some ⟨ver+1,.cells (setList vs o l') e false⟩)] s.next):=by
 have hk:k<σ.length:=by rw [<-r.len];exact (List.getElem?_eq_some_iff.1 hm).1
 have hw:w (.obj k)=some i:=(r.wobj k).trans hm;have own:∀p j,Z0 w k o l.length none p=some j->w p=some j:=J1 w k o _;have mo:=r.moSet hw (some ⟨ver+1,.cells (setList vs o l') e false⟩) (w':=Z0 w k o l.length none) (fun p j e=>⟨p,own p j e⟩);have hne:∀p j,w p=some j->p≠.obj k->(s.upd [(i,some ⟨ver+1,.cells (setList vs o l') e false⟩)] s.next).get j=s.get j:=fun p j e h=>by
  rw [M3,if_neg];rintro rfl;exact h (r.inj _ _ _ e hw)
 refine r.objStep mo (r.toRs.setO hk mo (r.dmSet hw _) (Nat.le_refl _) (fun p q j e f=>r.inj p q j (own p j e) (own q j f)) (fun p j e=>⟨p,own p j e⟩) (fun _=>rfl) (fun k' c hk'=>by simp only [Z0,if_neg hk'])
  (fun k' j hk' h=> ?_) ⟨i,.cells (setList vs o l') e false,hm,by rw [M3,if_pos rfl],rfl,rfl,?_⟩) (fun _=>rfl) (fun _ _=>rfl) (fun t j h=> ?_)
 ·grind
 ·have:=(hc.mono mo (fun o j h=>hne _ _ h (by simp))).put (hl.mono mo) hle;simp_all [A9C]
 grind
theorem Rl.storeBox (r:Rl Pr μ w a σ ax s) {t ser o ver i:Nat} {cs:List TV} {vs:List Value} {e:TypeId} (hbx:a.ev (.tmp t)=.bx ser cs e) (hw:w (.tmp t)=some i) (hg:s.get i=some ⟨ver,.cells vs e false⟩) (hc:RCs s.get μ (Zo w Pr) (fun o=>w (.tcell t o)) cs vs)
  {l:List TV} {l':List Value} (hl:RVs s.get μ (Zo w Pr) l l') (hle:o+l.length<=cs.length):
  Rl Pr μ (A04 w t o l.length none) (W1 a t ser (putAt cs o l) e) σ ax (s.upd [(i,some ⟨ver+1,.cells (setList vs o l') e false⟩)] s.next):=by
 have own:∀p j,A04 w t o l.length none p=some j->w p=some j:=K3 w t o _;have mo:=r.moSet hw (some ⟨ver+1,.cells (setList vs o l') e false⟩) (w':=A04 w t o l.length none) (fun p j e=>⟨p,own p j e⟩);have hne:∀p j,w p=some j->p≠.tmp t->(s.upd [(i,some ⟨ver+1,.cells (setList vs o l') e false⟩)] s.next).get j=s.get j:=fun p j e h=>by
  rw [M3,if_neg];rintro rfl;exact h (r.inj _ _ _ e hw)
 refine r.boxStep hbx mo (r.toRs.setT mo (r.dmSet hw _) (Nat.le_refl _) (fun p q j e f=>r.inj p q j (own p j e) (own q j f)) (fun p j e=>⟨p,own p j e⟩) (fun _=>rfl) (fun _ _=>rfl) (fun k' j h=> ?_)) (fun _=>rfl)
  (fun t' c ht'=>by simp only [A04,if_neg ht']) (fun p j h _ h2 _=>hne p j h h2) (fun i' hi'=> ?_)
 ·grind
 ·rw [hw] at hi';cases hi';refine ⟨ver+1,_,by rw [M3,if_pos rfl],?_⟩;have:=(hc.mono mo (fun o j h=>hne _ _ h (by simp))).put (hl.mono mo) hle;simp_all [A7C]
theorem Rl.fillObj (r:Rl Pr μ w a σ ax s) {k o ver i j h:Nat} {cs:List TV} {e:TypeId} {tv:TV} (hob:σ.at k=some ⟨ver,.cells cs e⟩) (ho:o<cs.length) (hh:w (.hand h)=some j) {vs:List Value} {v:Value} (hm:μ[k]? =some i) (hg:s.get i=some ⟨ver,.cells vs e false⟩)
  (hv:vs[o]? =some v) (hro:RO s.get μ (Zo w Pr) j tv v):Rl Pr μ (mv w (.hand h) (.cell k o)) a.tick (σ.set k (some ⟨ver,.cells (cs.set o tv) e⟩)) ax s:=by
 refine r.reCell hob ho (fun p i e=>G8 e) (B16 r.inj _ _) (fun t=>C5 w (by simp) (by simp)) (fun t o=>C5 w (by simp) (by simp)) (fun t=>C5 w (by simp) (by simp))
  (fun k' c hk=>C5 w (by simp) (by simp;omega)) (fun i' vs' v' e1 e2 e3=> ?_)
 rw [hm] at e1;cases e1;rw [hg] at e2;cases e2;rw [hv] at e3;cases e3;rw [A1d w (by simp),hh];exact hro.mono (Mo.mv _ _) rfl
theorem Rl.fillBox (r:Rl Pr μ w a σ ax s) {t ser o j h i ver:Nat} {cs:List TV} {e:TypeId} {tv:TV} (hb:M6 a t ser=some (cs,e)) (ho:o<cs.length) (hh:w (.hand h)=some j) {vs:List Value} {v:Value} (hw:w (.tmp t)=some i) (hg:s.get i=some ⟨ver,.cells vs e false⟩)
  (hv:vs[o]? =some v) (hro:RO s.get μ (Zo w Pr) j tv v):Rl Pr μ (mv w (.hand h) (.tcell t o)) (W1 a t ser (cs.set o tv) e) σ ax s:=by
 refine r.reBox hb ho (fun p i e=>G8 e) (B16 r.inj _ _) (fun t=>C5 w (by simp) (by simp)) (fun t o=>C5 w (by simp) (by simp)) (fun t=>C5 w (by simp) (by simp))
  (fun k' c hk=>C5 w (by simp) (by simp;omega)) (fun i' ver' vs' v' e1 e2 e3=> ?_)
 rw [hw] at e1;cases e1;rw [hg] at e2;cases e2;rw [hv] at e3;cases e3;rw [A1d w (by simp),hh];exact hro.mono (Mo.mv _ _) rfl
theorem A1h {x:Operand} (h:D1 (a.ev x)=false):taken a x=a:=by
 simp_all [taken]<;>grind
theorem A1U (g:Hp) (Z:Nat->Prop):RV g μ Z A6 undef:=.tuple .nil
theorem U9 {w1:J3} {i:Nat} {p:Pc} (hw:w p=some i) (o:Option AObj) (h:∀p j,w1 p=some j->∃q,w q=some j):After w w1 μ μ s (s.upd [(i,o)] s.next):=
 ⟨Nat.le_refl _,fun j hj hn=>by rw [M3,if_neg];rintro rfl;exact hn p hw,fun p j e _=>h p j e,R5⟩
theorem A1V (a:TAct) (t ser:Nat) (cs:List TV) (e:TypeId) (t':Nat):(W1 a t ser cs e).ev (.tmp t')=if t=t' then .bx ser cs e else a.ev (.tmp t'):=by
 by_cases h:t=t'
 ·subst h;rw [if_pos rfl];exact O6 _ _ _ _ _
 ·rw [if_neg h];exact U8 a _ _ _ h
theorem A1W {t ser:Nat} {cs:List TV} {e:TypeId} (h:a.ev (.tmp t)=.bx ser cs e):M6 a t ser=some (cs,e):=by
 grind [M6,D8]
theorem at_set {k:Nat} (hk:k<σ.length) (o:TObj):Sto.at (σ.set k (some o)) k=some o:=by simp [Sto.at,hk]
theorem A1X {w1:J3} (r:Rl Pr μ w1 a' σ' ax s') (d:Option Nat) {p:PR} (hs:s'=s.upd p.δ p.nx) (hv:p.v=undef) (ha:∀w2,(∀p i,w2 p=some i->w1 p=some i)->After w w2 μ μ s s'):A4U Pr μ w ax s d A6 a' σ' p:=by
 subst hs;refine ⟨μ,rel w1 d,?_,ha _ (P1 w1 d)⟩;rw [hv];exact r.put d (.inl (A1U _ _))
end
theorem S9 (vs l:List Value) (b m N:Nat) (h:m+l.length<=N) (hb:b+N<=vs.length):((setList vs (b+m) l).drop b).take N=setList ((vs.drop b).take N) m l:=by
 apply List.ext_getElem?;intro j;rw [List.getElem?_take,List.getElem?_drop,Q7 _ _ _ (by omega),Q7 _ _ _ (by simp;omega),List.getElem?_take,List.getElem?_drop];grind
theorem B6J (x y l:List TV) (o:Nat):putAt (x++y) (x.length+o) l=x++putAt y o l:=by
 unfold putAt;rw [List.take_append,List.drop_append];have h1:x.length+o - x.length=o:=by omega
 have h2:x.length+o+l.length - x.length=o+l.length:=by omega
 rw [h1,h2,List.take_of_length_le (show x.length<=x.length+o by omega),List.drop_of_length_le (show x.length<=x.length+o+l.length by omega)];simp
theorem B4e (x y l:List TV) (o:Nat) (h:o+l.length<=x.length):putAt (x++y) o l=putAt x o l++y:=by
 grind [putAt]
theorem B2A {s:Nat}:∀{chs:List (List TV)},K5 s chs=true->∀{j o:Nat} {ch l:List TV},chs[j]? =some ch->o+l.length<=ch.length->(chs.set j (putAt ch o l)).flatten=putAt chs.flatten (j*s+o) l
 |[],_,j,o,ch,l,e,_=>by simp at e
 |c::chs,h,j,o,ch,l,e,hl=>by
  simp only [K5,List.all_cons,Bool.and_eq_true] at h;have h1:=J7 h.1;cases j with
  |zero=>
   grind [B4e]
  |succ j=>
   rw [List.set_cons_succ,List.flatten_cons,List.flatten_cons,B2A h.2 (by simpa using e) hl];rw [show (j+1)*s+o=c.length+(j*s+o) by rw [h1,Nat.succ_mul];omega,B6J]
theorem B8z {s:Nat} {chs:List (List TV)} (h:K5 s chs=true) (j:Nat) {c:List TV} (hc:c.length=s):K5 s (chs.set j c)=true:=by
 refine List.all_eq_true.2 fun x hx=> ?_
 rcases List.mem_or_eq_of_mem_set hx with hx|rfl
 ·exact List.all_eq_true.1 h x hx
 simp_all
theorem RO.write {g g':Hp} {μ:List Nat} {Z:Nat->Prop} {i j o oo n c sz e:Nat} {chs:List (List TV)} {ch l:List TV} {l':List Value} (h:RO g μ Z i (.sl (.own e sz) chs) (.slice (some ⟨i,oo,none⟩) n c)) (hch:chs[j]? =some ch) (hl:RVs g μ Z l l') (hle:o+l.length<=ch.length)
  (mo:Mo g μ Z g' μ Z) {vs:List Value} {ver':Nat} (hg0:∃ver,g i=some ⟨ver,.cells vs e false⟩) (hg:g' i=some ⟨ver',.cells (setList vs (oo+j*ch.length+o) l') e false⟩):RO g' μ Z i (.sl (.own e sz) (chs.set j (putAt ch o l))) (.slice (some ⟨i,oo,none⟩) n c):=by
 obtain ⟨ver0,hg0⟩:=hg0;cases h with
 |mk m1 m2 m3 m4 m5 m6 m7=>
  rw [hg0] at m1;cases m1;have hsz:=A4V m2 hch;have hjn:=(List.getElem?_eq_some_iff.1 hch).1;have hmul:j*sz+sz<=n*sz:=by rw [<-Nat.succ_mul];exact Nat.mul_le_mul_right sz (by omega)
  refine .mk hg (B8z m2 j (by rw [A13 hle];exact hsz)) (by rw [List.length_set];exact m3) (fun h=>⟨(m4 h).1,by rw [J5];exact (m4 h).2⟩) m5 (by rw [J5];exact m6) ?_;rw [B2A m2 hch hle,hsz,show oo+j*sz+o=oo+(j*sz+o) by omega,S9 _ _ _ _ _ (by rw [hl.length];omega) m6];exact (hl.mono mo).setList _ (m7.mono mo) (by rw [A2S m2,m3];omega)
section
variable {Pr:Nat->Prop} {μ μ':List Nat} {w w':J3} {a a':TAct} {σ σ':Sto} {ax ax':Xe.Act} {s s':AS}
theorem A7L {x:Operand} {t:Nat} (h:x≠.tmp t):(frz1 a x).ev (.tmp t)=a.ev (.tmp t):=by
 grind [B15]
theorem B2B {x:Operand} (h:D1 (a.ev x)=false):frz1 a x=a:=by
 simp_all [frz1]<;>grind
theorem B4f {p:Pl} {x:Operand} (h:p.offX x=true):K6 (frz1 a x) σ p=K6 a σ p:=by
 cases p with
 |cell k o=>rfl
 |tmp t=>
  have:x≠.tmp t:=by
   grind [Pl.offX,D8]
  grind [K6,A7L]
 |tcell t o ser=>
  by_cases hx:x=.tmp t
  ·subst hx;cases ho:D1 (a.ev (.tmp t)) with
   |false=>rw [B2B ho]
   |true=>
    have h1:∀z:TV,D1 z=true->∃e s c,z=.sl (.own e s) c:=by
     intro z hz;cases z<;>first|(simp [D1] at hz;done)|skip
     rename_i m c;cases m<;>first|exact ⟨_,_,_,rfl⟩|(simp [D1] at hz)
    grind [M6,frz1,A14,frz,K6]
  grind [K6,M6,A7L]
theorem B8A {g:Hp} {p:Pl} {v:Value} (h:∀p i,w' p=some i->w p=some i) (hv:A3w μ w' ax g p v):A3w μ w ax g p v:=by
 cases p with
 |tmp t=>exact hv
 |tcell t o ser=>obtain ⟨i,ver,vs,e,h1,h2⟩:=hv;exact ⟨i,ver,vs,e,h _ _ h1,h2⟩
 |cell k o=>exact hv
theorem Rl.moOwn (r:Rl Pr μ w a σ ax s) {p:Pc} {i:Nat} (hi:w p=some i) (o:Option AObj):Mo s.get μ (Zo w Pr) (s.upd [(i,o)] s.next).get μ (Zo w Pr):=r.moSet hi o (fun p j e=>⟨p,e⟩)
def A0Q (a:TAct) (σ:Sto):Pl->Option TV
 |.tmp t=>some (a.ev (.tmp t))
 |.tcell t o s=>match M6 a t s with
  |some (cs,_)=>cs[o]?
  |none=>none
 |.cell k o=>match σ.at k with
  |some ⟨_,.cells vs _⟩=>vs[o]?
  |_=>none
theorem A9F {p:Pl} {chs:List (List TV)} (h:K6 a σ p=some chs):∃e sz,A0Q a σ p=some (.sl (.own e sz) chs):=by
 cases p with
 |tmp t=>obtain ⟨h1,e,sz,h2⟩:=T7 h;exact ⟨e,sz,by simp only [A0Q,h2]⟩
 |tcell t o ser=>
  simp only [K6] at h;simp only [A0Q];split at h
  ·rename_i hb;split at h
   ·simp_all [T7]
   ·cases h
  ·cases h
 |cell k o=>
  simp only [K6] at h;simp only [A0Q];split at h
  ·rename_i hb;split at h
   ·simp_all [T7]
   ·cases h
  ·cases h
theorem Rl.placeV (r:Rl Pr μ w a σ ax s) {p:Pl} {e sz:Nat} {chs:List (List TV)} (h:A0Q a σ p=some (.sl (.own e sz) chs)):∃i v,w p.pc=some i/\RO s.get μ (Zo w Pr) i (.sl (.own e sz) chs) v/\A3w μ w ax s.get p v:=by
 cases p with
 |tmp t=>
  simp only [A0Q,Option.some.injEq] at h;obtain ⟨i,h3,h4⟩:=r.ownOf (t:=t) (by rw [h];rfl);rw [h] at h4;exact ⟨i,_,h3,h4,rfl⟩
 |tcell t o ser=>
  simp only [A0Q] at h;split at h
  ·rename_i cs e hb;obtain ⟨hbx,i,ver,vs,k1,k2,k3,k4⟩:=r.boxOf hb;obtain ⟨v',q1,q2⟩:=k4.at h;obtain ⟨j,q3,q4⟩:=q2.ownOf rfl;exact ⟨j,v',q3,q4,i,ver,vs,e,k1,k3,q1⟩
  ·cases h
 |cell k o=>
  simp only [A0Q] at h;split at h
  ·rename_i ver cs e hb;obtain ⟨i,vs,k1,k2,k3⟩:=r.objOf hb;obtain ⟨v',q1,q2⟩:=k3.at h;obtain ⟨j,q3,q4⟩:=q2.ownOf rfl;exact ⟨j,v',q3,q4,i,ver,vs,e,k1,k2,q1⟩
  ·cases h
theorem RCs.own {g g':Hp} {Z:Nat->Prop} {ow:Nat->Option Nat} {cs:List TV} {vs:List Value} (r:RCs g μ Z ow cs vs) (mo:Mo g μ Z g' μ Z) {o i:Nat} {tv:TV} (ho:o<cs.length) (h1:ow o=some i) (hne:∀j k,ow j=some k->j≠o->g' k=g k) (h2:∀v,vs[o]? =some v->RO g' μ Z i tv v):RCs g' μ Z ow (cs.set o tv) vs:=by
 refine ⟨by rw [List.length_set];exact r.len,fun j x v e1 e2=> ?_,fun j hj=> ?_⟩
 ·by_cases h:j=o
  ·subst h;rw [List.getElem?_set_self ho] at e1;cases e1;rw [h1];exact h2 v e2
  ·rw [List.getElem?_set_ne (fun e=>h e.symm)] at e1;exact (r.get j x v e1 e2).mono mo (fun i hi=>hne j i hi h)
 ·rw [List.length_set] at hj;exact r.out j hj
theorem Rl.writeOwn (r:Rl Pr μ w a σ ax s) {p:Pl} {chs chs':List (List TV)} {i e sz:Nat} {v:Value} {o:Option AObj} (hp:A0Q a σ p=some (.sl (.own e sz) chs)) (hw:w p.pc=some i) (hv:A3w μ w ax s.get p v) (hro:RO (s.upd [(i,o)] s.next).get μ (Zo w Pr) i (.sl (.own e sz) chs') v):
  Rl Pr μ w (A0u a σ (B6w chs') p).1 (A0u a σ (B6w chs') p).2 ax (s.upd [(i,o)] s.next):=by
 have mo:=r.moOwn hw o;have hne:∀q j,w q=some j->q≠p.pc->(s.upd [(i,o)] s.next).get j=s.get j:=fun q j h h2=>by
  rw [M3,if_neg];rintro rfl;exact h2 (r.inj _ _ _ h hw)
 have own:∀p i,w p=some i->∃q,w q=some i:=fun p i e=>⟨p,e⟩
 cases p with
 |tmp t=>
  have hv:v=ax.ev (.tmp t):=hv;subst hv;simp only [A0Q,Option.some.injEq] at hp
  have rs:Rs Pr μ w σ (s.upd [(i,o)] s.next):=r.toRs.setT mo (r.dmSet hw _) (Nat.le_refl _) r.inj own (fun _=>rfl) (fun _ _=>rfl) (fun k j h=>by
   rcases h with h|⟨c,h⟩
   ·exact hne _ _ h (by simp [Pl.pc])
   ·exact hne _ _ h (by simp [Pl.pc]))
  have htc:∀o,w (.tcell t o)=none:=by
   have:=r.tm t;rw [hp] at this
   revert this
   generalize ax.ev (.tmp t)=y;intro this;cases this with
   |plain h _ _=>cases h
   |own _ h _=>exact h
   |al h _ _=>cases h
  refine r.step mo rs (Nat.lt_succ_self _) (fun t'=> ?_) ⟨rfl,rfl⟩;dsimp only [A0u]
  by_cases ht:t=t'
  ·subst ht;refine .inr ?_;rw [O6,hp];exact ⟨.own hw htc hro,rfl,fun _ _ _ h=>by cases h⟩
  grind [U8,Pl.pc]
 |tcell t o' ser=>
  simp only [A0Q] at hp;split at hp
  ·rename_i cs e' hb;obtain ⟨hbx,i',ver,vs,k1,k2,k3,k4⟩:=r.boxOf hb;have hlt:=(List.getElem?_eq_some_iff.1 hp).1;have hw':w (.tcell t o')=some i:=hw;have hv1:vs[o']? =some v:=by
    obtain ⟨i2,ver2,vs2,e2,q1,q2,q3⟩:=hv;grind
   simp only [A0u,hb,hp]
   refine r.boxStep hbx mo (r.toRs.setT mo (r.dmSet hw _) (Nat.le_refl _) r.inj own (fun _=>rfl) (fun _ _=>rfl) (fun k j h=>by
    rcases h with h|⟨c,h⟩
    ·exact hne _ _ h (by simp [Pl.pc])
    ·exact hne _ _ h (by simp [Pl.pc]))) (fun _=>rfl) (fun _ _ _=>rfl) (fun q j h hh ht hc=>hne q j h (hc o')) (fun i2 h2=> ?_)
   ·rw [k1] at h2;cases h2;refine ⟨ver,vs,(hne _ _ k1 (by simp [Pl.pc])).trans k3,?_⟩;exact k4.own mo hlt hw' (fun j k h hj=>hne _ _ h (by simp [Pl.pc];exact hj)) (fun v' hv'=>by rw [hv1] at hv';cases hv';exact hro)
  ·cases hp
 |cell k o'=>
  simp only [A0Q] at hp;split at hp
  ·rename_i ver cs e' hb;obtain ⟨i',vs,k1,k2,k3⟩:=r.objOf hb;have hlt:=(List.getElem?_eq_some_iff.1 hp).1;have hw':w (.cell k o')=some i:=hw;have hk:k<σ.length:=by rw [<-r.len];exact (List.getElem?_eq_some_iff.1 k1).1
   have hv1:vs[o']? =some v:=by
    obtain ⟨i2,ver2,vs2,e2,q1,q2,q3⟩:=hv;grind
   simp only [A0u,hb,hp];refine r.objStep mo (r.toRs.setO hk mo (r.dmSet hw _) (Nat.le_refl _) r.inj own (fun _=>rfl) (fun _ _ _=>rfl) (fun k' j hk' h=> ?_) ⟨i',.cells vs e' false,k1,(hne (.obj k) _ ((r.wobj k).trans k1) (by simp [Pl.pc])).trans k2,rfl,rfl,?_⟩) (fun _=>rfl) (fun _ _=>rfl) (fun t j h=> ?_)
   ·grind
   ·exact k3.own mo hlt hw' (fun j k h hj=>hne _ _ h (by simp [Pl.pc];exact hj)) (fun v' hv'=>by rw [hv1] at hv';cases hv';exact hro)
   grind
  ·cases hp
end
theorem C0L (md b:Nat) (d:Option Nat) (n:Nat) (p x:Operand):N6 md b d (.store n p x):=by
 intro Pr μ w a σ ax s v a' σ' h r hP;simp only [Z5] at h;simp only [B0];cases hx:a.at p<;>rw [hx] at h<;>simp only [B11] at h<;>first|(cases h;done)|skip
 case ptr k o=>
  have h1:=r.atPlain hx rfl
  revert h1;generalize ax.ev p=y;intro h1;cases h1
  rename_i i hm;split at h
  ·rename_i ver cs e hob;obtain ⟨i',vs,k1,k2,k3⟩:=r.objOf hob;rw [hm] at k1;cases k1;have hw:w (.obj k)=some i:=(r.wobj k).trans hm;have hk:k<σ.length:=by rw [<-r.len];exact (List.getElem?_eq_some_iff.1 hm).1
   split at h
   ·rename_i hb;simp only [Bool.and_eq_true] at hb;obtain ⟨⟨⟨⟨b1,b2⟩,b3⟩,b4⟩,b5⟩:=hb;rw [D4] at b3;have b3:=of_decide_eq_true b3;rw [<-J7 b1] at b3;cases h;cases ho:D1 (a.ev x) with
    |false=>
     obtain ⟨q1,q2⟩:=B17 b4 ho;have hl:=(r.plain q1).cells q2;have hlen:=hl.length;have hones:=hl.ones b2;simp only [hlen,b1,hones,Bool.and_self,O7 k2 (show o+_<=vs.length by rw [hlen,k3.len];exact b3)];refine ⟨_,rfl,?_⟩;rw [A1h ho];exact A1X (r.storeObj hm k2 k3 hl b3).tick d rfl rfl (fun w2 h2=>U9 hw _ (fun p j e=>⟨p,J1 _ _ _ _ _ _ (h2 p j e)⟩))
    |true=>
     obtain ⟨t,rfl⟩:=Q4 ho;obtain ⟨j,h1,h2,h3,h4⟩:=r.takeTmp ho;obtain ⟨c1,c2,c3⟩:=h2.one;rw [c1] at b1 b3;simp only [c2,c1,b1,c3,Bool.and_self];have b3':o+[TV.dead].length<=cs.length:=b3;have hlt:o<cs.length:=b3';have hst:=O7 k2 (xs:=[ax.ev (.tmp t)]) (show o+_<=vs.length by rw [k3.len];exact b3')
     simp only [show [ax.ev (Operand.tmp t)].length=[a.ev (Operand.tmp t)].length from rfl,b1,hst,Bool.and_self];refine ⟨_,rfl,?_⟩;rw [A15 ho];have k3':=k3.mono (Mo.mv (.tmp t) (.hand 0)) (fun _ _ _=>rfl);have k3'':RCs s.get μ (Zo (mv w (.tmp t) (.hand 0)) Pr) (fun o=>mv w (.tmp t) (.hand 0) (.cell k o)) cs vs:=by
      grind [mv,C5]
     have st:=h3.storeObj (o:=o) hm k2 k3'' (l:=[.dead]) (l':=[ax.ev (.tmp t)]) (.cons (.dead _) .nil) b3';have hj:(mv w (.tmp t) (.hand 0)) (.hand 0)=some j:=(A1d w (by simp)).trans h1;have hji:j≠i:=by rintro rfl;have:=r.inj _ _ _ h1 hw;cases this
     have hwo:mv w (.tmp t) (.hand 0) (.obj k)=some i:=(C5 w (by simp) (by simp)).trans hw;have hlen:(putAt cs o [TV.dead]).length=cs.length:=A13 b3';have fl:=st.fillObj (k:=k) (o:=o) (h:=0) (j:=j) (tv:=a.ev (.tmp t)) (at_set hk _) (by rw [hlen];exact hlt) ((B6H _ _ _ _ _ _).trans hj) hm (by rw [M3,if_pos rfl])
      (v:=ax.ev (.tmp t)) (by rw [A66,List.getElem?_set_self (by rw [k3.len];exact hlt)])
      (h2.mono (h3.moSet hwo _ (fun p i e=>⟨p,J1 _ _ _ _ _ _ e⟩)) (by rw [M3,if_neg (fun h=>hji h.symm)]))
     rw [A7K cs hlt,List.set_set] at fl;refine A1X (p:=⟨undef,[(i,some ⟨ver+1,.cells (setList vs o [ax.ev (.tmp t)]) e false⟩)],s.next⟩) fl d rfl rfl (fun w2 h2=>U9 hw _ (fun p j e=> ?_));grind [G8,J1]
   ·cases h
  ·cases h
 case vpt t o ser=>
  have h1:=r.atAl hx rfl;split at h
  ·rename_i cs e hb;obtain ⟨hbx,i,ver,vs,k1,k2,k3,k4⟩:=r.boxOf hb;obtain ⟨i',k1',hy⟩:=h1.2 _ _ hbx;rw [k1] at k1';cases k1';rw [hy];split at h
   ·rename_i hb';simp only [Bool.and_eq_true] at hb';obtain ⟨⟨⟨b1,b2⟩,b3⟩,b4⟩:=hb';rw [D4] at b3;have b3:=of_decide_eq_true b3;rw [<-J7 b1] at b3;cases h;cases ho:D1 (a.ev x) with
    |false=>
     obtain ⟨q1,q2⟩:=B17 b4 ho;have hl:=(r.plain q1).cells q2;have hlen:=hl.length;have hones:=hl.ones b2;simp only [hlen,b1,hones,Bool.and_self,O7 k3 (show o+_<=vs.length by rw [hlen,k4.len];exact b3)];refine ⟨_,rfl,?_⟩;rw [A1h ho];exact A1X (r.storeBox hbx k1 k3 k4 hl b3).tick d rfl rfl (fun w2 h2=>U9 k1 _ (fun p j e=>⟨p,K3 _ _ _ _ _ _ (h2 p j e)⟩))
    |true=>
     obtain ⟨t2,rfl⟩:=Q4 ho;have htt:t2≠t:=by rintro rfl;rw [hbx] at ho;cases ho
     obtain ⟨j,h1,h2,h3,h4⟩:=r.takeTmp ho;obtain ⟨c1,c2,c3⟩:=h2.one;rw [c1] at b1 b3;simp only [c2,c1,b1,c3,Bool.and_self];have b3':o+[TV.dead].length<=cs.length:=b3;have hlt:o<cs.length:=b3';have hst:=O7 k3 (xs:=[ax.ev (.tmp t2)]) (show o+_<=vs.length by rw [k4.len];exact b3');simp only [show [ax.ev (Operand.tmp t2)].length=[a.ev (Operand.tmp t2)].length from rfl,b1,hst,Bool.and_self]
     refine ⟨_,rfl,?_⟩;rw [A15 ho];have hbx2:(TAct.mk (a.tm.set t2 .dead) a.df (a.clk+1)).ev (.tmp t)=.bx ser cs e:=by rw [U8 a _ _ _ htt];exact hbx
     have hwt:mv w (.tmp t2) (.hand 0) (.tmp t)=some i:=(C5 w (by simp;exact fun h=>htt h.symm) (by simp)).trans k1;have k4':=k4.mono (Mo.mv (.tmp t2) (.hand 0)) (fun _ _ _=>rfl);have k4'':RCs s.get μ (Zo (mv w (.tmp t2) (.hand 0)) Pr) (fun o=>mv w (.tmp t2) (.hand 0) (.tcell t o)) cs vs:=by
      grind [mv,C5]
     have st:=h3.storeBox (o:=o) hbx2 hwt k3 k4'' (l:=[.dead]) (l':=[ax.ev (.tmp t2)]) (.cons (.dead _) .nil) b3';have hj:(mv w (.tmp t2) (.hand 0)) (.hand 0)=some j:=(A1d w (by simp)).trans h1;have hji:j≠i:=by rintro rfl;have:=r.inj _ _ _ h1 k1;simp at this;exact htt this
     have hlen:(putAt cs o [TV.dead]).length=cs.length:=A13 b3';have fl:=st.fillBox (t:=t) (o:=o) (h:=0) (j:=j) (tv:=a.ev (.tmp t2)) (A1W (by rw [A1V,if_pos rfl])) (by rw [hlen];exact hlt) ((B6I _ _ _ _ _ _).trans hj) hwt (by rw [M3,if_pos rfl])
      (v:=ax.ev (.tmp t2)) (by rw [A66,List.getElem?_set_self (by rw [k4.len];exact hlt)])
      (h2.mono (h3.moSet hwt _ (fun p i e=>⟨p,K3 _ _ _ _ _ _ e⟩)) (by rw [M3,if_neg (fun h=>hji h.symm)]))
     rw [A7K cs hlt] at fl;refine A1X (p:=⟨undef,[(i,some ⟨ver+1,.cells (setList vs o [ax.ev (.tmp t2)]) e false⟩)],s.next⟩) (fl.ext (a':=(W1 ⟨a.tm.set t2 .dead,a.df,a.clk+1⟩ t ser (putAt cs o [a.ev (.tmp t2)]) e).tick) (fun t'=> ?_) rfl rfl) d rfl rfl (fun w2 h2=>U9 k1 _ (fun p j e=> ?_))
     ·rw [show ∀b:TAct,b.tick.ev (.tmp t')=b.ev (.tmp t') from fun _=>rfl,A1V,A1V];grind [A1V]
     grind [G8,K3]
   ·cases h
  ·cases h
 case vel pp c j o=>
  have h1:=r.atAl hx rfl;split at h
  ·rename_i hb0;simp only [Bool.and_eq_true] at hb0;split at h
   ·rename_i chs gv hp hgv;split at h
    ·rename_i ch hch;split at h
     ·rename_i hb;simp only [Bool.and_eq_true] at hb;obtain ⟨⟨⟨b1,b2⟩,b3⟩,b4⟩:=hb;rw [D4] at b3;have b3:=of_decide_eq_true b3;rw [<-J7 b1] at b3;cases h;obtain ⟨i,bb,n',cc,q1,q2⟩:=h1.2 (J7 hb0.1) chs ch hp hch;obtain ⟨w1,r1,hsub⟩:=r.frz1 x;have hgiv:RV s.get μ (Zo w1 Pr) gv (ax.ev x):=by
       obtain ⟨g1,g2⟩:=A1T hgv;exact r1.plainOf (by rw [A14,<-g1]) g2
      have hd:gv≠.dead:=by
       simp_all [give]<;>grind
      have hl:=hgiv.cells hd;have hlen:=hl.length;have hones:=hl.ones b2;have hp1:K6 (frz1 a x) σ pp=some chs:=by rw [B4f hb0.2];exact hp
      obtain ⟨e,sz,hpv⟩:=A9F hp1;obtain ⟨i2,v2,k1,k2,k3⟩:=r1.placeV hpv;have k3':A3w μ w ax s.get pp v2:=B8A hsub k3;have hv2:=A7E k3' q1;subst hv2;cases k2 with
      |mk m1 m2 m3 m4 m5 m6 m7=>
       rename_i ver vs;have hsz:=A4V m2 hch;have hjn:=(List.getElem?_eq_some_iff.1 hch).1;have hmul:j*sz+sz<=n'*sz:=by rw [<-Nat.succ_mul];exact Nat.mul_le_mul_right sz (by omega)
       have hst:=O7 m1 (o:=bb+j*ch.length+o) (xs:=(ax.ev x).cells.toList) (by rw [hlen,hsz];omega);rw [q2];simp only [hlen,b1,hones,Bool.and_self,hst];refine ⟨_,rfl,?_⟩;have hro:=RO.write (μ:=μ) (Z:=Zo w1 Pr) (.mk m1 m2 m3 m4 m5 m6 m7) hch hl b3 (r1.moOwn k1 (some ⟨ver+1,.cells (setList vs (bb+j*ch.length+o) (ax.ev x).cells.toList) e false⟩)) ⟨_,m1⟩ (by rw [M3,if_pos rfl])
       have hk1:∃q,w q=some i:=⟨_,hsub _ _ k1⟩;obtain ⟨q,hq⟩:=hk1;exact A1X (r1.writeOwn hpv k1 k3 hro) d rfl rfl (fun w2 h2=>U9 hq _ (fun p j e=>⟨p,hsub _ _ (h2 p j e)⟩))
     ·cases h
    ·cases h
   ·cases h
  ·cases h
end
end Go.Xt
