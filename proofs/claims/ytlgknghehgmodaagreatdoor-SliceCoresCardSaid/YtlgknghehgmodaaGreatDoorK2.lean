/-
  A part of the proof: it is imported by YtlgknghehgmodaaGreatDoorTop. Nothing here is a claim of its own.
-/
import Derived.Test.YtlgknghehgmodaaGreatDoorK1
import Derived.Orders
import Derived.Tactics
import Derived.LoopN
import Derived.Below
import Derived.ChangeAgain
import Derived.Lib.IndexMore
import Derived.Test.YtlgknghehgmodaaGreatDoorChecked
import Derived.KernelRfl
set_option linter.unusedVariables false
set_option linter.unusedSimpArgs false
set_option linter.unusedSectionVars false
set_option maxRecDepth 100000
namespace Go.Xe
section
open Go
def Dm (s:AS):Prop:=∀i,s.next<=i->s.get i=none
structure Evo (s s1:AS):Prop where
 next:s.next<=s1.next
 gone:∀k,k<s.next->s.get k=none->s1.get k=none
 ver:∀k o o1,s.get k=some o->s1.get k=some o1->o.ver<=o1.ver/\(o.ver=o1.ver->o1=o)
def Goes (s s1:AS):Prop:=Dm s->Dm s1/\Evo s s1
theorem Evo.refl (s:AS):Evo s s:=⟨Nat.le_refl _,fun _ _ h=>h,fun k o o1 h h1=>by rw [h] at h1;cases h1;exact ⟨Nat.le_refl _,fun _=>rfl⟩⟩
theorem Evo.trans {s s1 s2:AS} (d:Dm s) (a:Evo s s1) (b:Evo s1 s2):Evo s s2:=by
 refine ⟨Nat.le_trans a.next b.next,fun k hk h=>b.gone k (Nat.lt_of_lt_of_le hk a.next) (a.gone k hk h),fun k o o2 h h2=> ?_⟩;cases h1:s1.get k with
 |none=>
  by_cases hk:k<s1.next
  ·rw [b.gone k hk h1] at h2;cases h2
  ·have:=d k (by have:=a.next;omega);rw [this] at h;cases h
 |some o1=>
  obtain ⟨p,q⟩:=a.ver k o o1 h h1;obtain ⟨p',q'⟩:=b.ver k o1 o2 h1 h2;grind
theorem Goes.refl (s:AS):Goes s s:=fun d=>⟨d,Evo.refl s⟩
theorem Goes.trans {s s1 s2:AS} (a:Goes s s1) (b:Goes s1 s2):Goes s s2:=fun d=>
 have h:=a d;have k:=b h.1
 ⟨k.1,Evo.trans d h.2 k.2⟩
inductive Shp (g:Hp) (nx:Nat):PR->Prop
 |none (v:Value):Shp g nx ⟨v,[],nx⟩
 |wr (v:Value) (k ver:Nat) (b b':ABody):g k=some ⟨ver,b⟩->Shp g nx ⟨v,[(k,some ⟨ver+1,b'⟩)],nx⟩
 |new (v:Value) (o:AObj):Shp g nx ⟨v,[(nx,some o)],nx+1⟩
 |turn (v:Value) (k:Nat) (o:AObj):g k≠none->Shp g nx ⟨v,[(k,none),(nx,some o)],nx+1⟩
section
variable {g:Hp} {nx:Nat}
theorem A5o {a:Addr} {xs:List Value} {δ:List (Nat×Option AObj)} (h:F8 g a xs=some δ) (v:Value):Shp g nx ⟨v,δ,nx⟩:=by
 obtain ⟨i,o,ver,vs,e,rfl,hg,hle,rfl⟩:=Q1 h;exact .wr v i ver _ _ hg
theorem A75 {o:Option Value} {p:PR} (h:A3z nx o=some p):Shp g nx p:=by
 cases o with
 |none=>cases h
 |some v=>cases h;exact .none v
theorem B1U {a:Addr} {n:Nat} {l:List Value} (h:B8 g a n=some l):g a.block≠none:=by
 unfold B8 at h;grind
theorem A76 {e:TypeId} {s b:Nat} {x:Value} {n:Nat} {new:List Value} {p:PR} (h:I1 g nx e s b x n new=some p):Shp g nx p:=by
 unfold I1 at h;split at h
 ·split at h
  ·cases h;exact .none _
  ·split at h
   ·split at h
    ·split at h
     ·rename_i hl;split at h
      ·cases h;exact .turn _ _ _ (B1U hl)
      ·cases h
     ·cases h
    ·cases h
   ·split at h
    ·grind [A5o]
    ·split at h
     ·split at h
      ·cases h;exact .new _ _
      ·cases h
     ·cases h
 ·cases h
theorem A9f {ρ:Operand->Value} {xo:XOp} {p:PR} (h:B0 g nx ρ xo=some p):Shp g nx p:=by
 cases xo<;>simp only [B0] at h<;>try (cases h;done)
 case bin=>exact A75 h
 case un=>exact A75 h
 case slice=>exact A75 h
 case append=>
  grind [A76]
 case appendZ=>
  split at h
  ·grind [A76]
  ·cases h
 case store=>
  grind [A5o]
 case copy=>
  split at h
  ·split at h
   ·cases h;exact .none _
   grind [A5o]
  ·cases h
 case mapUpdate=>
  split at h
  ·split at h
   ·rename_i hg;split at h
    ·cases h;exact .wr _ _ _ _ _ hg
    ·cases h;exact .wr _ _ _ _ _ hg
    ·cases h
   ·cases h
  ·cases h
 all_goals (repeat' split at h)<;>first|(cases h;done)|(cases h;exact .none _)|(cases h;exact .new _ _)
theorem Hp.set1_same (g:Hp) (k:Nat) (o:Option AObj):Hp.set1 g k o k=o:=by simp [Hp.set1]
theorem Hp.set1_ne (g:Hp) {k j:Nat} (o:Option AObj) (h:k≠j):Hp.set1 g k o j=g j:=by simp [Hp.set1,h]
theorem A6D {s:AS} {δ:List (Nat×Option AObj)} {nx:Nat} (hnx:s.next<=nx) (h:Dm s->(∀i,nx<=i->Hp.upd s.get δ i=none)/\
  (∀k,k<s.next->s.get k=none->Hp.upd s.get δ k=none)/\∀k o o1,s.get k=some o->Hp.upd s.get δ k=some o1->o.ver<=o1.ver/\(o.ver=o1.ver->o1=o)):Goes s (s.upd δ nx):=by
 intro d;obtain ⟨h1,h2,h3⟩:=h d;refine ⟨fun i hi=> ?_,hnx,fun k hk e=> ?_,fun k o o1 e e1=> ?_⟩
 ·rw [AS.upd_get];exact h1 i hi
 ·simp_all [AS.upd_get]
 simp_all [AS.upd_get]<;>grind
theorem X7 {s:AS} {ρ:Operand->Value} {xo:XOp} {p:PR} (h:B0 s.get s.next ρ xo=some p):Goes s (s.upd p.δ p.nx):=by
 have hs:=A9f h;cases hs with
 |none v=>
  refine A6D (Nat.le_refl _) fun d=>⟨d,fun k _ e=>e,fun k o o1 e e1=> ?_⟩
  simp_all [Hp.upd]
 |wr v k ver b b' hg=>
  have hlt:k<s.next->True:=fun _=>trivial
  refine A6D (Nat.le_refl _) fun d=>⟨fun i hi=> ?_,fun j hj e=> ?_,fun j o o1 e e1=> ?_⟩
  ·have hne:k≠i:=by rintro rfl;rw [d k hi] at hg;cases hg
   simp only [Hp.upd];rw [Hp.set1_ne _ _ hne];exact d i hi
  ·have hne:k≠j:=by rintro rfl;rw [e] at hg;cases hg
   simp_all [Hp.upd,Hp.set1_ne]
  ·simp only [Hp.upd] at e1;grind [Hp.set1_same,Hp.set1_ne]
 |new v o=>
  refine A6D (Nat.le_succ _) fun d=>⟨fun i hi=> ?_,fun j hj e=> ?_,fun j o o1 e e1=> ?_⟩
  ·have hi:s.next+1<=i:=hi;simp only [Hp.upd];rw [Hp.set1_ne _ _ (by omega)];exact d i (by omega)
  ·simp only [Hp.upd];rw [Hp.set1_ne _ _ (by omega)];exact e
  ·simp only [Hp.upd] at e1;have hne:s.next≠j:=by rintro rfl;rw [d _ (Nat.le_refl _)] at e;cases e
   grind [Hp.set1_ne]
 |turn v k o hk=>
  refine A6D (Nat.le_succ _) fun d=>⟨fun i hi=> ?_,fun j hj e=> ?_,fun j o o1 e e1=> ?_⟩
  ·have hi:s.next+1<=i:=hi;have hne:k≠i:=by rintro rfl;exact hk (d k (by omega))
   simp only [Hp.upd];rw [Hp.set1_ne _ _ (by omega),Hp.set1_ne _ _ hne];exact d i (by omega)
  ·simp only [Hp.upd];rw [Hp.set1_ne _ _ (by omega)];grind [Hp.set1_same,Hp.set1_ne]
  ·simp only [Hp.upd] at e1;have hne:s.next≠j:=by rintro rfl;rw [d _ (Nat.le_refl _)] at e;cases e
   grind [Hp.set1_ne,Hp.set1_same]
end
def A0d (C:Callee):Prop:=∀f args s e s',C f args s=some (e,s')->Goes s s'
section
variable {C:Callee} (hC:A0d C)
include hC
theorem N1:∀(l:List XOper) (a:Act) (s:AS) (e:Ex) (a1:Act) (s1:AS),A0g C l a s=some (e,a1,s1)->Goes s s1
 |[],a,s,e,a1,s1,h=>by simp only [A0g] at h;cases h;exact Goes.refl s
 |o::r,a,s,e,a1,s1,h=>by
  unfold A0g at h;split at h
  ·exact N1 r _ _ _ _ _ h
  ·split at h
   ·split at h
    ·rename_i hc;exact (hC _ _ _ _ _ hc).trans (N1 r _ _ _ _ _ h)
    ·rename_i hc;cases h;exact hC _ _ _ _ _ hc
    ·cases h
   ·split at h
    ·split at h
     ·rename_i hc;exact (hC _ _ _ _ _ hc).trans (N1 r _ _ _ _ _ h)
     ·rename_i hc;cases h;exact hC _ _ _ _ _ hc
     ·cases h
    ·cases h
   ·grind [Goes.refl]
   ·split at h
    ·exact N1 r _ _ _ _ _ h
    ·cases h
   ·split at h
    ·rename_i hp;exact (X7 hp).trans (N1 r _ _ _ _ _ h)
    ·cases h
theorem A0h:∀(l:List XOper) (a:Act) (s:AS) (rs:List Rec) (a1:Act) (s1:AS) (rs1:List Rec),Z8 C l a s rs=some (a1,s1,rs1)->Goes s s1
 |[],a,s,rs,a1,s1,rs1,h=>by simp only [Z8] at h;cases h;exact Goes.refl s
 |o::r,a,s,rs,a1,s1,rs1,h=>by
  unfold Z8 at h;split at h
  ·exact A0h r _ _ _ _ _ _ h
  ·split at h
   ·split at h
    ·rename_i hc;exact (hC _ _ _ _ _ hc).trans (A0h r _ _ _ _ _ _ h)
    ·cases h
   ·split at h
    ·split at h
     ·rename_i hc;exact (hC _ _ _ _ _ hc).trans (A0h r _ _ _ _ _ _ h)
     ·cases h
    ·cases h
   ·split at h
    ·rename_i hp;exact (X7 hp).trans (A0h r _ _ _ _ _ _ h)
    ·cases h
theorem A3W {body:Act->AS->Option (Ex×Act×AS)} (hb:∀a s e a1 s1,body a s=some (e,a1,s1)->Goes s s1):∀(n:Nat) (a:Act) (s:AS) (e:Ex) (a1:Act) (s1:AS),A2u body n a s=some (e,a1,s1)->Goes s s1
 |0,a,s,e,a1,s1,h=>by simp only [A2u] at h;cases h
 |n+1,a,s,e,a1,s1,h=>by
  simp only [A2u] at h;split at h
  ·rename_i h2;exact (hb _ _ _ _ _ h2).trans (A3W hb n _ _ _ _ _ h)
  ·exact hb _ _ _ _ _ h
theorem E5 (n:Nat):∀(c:XCode) (a:Act) (s:AS) (e:Ex) (a1:Act) (s1:AS),G1 C n c a s=some (e,a1,s1)->Goes s s1
 |.skip,a,s,e,a1,s1,h=>by simp only [G1] at h;cases h;exact Goes.refl s
 |.region ops,a,s,e,a1,s1,h=>N1 hC ops _ _ _ _ _ (by simpa only [G1] using h)
 |.regionD ops ps,a,s,e,a1,s1,h=>by
  grind [G1,A0h]
 |.seq x y,a,s,e,a1,s1,h=>by
  simp only [G1] at h;split at h
  ·rename_i h2;exact (E5 n x _ _ _ _ _ h2).trans (E5 n y _ _ _ _ _ h)
  ·exact E5 n x _ _ _ _ _ h
 |.cond c x y,a,s,e,a1,s1,h=>by
  simp only [G1] at h;split at h
  ·exact E5 n x _ _ _ _ _ h
  ·exact E5 n y _ _ _ _ _ h
  ·cases h
 |.block id c,a,s,e,a1,s1,h=>by
  simp only [G1] at h;split at h
  ·rename_i h2;split at h
   ·cases h;exact E5 n c _ _ _ _ _ h2
   ·cases h;exact E5 n c _ _ _ _ _ h2
  ·exact E5 n c _ _ _ _ _ h
 |.loop c,a,s,e,a1,s1,h=>A3W hC (fun a s e a1 s1 h=>E5 n c a s e a1 s1 h) n _ _ _ _ _ (by simpa only [G1] using h)
 |.exit id,a,s,e,a1,s1,h=>by simp only [G1] at h;cases h;exact Goes.refl s
 |.ret,a,s,e,a1,s1,h=>by simp only [G1] at h;cases h;exact Goes.refl s
theorem A0i:∀(l:List XOper) (a:Act) (s:AS) (m:Mode) (e:Ex) (a1:Act) (s1:AS) (m1:Mode),xopsR C l a s m=some (e,a1,s1,m1)->Goes s s1
 |[],a,s,m,e,a1,s1,m1,h=>by simp only [xopsR] at h;cases h;exact Goes.refl s
 |o::r,a,s,m,e,a1,s1,m1,h=>by
  unfold xopsR at h;split at h
  ·exact A0i r _ _ _ _ _ _ _ h
  ·split at h
   ·split at h
    ·exact A0i r _ _ _ _ _ _ _ h
    ·exact A0i r _ _ _ _ _ _ _ h
   ·split at h
    ·rename_i h2;exact (N1 hC _ _ _ _ _ _ h2).trans (A0i r _ _ _ _ _ _ _ h)
    ·grind [N1]
    ·cases h
theorem I8 (n:Nat):∀(c:XCode) (a:Act) (s:AS) (m:Mode) (e:Ex) (a1:Act) (s1:AS) (m1:Mode),xcodeR C n c a s m=some (e,a1,s1,m1)->Goes s s1
 |.region ops,a,s,m,e,a1,s1,m1,h=>A0i hC ops _ _ _ _ _ _ _ (by simpa only [xcodeR] using h)
 |.seq x y,a,s,m,e,a1,s1,m1,h=>by
  simp only [xcodeR] at h;split at h
  ·rename_i h2;exact (I8 n x _ _ _ _ _ _ _ h2).trans (I8 n y _ _ _ _ _ _ _ h)
  ·exact I8 n x _ _ _ _ _ _ _ h
 |.cond c x y,a,s,m,e,a1,s1,m1,h=>by
  simp only [xcodeR] at h;split at h
  ·exact I8 n x _ _ _ _ _ _ _ h
  ·exact I8 n y _ _ _ _ _ _ _ h
  ·cases h
 |.block id c,a,s,m,e,a1,s1,m1,h=>by
  simp only [xcodeR] at h;split at h
  ·rename_i h2;split at h
   ·cases h;exact I8 n c _ _ _ _ _ _ _ h2
   ·cases h;exact I8 n c _ _ _ _ _ _ _ h2
  ·exact I8 n c _ _ _ _ _ _ _ h
 |.skip,a,s,m,e,a1,s1,m1,h=>by
  simp only [xcodeR] at h;split at h
  ·rename_i h2;cases h;exact E5 hC n _ _ _ _ _ _ h2
  ·cases h
 |.regionD ops ps,a,s,m,e,a1,s1,m1,h=>by
  simp only [xcodeR] at h;split at h
  ·rename_i h2;cases h;exact E5 hC n _ _ _ _ _ _ h2
  ·cases h
 |.loop c,a,s,m,e,a1,s1,m1,h=>by
  simp only [xcodeR] at h;split at h
  ·rename_i h2;cases h;exact E5 hC n _ _ _ _ _ _ h2
  ·cases h
 |.exit id,a,s,m,e,a1,s1,m1,h=>by
  simp only [xcodeR] at h;split at h
  ·rename_i h2;cases h;exact E5 hC n _ _ _ _ _ _ h2
  ·cases h
 |.ret,a,s,m,e,a1,s1,m1,h=>by
  simp only [xcodeR] at h;split at h
  ·rename_i h2;cases h;exact E5 hC n _ _ _ _ _ _ h2
  ·cases h
theorem L0 (F:FuncId->Option XFun) (n:Nat):∀(l:List Dfr) (s:AS) (m:Mode) (s1:AS) (m1:Mode),J0 C F n l s m=some (s1,m1)->Goes s s1
 |[],s,m,s1,m1,h=>by simp only [J0] at h;cases h;exact Goes.refl s
 |d::r,s,m,s1,m1,h=>by
  simp only [J0] at h;split at h
  ·split at h
   ·rename_i h2;split at h
    ·exact (I8 hC n _ _ _ _ _ _ _ _ h2).trans (L0 F n r _ _ _ _ h)
    ·exact (I8 hC n _ _ _ _ _ _ _ _ h2).trans (L0 F n r _ _ _ _ h)
    ·cases h
   ·cases h
  ·cases h
end
theorem R4 {a:Act} {fn:XFun} {s:AS} {m:Mode} {e:End} {s1:AS} (h:O3 a fn s m=some (e,s1)):s1=s:=by
 unfold O3 at h;grind
theorem A5p:∀zs,ones (P6 zs)=true
 |[]=>rfl
 |z::zs=>by simp only [P6,List.map_cons,ones];exact A5p zs
theorem B6m {mk:Mk} {args:List Value} {s:AS} {e:End} {s1:AS} (h:B3P mk args s=some (e,s1)):Goes s s1:=by
 unfold B3P at h;split at h
 ·split at h
  ·grind [Goes.refl]
  ·rename_i a _;split at h
   ·rename_i l hl;split at h
    ·rename_i zs hz _;split at h
     ·rename_i δ hδ;cases h;have hx:B0 s.get s.next (fun o=>match o with|.tmp 0=>.pointer (some a)|_=>.agg (P6 (A0b mk zs)).toArray) (.store (P6 (A0b mk zs)).length (.tmp 0) (.tmp 1))=some ⟨undef,δ,s.next⟩:=by
       simp only [B0,Value.cells,D8,decide_true,A5p,Bool.and_self,hδ]
      exact X7 hx
     ·cases h
    ·cases h
   ·cases h
  ·cases h
 ·cases h
theorem B6n {v:Value} {args:List Value} {s:AS} {e:End} {s1:AS} (h:A8P v args s=some (e,s1)):Goes s s1:=by
 grind [A8P,B6m,Goes.refl]
theorem A77 (F:FuncId->Option XFun) (O:FuncId->List Value->Option Value):∀n,A0d (P4 F O n)
 |0=>fun f args s e s1 h=>by simp only [P4] at h;cases h
 |n+1=>fun f args s e s1 h=>by
  have hC:=A77 F O n;simp only [P4] at h;split at h
  ·split at h
   ·rename_i h2;split at h
    ·rename_i h3;rw [R4 h];exact (E5 hC n _ _ _ _ _ _ h2).trans (L0 hC F n _ _ _ _ _ h3)
    ·cases h
   ·rename_i h2;split at h
    ·rename_i h3;rw [R4 h];exact (E5 hC n _ _ _ _ _ _ h2).trans (L0 hC F n _ _ _ _ _ h3)
    ·cases h
   ·rename_i h2;split at h
    ·rename_i h3;rw [R4 h];exact (E5 hC n _ _ _ _ _ _ h2).trans (L0 hC F n _ _ _ _ _ h3)
    ·cases h
   ·cases h
  grind [B6n]
structure Glb where
 is:Nat->Bool
 good:World->Nat->Prop
section
variable (P:Program) (gl:Glb) (nt:Nat)
def A78:Operand->Bool
 |.const v=>plainV v
 |.global g=>gl.is g
 |_=>true
def U5 (ops:Array Oper):Option (Nat×Bool)->Option (Option (Nat×Bool))
 |none=>some none
 |some (j,b)=>match (ops[j]?).bind (·.dst) with
  |some t=>some (some (t,b))
  |none=>none
def B1V:Option Nat->Bool
 |some d=>Nat.blt d nt
 |none=>true
def A0j:XOp->Bool
 |.call _ _|.callV _ _|.panic _|.defer _ _|.recover=>false
 |_=>true
def U6:Op->Option XOp
 |.panic x=>some (.panic x)
 |.call c=>match c.callee with
  |.value (.func f)=>some (.call f c.args.toList)
  |.value x=>some (.callV x c.args.toList)
  |.builtin .recover=>match c.args.toList with
   |[]=>some .recover
   |_=>none
  |_=>none
 |.defer c=>match c.callee with
  |.value x=>some (.defer x c.args.toList)
  |_=>none
 |_=>none
def A9g (op:Op):Option XOp:=
 match U6 op with
 |some x=>some x
 |none=>match F4 P op with
  |some x=>match A0j x with
   |true=>some x
   |false=>none
  |none=>none
def W8 (ops:Array Oper) (o:Oper):Option XOper:=
 match A9g P o.op,U5 ops o.guard with
 |some x,some g=>match o.op.operands.toList.all (A78 gl)&&B1V nt o.dst with
  |true=>some ⟨o.dst,x,g⟩
  |false=>none
 |_,_=>none
def O0 (ops:Array Oper):List Oper->Option (List XOper)
 |[]=>some []
 |o::r=>match W8 P gl nt ops o,O0 ops r with
  |some x,some l=>some (x::l)
  |_,_=>none
end
def A00 (P : Program) (f : FuncId) : Prop := ∃ fn, P.funcs[f]? = some fn /\ fn.name ≠ "runtime.NumGoroutine" /\ fn.body.isSome = true
section
variable (P:Program) (gl:Glb) (W0:World) (N0:Nat)
structure Inv (φ:Loc) (s:AS) (w:World):Prop where
 rel:Rel W0 N0 φ s.get w
 dm:Dm s
 glob:∀i,gl.is i=true->∃t,φ i=some (i,0,t)
 good:gl.good W0 N0
def DfRel (φ:Loc):List Dfr->List Deferred->Prop
 |[],[]=>True
 |d::l,d'::l'=>(∃cap,d'.target=.fn (.func d.f) cap/\VRels φ d.args (d'.args++cap).toList)/\DfRel φ l l'
 |_,_=>False
structure TRel (nt:Nat) (φ:Loc) (a:Act) (a':Go.Act):Prop where
 size:nt<=a'.tmps.size
 tm:∀t,VRel φ (a.ev (.tmp t)) (a'.eval (.tmp t))
 df:DfRel φ a.df a'.defers
def C0t (φ:Loc):End->Ending->Prop
 |.ret v,E=>∃v',E=.returned v'/\VRel φ v v'
 |.panic v,E=>∃v',E=.panicked [{ v:=v',recovered:=false }]/\VRel φ v v'
def exQ (Q:Exit->Go.Act->World->Prop) (φ:Loc):Ex->Go.Act->World->Prop
 |.normal,a,w=>Q .normal a w
 |.exit id,a,w=>Q (.exit id) a w
 |.ret,a,w=>Q .ret a w
 |.panic v,a,w=>∀v',VRel φ v v'->Q (.panic [{ v:=v',recovered:=false }]) a w
def Fr (φ:Loc) (lo hi:Nat):Prop:=∀i,lo<=i->i<hi->φ i=none
def Aft (nt:Nat) (φ:Loc) (s:AS) (w:World) (e:Ex) (a1:Act) (s1:AS) (Q:Exit->Go.Act->World->Prop):Prop:=
 ∀ψ a' w',TRel nt ψ a1 a'->Inv gl W0 N0 ψ s1 w'->Stp φ s.get w ψ s1.get w' s.next s1.next->exQ Q ψ e a' w'
def COk (C:Callee):Prop:=∀f args s e s',C f args s=some (e,s')->A00 P f/\
 ∀(W0:World) (N0:Nat) (φ:Loc) (w:World) (args':List Value),Inv gl W0 N0 φ s w->Fr φ s.next s'.next->VRels φ args args'->
  Calls P f args'.toArray w fun E w'=>∃ψ,C0t ψ e E/\Inv gl W0 N0 ψ s' w'/\Stp φ s.get w ψ s'.get w' s.next s'.next
end
theorem DfRel.mono {φ ψ:Loc} (h:φ.le ψ):∀{l:List Dfr} {l':List Deferred},DfRel φ l l'->DfRel ψ l l'
 |[],[],_=>trivial
 |_::_,_::_,⟨⟨cap,e,v⟩,r⟩=>⟨⟨cap,e,v.mono h⟩,r.mono h⟩
 |[],_::_,h=>h.elim
 |_::_,[],h=>h.elim
theorem TRel.mono {nt:Nat} {φ ψ:Loc} (h:φ.le ψ) {a:Act} {a':Go.Act} (r:TRel nt φ a a'):TRel nt ψ a a':=
 ⟨r.size,fun t=>(r.tm t).mono h,r.df.mono h⟩
theorem Act.ev_put_same (a:Act) (d:Nat) (v:Value):(a.put (some d) v).ev (.tmp d)=v:=by
 simp only [Act.put,Act.ev,Tri.get_set_same]
theorem Act.ev_put_ne (a:Act) {d t:Nat} (v:Value) (h:d≠t):(a.put (some d) v).ev (.tmp t)=a.ev (.tmp t):=by
 simp only [Act.put,Act.ev,Tri.get_set_ne _ _ h]
theorem A3B (a:Go.Act) {d:Nat} (v:Value) (h:d<a.tmps.size):(a.put (some d) v).eval (.tmp d)=v:=by
 simp [Go.Act.put,Go.Act.eval,h]
theorem A2J (a:Go.Act) {d t:Nat} (v:Value) (h:d≠t):(a.put (some d) v).eval (.tmp t)=a.eval (.tmp t):=by
 simp [Go.Act.put,Go.Act.eval,Array.getElem?_setIfInBounds_ne h]
theorem TRel.put {nt:Nat} {φ:Loc} {a:Act} {a':Go.Act} (r:TRel nt φ a a') {d:Option Nat} (hd:B1V nt d=true) {v v':Value} (hv:VRel φ v v'):TRel nt φ (a.put d v) (a'.put d v'):=by
 cases d with
 |none=>exact r
 |some d=>
  have hlt:d<nt:=by simpa [B1V,G6] using hd
  refine ⟨by simpa [Go.Act.put] using r.size,fun t=> ?_,r.df⟩
  by_cases ht:d=t
  ·subst ht;rw [Act.ev_put_same,A3B _ _ (Nat.lt_of_lt_of_le hlt r.size)];exact hv
  ·rw [Act.ev_put_ne _ _ ht,A2J _ _ ht];exact r.tm t
section
variable {P:Program} {gl:Glb} {W0:World} {N0:Nat} {nt:Nat} {φ:Loc}
theorem TRel.eval {s:AS} {w:World} (i:Inv gl W0 N0 φ s w) {a:Act} {a':Go.Act} (r:TRel nt φ a a') {x:Operand} (h:A78 gl x=true):VRel φ (a.ev x) (a'.eval x):=by
 cases x with
 |tmp t=>exact r.tm t
 |const v=>exact VRel.plain φ v h
 |global g=>
  obtain ⟨t,ht⟩:=i.glob g h;have:=VRel.ptr (o:=0) ht;exact this
 |func f=>exact .func _ .nil .nil
theorem Inv.step {s:AS} {w:World} (i:Inv gl W0 N0 φ s w) {ψ:Loc} {s1:AS} {w1:World} (r:Rel W0 N0 ψ s1.get w1) (st:Stp φ s.get w ψ s1.get w1 s.next s1.next) (hg:Goes s s1):Inv gl W0 N0 ψ s1 w1:=
 ⟨r,(hg i.dm).1,fun j hj=>by obtain ⟨t,ht⟩:=i.glob j hj;exact ⟨t,st.le _ _ ht⟩,i.good⟩
theorem Fr.step {s:AS} {w:World} {ψ:Loc} {s1:AS} {w1:World} {hi:Nat} (h:Fr φ s.next hi) (st:Stp φ s.get w ψ s1.get w1 s.next s1.next) (hn:s.next<=s1.next):Fr ψ s1.next hi:=
 fun i h1 h2=>by rw [st.out i (by omega)];exact h i (by omega) h2
theorem Fr.le {lo hi hi':Nat} (h:Fr φ lo hi) (h':hi'<=hi):Fr φ lo hi':=fun i h1 h2=>h i h1 (by omega)
theorem A5q {ops:Array Oper} {o:Oper} {g:Option (Nat×Bool)} (hg:U5 ops o.guard=some g) {a:Act} {a':Go.Act} (r:TRel nt φ a a'):Region.wanted o (yielded ops a'.tmps)=J4 a g:=by
 unfold Region.wanted;cases ho:o.guard with
 |none=>rw [ho] at hg;simp only [U5] at hg;cases hg;rfl
 |some jb=>
  obtain ⟨j,b⟩:=jb;rw [ho] at hg;simp only [U5] at hg;cases ht:(ops[j]?).bind (·.dst) with
  |none=>rw [ht] at hg;cases hg
  |some t=>
   rw [ht] at hg;cases hg;simp only [yielded,J4,ht,Option.bind_some];have h1:=r.tm t;simp only [Act.ev,Go.Act.eval] at h1
   by_cases hlt:t<a'.tmps.size
   ·have e1:a'.tmps[t]? =some a'.tmps[t]:=by simp [hlt]
    have e2:a'.tmps.getD t undef=a'.tmps[t]:=by simp [hlt]
    rw [e2] at h1;rw [e1];generalize a'.tmps[t]=u at h1;cases hq:a.tm.get t with
    |none=>
     rw [hq] at h1;simp only at h1;unfold undef at h1;cases h1;simp
    |some v=>
     rw [hq] at h1;simp only at h1;cases h1<;>simp
   ·have e1:a'.tmps[t]? =none:=Array.getElem?_eq_none (Nat.le_of_not_lt hlt);have e2:a'.tmps.getD t undef=undef:=by simp [hlt]
    rw [e2] at h1;rw [e1];cases hq:a.tm.get t with
    |none=>rfl
    |some v=>
     rw [hq] at h1;simp only at h1;cases v<;>first|rfl|(unfold undef at h1;cases h1;done)
theorem A4v {f:FuncId} (h:A00 P f) (args:Array Value) (w:World):(callFunc f args).run P w=.ok (.enter f args) w:=by
 obtain ⟨fn,h1,h2,h3⟩:=h;have h4:fn.body.isNone=false:=by cases hb:fn.body with|none=>rw [hb] at h3;cases h3|some c=>rfl
 have h5 : (fn.name == "runtime.NumGoroutine") = false := by simpa using h2
 simp only [callFunc,Sem.run_bind,run_program,Result.andThen_ok,h1,h5,Bool.false_eq_true,if_false,h4,Sem.run_pure]
theorem A3a {v v':Value} (h:VRel φ v v') {args args':List Value} (ha:VRels φ args args') {f:FuncId} {l:List Value} (ht:target v args=some (f,l)):
  ∃first cap:Array Value,v'=.func (.func f) first cap/\VRels φ l (first.toList++args'++cap.toList):=by
 unfold target at ht;split at ht
 ·cases ht;cases h with
  |func _ h1 h2=>exact ⟨_,_,rfl,(h1.append ha).append h2⟩
 ·cases ht
theorem L5 {o:Oper} {ops:Array Oper} {xo:XOper} (hc:W8 P gl nt ops o=some xo):
  A9g P o.op=some xo.op/\U5 ops o.guard=some xo.guard/\xo.dst=o.dst/\(∀x∈o.op.operands.toList,A78 gl x=true)/\B1V nt o.dst=true:=by
 grind [W8]
theorem A79 {op:Op} {x:XOp} (h:A9g P op=some x) (hp:A0j x=true):F4 P op=some x:=by
 simp_all [A9g,U6,A0j]<;>grind
theorem L3 {op:Op} {x:XOp} (h:A9g P op=some x) (hp:A0j x=false):U6 op=some x:=by
 grind [A9g]
theorem A4w {op:Op} {f:FuncId} {args:List Operand} (h:U6 op=some (.call f args)):∃c,op=.call c/\c.callee=.value (.func f)/\c.args.toList=args:=by
 unfold U6 at h;grind
theorem A3C {op:Op} {x:Operand} {args:List Operand} (h:U6 op=some (.callV x args)):∃c,op=.call c/\c.callee=.value x/\c.args.toList=args:=by
 unfold U6 at h;grind
theorem A3D {op:Op} {x:Operand} {args:List Operand} (h:U6 op=some (.defer x args)):∃c,op=.defer c/\c.callee=.value x/\c.args.toList=args:=by
 unfold U6 at h;grind
theorem A3E {op:Op} {x:Operand} (h:U6 op=some (.panic x)):op=.panic x:=by
 unfold U6 at h;grind
theorem A6z {op:Op} (h:U6 op=some .recover):∃c,op=.call c/\c.callee=.builtin .recover/\c.args=#[]:=by
 unfold U6 at h;grind
theorem B5a {o:Oper} {ops:Array Oper} {xo:XOper} (hc:W8 P gl nt ops o=some xo) (hprim:A0j xo.op=true) {a:Act} {a':Go.Act} {s:AS} {w:World} (i:Inv gl W0 N0 φ s w) (r:TRel nt φ a a') {p:PR} (hp:B0 s.get s.next a.ev xo.op=some p) (hf:Fr φ s.next p.nx):
  ∃ψ w' v',((execOp a'.eval o).run P w=.ok (.value v') w'\/((execOp a'.eval o).run P w=.ok .skip w'/\v'=undef))/\TRel nt ψ (a.put xo.dst p.v) (a'.put o.dst v')/\Inv gl W0 N0 ψ (s.upd p.δ p.nx) w'/\
   Stp φ s.get w ψ (s.upd p.δ p.nx).get w' s.next (s.upd p.δ p.nx).next:=by
 obtain ⟨hx,hg,hd,hok,hdst⟩:=L5 hc;obtain ⟨ψ,w',v',hrun,hv,hr,hst⟩:=A74 o.op o rfl (A79 hx hprim) (ρ':=a'.eval) (fun x hx=>r.eval i (hok x hx)) hp i.rel (fun h=>hf _ (Nat.le_refl _) h) (fun _=>i.dm _ (Nat.le_refl _));rw [<-AS.upd_get s p.δ p.nx] at hr hst;rw [hd];exact ⟨ψ,w',v',hrun,(r.mono hst.le).put hdst hv,i.step hr hst (X7 hp),hst⟩
theorem A4x {o:Oper} {c:Call} (ho:o.op=.call c) {x:Operand} (hc:c.callee=.value x) {ρ:Operand->Value} {f:FuncId} {first cap:Array Value} (hx:ρ x=.func (.func f) first cap) (hf:A00 P f) (w:World):
  (execOp ρ o).run P w=.ok (.enter f (first.toList++c.args.toList.map ρ++cap.toList).toArray) w:=by
 simp only [execOp,ho,resolve,hc,Deferred.ofValue,hx,Sem.run_bind,Sem.run_pure,Result.andThen_ok,invoke,A4v hf];simp_all
theorem A9h {o:Oper} {c:Call} (ho:o.op=.defer c) {x:Operand} (hc:c.callee=.value x) {ρ:Operand->Value} {f:FuncId} {first cap:Array Value} (hx:ρ x=.func (.func f) first cap) (w:World):
  (execOp ρ o).run P w=.ok (.defer { target:=.fn (.func f) cap,args:=first++c.args.map ρ }) w:=by
 simp only [execOp,ho,resolve,hc,Deferred.ofValue,hx,Sem.run_bind,Sem.run_pure,Result.andThen_ok]
theorem Oper.wp_value {o:Oper} {a':Go.Act} {w w':World} {v':Value} {next:Go.Act->World->Prop} {Q:Exit->Go.Act->World->Prop}
  (h:(execOp a'.eval o).run P w=.ok (.value v') w'\/((execOp a'.eval o).run P w=.ok .skip w'/\v'=undef)) (hn:next (a'.put o.dst v') w'):o.wp P a' w next Q:=by
 unfold Go.Oper.wp;rcases h with h|⟨h,rfl⟩
 ·rw [h];exact hn
 ·rw [h];exact hn
theorem VRels.of_ops {a:Act} {a':Go.Act} {s:AS} {w:World} (i:Inv gl W0 N0 φ s w) (r:TRel nt φ a a') {l:List Operand} (h:∀x∈l,A78 gl x=true):VRels φ (l.map a.ev) (l.map a'.eval):=
 VRels.of_map fun x hx=>r.eval i (h x hx)
theorem Aft.step {e:Ex} {a1:Act} {s s1 s2:AS} {w w1:World} {ψ:Loc} {Q:Exit->Go.Act->World->Prop} (h:Aft gl W0 N0 nt φ s w e a1 s2 Q) (st:Stp φ s.get w ψ s1.get w1 s.next s1.next) (h1:s.next<=s1.next) (h2:s1.next<=s2.next):
  Aft gl W0 N0 nt ψ s1 w1 e a1 s2 Q:=
 fun χ a' w' ht hi hs=>h χ a' w' ht hi (st.trans hs h1 h2)
theorem A1s {C:Callee} (hC:COk P gl C) (hG:A0d C) {o:Oper} {xo:XOper} {ops:Array Oper} (hcm:W8 P gl nt ops o=some xo) {a:Act} {a':Go.Act} {s:AS} {w:World} (i:Inv gl W0 N0 φ s w) (r:TRel nt φ a a')
  {f:FuncId} {l:List Value} (hcall:(∃args,xo.op=.call f args/\l=args.map a.ev)\/(∃x args,xo.op=.callV x args/\target (a.ev x) (args.map a.ev)=some (f,l)))
  {e:End} {s':AS} (h:C f l s=some (e,s')) (hf:Fr φ s.next s'.next) {next:Go.Act->World->Prop} {Q:Exit->Go.Act->World->Prop}
  (hret:∀v,e=.ret v->∀ψ v' w',VRel ψ v v'->Inv gl W0 N0 ψ s' w'->Stp φ s.get w ψ s'.get w' s.next s'.next->next (a'.put o.dst v') w')
  (hpan:∀v,e=.panic v->∀ψ v' w',VRel ψ v v'->Inv gl W0 N0 ψ s' w'->Stp φ s.get w ψ s'.get w' s.next s'.next->Q (.panic [{ v:=v',recovered:=false }]) a' w'):o.wp P a' w next Q:=by
 obtain ⟨hx,hg,hd,hok,hdst⟩:=L5 hcm;obtain ⟨hto,hcalls⟩:=hC f l s e s' h;have fin:∀l',VRels φ l l'->(execOp a'.eval o).run P w=.ok (.enter f l'.toArray) w->o.wp P a' w next Q:=by
  intro l' hl hrun;unfold Go.Oper.wp;rw [hrun];refine Calls.mono (hcalls W0 N0 φ w l' i hf hl) ?_;rintro E w' ⟨ψ,hE,hi',hs'⟩;cases e with
  |ret v=>
   obtain ⟨v',rfl,hv⟩:=hE;grind
  |panic v=>
   obtain ⟨v',rfl,hv⟩:=hE;grind
 rcases hcall with ⟨args,hop,rfl⟩|⟨x,args,hop,ht⟩
 ·rw [hop] at hx;obtain ⟨c,ho,hc,rfl⟩:=A4w (L3 hx rfl);have hvs:=VRels.of_ops i r (l:=c.args.toList) fun x hx=>hok x (by rw [ho];simp [Op.operands,Call.operands,hc];right;simpa using hx)
  refine fin _ hvs ?_;have:=A4x (P:=P) ho hc (ρ:=a'.eval) (first:=#[]) (cap:=#[]) rfl hto w
  simpa using this
 ·rw [hop] at hx;obtain ⟨c,ho,hc,rfl⟩:=A3C (L3 hx rfl);have hvs:=VRels.of_ops i r (l:=c.args.toList) fun x hx=>hok x (by rw [ho];simp [Op.operands,Call.operands,hc];right;simpa using hx)
  have hxv:=r.eval i (hok x (by rw [ho];simp [Op.operands,Call.operands,hc]));grind [A3a,A4x]
theorem B6o {C:Callee} (hC:COk P gl C) (hG:A0d C) {ops:Array Oper}:∀(l:List Oper) (xl:List XOper),O0 P gl nt ops l=some xl->
  ∀(φ:Loc) (a:Act) (s:AS) (e:Ex) (a1:Act) (s1:AS),A0g C xl a s=some (e,a1,s1)->∀(a':Go.Act) (w:World) (Q:Exit->Go.Act->World->Prop),
   TRel nt φ a a'->Inv gl W0 N0 φ s w->Fr φ s.next s1.next->Aft gl W0 N0 nt φ s w e a1 s1 Q->wpList P ops Q l a' w:=by
 intro l
 induction l with
 |nil=>
  intro xl hc φ a s e a1 s1 h a' w Q ht hi hfr haft;simp only [O0] at hc;cases hc;simp only [A0g] at h;cases h;exact haft φ a' w ht hi (Stp.refl _ _ _ _)
 |cons o l ih=>
  intro xl hc φ a s e a1 s1 h a' w Q ht hi hfr haft;simp only [O0] at hc;split at hc
  ·rename_i xo xl ho hl;cases hc;obtain ⟨hx,hg,hd,hok,hdst⟩:=L5 ho;unfold wpList;rw [A5q hg ht];unfold A0g at h;split at h
   ·rename_i hw;rw [hw];simp only [Bool.false_eq_true,if_false];rw [<-hd];rw [<-hd] at hdst;exact ih xl hl φ _ s e a1 s1 h _ w Q (ht.put hdst (VRel.undef φ)) hi hfr haft
   ·rename_i hw;rw [hw];simp only [if_true];left;rw [<-hd] at hdst;split at h
    ·rename_i f args hop;split at h
     ·rename_i v s2 hcall;have hn1:=(hG _ _ _ _ _ hcall hi.dm);have hn2:=(N1 hG _ _ _ _ _ _ h hn1.1).2.next;refine A1s hC hG ho hi ht (.inl ⟨args,hop,rfl⟩) hcall (hfr.le hn2) ?_ (fun v' h=>by cases h);rintro v2 hv2 ψ v' w' hv hi' hs';cases hv2;rw [<-hd];exact ih xl hl ψ _ _ e a1 s1 h _ w' Q ((ht.mono hs'.le).put hdst hv) hi' (hfr.step hs' hn1.2.next) (haft.step hs' hn1.2.next hn2)
     ·rename_i v s2 hcall;cases h;refine A1s hC hG ho hi ht (.inl ⟨args,hop,rfl⟩) hcall hfr (fun v' h=>by cases h) ?_;rintro v2 hv2 ψ v' w' hv hi' hs';cases hv2;exact haft ψ a' w' (ht.mono hs'.le) hi' hs' v' hv
     ·cases h
    ·rename_i x args hop;split at h
     ·rename_i f la htar;split at h
      ·rename_i v s2 hcall;have hn1:=(hG _ _ _ _ _ hcall hi.dm);have hn2:=(N1 hG _ _ _ _ _ _ h hn1.1).2.next;refine A1s hC hG ho hi ht (.inr ⟨x,args,hop,htar⟩) hcall (hfr.le hn2) ?_ (fun v' h=>by cases h);rintro v2 hv2 ψ v' w' hv hi' hs';cases hv2;rw [<-hd];exact ih xl hl ψ _ _ e a1 s1 h _ w' Q ((ht.mono hs'.le).put hdst hv) hi' (hfr.step hs' hn1.2.next) (haft.step hs' hn1.2.next hn2)
      ·rename_i v s2 hcall;cases h;refine A1s hC hG ho hi ht (.inr ⟨x,args,hop,htar⟩) hcall hfr (fun v' h=>by cases h) ?_;rintro v2 hv2 ψ v' w' hv hi' hs';cases hv2;exact haft ψ a' w' (ht.mono hs'.le) hi' hs' v' hv
      ·cases h
     ·cases h
    ·rename_i x hop;split at h
     ·rename_i t v hv;cases h;rw [hop] at hx;have hop2:=A3E (L3 hx rfl);have hxv:=ht.eval hi (hok x (by rw [hop2];simp [Op.operands]));rw [hv] at hxv;unfold Go.Oper.wp;cases hq:a'.eval x<;>rw [hq] at hxv<;>cases hxv
      rename_i v' hv';have:(execOp a'.eval o).run P w=.halt (.panic (.iface t v')) w:=by
       simp only [execOp,hop2,hq,Instr.panic];rfl
      rw [this];exact haft φ a' w ht hi (Stp.refl _ _ _ _) _ (.iface t hv')
     ·cases h
    ·rename_i x args hop;split at h
     ·rename_i f la htar;rw [hop] at hx;obtain ⟨c,hop2,hcc,rfl⟩:=A3D (L3 hx rfl);have hvs:=VRels.of_ops hi ht (l:=c.args.toList) fun x hx=>hok x (by rw [hop2];simp [Op.operands,Call.operands,hcc];right;simpa using hx)
      have hxv:=ht.eval hi (hok x (by rw [hop2];simp [Op.operands,Call.operands,hcc]));obtain ⟨first,cap,e1,e2⟩:=A3a hxv hvs htar;unfold Go.Oper.wp;rw [A9h hop2 hcc e1];rw [Go.Oper.upon_defer,<-hd]
      exact ih xl hl φ _ s e a1 s1 h _ w Q (TRel.put (a:=⟨a.tm,⟨f,la⟩::a.df⟩) (a':={ a' with defers:={ target:=.fn (.func f) cap,args:=first++c.args.map a'.eval }::a'.defers }) ⟨ht.size,ht.tm,⟨⟨cap,rfl,by simpa using e2⟩,ht.df⟩⟩ hdst (VRel.undef φ)) hi hfr haft
     ·cases h
    ·rename_i h1 h2 h3 h4;split at h
     ·rename_i p hp;have hpr:A0j xo.op=true:=by
       cases hq:xo.op<;>first|rfl|exact absurd hq (h1 _ _)|exact absurd hq (h2 _ _)|exact absurd hq (h3 _)|exact absurd hq (h4 _ _)|(rw [hq] at hp;simp only [B0] at hp;cases hp)
      obtain ⟨ψ,w',v',hrun,ht',hi',hs'⟩:=B5a ho hpr hi ht hp (hfr.le (N1 hG _ _ _ _ _ _ h (X7 hp hi.dm).1).2.next);refine Oper.wp_value hrun ?_;have hgo:=X7 hp hi.dm;exact ih xl hl ψ _ _ e a1 s1 h _ w' Q ht' hi' (hfr.step hs' hgo.2.next) (haft.step hs' hgo.2.next (N1 hG _ _ _ _ _ _ h hgo.1).2.next)
     ·cases h
  ·cases hc
end
section
open Classical
variable {K V:Type} (X:Nat->K->V) (W:Nat->K->Prop)
noncomputable def mix (S:Nat->Bool):Nat->K->V
 |0,k=>X 0 k
 |m+1,k=>if S m=true/\W m k then X (m+1) k else mix S m k
variable {X W}
theorem A7a {S:Nat->Bool} {k:K}:∀m,(∀j,j<m->¬W j k->X (j+1) k=X j k)->(∀j,j<m->S j=false->¬W j k)->mix X W S m k=X m k
 |0,_,_=>rfl
 |m+1,hf,h=>by
  simp only [mix];have ih:=A7a m (fun j hj=>hf j (by omega)) (fun j hj=>h j (by omega));grind
theorem B1W {S:Nat->Bool} {k:K} (i:Nat):∀m,i<=m->(∀j,i<=j->j<m->S j=true->¬W j k)->mix X W S m k=mix X W S i k
 |0,h,_=>by
  obtain rfl:i=0:=by omega
  rfl
 |m+1,h,hn=>by
  by_cases hi:i=m+1
  ·subst hi;rfl
  ·simp only [mix];rw [if_neg (fun e=>hn m (by omega) (by omega) e.1 e.2)];exact B1W i m (by omega) (fun j h1 h2=>hn j h1 (by omega))
theorem B1X {S:Nat->Bool} {k:K} {n i:Nat} (hi:i<n) (hf:∀j,j<n->¬W j k->X (j+1) k=X j k) (hS:S i=false) (h1:∀j,j<i->S j=false->¬W j k) (h2:∀j,i<j->j<n->S j=true->¬W j k):
  mix X W S n k=X i k:=by
 rw [B1W i n (by omega) (fun j a b c=>by
  by_cases e:j=i
  ·subst e;rw [hS] at c;cases c
  ·exact h2 j (by omega) b c)]
 grind [A7a]
def Y9 (S:Nat->Bool) (i:Nat):Nat->Bool:=fun j=>if j=i then true else S j
theorem B7N {S:Nat->Bool} {k:K} {i:Nat}:∀m,m<=i->mix X W (Y9 S i) m k=mix X W S m k
 |0,_=>rfl
 |m+1,h=>by
  simp only [mix];rw [B7N m (by omega)];have:Y9 S i m=S m:=by simp [Y9];omega
  rw [this]
theorem A7b {S:Nat->Bool} {k:K} {n i:Nat} (hi:i<n) (hS:S i=false) (h2:W i k->∀j,i<j->j<n->S j=true->¬W j k):
  mix X W (Y9 S i) n k=if W i k then X (i+1) k else mix X W S n k:=by
 have key:∀m,i<m->m<=n->mix X W (Y9 S i) m k=if W i k then X (i+1) k else mix X W S m k:=by
  intro m
  induction m with
  |zero=>intro h;omega
  |succ m ih=>
   intro h1 h3
   by_cases e:m=i
   ·subst e;simp only [mix];rw [B7N m (Nat.le_refl _)];have:Y9 S m m=true:=by simp [Y9]
    grind
   ·have hne:Y9 S i m=S m:=by simp [Y9,e]
    simp_all [mix]<;>grind
 grind
theorem A6E {S:Nat->Bool} {k:K} {n:Nat} (hf:∀j,j<n->¬W j k->X (j+1) k=X j k) (hS:∀j,j<n->S j=true):mix X W S n k=X n k:=
 A7a n hf (fun j hj h=>by rw [hS j hj] at h;cases h)
theorem A7c {S:Nat->Bool} {k:K}:∀n,(∀j,j<n->S j=false)->mix X W S n k=X 0 k
 |0,_=>rfl
 |n+1,h=>by
  simp only [mix];rw [if_neg (fun e=>by rw [h n (by omega)] at e;cases e.1)];exact A7c n (fun j hj=>h j (by omega))
end
def B7O:EqK->Bool
 |.agg ps=>ps.all fun p=>match p.2 with|.agg _=>false|_=>true
 |_=>true
def B1Y:XOp->Bool
 |.eq k _ _ _=>B7O k
 |.lookup k _ _ _ _=>match k with|.agg _=>false|_=>true
 |.mapUpdate k _ _ _=>match k with|.agg _=>false|_=>true
 |_=>true
section
variable {g g':Hp} {nx:Nat} {ρ:Operand->Value}
theorem A5r {b o:Nat} (h:g' b=g b):R0 g' b o=R0 g b o:=by simp only [R0,h]
theorem Q2 {a:Addr} {n:Nat} (h:g' a.block=g a.block):B8 g' a n=B8 g a n:=by
 simp_all [B8]<;>grind
theorem A0K {a:Addr} {xs:List Value} (h:g' a.block=g a.block):F8 g' a xs=F8 g a xs:=by
 simp_all [F8]<;>grind
theorem A19 {k:EqK} (hk:∀ps,k≠.agg ps) {x y:Value} (h1:∀i∈A2C k x,g' i=g i) (h2:∀i∈A2C k y,g' i=g i):xeq g' k x y=xeq g k x y:=by
 unfold xeq;grind [A2C,S4,A5r]
theorem A7d:∀(ps:List (Nat×EqK)) (xs ys:List Value),(∀p∈ps,∀q,p.2≠.agg q)->(∀i∈xs.flatMap S4,g' i=g i)->(∀i∈ys.flatMap S4,g' i=g i)->A6v g' ps xs ys=A6v g ps xs ys
 |[],_,_,_,_,_=>by simp only [A6v]
 |(j,k)::r,xs,ys,hp,h1,h2=>by
  simp only [A6v];cases hx:xs[j]? with
  |none=>rfl
  |some x=>
   cases hy:ys[j]? with
   |none=>rfl
   |some y=>
    have hxm:=List.mem_of_getElem? hx;have hym:=List.mem_of_getElem? hy
    have a1:∀i∈A2C k x,g' i=g i:=fun i hi=>h1 i (List.mem_flatMap.2 ⟨x,hxm,by
     unfold A2C at hi;split at hi
     ·exact hi
     ·exact absurd rfl (hp (j,_) (List.mem_cons_self) _)
     ·simp at hi⟩)
    have a2:∀i∈A2C k y,g' i=g i:=fun i hi=>h2 i (List.mem_flatMap.2 ⟨y,hym,by
     unfold A2C at hi;split at hi
     ·exact hi
     ·exact absurd rfl (hp (j,_) (List.mem_cons_self) _)
     ·simp at hi⟩)
    simp only;rw [A19 (hp (j,k) (by simp)) a1 a2,A7d r xs ys (fun p hp'=>hp p (by simp [hp'])) h1 h2]
theorem B6p {k:EqK} (hk:B7O k=true) {x y:Value} (h1:∀i∈A2C k x,g' i=g i) (h2:∀i∈A2C k y,g' i=g i):xeq g' k x y=xeq g k x y:=by
 cases k with
 |agg ps=>
  cases x<;>cases y<;>try (unfold xeq;rfl;done)
  rename_i xs ys;simp only [xeq];refine A7d ps _ _ (fun p hp q e=> ?_) h1 h2;grind [B7O]
 |_=>simp_all [A19]
theorem A2K {k:EqK} (hk:∀ps,k≠.agg ps) {x:Value} (h1:∀i∈A2C k x,g' i=g i):∀(es:List MapEntry) (n:Nat),(∀e∈es,∀i∈A2C k e.key,g' i=g i)->S8 g' k x es n=S8 g k x es n
 |[],_,_=>by simp only [S8]
 |e::es,n,h=>by
  simp only [S8];rw [A19 hk h1 (h e (by simp)),A2K hk h1 es (n+1) (fun e' he=>h e' (by simp [he]))]
theorem A7e {k:EqK} (hk:∀ps,k≠.agg ps) {r ver clock:Nat} {es:List MapEntry} (hg:g r=some ⟨ver,.map es clock⟩) (h:∀i∈A6B g k (.map (some r)),g' i=g i):∀e∈es,∀i∈A2C k e.key,g' i=g i:=by
 simp_all [A6B,A2C]<;>grind
theorem A9i (a:Addr) (m:Nat):(a.add m).block=a.block:=by
 unfold Addr.add;split<;>rfl
theorem A7f {s:Nat} {y:Value} (h:∀i∈S4 y,g' i=g i):L9 g' s y=L9 g s y:=by
 unfold L9;split
 ·rfl
 ·rename_i a n c;grind [Q2,S4]
 ·rfl
 ·rfl
theorem A3F {e s b:Nat} {x:Value} {n:Nat} {new:List Value} (h:∀i∈S4 x,g' i=g i):I1 g' nx e s b x n new=I1 g nx e s b x n new:=by
 unfold I1;split
 ·rename_i base len cap;cases base with
  |none=>rfl
  |some a=>
   have ha:g' a.block=g a.block:=h a.block (by simp [S4]);have hadd:∀m,(a.add m).block=a.block:=fun m=>A9i a m
   have e1:∀m,B8 g' a m=B8 g a m:=fun m=>Q2 ha
   have e2:∀m,F8 g' (a.add m) new=F8 g (a.add m) new:=fun m=>A0K (by rw [hadd];exact ha)
   grind [A17]
 ·rfl
theorem A0V {a b:List Nat} (h:∀i∈a++b,g' i=g i):(∀i∈a,g' i=g i)/\∀i∈b,g' i=g i:=
 ⟨fun i hi=>h i (List.mem_append_left _ hi),fun i hi=>h i (List.mem_append_right _ hi)⟩
theorem B1Z {xo:XOp} (hfl:B1Y xo=true) (h:∀i∈A18 g ρ xo,g' i=g i):B0 g' nx ρ xo=B0 g nx ρ xo:=by
 cases xo<;>simp only [B0,A18] at h ⊢
 case load1 a=>
  grind [Q2,S4]
 case loadN n a=>
  grind [Q2,S4]
 case store n a x=>
  grind [A0K,S4]
 case eq k neg x y=>
  rw [B6p hfl (A0V h).1 (A0V h).2]
 case bytesToStr x=>
  split
  ·rfl
  ·rename_i ad n c hv;grind [Q2,S4]
  ·rfl
 case lenMap x=>
  grind [S4]
 case lookup k z m x ok=>
  obtain ⟨h12,h3⟩:=A0V h;obtain ⟨h1,h2⟩:=A0V h12;have hk:∀ps,k≠.agg ps:=by rintro ps rfl;cases hfl
  cases hm:ρ m<;>first|rfl|skip
  rename_i q;cases q with
  |none=>rfl
  |some i=>
   rw [hm] at h1 h3;have e1:=h1 i (by simp [S4]);simp only [e1];cases hgi:g i with
   |none=>rfl
   |some ob=>
    obtain ⟨ver,body⟩:=ob;cases body<;>first|rfl|skip
    rename_i es clock;simp only;rw [A2K hk h2 es 0 (A7e hk hgi h3)]
 case mapUpdate k m x v=>
  obtain ⟨h12,h3⟩:=A0V h;obtain ⟨h1,h2⟩:=A0V h12;have hk:∀ps,k≠.agg ps:=by rintro ps rfl;cases hfl
  cases hm:ρ m<;>first|rfl|skip
  rename_i q;cases q with
  |none=>rfl
  |some i=>
   rw [hm] at h1 h3;have e1:=h1 i (by simp [S4]);simp only [e1];cases hgi:g i with
   |none=>rfl
   |some ob=>
    obtain ⟨ver,body⟩:=ob;cases body<;>first|rfl|skip
    rename_i es clock;simp only;rw [A2K hk h2 es 0 (A7e hk hgi h3)]
 case append e s b x y=>
  rw [A7f (A0V h).2];split
  ·exact A3F (A0V h).1
  ·rfl
 case appendZ e z b x n=>
  grind [A3F]
 case copy s x y=>
  obtain ⟨h1,h2⟩:=A0V h;split
  ·rename_i base n c src m c2 hv hv2;split<;>grind [Q2,S4,A0K]
  ·rfl
theorem A0L {a:Addr} {xs:List Value} {δ:List (Nat×Option AObj)} (h:F8 g a xs=some δ):∀k o,(k,o)∈δ->k=a.block:=by
 grind [Q1]
theorem Y4 {o:Option Value} {p:PR} (h:A3z nx o=some p):p.δ=[]:=by
 cases o with
 |none=>cases h
 |some v=>cases h;rfl
theorem A3G {e s b:Nat} {x:Value} {n:Nat} {new:List Value} {p:PR} (h:I1 g nx e s b x n new=some p):∀k o,(k,o)∈p.δ->k∈S4 x\/k=nx:=by
 unfold I1 at h;split at h
 ·split at h
  ·grind
  ·split at h
   ·split at h
    ·split at h
     ·split at h
      ·cases h;intro k o hm;simp at hm;rcases hm with hm|hm
       ·left;simp [S4,hm.1]
       ·right;exact hm.1
      ·cases h
     ·cases h
    ·cases h
   ·split at h
    ·split at h
     ·rename_i a;split at h
      ·rename_i hs;cases h;intro k o hm;have:=A0L hs k o hm;have hadd:∀m,(a.add m).block=a.block:=fun m=>A9i a m
       left;rw [this,hadd];simp [S4]
      ·cases h
     ·cases h
    grind
 ·cases h
theorem B20 {xo:XOp} {p:PR} (h:B0 g nx ρ xo=some p) (hnx:g nx=none):∀k o,(k,o)∈p.δ->k∈A18 g ρ xo\/(k=nx/\p.nx=nx+1):=by
 have hnew:∀k o,(k,o)∈p.δ->k∈A18 g ρ xo\/k=nx:=by
  cases xo<;>simp only [B0,A18] at h ⊢<;>try (cases h;done)
  case bin=>intro k o hm;rw [Y4 h] at hm;cases hm
  case un=>intro k o hm;rw [Y4 h] at hm;cases hm
  case slice=>intro k o hm;rw [Y4 h] at hm;cases hm
  case append=>
   grind [A3G]
  case appendZ=>
   split at h
   ·grind [A3G]
   ·cases h
  case store=>
   split at h
   ·rename_i a hv;split at h
    ·split at h
     ·rename_i hs;cases h;intro k o hm;left;rw [hv,A0L hs k o hm];simp [S4]
     ·cases h
    ·cases h
   ·cases h
  case copy=>
   split at h
   ·rename_i hv hv2;split at h
    ·grind
    ·split at h
     ·split at h
      ·split at h
       ·rename_i hs;cases h;intro k o hm;left;rw [hv,A0L hs k o hm];simp [S4]
       ·cases h
      ·cases h
     ·cases h
   ·cases h
  case mapUpdate=>
   split at h
   ·rename_i r hv;split at h
    ·split at h
     ·cases h;intro k o hm;simp at hm;left;rw [hv,hm.1];simp [S4]
     ·cases h;intro k o hm;simp at hm;left;rw [hv,hm.1];simp [S4]
     ·cases h
    ·cases h
   ·cases h
  all_goals (repeat' split at h)<;>first|(cases h;done)|(cases h;intro k o hm;first|(cases hm;done)|(simp at hm;exact .inr hm.1))
 intro k o hm;rcases hnew k o hm with h1|h1
 ·exact .inl h1
 ·have hs:=A9f h;cases hs with
  |none v=>cases hm
  |wr v k2 ver b b' hg=>
   grind
  |new v ob=>grind
  |turn v k2 ob hg=>
   grind
end
inductive Cls where
 |pure|read|alloc|eff|call|bad
def Q3:XOp->Cls
 |.alloc _ _|.box _ _|.buildSlice _ _ _ _ _|.strToBytes _ _|.mkMap|.mkSlice _ _ _ _ _=>.alloc
 |.load1 _|.loadN _ _|.bytesToStr _|.lookup _ _ _ _ _|.lenMap _=>.read
 |.eq k _ _ _=>match k with
  |.ptr|.agg _=>.read
  |_=>.pure
 |.store _ _ _|.mapUpdate _ _ _ _|.append _ _ _ _ _|.appendZ _ _ _ _ _|.copy _ _ _=>.eff
 |.call _ _|.callV _ _=>.call
 |.panic _|.defer _ _|.recover=>.bad
 |_=>.pure
def A3b:Cls->Cls->Option Bool
 |.pure,_=>some false
 |_,.pure=>some false
 |.read,.read=>some false
 |.alloc,.alloc=>some false
 |.call,.alloc=>some false
 |.call,.read=>some true
 |.read,.call=>some true
 |.call,_=>none
 |_,.call=>none
 |_,_=>some true
def rowOf (rows:List Nat) (l:List Edge):Nat:=
 l.foldl (fun m e=>match Region.binds .any e with
  |true=>(m ||| (1 <<< e.on)) ||| rows.getD e.on 0
  |false=>m) 0
def rowsOf:List Oper->List Nat->List Nat
 |[],rows=>rows
 |o::r,rows=>rowsOf r (rows++[rowOf rows o.after.toList])
def unordered (rows:List Nat) (n:Nat):List (Nat×Nat):=
 (List.range n).flatMap fun j=>(List.range j).filterMap fun i=>match Nat.testBit (rows.getD j 0) i with
  |true=>none
  |false=>some (i,j)
def B7P (ops:Array Oper) (xl:List XOper) (p:Nat×Nat):Bool:=
 match ops[p.1]?,ops[p.2]?,xl[p.1]?,xl[p.2]? with
 |some oi,some oj,some xi,some xj=>Oper.apart ops oi oj&&(A3b (Q3 xi.op) (Q3 xj.op)).isSome
 |_,_,_,_=>false
def B21 (xl:List XOper) (p:Nat×Nat):Bool:=
 match xl[p.1]?,xl[p.2]? with
 |some xi,some xj=>match A3b (Q3 xi.op) (Q3 xj.op) with
  |some false=>false
  |_=>true
 |_,_=>true
def Y5:Nat->List Oper->Bool
 |_,[]=>true
 |i,o::r=>(o.after.toList.all fun e=>match Region.binds .any e with|true=>Nat.blt e.on i|false=>true)&&Y5 (i+1) r
def okX (x:XOper):Bool:=B1Y x.op&&(match Q3 x.op with|.bad=>false|_=>true)
def A4y (ops:Array Oper) (xl:List XOper):Option XCode:=
 match (unordered (rowsOf ops.toList []) xl.length).all (B7P ops xl)&&(Y5 0 ops.toList&&xl.all okX) with
 |true=>some (.regionD xl ((unordered (rowsOf ops.toList []) xl.length).filter (B21 xl)))
 |false=>none
theorem A9j (rows:List Nat):∀(l:List Edge) (m k:Nat),Nat.testBit (l.foldl (fun m e=>match Region.binds .any e with|true=>(m ||| (1 <<< e.on)) ||| rows.getD e.on 0|false=>m) m) k=true->
  Nat.testBit m k=true\/∃e∈l,Region.binds .any e=true/\(k=e.on\/Nat.testBit (rows.getD e.on 0) k=true)
 |[],m,k,h=>.inl h
 |e::l,m,k,h=>by
  rw [List.foldl_cons] at h;rcases A9j rows l _ k h with h|⟨e',he',h'⟩
  ·cases hb:Region.binds .any e with
   |false=>grind
   |true=>
    rw [hb] at h;simp only [Nat.testBit_or,Bool.or_eq_true] at h;rcases h with (h|h)|h
    ·exact .inl h
    ·refine .inr ⟨e,by simp,hb,.inl ?_⟩;rw [Nat.one_shiftLeft,Nat.testBit_two_pow] at h;grind
    grind
  grind
theorem A3X:∀(l:List Oper) (rows:List Nat) (i:Nat),i<rows.length->(rowsOf l rows)[i]? =rows[i]?
 |[],_,_,_=>rfl
 |o::r,rows,i,h=>by rw [rowsOf,A3X r _ i (by simp;omega),List.getElem?_append_left h]
theorem A7g:∀(l:List Oper) (rows:List Nat),(Y5 rows.length l=true)->∀(i:Nat) (o:Oper),l[i]? =some o->∀k,Nat.testBit ((rowsOf l rows).getD (rows.length+i) 0) k=true->
  ∃e∈o.after.toList,Region.binds .any e=true/\e.on<rows.length+i/\(k=e.on\/Nat.testBit ((rowsOf l rows).getD e.on 0) k=true)
 |[],rows,_,i,o,h,_,_=>by simp at h
 |o'::r,rows,hb,i,o,h,k,hk=>by
  simp only [Y5,Bool.and_eq_true,List.all_eq_true] at hb;cases i with
  |zero=>
   simp at h;subst h;rw [rowsOf] at hk ⊢;have h1:(rowsOf r (rows++[rowOf rows o'.after.toList]))[rows.length]? =some (rowOf rows o'.after.toList):=by
    grind [A3X]
   rw [List.getD_eq_getElem?_getD,Nat.add_zero,h1] at hk;rcases A9j rows o'.after.toList 0 k hk with h|⟨e,he,hbe,h⟩
   ·simp at h
   grind [G6,A3X]
  |succ i=>
   rw [rowsOf] at hk ⊢;have:=A7g r (rows++[rowOf rows o'.after.toList]) (by simpa using hb.2) i o (by simpa using h) k (by simpa [Nat.add_assoc,Nat.add_comm 1 i] using hk);grind
theorem A8Z {rows:List Nat} {n i j:Nat} (h1:i<j) (h2:j<n) (h:Nat.testBit (rows.getD j 0) i=false):(i,j)∈unordered rows n:=by
 simp_all [unordered]<;>grind
inductive StepOk (C:Callee) (xo:XOper) (a:Act) (s:AS):Value->AS->Rec->Prop
 |skip:J4 a xo.guard=false->StepOk C xo a s undef s ⟨false,[],[],s,s⟩
 |call (f:FuncId) (l:List Value) (v:Value) (s':AS):J4 a xo.guard=true->
  ((∃args,xo.op=.call f args/\l=args.map a.ev)\/(∃x args,xo.op=.callV x args/\target (a.ev x) (args.map a.ev)=some (f,l)))->
  C f l s=some (.ret v,s')->StepOk C xo a s v s' ⟨true,[],[],s,s'⟩
 |prim (p:PR):J4 a xo.guard=true->A0j xo.op=true->B0 s.get s.next a.ev xo.op=some p->
  StepOk C xo a s p.v (s.upd p.δ p.nx) ⟨false,A18 s.get a.ev xo.op,p.δ.map (·.1),s,s.upd p.δ p.nx⟩
structure Trace (C:Callee) (xl:List XOper) (a:Act) (s:AS) (A:Nat->Act) (Z:Nat->AS) (V:Nat->Value) (R:Nat->Rec):Prop where
 a0:A 0=a
 s0:Z 0=s
 step:∀i xo,xl[i]? =some xo->StepOk C xo (A i) (Z i) (V i) (Z (i+1)) (R i)/\A (i+1)=(A i).put xo.dst (V i)
def shift {α:Type} (x:α) (f:Nat->α):Nat->α
 |0=>x
 |n+1=>f n
theorem Trace.cons {C:Callee} {xo:XOper} {xl:List XOper} {a:Act} {s:AS} {v:Value} {s':AS} {r:Rec} (h:StepOk C xo a s v s' r) {A:Nat->Act} {Z:Nat->AS} {V:Nat->Value} {R:Nat->Rec}
  (t:Trace C xl (a.put xo.dst v) s' A Z V R):Trace C (xo::xl) a s (shift a A) (shift s Z) (shift v V) (shift r R):=by
 refine ⟨rfl,rfl,fun i x hx=> ?_⟩;cases i with
 |zero=>
  simp at hx;subst hx;simp only [shift];rw [t.a0,t.s0];exact ⟨h,rfl⟩
 |succ i=>exact t.step i x (by simpa using hx)
theorem B22 (R:Nat->Rec) (r:Rec) (n:Nat):(List.range (n+1)).map (shift r R)=r::(List.range n).map R:=by
 rw [List.range_succ_eq_map,List.map_cons,List.map_map];rfl
theorem A5Z {C:Callee}:∀(xl:List XOper) (a:Act) (s:AS) (rs:List Rec) (a1:Act) (s1:AS) (rs1:List Rec),Z8 C xl a s rs=some (a1,s1,rs1)->
  ∃A Z V R,Trace C xl a s A Z V R/\A xl.length=a1/\Z xl.length=s1/\rs1=rs.reverse++(List.range xl.length).map R
 |[],a,s,rs,a1,s1,rs1,h=>by
  simp only [Z8] at h;cases h;exact ⟨fun _=>a,fun _=>s,fun _=>undef,fun _=>⟨false,[],[],s,s⟩,⟨rfl,rfl,fun i x hx=>by simp at hx⟩,rfl,rfl,by simp⟩
 |xo::xl,a,s,rs,a1,s1,rs1,h=>by
  have fin:∀v s' r,StepOk C xo a s v s' r->Z8 C xl (a.put xo.dst v) s' (r::rs)=some (a1,s1,rs1)->
    ∃A Z V R,Trace C (xo::xl) a s A Z V R/\A (xo::xl).length=a1/\Z (xo::xl).length=s1/\rs1=rs.reverse++(List.range (xo::xl).length).map R:=by
   intro v s' r hs h;obtain ⟨A,Z,V,R,ht,h1,h2,h3⟩:=A5Z xl _ _ _ _ _ _ h;refine ⟨_,_,_,_,Trace.cons hs ht,h1,h2,?_⟩;rw [h3,List.length_cons,B22];simp
  unfold Z8 at h;split at h
  ·rename_i hw;exact fin _ _ _ (.skip hw) h
  ·rename_i hw;split at h
   ·rename_i f args hop;split at h
    ·rename_i v s' hc;exact fin _ _ _ (.call f _ v s' hw (.inl ⟨args,hop,rfl⟩) hc) h
    ·cases h
   ·rename_i x args hop;split at h
    ·rename_i f l ht;split at h
     ·rename_i v s' hc;exact fin _ _ _ (.call f l v s' hw (.inr ⟨x,args,hop,ht⟩) hc) h
     ·cases h
    ·cases h
   ·rename_i h1 h2;split at h
    ·rename_i p hp;have hpr:A0j xo.op=true:=by
      cases hq:xo.op<;>first|rfl|exact absurd hq (h1 _ _)|exact absurd hq (h2 _ _)|(rw [hq] at hp;simp only [B0] at hp;cases hp)
     exact fin _ _ _ (.prim p hw hpr hp) h
    ·cases h
theorem A7h:∀(l:List Nat) (k:Nat),A1E k l=true↔k∈l
 |[],k=>by simp [A1E]
 |x::r,k=>by
  simp only [A1E];cases h:Nat.beq x k with
  |true=>simp_all
  |false=>
   simp_all [D8,A7h]<;>grind
theorem apart_spec:∀(l m:List Nat),apart l m=true->∀k∈l,k∉m
 |[],m,_,k,hk=>by cases hk
 |x::r,m,h,k,hk=>by
  simp only [apart] at h;cases hi:A1E x m with
  |true=>rw [hi] at h;cases h
  |false=>
   rw [hi] at h;rcases List.mem_cons.1 hk with rfl|hk
   ·intro hm;rw [(A7h m k).2 hm] at hi;cases hi
   ·exact apart_spec r m h k hk
theorem A4z (s s':AS):∀(l:List Nat),U2 s s' l=true->∀k∈l,∃o o',s.get k=some o/\s'.get k=some o'/\o.ver=o'.ver
 |[],_,k,hk=>by cases hk
 |x::r,h,k,hk=>by
  simp only [U2] at h;split at h
  ·rename_i o o' h1 h2;split at h
   ·rename_i hv;rw [D8] at hv;rcases List.mem_cons.1 hk with rfl|hk
    ·grind
    ·exact A4z s s' r h k hk
   ·cases h
  ·cases h
theorem A4A (l:List Rec):∀(ps:List (Nat×Nat)),A1o l ps=true->∀i j,(i,j)∈ps->∃x y,l[i]? =some x/\l[j]? =some y/\V9 x y=true
 |[],_,i,j,h=>by cases h
 |(a,b)::r,h,i,j,hm=>by
  simp only [A1o] at h;split at h
  ·rename_i x y h1 h2;split at h
   ·rename_i hp;rcases List.mem_cons.1 hm with e|hm
    ·grind
    ·exact A4A l r h i j hm
   ·cases h
  ·cases h
theorem Hp.upd_other (g:Hp):∀(δ:List (Nat×Option AObj)) (k:Nat),(∀o,(k,o)∉δ)->Hp.upd g δ k=g k
 |[],_,_=>rfl
 |(j,o)::r,k,h=>by
  simp only [Hp.upd];rw [Hp.upd_other _ r k (fun o' hm=>h o' (by simp [hm])),Hp.set1_ne];grind
theorem B23 {g:Hp} {nx:Nat} {ρ:Operand->Value} {xo:XOp} {p:PR} (hc:Q3 xo=.pure\/Q3 xo=.read) (h:B0 g nx ρ xo=some p):p.δ=[]:=by
 cases xo<;>simp only [B0] at h<;>try (cases h;done)
 case bin=>exact Y4 h
 case un=>exact Y4 h
 case slice=>exact Y4 h
 case append=>rcases hc with hc|hc<;>cases hc
 case appendZ=>rcases hc with hc|hc<;>cases hc
 case store=>rcases hc with hc|hc<;>cases hc
 case copy=>rcases hc with hc|hc<;>cases hc
 case mapUpdate=>rcases hc with hc|hc<;>cases hc
 case alloc=>rcases hc with hc|hc<;>cases hc
 case box=>rcases hc with hc|hc<;>cases hc
 case buildSlice=>rcases hc with hc|hc<;>cases hc
 case strToBytes=>rcases hc with hc|hc<;>cases hc
 case mkMap=>rcases hc with hc|hc<;>cases hc
 case mkSlice=>rcases hc with hc|hc<;>cases hc
 all_goals (repeat' split at h)<;>first|(cases h;done)|(cases h;rfl)
theorem B40 {g:Hp} {ρ:Operand->Value} {xo:XOp} (hc:Q3 xo=.pure\/Q3 xo=.alloc):A18 g ρ xo=[]:=by
 cases xo<;>first|rfl|(rcases hc with hc|hc<;>cases hc;done)|skip
 rename_i k neg x y;cases k<;>first|(rcases hc with hc|hc<;>cases hc;done)|skip
 all_goals (simp [A18,A2C])
section
variable {C:Callee} {xl:List XOper} {a:Act} {s:AS} {A:Nat->Act} {Z:Nat->AS} {V:Nat->Value} {R:Nat->Rec}
def Wt (xl:List XOper) (i t:Nat):Prop:=∃xo,xl[i]? =some xo/\xo.dst=some t
def Lk (ops:Array Oper) (i t:Nat):Prop:=∃o,ops[i]? =some o/\t∈o.looksAt ops
def Wh (R:Nat->Rec) (Z:Nat->AS) (i k:Nat):Prop:=((R i).call=true/\(Z (i+1)).get k≠(Z i).get k)\/((R i).call=false/\k∈(R i).wrote)
def Lh (R:Nat->Rec) (Z:Nat->AS) (i k:Nat):Prop:=((R i).call=true/\k<(Z i).next)\/((R i).call=false/\k∈(R i).touched)
theorem Trace.goes (t:Trace C xl a s A Z V R) (hC:A0d C) {i:Nat} (hi:i<xl.length):Goes (Z i) (Z (i+1)):=by
 obtain ⟨hs,_⟩:=t.step i xl[i] (by simp [hi]);generalize Z (i+1)=z at hs;generalize V i=v at hs;generalize R i=r at hs;cases hs with
 |skip h=>exact Goes.refl _
 |call f l v s' hw hc h=>exact hC _ _ _ _ _ h
 |prim p hw hp h=>exact X7 h
theorem Trace.upto (t:Trace C xl a s A Z V R) (hC:A0d C) (hd:Dm s):∀i,i<=xl.length->Dm (Z i)
 |0,_=>by rw [t.s0];exact hd
 |i+1,h=>(t.goes hC (by omega) (t.upto hC hd i (by omega))).1
theorem Trace.next_le (t:Trace C xl a s A Z V R) (hC:A0d C) (hd:Dm s) {i:Nat}:∀j,i<=j->j<=xl.length->(Z i).next<=(Z j).next
 |0,h,_=>by
  obtain rfl:i=0:=by omega
  exact Nat.le_refl _
 |j+1,h,hj=>by
  by_cases e:i=j+1
  ·grind
  ·exact Nat.le_trans (t.next_le hC hd j (by omega) (by omega)) (t.goes hC (by omega) (t.upto hC hd j (by omega))).2.next
theorem Trace.frame (t:Trace C xl a s A Z V R) {i k:Nat} (hi:i<xl.length) (h:¬Wh R Z i k):(Z (i+1)).get k=(Z i).get k:=by
 obtain ⟨hs,_⟩:=t.step i xl[i] (by simp [hi]);unfold Wh at h;generalize Z (i+1)=z at hs h;generalize V i=v at hs;generalize R i=r at hs h;cases hs with
 |skip _=>rfl
 |call f l v s' hw hc h'=>
  grind
 |prim p hw hp h'=>
  simp_all [AS.upd_get,Hp.upd_other]
theorem Trace.frameT (t:Trace C xl a s A Z V R) {i k:Nat} (hi:i<xl.length) (h:¬Wt xl i k):(A (i+1)).ev (.tmp k)=(A i).ev (.tmp k):=by
 obtain ⟨_,hA⟩:=t.step i xl[i] (by simp [hi]);rw [hA];cases hd:xl[i].dst with
 |none=>rfl
 |some d=>
  rw [Act.ev_put_ne];rintro rfl;exact h ⟨xl[i],by simp [hi],hd⟩
theorem Trace.wrote (t:Trace C xl a s A Z V R) (hC:A0d C) (hd:Dm s) {i k:Nat} (hi:i<xl.length) (h:Wh R Z i k):Lh R Z i k\/((Z i).next<=k/\k<(Z (i+1)).next):=by
 have hg:=t.goes hC hi (t.upto hC hd i (by omega));have hdm:=t.upto hC hd i (by omega);obtain ⟨hs,_⟩:=t.step i xl[i] (by simp [hi]);unfold Wh at h;unfold Lh;generalize Z (i+1)=z at hs h hg;generalize V i=v at hs;generalize R i=r at hs h;cases hs with
 |skip _=>rcases h with ⟨h,_⟩|⟨_,h⟩; · cases h
          · cases h
 |call f l v s' hw hc h'=>
  rcases h with ⟨_,h⟩|⟨h,_⟩
  ·by_cases hk:k<(Z i).next
   ·grind
   ·refine .inr ⟨by omega,?_⟩
    by_cases hk2:k<z.next
    ·exact hk2
    ·exact absurd (by rw [hg.1 k (by omega),hdm k (by omega)]) h
  ·cases h
 |prim p hw hp h'=>
  rcases h with ⟨h,_⟩|⟨_,h⟩
  ·cases h
  ·obtain ⟨⟨k',o⟩,hm,rfl⟩:=List.mem_map.1 h;rcases B20 h' (hdm _ (Nat.le_refl _)) k' o hm with h1|⟨h1,h2⟩
   ·grind
   grind [AS.upd_next]
structure Sheet (c:Cls) (r:Rec):Prop where
 still:c=.pure\/c=.read->r.call=false/\r.wrote=[]
 blind:c=.pure\/c=.alloc->r.call=false/\r.touched=[]
 eff:c=.eff->r.call=false
 call:c=.call->r.call=true\/(r.touched=[]/\r.wrote=[])
 recs:True
theorem Trace.sheet (t:Trace C xl a s A Z V R) {i:Nat} {xo:XOper} (hx:xl[i]? =some xo):Sheet (Q3 xo.op) (R i)/\(R i).s0=Z i/\(R i).s1=Z (i+1):=by
 obtain ⟨hs,_⟩:=t.step i xo hx;generalize Z (i+1)=z at hs;generalize V i=v at hs;generalize R i=r at hs;cases hs with
 |skip _=>(repeat constructor)<;>grind
 |call f l v s' hw hc h'=>
  have hcl:Q3 xo.op=.call:=by rcases hc with ⟨args,h,_⟩|⟨x,args,h,_⟩<;>rw [h]<;>rfl
  (repeat constructor)<;>grind
 |prim p hw hp h'=>
  refine ⟨⟨fun h=>⟨rfl,?_⟩,fun h=>⟨rfl,B40 h⟩,fun _=>rfl,fun h=> ?_,trivial⟩,rfl,rfl⟩
  ·grind [B23]
  ·cases hq:xo.op<;>rw [hq] at h hp<;>first|(cases hp;done)|(simp [Q3] at h;done)|skip
   rename_i k _ _ _;cases k<;>cases h
structure Com (ops:Array Oper) (xl:List XOper) (R:Nat->Rec) (Z:Nat->AS) (i j:Nat):Prop where
 t1:∀t,Wt xl i t->¬Lk ops j t/\¬Wt xl j t
 t2:∀t,Wt xl j t->¬Lk ops i t
 h1:∀k,Wh R Z i k->¬Lh R Z j k/\¬Wh R Z j k
 h2:∀k,Wh R Z j k->¬Lh R Z i k
theorem Com.symm {ops:Array Oper} {i j:Nat} (h:Com ops xl R Z i j):Com ops xl R Z j i:=
 ⟨fun t ht=>⟨h.t2 t ht,fun hw=>(h.t1 t hw).2 ht⟩,fun t ht=>(h.t1 t ht).1,fun k hk=>⟨h.h2 k hk,fun hw=>(h.h1 k hw).2 hk⟩,fun k hk=>(h.h1 k hk).1⟩
theorem B7Q (t:Trace C xl a s A Z V R) (hC:A0d C) (hd:Dm s) {i j:Nat} (hij:i<j) (hj:j<xl.length) {xi xj:XOper} (hxi:xl[i]? =some xi) (hxj:xl[j]? =some xj) {b:Bool}
  (hn:A3b (Q3 xi.op) (Q3 xj.op)=some b) (hb:b=true->V9 (R i) (R j)=true) (hbi:Q3 xi.op≠.bad) (hbj:Q3 xj.op≠.bad):
  (∀k,Wh R Z i k->¬Lh R Z j k/\¬Wh R Z j k)/\(∀k,Wh R Z j k->¬Lh R Z i k):=by
 obtain ⟨si,i0,i1⟩:=t.sheet hxi;obtain ⟨sj,j0,j1⟩:=t.sheet hxj;have gi:=t.goes hC (i:=i) (by omega) (t.upto hC hd i (by omega));have gj:=t.goes hC (i:=j) (by omega) (t.upto hC hd j (by omega));have hle:=t.next_le hC hd (i:=i+1) j (by omega) (by omega);have hle1:=gi.2.next;have fi:=fun k (h:Wh R Z i k)=>t.wrote hC hd (i:=i) (k:=k) (by omega) h
 have fj:=fun k (h:Wh R Z j k)=>t.wrote hC hd (i:=j) (k:=k) (by omega) h
 have prims:(R i).call=false->(R j).call=false->(∀k∈(R i).touched,k∉(R j).wrote)->(∀k∈(R j).touched,k∉(R i).wrote)->
   (∀k,Wh R Z i k->¬Lh R Z j k/\¬Wh R Z j k)/\(∀k,Wh R Z j k->¬Lh R Z i k):=by
  intro ci cj h1 h2;have wi:∀k,Wh R Z i k->k∈(R i).wrote:=fun k h=>by
   rcases h with ⟨h,_⟩|⟨_,h⟩
   · rw [ci] at h;cases h
   · exact h
  have wj:∀k,Wh R Z j k->k∈(R j).wrote:=fun k h=>by
   rcases h with ⟨h,_⟩|⟨_,h⟩
   · rw [cj] at h;cases h
   · exact h
  have li:∀k,Lh R Z i k->k∈(R i).touched:=fun k h=>by
   rcases h with ⟨h,_⟩|⟨_,h⟩
   · rw [ci] at h;cases h
   · exact h
  have lj:∀k,Lh R Z j k->k∈(R j).touched:=fun k h=>by
   rcases h with ⟨h,_⟩|⟨_,h⟩
   · rw [cj] at h;cases h
   · exact h
  refine ⟨fun k hk=>⟨fun hl=>h2 k (lj k hl) (wi k hk),fun hw=> ?_⟩,fun k hk hl=>h1 k (li k hl) (wj k hk)⟩;rcases fj k hw with hl|hl
  ·exact h2 k (lj k hl) (wi k hk)
  ·rcases fi k hk with hl2|hl2
   ·exact h1 k (li k hl2) (wj k hw)
   ·omega
 have dyn:b=true->(R i).call=false->(R j).call=false->(∀k∈(R i).touched,k∉(R j).wrote)/\(∀k∈(R j).touched,k∉(R i).wrote):=by
  grind [V9,apart_spec]
 have same:∀{m:Nat} (hg:Dm (Z (m+1))/\Evo (Z m) (Z (m+1))) (l:List Nat),U2 (Z m) (Z (m+1)) l=true->(R m).call=true->∀k,Wh R Z m k->k∉l:=by
  intro m hg l hs hc k hw hk;obtain ⟨o,o',h1,h2,h3⟩:=A4z _ _ l hs k hk;rcases hw with ⟨_,hw⟩|⟨h,_⟩
  ·exact hw (by rw [h1,h2,(hg.2.ver k o o' h1 h2).2 h3])
  grind
 have wsi:Q3 xi.op=.pure\/Q3 xi.op=.read->∀k,k∉(R i).wrote:=fun h k hk=>by rw [(si.still h).2] at hk;cases hk
 have wsj:Q3 xj.op=.pure\/Q3 xj.op=.read->∀k,k∉(R j).wrote:=fun h k hk=>by rw [(sj.still h).2] at hk;cases hk
 have tbi:Q3 xi.op=.pure\/Q3 xi.op=.alloc->∀k,k∉(R i).touched:=fun h k hk=>by rw [(si.blind h).2] at hk;cases hk
 have tbj:Q3 xj.op=.pure\/Q3 xj.op=.alloc->∀k,k∉(R j).touched:=fun h k hk=>by rw [(sj.blind h).2] at hk;cases hk
 have tci:Q3 xi.op=.call->(R i).call=false->(∀k,k∉(R i).touched)/\∀k,k∉(R i).wrote:=fun h hc=>by
  rcases si.call h with h|h
  ·rw [hc] at h;cases h
  grind
 have only:∀{c:Cls} {r:Rec},Sheet c r->r.call=true->c≠.bad->c=.call:=by
  intro c r hs hr hb;cases c with
  |pure=>have:=(hs.still (.inl rfl)).1;rw [hr] at this;cases this
  |read=>have:=(hs.still (.inr rfl)).1;rw [hr] at this;cases this
  |alloc=>have:=(hs.blind (.inr rfl)).1;rw [hr] at this;cases this
  |eff=>have:=hs.eff rfl;rw [hr] at this;cases this
  |call=>rfl
  |bad=>exact absurd rfl hb
 cases ci:(R i).call with
 |false=>
  cases cj:(R j).call with
  |false=>
   cases b with
   |true=>grind
   |false=>
    refine prims ci cj ?_ ?_
    ·intro k hk hm;cases hi:Q3 xi.op<;>cases hjj:Q3 xj.op<;>rw [hi,hjj] at hn<;>first|(cases hn;done)|exact hbi hi|exact hbj hjj|exact wsj (.inl hjj) k hm|exact wsj (.inr hjj) k hm|exact tbi (.inl hi) k hk|exact tbi (.inr hi) k hk|exact (tci hi ci).1 k hk
    ·intro k hk hm;cases hi:Q3 xi.op<;>cases hjj:Q3 xj.op<;>rw [hi,hjj] at hn<;>first|(cases hn;done)|exact hbi hi|exact hbj hjj|exact wsi (.inl hi) k hm|exact wsi (.inr hi) k hm|exact tbj (.inl hjj) k hk|exact tbj (.inr hjj) k hk|exact (tci hi ci).2 k hm
  |true=>
   have hcj:Q3 xj.op=.call:=only sj cj hbj;have hci:Q3 xi.op=.pure\/Q3 xi.op=.read:=by
    rw [hcj] at hn;cases hi:Q3 xi.op<;>rw [hi] at hn<;>first|(cases hn;done)|exact .inl rfl|exact .inr rfl|exact absurd hi hbi
   have hw:=(si.still hci).2;refine ⟨fun k hk=> ?_,fun k hk hl=> ?_⟩
   ·rcases hk with ⟨h,_⟩|⟨_,h⟩
    ·rw [ci] at h;cases h
    grind
   ·rcases hl with ⟨h,_⟩|⟨_,hl⟩
    ·rw [ci] at h;cases h
    ·rcases hci with hci|hci
     ·grind
     ·skip;rw [hci,hcj] at hn;cases hn;grind [V9]
 |true=>
  have hci:Q3 xi.op=.call:=only si ci hbi;have hcj:Q3 xj.op=.pure\/Q3 xj.op=.alloc\/(Q3 xj.op=.read/\b=true):=by
   rw [hci] at hn;cases hjj:Q3 xj.op<;>rw [hjj] at hn<;>first|(cases hn;done)|exact .inl rfl|exact .inr (.inl rfl)|skip
   cases hn;exact .inr (.inr ⟨rfl,rfl⟩)
  grind [Wh,Lh,V9]
end
section
variable {W0:World} {N0:Nat} {φ ψ χ:Loc} {w w' w'':World} {lo hi:Nat}
theorem Stp.widen {g h:Hp} (s:Stp φ g w ψ h w' lo hi) {lo' hi':Nat} (h1:lo'<=lo) (h2:hi<=hi'):Stp φ g w ψ h w' lo' hi':=
 ⟨s.le,fun i hi=>s.out i (by omega),s.size,s.away,s.own⟩
theorem Stp.trans1 {g h k:Hp} (a:Stp φ g w ψ h w' lo hi) (b:Stp ψ h w' χ k w'' lo hi):Stp φ g w χ k w'' lo hi:=by
 refine ⟨Loc.le_trans a.le b.le,fun i hi=> ?_,Nat.le_trans a.size b.size,fun x hx ha=> ?_,fun i x d t hk hχ=> ?_⟩
 ·rw [b.out i hi,a.out i hi]
 ·rw [b.away x (Nat.lt_of_lt_of_le hx a.size) ?_,a.away x hx ha];intro i d t hh hψ;rcases a.own i x d t hh hψ with h|⟨j,d',t',hj,hφ⟩
  ·omega
  grind
 ·rcases b.own i x d t hk hχ with h|⟨j,d',t',hj,hψ⟩
  ·exact .inl (Nat.le_trans a.size h)
  ·exact a.own j x d' t' hj hψ
theorem Rel.join {gm g0 g1 gm':Hp} (r:Rel W0 N0 φ gm w) (h0:∀k o,g0 k=some o->gm k=some o) (r1:Rel W0 N0 ψ g1 w') (st:Stp φ g0 w ψ g1 w' lo hi)
  (hm:∀k o,gm' k=some o->g1 k=some o\/(g0 k=none/\gm k=some o)):Rel W0 N0 ψ gm' w'/\Stp φ gm w ψ gm' w' lo hi:=by
 have h0n:∀k,g0 k≠none->gm k≠none:=fun k hk=>by
  cases e:g0 k with
  |none=>exact absurd e hk
  |some o=>rw [h0 k o e];simp
 have other:∀k o,g0 k=none->gm k=some o->∃b d t ob,φ k=some (b,d,t)/\ψ k=some (b,d,t)/\b<w.heap.size/\w.heap[b]? =some ob/\w'.heap[b]? =some ob/\ORel φ d t o.body ob/\(b<N0->o.body.isRo=true)/\(b<N0\/∀j d' t',g0 j≠none->φ j≠some (b,d',t')):=by
  intro k o hk ho;obtain ⟨b,d,t,ob,h1,h2,h3,h4⟩:=r.obj k o ho;have hlt:b<w.heap.size:=by
   grind
  have hno:b<N0\/∀j d' t',g0 j≠none->φ j≠some (b,d',t'):=by
   by_cases hN:b<N0
   ·exact .inl hN
   ·right;intro j d' t' hj e;have:=(r.inj j k b d' d t' t (h0n j hj) (by rw [ho];simp) e h1).resolve_left hN;grind
  refine ⟨b,d,t,ob,h1,st.le _ _ h1,hlt,h2,?_,h3,h4,hno⟩;rcases hno with hN|hno
  ·rw [r1.fixed b hN,<-r.fixed b hN];exact h2
  ·rw [st.away b hlt (fun i d' t' hi=>hno i d' t' hi)];exact h2
 refine ⟨⟨r1.n0,r1.fixed,r1.os,r1.tape,r1.output,fun k o hk=> ?_,fun i j b d d' t t' hi hj h1 h2=> ?_⟩,⟨st.le,st.out,st.size,fun b hb ha=> ?_,fun i b d t hi hψ=> ?_⟩⟩
 ·rcases hm k o hk with h|⟨h,h'⟩
  ·exact r1.obj k o h
  ·obtain ⟨b,d,t,ob,_,a2,_,_,a5,a6,a7,_⟩:=other k o h h';exact ⟨b,d,t,ob,a2,a5,a6.mono st.le,a7⟩
 ·obtain ⟨o,ho⟩:∃o,gm' i=some o:=by cases e:gm' i with|none=>exact absurd e hi|some o=>exact ⟨o,rfl⟩
  obtain ⟨o',ho'⟩:∃o,gm' j=some o:=by cases e:gm' j with|none=>exact absurd e hj|some o=>exact ⟨o,rfl⟩
  have cross:∀{i j:Nat} {o o':AObj} {d d' t t':Nat},g1 i=some o->g0 j=none->gm j=some o'->ψ i=some (b,d,t)->ψ j=some (b,d',t')->b<N0\/i=j:=by
   intro i j o o' d d' t t' hi hj hj' h1 h2;obtain ⟨b2,d2,t2,ob,a1,a2,a3,_,_,_,_,a8⟩:=other j o' hj hj';rw [a2] at h2;cases h2;rcases st.own i b d t (by rw [hi];simp) h1 with h|⟨k,d3,t3,hk,hk'⟩
   ·omega
   grind
  rcases hm i o ho with h|⟨h,h'⟩
  ·rcases hm j o' ho' with k|⟨k,k'⟩
   ·exact r1.inj i j b d d' t t' (by rw [h];simp) (by rw [k];simp) h1 h2
   grind
  ·rcases hm j o' ho' with k|⟨k,k'⟩
   ·grind
   ·obtain ⟨b1,d1,t1,_,a1,a2,_⟩:=other i o h h';obtain ⟨b2,d2,t2,_,c1,c2,_⟩:=other j o' k k';rw [a2] at h1;cases h1;rw [c2] at h2;cases h2;exact r.inj i j _ _ _ _ _ (by rw [h'];simp) (by rw [k'];simp) a1 c1
 ·exact st.away b hb (fun i d t hi=>ha i d t (h0n i hi))
 ·obtain ⟨o,ho⟩:∃o,gm' i=some o:=by cases e:gm' i with|none=>exact absurd e hi|some o=>exact ⟨o,rfl⟩
  rcases hm i o ho with h|⟨h,h'⟩
  ·rcases st.own i b d t (by rw [h];simp) hψ with k|⟨j,d',t',hj,hφ⟩
   ·exact .inl k
   grind
  grind
end
def left (B:Nat->Bool):Nat->Nat
 |0=>0
 |m+1=>left B m+(if B m=true then 0 else 1)
theorem A4B (B:Nat->Bool) (i:Nat):∀m,m<=i->left (Y9 B i) m=left B m
 |0,_=>rfl
 |m+1,h=>by
  have:Y9 B i m=B m:=by simp [Y9];omega
  simp only [left,this,A4B B i m (by omega)]
theorem A9k (B:Nat->Bool) {i:Nat} (hB:B i=false):∀m,i<m->left (Y9 B i) m+1=left B m
 |0,h=>by omega
 |m+1,h=>by
  by_cases e:m=i
  ·subst e;have:Y9 B m m=true:=by simp [Y9]
   simp [left,this,hB,A4B B m m (Nat.le_refl _)]
  ·have h1:Y9 B i m=B m:=by simp [Y9,e]
   simp only [left,h1];have:=A9k B hB m (by omega);omega
theorem A9l {B:Nat->Bool}:∀{m:Nat},left B m=0->∀j,j<m->B j=true
 |0,_,j,h=>by omega
 |m+1,h,j,hj=>by
  simp only [left] at h
  by_cases e:j=m
  ·grind
  ·have h':left B m=0:=by omega
   exact A9l h' j (by omega)
theorem A9m:∀(m:Nat),left (fun _=>false) m=m
 |0=>rfl
 |m+1=>by simp [left,A9m m]
theorem A3H {P:Program} {gl:Glb} {nt:Nat} {ops:Array Oper}:∀{l:List Oper} {xl:List XOper},O0 P gl nt ops l=some xl->xl.length=l.length/\∀(i:Nat) (o:Oper),l[i]? =some o->∃xo:XOper,xl[i]? =some xo/\W8 P gl nt ops o=some xo
 |[],xl,h=>by simp only [O0] at h;cases h;exact ⟨rfl,fun i o h=>by simp at h⟩
 |o::l,xl,h=>by
  simp only [O0] at h;split at h
  ·rename_i x xl' h1 h2;cases h;obtain ⟨a,b⟩:=A3H h2;grind
  ·cases h
theorem B6q {ops:Array Oper} {o:Oper} {g:Option (Nat×Bool)} (hg:U5 ops o.guard=some g) {φ:Loc} {a:Act} {a':Go.Act} (r:∀t b,g=some (t,b)->VRel φ (a.ev (.tmp t)) (a'.eval (.tmp t))):Region.wanted o (yielded ops a'.tmps)=J4 a g:=by
 cases g with
 |none=>
  unfold Region.wanted;cases ho:o.guard with
  |none=>rfl
  |some jb=>
   grind [U5]
 |some tb=>
  obtain ⟨t,b⟩:=tb;have:=A5q (nt:=a'.tmps.size) (φ:=φ) hg (a:=⟨Tri.set .nil t (a.ev (.tmp t)),[]⟩) (a':=⟨(Array.replicate a'.tmps.size undef).setIfInBounds t (a'.tmps.getD t undef),[]⟩) ⟨by simp,fun u=> ?_,trivial⟩
  ·have e1:J4 (⟨Tri.set .nil t (a.ev (.tmp t)),[]⟩:Act) (some (t,b))=J4 a (some (t,b)):=by
    simp only [J4,Tri.get_set_same,Act.ev];cases a.tm.get t<;>simp [undef]
   rw [<-e1,<-this];unfold Region.wanted;cases ho:o.guard with
   |none=>rfl
   |some jb=>
    obtain ⟨j,b'⟩:=jb;rw [ho] at hg;simp only [U5] at hg;cases ht:(ops[j]?).bind (·.dst) with
    |none=>rw [ht] at hg;cases hg
    |some t'=>
     rw [ht] at hg;cases hg;simp only [yielded,ht,Option.bind_some];simp_all<;>grind
  ·simp only [Act.ev,Go.Act.eval]
   by_cases hu:t=u
   ·subst hu;rw [Tri.get_set_same];have h1:=r t b rfl;simp only [Act.ev,Go.Act.eval] at h1;simp_all<;>grind
   ·rw [Tri.get_set_ne _ _ hu,Tri.get_nil];simp_all<;>grind [A2J,VRel.undef]
section
variable {P:Program} {gl:Glb} {nt:Nat} {C:Callee} {ops:Array Oper} {xl:List XOper} {a:Act} {s:AS} {A:Nat->Act} {Z:Nat->AS} {V:Nat->Value} {R:Nat->Rec}
noncomputable def MT (A:Nat->Act) (xl:List XOper) (B:Nat->Bool) (t:Nat):Value:=mix (fun i t=>(A i).ev (.tmp t)) (Wt xl) B xl.length t
noncomputable def MH (Z:Nat->AS) (R:Nat->Rec) (xl:List XOper) (B:Nat->Bool):Hp:=mix (fun i=>(Z i).get) (Wh R Z) B xl.length
structure DSt (gl:Glb) (nt:Nat) (xl:List XOper) (a:Act) (s:AS) (A:Nat->Act) (Z:Nat->AS) (R:Nat->Rec) (W0:World) (N0:Nat) (φ0:Loc) (w0:World) (B:Nat->Bool) (φ:Loc) (a':Go.Act) (w:World):Prop where
 size:nt<=a'.tmps.size
 tm:∀t,VRel φ (MT A xl B t) (a'.eval (.tmp t))
 df:DfRel φ a.df a'.defers
 rel:Rel W0 N0 φ (MH Z R xl B) w
 free:∀k,s.next<=k->k<(Z xl.length).next->φ k≠none->∃j,j<xl.length/\B j=true/\(Z j).next<=k/\k<(Z (j+1)).next
 glob:∀i,gl.is i=true->∃t,φ i=some (i,0,t)
 good:gl.good W0 N0
 stp:Stp φ0 s.get w0 φ (MH Z R xl B) w s.next (Z xl.length).next
variable (t:Trace C xl a s A Z V R) (hG:A0d C) (hd:Dm s)
 (hc:∀(i:Nat) (o:Oper),ops[i]? =some o->∃xo:XOper,xl[i]? =some xo/\W8 P gl nt ops o=some xo) (hfl:∀x∈xl,B1Y x.op=true)
include t hG hd hc hfl
theorem B6r (hC:COk P gl C) {W0:World} {N0:Nat} {φ0 φ:Loc} {w0 w:World} {B:Nat->Bool} {a':Go.Act} (D:DSt gl nt xl a s A Z R W0 N0 φ0 w0 B φ a' w) {i:Nat} {o:Oper} (hi:ops[i]? =some o) (hB:B i=false)
  (hcom:∀j,j<xl.length->j≠i->(j<i->B j=false)->(i<j->B j=true)->Com ops xl R Z i j) {K:Go.Act->World->Prop} {Q:Exit->Go.Act->World->Prop}
  (hK:∀ψ a'' w'',DSt gl nt xl a s A Z R W0 N0 φ0 w0 (Y9 B i) ψ a'' w''->K a'' w''):wpOp P ops Q i K a' w:=by
 obtain ⟨xo,hxo,hco⟩:=hc i o hi;obtain ⟨hx,hg,hdst,hok,hdok⟩:=L5 hco;have hlt:i<xl.length:=(List.getElem?_eq_some_iff.1 hxo).1;obtain ⟨hstep,hAn⟩:=t.step i xo hxo;have hfr:=fun j (hj:j<xl.length) k (h:¬Wh R Z j k)=>t.frame hj h
 have hfrT:=fun j (hj:j<xl.length) k (h:¬Wt xl j k)=>t.frameT hj h
 have hdm:=t.upto hG hd i (by omega);have hgo:=(t.goes hG hlt hdm);have nx0:s.next<=(Z i).next:=by have:=t.next_le hG hd (i:=0) i (by omega) (by omega);rw [t.s0] at this;exact this
 have nx1:(Z (i+1)).next<=(Z xl.length).next:=t.next_le hG hd xl.length (by omega) (by omega);have seeT:∀u,Lk ops i u->MT A xl B u=(A i).ev (.tmp u):=fun u hu=>
  B1X hlt (fun j hj h=>hfrT j hj u h) hB (fun j hj hS hw=>(hcom j (by omega) (by omega) (fun _=>hS) (fun h=>by omega)).t2 u hw hu)
   (fun j h1 h2 hS hw=>(hcom j h2 (by omega) (fun h=>by omega) (fun _=>hS)).t2 u hw hu)
 have seeH:∀k,Lh R Z i k->MH Z R xl B k=(Z i).get k:=fun k hk=>
  B1X (X:=fun i=>(Z i).get) hlt (fun j hj h=>hfr j hj k h) hB (fun j hj hS hw=>(hcom j (by omega) (by omega) (fun _=>hS) (fun h=>by omega)).h2 k hw hk)
   (fun j h1 h2 hS hw=>(hcom j h2 (by omega) (fun h=>by omega) (fun _=>hS)).h2 k hw hk)
 have opnd:∀x∈o.op.operands.toList,VRel φ ((A i).ev x) (a'.eval x):=fun x hx=>by
  cases hq:x with
  |tmp u=>
   have hl:Lk ops i u:=⟨o,hi,List.mem_append_left _ (List.mem_filterMap.2 ⟨x,hx,by rw [hq]⟩)⟩;rw [<-seeT u hl];exact D.tm u
  |const v=>have:=hok x hx;rw [hq] at this;exact VRel.plain φ v this
  |global g=>
   have:=hok x hx;rw [hq] at this;obtain ⟨b,hb⟩:=D.glob g this;exact VRel.ptr (o:=0) hb
  |func f=>exact .func _ .nil .nil
 have hwant:Region.wanted o (yielded ops a'.tmps)=J4 (A i) xo.guard:=B6q (φ:=φ) hg fun u b hgu=>by
  rw [<-seeT u ⟨o,hi,List.mem_append_right _ ?_⟩]
  ·exact D.tm u
  grind [U5]
 have hV:(A (i+1)).ev (.tmp 0)=(A (i+1)).ev (.tmp 0):=rfl;have bringT:∀u,MT A xl (Y9 B i) u=if xo.dst=some u then V i else MT A xl B u:=fun u=>by
  have h1:=A7b (X:=fun i t=>(A i).ev (.tmp t)) (W:=Wt xl) (S:=B) (k:=u) hlt hB (fun hw j h1 h2 hS hw2=>((hcom j h2 (by omega) (fun h=>by omega) (fun _=>hS)).t1 u hw).2 hw2);grind [MT,Wt,Act.ev_put_same]
 have bringH:∀k,(Wh R Z i k->MH Z R xl (Y9 B i) k=(Z (i+1)).get k)/\(¬Wh R Z i k->MH Z R xl (Y9 B i) k=MH Z R xl B k):=fun k=>by
  have h1:=A7b (X:=fun i=>(Z i).get) (W:=Wh R Z) (S:=B) (k:=k) hlt hB (fun hw j h1 h2 hS hw2=>((hcom j h2 (by omega) (fun h=>by omega) (fun _=>hS)).h1 k hw).2 hw2);simp_all [MH]
 have hfree:Fr φ (Z i).next (Z (i+1)).next:=fun k h1 h2=>by
  cases hk:φ k with
  |none=>rfl
  |some x=>
   obtain ⟨j,hj,hS,h3,h4⟩:=D.free k (by omega) (by omega) (by rw [hk];simp);rcases Nat.lt_trichotomy j i with h|h|h
   ·have:=t.next_le hG hd (i:=j+1) i (by omega) (by omega);omega
   ·grind
   ·have:=t.next_le hG hd (i:=i+1) j (by omega) (by omega);omega
 have fin:∀ψ w'' v',VRel ψ (V i) v'->Rel W0 N0 ψ (MH Z R xl (Y9 B i)) w''->Stp φ (MH Z R xl B) w ψ (MH Z R xl (Y9 B i)) w'' (Z i).next (Z (i+1)).next->K (a'.put o.dst v') w'':=by
  intro ψ w'' v' hv hr hs;refine hK ψ _ _ ⟨?_,fun u=> ?_,?_,hr,fun k h1 h2 h3=> ?_,fun g hg=> ?_,D.good,D.stp.trans1 (hs.widen nx0 nx1)⟩
  ·cases hdo:o.dst<;>simpa [Go.Act.put] using D.size
  ·rw [bringT u];cases hdo:o.dst with
   |none=>
    rw [hdst,hdo,if_neg (by simp)];exact (D.tm u).mono hs.le
   |some d=>
    rw [hdst,hdo]
    by_cases e:d=u
    ·subst e;have hlt:d<nt:=by rw [hdo] at hdok;simpa [B1V,G6] using hdok
     rw [if_pos rfl,A3B _ _ (Nat.lt_of_lt_of_le hlt D.size)];exact hv
    ·rw [if_neg (by simpa using e),A2J _ _ e];exact (D.tm u).mono hs.le
  ·cases hdo:o.dst<;>exact D.df.mono hs.le
  ·by_cases hk:(Z i).next<=k/\k<(Z (i+1)).next
   ·grind [Y9]
   ·rw [hs.out k hk] at h3;obtain ⟨j,hj,hS,h4,h5⟩:=D.free k h1 h2 h3;grind [Y9]
  ·obtain ⟨b,hb⟩:=D.glob g hg;exact ⟨b,hs.le _ _ hb⟩
 unfold wpOp;simp only [hi];rw [hwant];generalize hz:Z (i+1)=z at hstep;generalize hv:V i=v at hstep;generalize hrr:R i=rr at hstep;cases hstep with
 |skip hw=>
  rw [hw];simp only [Bool.false_eq_true,if_false];have hno:∀k,¬Wh R Z i k:=fun k h=>by
   grind [Wh]
  have he:MH Z R xl (Y9 B i)=MH Z R xl B:=funext fun k=>(bringH k).2 (hno k)
  refine fin φ w undef (by rw [hv];exact VRel.undef φ) (by rw [he];exact D.rel) ?_;grind [Stp.refl,MH]
 |call f l v2 s2 hw hcall hrun=>
  rw [hw];simp only [if_true];left;obtain ⟨hto,hcalls⟩:=hC f l (Z i) _ _ hrun;have hLh:∀k,k<(Z i).next->Lh R Z i k:=fun k hk=>.inl ⟨by rw [hrr],hk⟩
  have h0:∀k ob,(Z i).get k=some ob->MH Z R xl B k=some ob:=fun k ob hk=>by
   have hkl:k<(Z i).next:=by
    by_cases h:k<(Z i).next
    ·exact h
    ·rw [hdm k (by omega)] at hk;cases hk
   grind
  have hinv:Inv gl W0 N0 φ (Z i) w:=⟨D.rel.less h0,hdm,D.glob,D.good⟩;have go:∀l',VRels φ l l'->(execOp a'.eval o).run P w=.ok (.enter f l'.toArray) w->o.wp P a' w K Q:=by
   intro l' hl hrun2;unfold Go.Oper.wp;rw [hrun2];refine Calls.mono (hcalls W0 N0 φ w l' hinv (by rw [<-hz];exact hfree) hl) ?_;rintro E w' ⟨ψ,⟨v',rfl,hv'⟩,hi',hs'⟩;rw [<-hz] at hi' hs'
   have hj:=D.rel.join h0 hi'.rel hs' (gm':=MH Z R xl (Y9 B i)) (fun k ob hk=>by
    by_cases hwk:Wh R Z i k
    ·rw [(bringH k).1 hwk] at hk;exact .inl hk
    ·rw [(bringH k).2 hwk] at hk;have hsame:=hfr i hlt k hwk;cases hq:(Z i).get k with
     |none=>exact .inr ⟨rfl,hk⟩
     |some ob2=>
      have:=h0 k ob2 hq;rw [this] at hk;cases hk
      left;rw [hsame,hq])
   grind
  rcases hcall with ⟨args,hop,rfl⟩|⟨x,args,hop,ht⟩
  ·rw [hop] at hx;obtain ⟨c,ho,hcc,rfl⟩:=A4w (L3 hx rfl);have hvs:VRels φ (c.args.toList.map (A i).ev) (c.args.toList.map a'.eval):=VRels.of_map fun x hx=>opnd x (by rw [ho];simp [Op.operands,Call.operands,hcc];right;simpa using hx)
   refine go _ hvs ?_;have:=A4x (P:=P) ho hcc (ρ:=a'.eval) (first:=#[]) (cap:=#[]) rfl hto w
   simpa using this
  ·rw [hop] at hx;obtain ⟨c,ho,hcc,rfl⟩:=A3C (L3 hx rfl);have hvs:VRels φ (c.args.toList.map (A i).ev) (c.args.toList.map a'.eval):=VRels.of_map fun x hx=>opnd x (by rw [ho];simp [Op.operands,Call.operands,hcc];right;simpa using hx)
   have hxv:=opnd x (by rw [ho];simp [Op.operands,Call.operands,hcc]);grind [A3a,A4x]
 |prim p hw hpr hp=>
  rw [hw];simp only [if_true];left;have hflat:=hfl xo (List.mem_of_getElem? hxo);have hp':B0 (MH Z R xl B) (Z i).next (A i).ev xo.op=some p:=by
   rw [B1Z hflat (g:=(Z i).get) (fun k hk=>seeH k (.inr ⟨by rw [hrr],by rw [hrr];exact hk⟩))];exact hp
  have hnx:(Z i).next<=p.nx:=by
   have:=hgo.2.next;rw [hz,AS.upd_next] at this;exact this
  have hφn:(Z i).next<p.nx->φ (Z i).next=none:=fun h=>hfree _ (Nat.le_refl _) (by rw [hz,AS.upd_next];exact h)
  obtain ⟨ψ,w',v',hrun,hv',hr,hst⟩:=A74 o.op o rfl (A79 hx hpr) (ρ':=a'.eval) opnd hp' D.rel hφn (fun h=>by
   cases hq:MH Z R xl B (Z i).next with
   |none=>rfl
   |some ob=>
    obtain ⟨b,d,t',ob',hb,_⟩:=D.rel.obj _ _ hq
    rw [hφn h] at hb;cases hb)
  have he:MH Z R xl (Y9 B i)=Hp.upd (MH Z R xl B) p.δ:=by
   funext k
   by_cases hwk:Wh R Z i k
   ·rw [(bringH k).1 hwk,hz,AS.upd_get];have hmem:k∈p.δ.map (·.1):=by
     grind [Wh]
    have:∀(δ:List (Nat×Option AObj)) (g1 g2:Hp),k∈δ.map (·.1)->Hp.upd g1 δ k=Hp.upd g2 δ k:=by
     intro δ
     induction δ with
     |nil=>intro g1 g2 h;cases h
     |cons x r ih=>
      intro g1 g2 h;obtain ⟨j,ob⟩:=x;simp only [Hp.upd];grind [Hp.upd_other,Hp.set1_same]
    exact this _ _ _ hmem
   ·rw [(bringH k).2 hwk,Hp.upd_other];intro ob hm;exact hwk (.inr ⟨by rw [hrr],by rw [hrr];exact List.mem_map.2 ⟨_,hm,rfl⟩⟩)
  grind [Oper.wp_value,AS.upd_next]
end
theorem A3I:∀(l:List Oper) (n:Nat),Y5 n l=true->∀(i:Nat) (o:Oper),l[i]? =some o->∀e∈o.after.toList,Region.binds .any e=true->e.on<n+i
 |[],n,_,i,o,h,_,_,_=>by simp at h
 |o'::l,n,hb,i,o,h,e,he,hbe=>by
  simp only [Y5,Bool.and_eq_true,List.all_eq_true] at hb;cases i with
  |zero=>
   grind [G6]
  |succ i=>
   have:=A3I l (n+1) hb.2 i o (by simpa using h) e he hbe;omega
theorem B24 {ops:Array Oper} (hb:Y5 0 ops.toList=true) {B:Nat->Bool}
  (hB:∀(j:Nat) (o:Oper),ops[j]? =some o->B j=true->∀e∈o.after.toList,Region.binds .any e=true->B e.on=true):
  ∀(j:Nat) (o:Oper),ops[j]? =some o->(∀e∈o.after.toList,Region.binds .any e=true->B e.on=true)->∀k,Nat.testBit ((rowsOf ops.toList []).getD j 0) k=true->B k=true:=by
 intro j
 induction j using Nat.strongRecOn with
 |_ j ih=>
  intro o ho hdeps k hk;obtain ⟨e,he,hbe,hlt,h⟩:=A7g ops.toList [] hb j o (by simpa using ho) k (by simpa using hk);grind
section
variable {P:Program} {gl:Glb} {nt:Nat} {C:Callee} {ops:Array Oper} {xl:List XOper}
theorem C71 {a:Act} {s:AS} {A:Nat->Act} {Z:Nat->AS} {V:Nat->Value} {R:Nat->Rec} (t:Trace C xl a s A Z V R) (hG:A0d C) (hd:Dm s)
  (hc:∀(i:Nat) (o:Oper),ops[i]? =some o->∃xo:XOper,xl[i]? =some xo/\W8 P gl nt ops o=some xo) (hfl:∀x∈xl,B1Y x.op=true) (hn:xl.length=ops.size)
  (hb:Y5 0 ops.toList=true) (hcom:∀i j,i<j->j<xl.length->Nat.testBit ((rowsOf ops.toList []).getD j 0) i=false->Com ops xl R Z i j)
  (hC:COk P gl C) {W0:World} {N0:Nat} {φ0:Loc} {w0:World} {Q:Exit->Go.Act->World->Prop}
  (hQ:∀φ a' w,DSt gl nt xl a s A Z R W0 N0 φ0 w0 (fun _=>true) φ a' w->Q .normal a' w):
  ∀(fuel:Nat) (listed:Array Bool) (a':Go.Act) (w:World),listed.size=ops.size->left (fun j=>listed.getD j false) ops.size=fuel->
   (∀(j:Nat) (o:Oper),ops[j]? =some o->listed.getD j false=true->∀e∈o.after.toList,Region.binds .any e=true->listed.getD e.on false=true)->
   (∃φ,DSt gl nt xl a s A Z R W0 N0 φ0 w0 (fun j=>listed.getD j false) φ a' w)->wpAny P .any ops Q fuel listed a' w:=by
 have done:∀(listed:Array Bool) (a':Go.Act) (w:World),(∀j,j<ops.size->listed.getD j false=true)->(∃φ,DSt gl nt xl a s A Z R W0 N0 φ0 w0 (fun j=>listed.getD j false) φ a' w)->Q .normal a' w:=by
  rintro listed a' w hall ⟨φ,D⟩;have hT:∀B:Nat->Bool,(∀j,j<xl.length->B j=true)->MT A xl B=fun u=>(A xl.length).ev (.tmp u):=fun B hB=>funext fun u=>A6E (fun j hj h=>t.frameT hj h) hB
  have hH:∀B:Nat->Bool,(∀j,j<xl.length->B j=true)->MH Z R xl B=(Z xl.length).get:=fun B hB=>funext fun u=>A6E (X:=fun i=>(Z i).get) (fun j hj h=>t.frame hj h) hB
  have hall':∀j,j<xl.length->(fun j=>listed.getD j false) j=true:=fun j hj=>hall j (by omega)
  refine hQ φ a' w ⟨D.size,fun u=> ?_,D.df,?_,fun k h1 h2 h3=> ?_,D.glob,D.good,?_⟩
  ·rw [hT _ (fun _ _=>rfl),<-hT _ hall'];exact D.tm u
  ·rw [hH _ (fun _ _=>rfl),<-hH _ hall'];exact D.rel
  ·obtain ⟨j,hj,_,h⟩:=D.free k h1 h2 h3;exact ⟨j,hj,rfl,h⟩
  ·rw [hH _ (fun _ _=>rfl),<-hH _ hall'];exact D.stp
 have ready_nil:∀listed:Array Bool,(∀j,j<ops.size->listed.getD j false=true)->listed.size=ops.size->Region.ready .any ops listed=[]:=by
  intro listed hall hs;rw [List.eq_nil_iff_forall_not_mem];intro j hj;rw [mem_ready] at hj;grind
 intro fuel
 induction fuel with
 |zero=>
  intro listed a' w hs hf hcl hD;have hall:=A9l hf;exact ⟨ready_nil listed hall hs,done listed a' w hall hD⟩
 |succ fuel ih=>
  intro listed a' w hs hf hcl hD;refine ⟨fun hnil=>done listed a' w (fun j hj=> ?_) hD,fun i hi=> ?_⟩
  ·-- the least that is not done could be done
   have key:∀m,m<=ops.size->∀j,j<m->listed.getD j false=true:=by
    intro m
    induction m with
    |zero=>intro _ j h;omega
    |succ m ihm=>
     intro hm j hj
     by_cases e:j<m
     ·grind
     ·obtain rfl:j=m:=by omega
      cases hb2:listed.getD j false with
      |true=>rfl
      |false=>
       exfalso
       have hjl:j<ops.size:=by omega
       have ho:ops[j]? =some ops[j]:=by simp [hjl]
       have:j∈Region.ready .any ops listed:=by
        rw [mem_ready];refine ⟨?_,ops[j],ho,fun e he hbe=> ?_⟩
        ·grind
        ·have:=A3I ops.toList 0 hb j ops[j] (by simp [hjl]) e (by simpa using he) hbe;grind
       grind
   grind
  ·rw [mem_ready] at hi;obtain ⟨hi1,o,ho,hdeps⟩:=hi;have hlt:i<ops.size:=(Array.getElem?_eq_some_iff.1 ho).1;have hB:listed.getD i false=false:=by
    grind
   obtain ⟨φ,D⟩:=hD;have hset:(fun j=>(listed.setIfInBounds i true).getD j false)=Y9 (fun j=>listed.getD j false) i:=by
    simp_all<;>grind [Y9]
   refine B6r t hG hd hc hfl hC D ho hB (fun j hj hne h1 h2=> ?_) (fun ψ a'' w'' D'=> ?_)
   ·rcases Nat.lt_or_gt_of_ne hne with h|h
    ·refine (hcom j i h (by omega) ?_).symm;cases hbit:Nat.testBit ((rowsOf ops.toList []).getD i 0) j with
     |false=>rfl
     |true=>
      have:=B24 hb (B:=fun j=>listed.getD j false) hcl i o ho (fun e he hbe=>hdeps e (by simpa using he) hbe) j hbit;grind
    ·refine hcom i j h hj ?_;cases hbit:Nat.testBit ((rowsOf ops.toList []).getD j 0) i with
     |false=>rfl
     |true=>
      have ho':ops[j]? =some ops[j]:=by simp [show j<ops.size by omega]
      have:=B24 hb (B:=fun j=>listed.getD j false) hcl j _ ho' (hcl j _ ho' (h2 h)) i hbit;grind
   ·refine ih _ a'' w'' (by simp [hs]) ?_ ?_ ⟨ψ,by rw [hset];exact D'⟩
    ·grind [A9k]
    simp_all<;>grind
theorem B41 (hC:COk P gl C) (hG:A0d C) (hm:P.follows .mixedOrders=true) {id:Nat} (hx:O0 P gl nt ops ops.toList=some xl) {xc:XCode} (hcd:A4y ops xl=some xc) {n:Nat}
  {φ:Loc} {a:Act} {s:AS} {e:Ex} {a1:Act} {s1:AS} (h:G1 C n xc a s=some (e,a1,s1)) {a':Go.Act} {w:World} {W0:World} {N0:Nat} {Q:Exit->Go.Act->World->Prop}
  (ht:TRel nt φ a a') (hi:Inv gl W0 N0 φ s w) (hf:Fr φ s.next s1.next) (haft:Aft gl W0 N0 nt φ s w e a1 s1 Q):(Code.region id ops true).wp P Q a' w:=by
 unfold A4y at hcd;split at hcd
 ·rename_i hcond;cases hcd;simp only [Bool.and_eq_true,List.all_eq_true] at hcond;obtain ⟨hpairs,hedges,hokx⟩:=hcond;simp only [G1] at h;split at h
  ·rename_i a2 s2 l hops;split at h
   ·rename_i hpok;cases h;obtain ⟨A,Z,V,R,t,hA,hZ,hl⟩:=A5Z xl a s [] a1 s1 l hops;rw [List.reverse_nil,List.nil_append] at hl;obtain ⟨hlen,hget⟩:=A3H hx;have hn:xl.length=ops.size:=by rw [hlen];simp
    have hc:∀(i:Nat) (o:Oper),ops[i]? =some o->∃xo:XOper,xl[i]? =some xo/\W8 P gl nt ops o=some xo:=fun i o ho=>hget i o (by simpa using ho)
    have hfl:∀x∈xl,B1Y x.op=true:=fun x hx=>by have:=hokx x hx;simp only [okX,Bool.and_eq_true] at this;exact this.1
    have hbad:∀x∈xl,Q3 x.op≠.bad:=fun x hx e=>by have:=hokx x hx;simp only [okX,e,Bool.and_eq_true] at this;cases this.2
    have hcom:∀i j,i<j->j<xl.length->Nat.testBit ((rowsOf ops.toList []).getD j 0) i=false->Com ops xl R Z i j:=by
     intro i j hij hj hbit;have hmem:=A8Z (n:=xl.length) hij hj hbit;have hok:=hpairs (i,j) hmem;unfold B7P at hok;split at hok
     ·rename_i oi oj xi xj hoi hoj hxi hxj;simp only at hoi hoj hxi hxj;simp only [Bool.and_eq_true] at hok;obtain ⟨hap,hne⟩:=hok;obtain ⟨p1,p2,p3⟩:=Go.Oper.apart_spec hap;cases hb:A3b (Q3 xi.op) (Q3 xj.op) with
      |none=>grind
      |some b=>
       have hdyn:b=true->V9 (R i) (R j)=true:=by
        grind [unordered,rowsOf,B21,A4A]
       obtain ⟨hh1,hh2⟩:=B7Q t hG hi.dm hij hj hxi hxj hb hdyn (hbad xi (List.mem_of_getElem? hxi)) (hbad xj (List.mem_of_getElem? hxj));have dsti:xi.dst=oi.dst:=by
        obtain ⟨y,hy,hco⟩:=hc i oi hoi;rw [hxi] at hy;cases hy;exact (L5 hco).2.2.1
       have dstj:xj.dst=oj.dst:=by
        obtain ⟨y,hy,hco⟩:=hc j oj hoj;rw [hxj] at hy;cases hy;exact (L5 hco).2.2.1
       refine ⟨fun u hw=>⟨fun hl=> ?_,fun hw2=> ?_⟩,fun u hw hl=> ?_,hh1,hh2⟩
       ·obtain ⟨y,hy,hyd⟩:=hw;rw [hxi] at hy;cases hy;obtain ⟨o,ho,hlo⟩:=hl;grind
       ·obtain ⟨y,hy,hyd⟩:=hw;rw [hxi] at hy;cases hy;obtain ⟨z,hz,hzd⟩:=hw2;grind
       ·obtain ⟨y,hy,hyd⟩:=hw;rw [hxj] at hy;cases hy;obtain ⟨o,ho,hlo⟩:=hl;grind
     ·cases hok
    have hdr:Drawn w { w with drawn:=w.drawn+1 }:=⟨rfl,rfl,rfl,rfl⟩;have hMT0:MT A xl (fun _=>false)=fun u=>a.ev (.tmp u):=funext fun u=>by
     unfold MT;rw [A7c xl.length (fun _ _=>rfl),t.a0]
    have hMH0:MH Z R xl (fun _=>false)=s.get:=by
     unfold MH;funext u;rw [A7c xl.length (fun _ _=>rfl),t.s0]
    have hMT1:MT A xl (fun _=>true)=fun u=>a1.ev (.tmp u):=funext fun u=>by
     rw [<-hA];exact A6E (fun j hj h=>t.frameT hj h) (fun _ _=>rfl)
    have hMH1:MH Z R xl (fun _=>true)=s1.get:=funext fun u=>by
     rw [<-hZ];exact A6E (X:=fun i=>(Z i).get) (fun j hj h=>t.frame hj h) (fun _ _=>rfl)
    have hgo:=A0h hG xl _ _ _ _ _ _ hops hi.dm;have hdf:a1.df=a.df:=by
     have:∀m,m<=xl.length->(A m).df=a.df:=by
      intro m
      induction m with
      |zero=>intro _;rw [t.a0]
      |succ m ih=>
       intro hm;obtain ⟨_,h2⟩:=t.step m xl[m] (by simp [show m<xl.length by omega]);rw [h2,<-ih (by omega)];cases xl[m].dst<;>rfl
     grind
    refine wp_region_any hm (C71 t hG hi.dm hc hfl hn hedges hcom hC (W0:=W0) (N0:=N0) (φ0:=φ) (w0:=w) (fun ψ a'' w'' D=> ?_) ops.size _ _ _ (by simp) ?_ ?_ ⟨φ,?_⟩)
    ·have hrel:=D.rel;rw [hMH1] at hrel;have hst:=D.stp;rw [hMH1,hZ] at hst;exact haft ψ a'' w'' ⟨D.size,fun u=>by have:=D.tm u;rw [hMT1] at this;exact this,by rw [hdf];exact D.df⟩ ⟨hrel,hgo.1,D.glob,D.good⟩ hst
    ·have:(fun j=>(Array.replicate ops.size false).getD j false)=fun _=>false:=funext fun j=>by
      simp_all<;>grind
     rw [this,A9m]
    ·simp_all<;>grind
    ·have:(fun j=>(Array.replicate ops.size false).getD j false)=fun _=>false:=funext fun j=>by
      simp_all<;>grind
     rw [this];refine ⟨ht.size,fun u=>by rw [hMT0];exact ht.tm u,ht.df,by rw [hMH0];exact hi.rel.drawn hdr,fun k h1 h2 h3=> ?_,hi.glob,hi.good,?_⟩
     ·rw [hZ] at h2;exact absurd (hf k h1 h2) h3
     ·rw [hMH0,hZ];exact ((Stp.refl φ s.get w s.next).drawn hdr).widen (Nat.le_refl _) hgo.2.next
   ·cases h
  ·cases h
 ·cases hcd
end
section
variable (P:Program) (gl:Glb)
def E1 (nt:Nat):Code->Option XCode
 |.skip=>some .skip
 |.region _ ops draw=>match O0 P gl nt ops ops.toList with
  |some xl=>match draw with
   |true=>A4y ops xl
   |false=>some (.region xl)
  |none=>none
 |.seq x y=>match E1 nt x,E1 nt y with
  |some a,some b=>some (.seq a b)
  |_,_=>none
 |.cond c x y=>match A78 gl c,E1 nt x,E1 nt y with
  |true,some a,some b=>some (.cond c a b)
  |_,_,_=>none
 |.block id c=>match E1 nt c with
  |some a=>some (.block id a)
  |none=>none
 |.loop c=>match E1 nt c with
  |some a=>some (.loop a)
  |none=>none
 |.exit id=>some (.exit id)
 |.ret=>some .ret
 |_=>none
def A6F:ResultVar->Option XRes
 |.tmp t=>some (.tmp t)
 |.cell a t=>match A3s P t,G2 P t with
  |some true,some n=>some (.cellN a n)
  |some false,some 1=>some (.cell1 a)
  |_,_=>none
def A1a:List ResultVar->Option (List XRes)
 |[]=>some []
 |r::l=>match A6F P r,A1a l with
  |some x,some y=>some (x::y)
  |_,_=>none
def A8 (fn:Func):Option XFun:=
 match fn.body with
 |none=>none
 | some c => match E1 P gl fn.ntmps c, A1a P fn.results.toList, fn.name == "runtime.NumGoroutine" with
  |some xc,some rs,false=>some ⟨fn.ntmps,rs,xc⟩
  |_,_,_=>none
end
section
variable {P:Program} {gl:Glb} {W0:World} {N0:Nat} {nt:Nat} {C:Callee}
theorem B25 (hC:COk P gl C) (hG:A0d C) {ops:Array Oper} {o:Oper} {xo:XOper} (ho:W8 P gl nt ops o=some xo) {φ:Loc} {a:Act} {s:AS} {e:Ex} {a1:Act} {s1:AS} (hw:J4 a xo.guard=true)
  (h:A0g C [xo] a s=some (e,a1,s1)) {a':Go.Act} {w:World} {K:Go.Act->World->Prop} {Q:Exit->Go.Act->World->Prop} (ht:TRel nt φ a a') (hi:Inv gl W0 N0 φ s w) (hfr:Fr φ s.next s1.next)
  (hK:e=.normal->∀ψ a'' w'',TRel nt ψ a1 a''->Inv gl W0 N0 ψ s1 w''->Stp φ s.get w ψ s1.get w'' s.next s1.next->K a'' w'')
  (hQ:∀v,e=.panic v->∀ψ v' a'' w'',TRel nt ψ a1 a''->VRel ψ v v'->Inv gl W0 N0 ψ s1 w''->Stp φ s.get w ψ s1.get w'' s.next s1.next->Q (.panic [{ v:=v',recovered:=false }]) a'' w''):o.wp P a' w K Q:=by
 obtain ⟨hx,hg,hd,hok,hdst⟩:=L5 ho;rw [<-hd] at hdst;unfold A0g at h;rw [hw] at h;simp only at h;split at h
 ·rename_i f args hop;split at h
  ·rename_i v s2 hcall;simp only [A0g] at h;cases h;refine A1s hC hG ho hi ht (.inl ⟨args,hop,rfl⟩) hcall hfr ?_ (fun v' h=>by cases h);rintro v2 hv2 ψ v' w' hv hi' hs';cases hv2;rw [<-hd];exact hK rfl ψ _ w' ((ht.mono hs'.le).put hdst hv) hi' hs'
  ·rename_i v s2 hcall;cases h;refine A1s hC hG ho hi ht (.inl ⟨args,hop,rfl⟩) hcall hfr (fun v' h=>by cases h) ?_;rintro v2 hv2 ψ v' w' hv hi' hs';cases hv2;exact hQ v rfl ψ v' a' w' (ht.mono hs'.le) hv hi' hs'
  ·cases h
 ·rename_i x args hop;split at h
  ·rename_i f la htar;split at h
   ·rename_i v s2 hcall;simp only [A0g] at h;cases h;refine A1s hC hG ho hi ht (.inr ⟨x,args,hop,htar⟩) hcall hfr ?_ (fun v' h=>by cases h);rintro v2 hv2 ψ v' w' hv hi' hs';cases hv2;rw [<-hd];exact hK rfl ψ _ w' ((ht.mono hs'.le).put hdst hv) hi' hs'
   ·rename_i v s2 hcall;cases h;refine A1s hC hG ho hi ht (.inr ⟨x,args,hop,htar⟩) hcall hfr (fun v' h=>by cases h) ?_;rintro v2 hv2 ψ v' w' hv hi' hs';cases hv2;exact hQ v rfl ψ v' a' w' (ht.mono hs'.le) hv hi' hs'
   ·cases h
  ·cases h
 ·rename_i x hop;split at h
  ·rename_i t v hv;cases h;rw [hop] at hx;have hop2:=A3E (L3 hx rfl);have hxv:=ht.eval hi (hok x (by rw [hop2];simp [Op.operands]));rw [hv] at hxv;unfold Go.Oper.wp;cases hq:a'.eval x<;>rw [hq] at hxv<;>cases hxv
   rename_i v' hv';have:(execOp a'.eval o).run P w=.halt (.panic (.iface t v')) w:=by
    simp only [execOp,hop2,hq,Instr.panic];rfl
   rw [this];exact hQ _ rfl φ _ a' w ht (.iface t hv') hi (Stp.refl _ _ _ _)
  ·cases h
 ·rename_i x args hop;split at h
  ·rename_i f la htar;simp only [A0g] at h;cases h;rw [hop] at hx;obtain ⟨c,hop2,hcc,rfl⟩:=A3D (L3 hx rfl);have hvs:=VRels.of_ops hi ht (l:=c.args.toList) fun x hx=>hok x (by rw [hop2];simp [Op.operands,Call.operands,hcc];right;simpa using hx)
   have hxv:=ht.eval hi (hok x (by rw [hop2];simp [Op.operands,Call.operands,hcc]));obtain ⟨first,cap,e1,e2⟩:=A3a hxv hvs htar;unfold Go.Oper.wp;rw [A9h hop2 hcc e1];rw [Go.Oper.upon_defer,<-hd]
   exact hK rfl φ _ w (TRel.put (a:=⟨a.tm,⟨f,la⟩::a.df⟩) (a':={ a' with defers:={ target:=.fn (.func f) cap,args:=first++c.args.map a'.eval }::a'.defers }) ⟨ht.size,ht.tm,⟨⟨cap,rfl,by simpa using e2⟩,ht.df⟩⟩ hdst (VRel.undef φ)) hi (Stp.refl _ _ _ _)
  ·cases h
 ·rename_i h1 h2 h3 h4;split at h
  ·rename_i p hp;simp only [A0g] at h;cases h;have hpr:A0j xo.op=true:=by
    cases hq:xo.op<;>first|rfl|exact absurd hq (h1 _ _)|exact absurd hq (h2 _ _)|exact absurd hq (h3 _)|exact absurd hq (h4 _ _)|(rw [hq] at hp;simp only [B0] at hp;cases hp)
   obtain ⟨ψ,w',v',hrun,ht',hi',hs'⟩:=B5a ho hpr hi ht hp hfr;grind [Oper.wp_value]
  ·cases h
theorem J6 (hm:P.follows .mixedOrders=true) (hC:COk P gl C) (hG:A0d C) (n:Nat):∀(c:Code) (xc:XCode),E1 P gl nt c=some xc->∀(φ:Loc) (a:Act) (s:AS) (e:Ex) (a1:Act) (s1:AS),G1 C n xc a s=some (e,a1,s1)->
  ∀(a':Go.Act) (w:World) (Q:Exit->Go.Act->World->Prop),TRel nt φ a a'->Inv gl W0 N0 φ s w->Fr φ s.next s1.next->Aft gl W0 N0 nt φ s w e a1 s1 Q->c.wp P Q a' w
 |.skip,xc,hc,φ,a,s,e,a1,s1,h,a',w,Q,ht,hi,hf,haft=>by
  simp only [E1] at hc;cases hc;simp only [G1] at h;cases h;exact wp_skip (haft φ a' w ht hi (Stp.refl _ _ _ _))
 |.region id ops draw,xc,hc,φ,a,s,e,a1,s1,h,a',w,Q,ht,hi,hf,haft=>by
  simp only [E1] at hc;split at hc
  ·rename_i xl hx;split at hc
   ·grind [B41]
   ·cases hc;simp only [G1] at h;exact wp_region_list (B6o hC hG ops.toList xl hx φ a s e a1 s1 h a' w Q ht hi hf haft)
  ·cases hc
 |.seq x y,xc,hc,φ,a,s,e,a1,s1,h,a',w,Q,ht,hi,hf,haft=>by
  simp only [E1] at hc;split at hc
  ·rename_i xa xb h1 h2;cases hc;simp only [G1] at h;split at h
   ·rename_i a2 s2 hr;have g1:=E5 hG n _ _ _ _ _ _ hr hi.dm;have g2:=E5 hG n _ _ _ _ _ _ h g1.1;refine wp_seq (J6 hm hC hG n x xa h1 φ a s _ a2 s2 hr a' w _ ht hi (hf.le g2.2.next) ?_);intro ψ a'' w'' ht' hi' hs';exact J6 hm hC hG n y xb h2 ψ a2 s2 e a1 s1 h a'' w'' Q ht' hi' (hf.step hs' g1.2.next) (haft.step hs' g1.2.next g2.2.next)
   ·rename_i hr;refine wp_seq (J6 hm hC hG n x xa h1 φ a s e a1 s1 h a' w _ ht hi hf ?_);intro ψ a'' w'' ht' hi' hs';have:=haft ψ a'' w'' ht' hi' hs';cases e with
    |normal=>exact absurd h (hr _ _)
    |exit k=>exact this
    |ret=>exact this
    |panic v=>exact this
  ·cases hc
 |.cond c x y,xc,hc,φ,a,s,e,a1,s1,h,a',w,Q,ht,hi,hf,haft=>by
  simp only [E1] at hc;split at hc
  ·rename_i xa xb h0 h1 h2;cases hc;simp only [G1] at h;have hcv:=ht.eval hi h0;split at h
   ·rename_i hv;rw [hv] at hcv;have e1:a'.eval c=.bool true:=by cases hq:a'.eval c<;>rw [hq] at hcv<;>cases hcv;rfl
    exact wp_cond_true e1 (J6 hm hC hG n x xa h1 φ a s e a1 s1 h a' w Q ht hi hf haft)
   ·rename_i hv;rw [hv] at hcv;have e1:a'.eval c=.bool false:=by cases hq:a'.eval c<;>rw [hq] at hcv<;>cases hcv;rfl
    exact wp_cond_false e1 (J6 hm hC hG n y xb h2 φ a s e a1 s1 h a' w Q ht hi hf haft)
   ·cases h
  ·cases hc
 |.block id c,xc,hc,φ,a,s,e,a1,s1,h,a',w,Q,ht,hi,hf,haft=>by
  simp only [E1] at hc;split at hc
  ·rename_i xa h1;cases hc;simp only [G1] at h;split at h
   ·rename_i k a2 s2 hr;split at h
    ·rename_i hk;rw [D8] at hk;obtain rfl:=of_decide_eq_true hk;cases h;refine wp_block (J6 hm hC hG n c xa h1 φ a s _ a1 s1 hr a' w _ ht hi hf ?_);intro ψ a'' w'' ht' hi' hs';have:=haft ψ a'' w'' ht' hi' hs';simp only [exQ,Exit.inBlock,if_true];exact this
    ·rename_i hk;rw [D8] at hk;have hk:=of_decide_eq_false hk;cases h;refine wp_block (J6 hm hC hG n c xa h1 φ a s _ a1 s1 hr a' w _ ht hi hf ?_);intro ψ a'' w'' ht' hi' hs';have:=haft ψ a'' w'' ht' hi' hs';simp only [exQ,Exit.inBlock,if_neg hk];exact this
   ·rename_i hr;refine wp_block (J6 hm hC hG n c xa h1 φ a s e a1 s1 h a' w _ ht hi hf ?_);intro ψ a'' w'' ht' hi' hs';have:=haft ψ a'' w'' ht' hi' hs';cases e with
    |normal=>exact this
    |exit k=>grind
    |ret=>exact this
    |panic v=>exact this
  ·cases hc
 |.loop c,xc,hc,φ,a,s,e,a1,s1,h,a',w,Q,ht,hi,hf,haft=>by
  simp only [E1] at hc;split at hc
  ·rename_i xa h1;cases hc;simp only [G1] at h;refine wp_loop_rounds n ?_;have key:∀(m:Nat) (φ:Loc) (a:Act) (s:AS) (a':Go.Act) (w:World),A2u (G1 C n xa) m a s=some (e,a1,s1)->TRel nt φ a a'->Inv gl W0 N0 φ s w->Fr φ s.next s1.next->Aft gl W0 N0 nt φ s w e a1 s1 Q->Code.rounds P c Q m a' w:=by
    intro m
    induction m with
    |zero=>grind [A2u]
    |succ m ih=>
     intro φ a s a' w h ht hi hf haft;simp only [A2u] at h;rw [rounds_succ];split at h
     ·rename_i a2 s2 hr;have g1:=E5 hG n _ _ _ _ _ _ hr hi.dm;have g2:=A3W hG (fun a s e a1 s1 h=>E5 hG n _ _ _ _ _ _ h) m _ _ _ _ _ h g1.1;refine J6 hm hC hG n c xa h1 φ a s _ a2 s2 hr a' w _ ht hi (hf.le g2.2.next) ?_;intro ψ a'' w'' ht' hi' hs';exact ih ψ a2 s2 a'' w'' h ht' hi' (hf.step hs' g1.2.next) (haft.step hs' g1.2.next g2.2.next)
     ·rename_i hr;refine J6 hm hC hG n c xa h1 φ a s e a1 s1 h a' w _ ht hi hf ?_;intro ψ a'' w'' ht' hi' hs';have:=haft ψ a'' w'' ht' hi' hs';cases e with
      |normal=>exact absurd h (hr _ _)
      |exit k=>exact this
      |ret=>exact this
      |panic v=>exact this
   grind
  ·cases hc
 |.exit id,xc,hc,φ,a,s,e,a1,s1,h,a',w,Q,ht,hi,hf,haft=>by
  simp only [E1] at hc;cases hc;simp only [G1] at h;cases h;exact wp_exit (haft φ a' w ht hi (Stp.refl _ _ _ _))
 |.ret,xc,hc,φ,a,s,e,a1,s1,h,a',w,Q,ht,hi,hf,haft=>by
  simp only [E1] at hc;cases hc;simp only [G1] at h;cases h;exact wp_ret (haft φ a' w ht hi (Stp.refl _ _ _ _))
 |.rangeFunc _ _ _ _,xc,hc,_,_,_,_,_,_,_,_,_,_,_,_,_,_=>by simp only [E1] at hc;cases hc
 |.scope _,xc,hc,_,_,_,_,_,_,_,_,_,_,_,_,_,_=>by simp only [E1] at hc;cases hc
 |.label _,xc,hc,_,_,_,_,_,_,_,_,_,_,_,_,_,_=>by simp only [E1] at hc;cases hc
 |.goto _,xc,hc,_,_,_,_,_,_,_,_,_,_,_,_,_,_=>by simp only [E1] at hc;cases hc
 |.refuse _,xc,hc,_,_,_,_,_,_,_,_,_,_,_,_,_,_=>by simp only [E1] at hc;cases hc
end
section
variable {P:Program} {gl:Glb} {W0:World} {N0:Nat} {nt:Nat} {C:Callee}
theorem A5s {id:Nat} {c:Code} {Q:Exit->Go.Act->List Frame->World->Prop} {a:Go.Act} {cs:List Frame} {w:World}
  (h:c.wpS P (fun e a cs w=>match e with|.exit id'=>(if id'=id then Q .normal a cs w else Q (.exit id') a cs w)|e=>Q e a cs w) a cs w):(Code.block id c).wpS P Q a cs w:=by
 intro b k hb hr;obtain ⟨e,a₁,cs₁,w₁,hq,harr⟩:=h b (.inBlock id::k) hb hr;cases e with
 |normal=>exact ⟨.normal,a₁,cs₁,w₁,hq,.head step_block (Steps.trans harr (.one step_inBlock))⟩
 |exit id'=>
  by_cases hid:id'=id
  ·simp only [hid,if_true] at hq;exact ⟨.normal,a₁,cs₁,w₁,hq,.head step_block (harr k (by simp [exitTo,hid]))⟩
  ·simp only [hid,if_false] at hq;refine ⟨.exit id',a₁,cs₁,w₁,hq,fun k' hk=>.head step_block (harr k' ?_)⟩;have:(id==id')=false:=by simp;exact fun h=>hid h.symm
   simp [exitTo,this,hk]
 |goto l=>exact ⟨_,a₁,cs₁,w₁,hq,fun k' hk=>.head step_block (harr k' (by simp [gotoIn,hk]))⟩
 |ret=>exact ⟨_,a₁,cs₁,w₁,hq,.of_steps (.one step_block) harr⟩
 |panic ch=>exact ⟨_,a₁,cs₁,w₁,hq,.of_steps (.one step_block) harr⟩
 |outgrown=>exact ⟨_,a₁,cs₁,w₁,hq,.of_steps (b:=b) (k:=k) (cs:=cs₁) (e:=.outgrown) (.one step_block) harr⟩
def MRel (φ:Loc):Mode->FrameMode->Prop
 |.ret,u=>u=.returning
 |.panicking v,u=>∃v',u=.panicking [{ v:=v',recovered:=false }]/\VRel φ v v'
 |.recovered,u=>∃v',u=.panicking [{ v:=v',recovered:=true }]
theorem MRel.mono {φ ψ:Loc} (h:φ.le ψ) {m:Mode} {u:FrameMode} (r:MRel φ m u):MRel ψ m u:=by
 cases m with
 |ret=>exact r
 |panicking v=>obtain ⟨v',h1,h2⟩:=r;exact ⟨v',h1,h2.mono h⟩
 |recovered=>exact r
def exS (Q:Exit->Go.Act->List Frame->World->Prop) (φ:Loc):Ex->Go.Act->List Frame->World->Prop
 |.normal,a,cs,w=>Q .normal a cs w
 |.exit id,a,cs,w=>Q (.exit id) a cs w
 |.ret,a,cs,w=>Q .ret a cs w
 |.panic v,a,cs,w=>∀v',VRel φ v v'->Q (.panic [{ v:=v',recovered:=false }]) a cs w
def AftS (gl:Glb) (W0:World) (N0:Nat) (nt:Nat) (c₀:Frame) (cs:List Frame) (φ:Loc) (s:AS) (w:World) (e:Ex) (a1:Act) (s1:AS) (m1:Mode) (Q:Exit->Go.Act->List Frame->World->Prop):Prop:=
 ∀ψ a' w' u',TRel nt ψ a1 a'->Inv gl W0 N0 ψ s1 w'->Stp φ s.get w ψ s1.get w' s.next s1.next->MRel ψ m1 u'->exS Q ψ e a' ({ c₀ with mode:=u' }::cs) w'
theorem AftS.step {c₀:Frame} {cs:List Frame} {φ ψ:Loc} {e:Ex} {a1:Act} {s s1 s2:AS} {m:Mode} {w w1:World} {Q:Exit->Go.Act->List Frame->World->Prop} (h:AftS gl W0 N0 nt c₀ cs φ s w e a1 s2 m Q) (st:Stp φ s.get w ψ s1.get w1 s.next s1.next) (h1:s.next<=s1.next) (h2:s1.next<=s2.next):
  AftS gl W0 N0 nt c₀ cs ψ s1 w1 e a1 s2 m Q:=
 fun χ a' w' u' ht hi hs hm=>h χ a' w' u' ht hi (st.trans hs h1 h2) hm
theorem A0r (hm:P.follows .mixedOrders=true) (hC:COk P gl C) (hG:A0d C) (n:Nat) {c:Code} {xc:XCode} (hc:E1 P gl nt c=some xc) {φ:Loc} {a:Act} {s:AS} {e:Ex} {a1:Act} {s1:AS} (h:G1 C n xc a s=some (e,a1,s1))
  {c₀:Frame} {cs:List Frame} {m:Mode} {u:FrameMode} (hmr:MRel φ m u) {a':Go.Act} {w:World} {Q:Exit->Go.Act->List Frame->World->Prop} (ht:TRel nt φ a a') (hi:Inv gl W0 N0 φ s w) (hf:Fr φ s.next s1.next)
  (haft:AftS gl W0 N0 nt c₀ cs φ s w e a1 s1 m Q):c.wpS P Q a' ({ c₀ with mode:=u }::cs) w:=by
 refine wpS_of_wp (J6 hm hC hG n c xc hc φ a s e a1 s1 h a' w _ ht hi hf ?_);intro ψ a'' w'' ht' hi' hs';have:=haft ψ a'' w'' u ht' hi' hs' (hmr.mono hs'.le);cases e<;>exact this
theorem B26 {ops:Array Oper} {Q:Exit->Go.Act->List Frame->World->Prop} (hC:COk P gl C) (hG:A0d C) {c₀:Frame} {cs:List Frame}:∀(l:List Oper) (xl:List XOper) (k:Nat),(∀j:Nat,l[j]? =ops[k+j]?)->O0 P gl nt ops l=some xl->
  ∀(φ:Loc) (a:Act) (s:AS) (m:Mode) (e:Ex) (a1:Act) (s1:AS) (m1:Mode),xopsR C xl a s m=some (e,a1,s1,m1)->∀(a':Go.Act) (w:World) (u:FrameMode),TRel nt φ a a'->Inv gl W0 N0 φ s w->Fr φ s.next s1.next->MRel φ m u->
   AftS gl W0 N0 nt c₀ cs φ s w e a1 s1 m1 Q->wpOpsS P ops Q (List.range' k l.length) a' ({ c₀ with mode:=u }::cs) w:=by
 intro l
 induction l with
 |nil=>
  intro xl k hk hc φ a s m e a1 s1 m1 h a' w u ht hi hf hmr haft;simp only [O0] at hc;cases hc;simp only [xopsR] at h;cases h;exact haft φ a' w u ht hi (Stp.refl _ _ _ _) hmr
 |cons o l ih=>
  intro xl k hk hc φ a s m e a1 s1 m1 h a' w u ht hi hf hmr haft;simp only [O0] at hc;split at hc
  ·rename_i xo xl ho hl;cases hc;obtain ⟨hx,hg,hd,hok,hdst⟩:=L5 ho;have h0:ops[k]? =some o:=by simpa using (hk 0).symm
   have hk':∀j:Nat,l[j]? =ops[k+1+j]? :=fun j=>by have:=hk (j+1);simpa [Nat.add_assoc,Nat.add_comm 1 j] using this
   simp only [List.length_cons,List.range'_succ,wpOpsS,h0];rw [A5q hg ht];have hdst':=hdst;rw [<-hd] at hdst';unfold xopsR at h;split at h
   ·rename_i hw;rw [hw];simp only [Bool.false_eq_true,if_false];rw [<-hd];exact ih xl (k+1) hk' hl φ _ s m e a1 s1 m1 h _ w u (ht.put hdst' (VRel.undef φ)) hi hf hmr haft
   ·rename_i hw;rw [hw];simp only [if_true];split at h
    ·-- recover
     rename_i hop;rw [hop] at hx;obtain ⟨c,hop2,hcc,hca⟩:=A6z (L3 hx rfl);have hrun:(execOp a'.eval o).run P w=.ok .recover w:=by
      simp only [execOp,hop2,resolve,hcc,Sem.run_bind,Sem.run_pure,Result.andThen_ok,invoke,builtin]
     rw [hrun];simp only;split at h
     ·rename_i v;obtain ⟨v',rfl,hv⟩:=hmr;simp only [recoverD];rw [<-hd];exact ih xl (k+1) hk' hl φ _ s _ e a1 s1 m1 h _ w (.panicking [{ v:=v',recovered:=true }]) (ht.put hdst' hv) hi hf ⟨v',rfl⟩ haft
     ·rename_i hnp;have:recoverD ({ c₀ with mode:=u }::cs)=none:=by
       cases m with
       |ret=>cases hmr;rfl
       |panicking v=>grind
       |recovered=>obtain ⟨v',rfl⟩:=hmr;rfl
      rw [this];simp only;rw [<-hd];exact ih xl (k+1) hk' hl φ _ s m e a1 s1 m1 h _ w u (ht.put hdst' .nilIface) hi hf hmr haft
    ·-- another operation
     have toS:∀(K:Go.Act->World->Prop),o.wp P a' w K (fun e a' w'=>Q e a' ({ c₀ with mode:=u }::cs) w')->(∀a' w',K a' w'->wpOpsS P ops Q (List.range' (k+1) l.length) a' ({ c₀ with mode:=u }::cs) w')->
       (match (execOp a'.eval o).run P w with
        |.ok .recover w'=>
         match recoverD ({ c₀ with mode:=u }::cs) with
         |some (v,cs')=>wpOpsS P ops Q (List.range' (k+1) l.length) (a'.put o.dst v) cs' w'
         |none=>wpOpsS P ops Q (List.range' (k+1) l.length) (a'.put o.dst .nilIface) ({ c₀ with mode:=u }::cs) w'
        |r=>o.upon P a' (fun a' w'=>wpOpsS P ops Q (List.range' (k+1) l.length) a' ({ c₀ with mode:=u }::cs) w') (fun e a' w'=>Q e a' ({ c₀ with mode:=u }::cs) w') r):=by
      intro K hwp hKs;have hwp2:=Go.Oper.wp_mono hKs hwp;unfold Go.Oper.wp at hwp2;split
      ·rename_i w2 hr;rw [hr] at hwp2;exact hwp2.elim
      ·exact hwp2
     split at h
     ·rename_i a2 s2 hr;have g1:=N1 hG _ _ _ _ _ _ hr hi.dm;have g2:=A0i hG _ _ _ _ _ _ _ _ h g1.1;refine toS (fun a'' w''=>∃ψ,TRel nt ψ a2 a''/\Inv gl W0 N0 ψ s2 w''/\Stp φ s.get w ψ s2.get w'' s.next s2.next) (B25 hC hG ho hw hr ht hi (hf.le g2.2.next) (fun _ ψ a'' w'' h1 h2 h3=>⟨ψ,h1,h2,h3⟩) (fun v hv=>by cases hv)) ?_;rintro a'' w'' ⟨ψ,h1,h2,h3⟩
      exact ih xl (k+1) hk' hl ψ a2 s2 m e a1 s1 m1 h a'' w'' u h1 h2 (hf.step h3 g1.2.next) (hmr.mono h3.le) (haft.step h3 g1.2.next g2.2.next)
     ·rename_i e2 a2 s2 hne hr;cases h;refine toS (fun _ _=>False) (B25 hC hG ho hw hr ht hi hf (fun he=>absurd he (by rintro rfl;exact hne rfl)) (fun v hv ψ v' a'' w'' h1 h2 h3 h4=> ?_)) (fun _ _ h=>h.elim);subst hv;exact haft ψ a'' w'' u h1 h3 h4 (hmr.mono h4.le) v' h2
     ·cases h
  ·cases hc
theorem O4 (hm:P.follows .mixedOrders=true) (hC:COk P gl C) (hG:A0d C) (n:Nat) {c₀:Frame} {cs:List Frame}:∀(c:Code) (xc:XCode),E1 P gl nt c=some xc->∀(φ:Loc) (a:Act) (s:AS) (m:Mode) (e:Ex) (a1:Act) (s1:AS) (m1:Mode),
  xcodeR C n xc a s m=some (e,a1,s1,m1)->∀(a':Go.Act) (w:World) (u:FrameMode) (Q:Exit->Go.Act->List Frame->World->Prop),TRel nt φ a a'->Inv gl W0 N0 φ s w->Fr φ s.next s1.next->MRel φ m u->AftS gl W0 N0 nt c₀ cs φ s w e a1 s1 m1 Q->
   c.wpS P Q a' ({ c₀ with mode:=u }::cs) w
 |.skip,xc,hc,φ,a,s,m,e,a1,s1,m1,h,a',w,u,Q,ht,hi,hf,hmr,haft=>by
  have hc0:=hc;simp only [E1] at hc;cases hc;simp only [xcodeR] at h;split at h
  ·rename_i hr;cases h;exact A0r hm hC hG n hc0 hr hmr ht hi hf haft
  ·cases h
 |.region id ops draw,xc,hc,φ,a,s,m,e,a1,s1,m1,h,a',w,u,Q,ht,hi,hf,hmr,haft=>by
  have hc0:=hc;simp only [E1] at hc;split at hc
  ·rename_i xl hx;split at hc
   ·unfold A4y at hc;split at hc
    ·cases hc;simp only [xcodeR] at h;split at h
     ·rename_i hr;cases h;exact A0r hm hC hG n hc0 hr hmr ht hi hf haft
     ·cases h
    ·cases hc
   ·cases hc;simp only [xcodeR] at h;refine wpS_region ?_;rw [List.range_eq_range',<-Array.length_toList];exact B26 hC hG ops.toList xl 0 (by simp) hx φ a s m e a1 s1 m1 h a' w u ht hi hf hmr haft
  ·cases hc
 |.seq x y,xc,hc,φ,a,s,m,e,a1,s1,m1,h,a',w,u,Q,ht,hi,hf,hmr,haft=>by
  simp only [E1] at hc;split at hc
  ·rename_i xa xb h1 h2;cases hc;simp only [xcodeR] at h;split at h
   ·rename_i a2 s2 m2 hr;have g1:=I8 hG n _ _ _ _ _ _ _ _ hr hi.dm;have g2:=I8 hG n _ _ _ _ _ _ _ _ h g1.1;refine wpS_seq (O4 hm hC hG n x xa h1 φ a s m _ a2 s2 m2 hr a' w u _ ht hi (hf.le g2.2.next) hmr ?_);intro ψ a'' w'' u'' ht' hi' hs' hm';exact O4 hm hC hG n y xb h2 ψ a2 s2 m2 e a1 s1 m1 h a'' w'' u'' Q ht' hi' (hf.step hs' g1.2.next) hm' (haft.step hs' g1.2.next g2.2.next)
   ·rename_i hr;refine wpS_seq (O4 hm hC hG n x xa h1 φ a s m e a1 s1 m1 h a' w u _ ht hi hf hmr ?_);intro ψ a'' w'' u'' ht' hi' hs' hm';have:=haft ψ a'' w'' u'' ht' hi' hs' hm';cases e with
    |normal=>grind
    |exit k=>exact this
    |ret=>exact this
    |panic v=>exact this
  ·cases hc
 |.cond c x y,xc,hc,φ,a,s,m,e,a1,s1,m1,h,a',w,u,Q,ht,hi,hf,hmr,haft=>by
  simp only [E1] at hc;split at hc
  ·rename_i xa xb h0 h1 h2;cases hc;simp only [xcodeR] at h;have hcv:=ht.eval hi h0;split at h
   ·rename_i hv;rw [hv] at hcv;have e1:a'.eval c=.bool true:=by cases hq:a'.eval c<;>rw [hq] at hcv<;>cases hcv;rfl
    exact wpS_cond e1 (by simpa using O4 hm hC hG n x xa h1 φ a s m e a1 s1 m1 h a' w u Q ht hi hf hmr haft)
   ·rename_i hv;rw [hv] at hcv;have e1:a'.eval c=.bool false:=by cases hq:a'.eval c<;>rw [hq] at hcv<;>cases hcv;rfl
    exact wpS_cond e1 (by simpa using O4 hm hC hG n y xb h2 φ a s m e a1 s1 m1 h a' w u Q ht hi hf hmr haft)
   ·cases h
  ·cases hc
 |.block id c,xc,hc,φ,a,s,m,e,a1,s1,m1,h,a',w,u,Q,ht,hi,hf,hmr,haft=>by
  simp only [E1] at hc;split at hc
  ·rename_i xa h1;cases hc;simp only [xcodeR] at h;split at h
   ·rename_i k a2 s2 m2 hr;split at h
    ·rename_i hk;rw [D8] at hk;obtain rfl:=of_decide_eq_true hk;cases h;refine A5s (O4 hm hC hG n c xa h1 φ a s m _ a1 s1 m1 hr a' w u _ ht hi hf hmr ?_);intro ψ a'' w'' u'' ht' hi' hs' hm';have:=haft ψ a'' w'' u'' ht' hi' hs' hm';grind [exS]
    ·rename_i hk;rw [D8] at hk;have hk:=of_decide_eq_false hk;cases h;refine A5s (O4 hm hC hG n c xa h1 φ a s m _ a1 s1 m1 hr a' w u _ ht hi hf hmr ?_);intro ψ a'' w'' u'' ht' hi' hs' hm';have:=haft ψ a'' w'' u'' ht' hi' hs' hm';grind [exS]
   ·rename_i hr;refine A5s (O4 hm hC hG n c xa h1 φ a s m e a1 s1 m1 h a' w u _ ht hi hf hmr ?_);intro ψ a'' w'' u'' ht' hi' hs' hm';have:=haft ψ a'' w'' u'' ht' hi' hs' hm';cases e with
    |normal=>exact this
    |exit k=>grind
    |ret=>exact this
    |panic v=>exact this
  ·cases hc
 |.loop c,xc,hc,φ,a,s,m,e,a1,s1,m1,h,a',w,u,Q,ht,hi,hf,hmr,haft=>by
  have hc0:=hc;simp only [E1] at hc;split at hc
  ·cases hc;simp only [xcodeR] at h;split at h
   ·rename_i hr;cases h;exact A0r hm hC hG n hc0 hr hmr ht hi hf haft
   ·cases h
  ·cases hc
 |.exit id,xc,hc,φ,a,s,m,e,a1,s1,m1,h,a',w,u,Q,ht,hi,hf,hmr,haft=>by
  have hc0:=hc;simp only [E1] at hc;cases hc;simp only [xcodeR] at h;split at h
  ·rename_i hr;cases h;exact A0r hm hC hG n hc0 hr hmr ht hi hf haft
  ·cases h
 |.ret,xc,hc,φ,a,s,m,e,a1,s1,m1,h,a',w,u,Q,ht,hi,hf,hmr,haft=>by
  have hc0:=hc;simp only [E1] at hc;cases hc;simp only [xcodeR] at h;split at h
  ·rename_i hr;cases h;exact A0r hm hC hG n hc0 hr hmr ht hi hf haft
  ·cases h
 |.rangeFunc _ _ _ _,xc,hc,_,_,_,_,_,_,_,_,_,_,_,_,_,_,_,_,_,_=>by simp only [E1] at hc;cases hc
 |.scope _,xc,hc,_,_,_,_,_,_,_,_,_,_,_,_,_,_,_,_,_,_=>by simp only [E1] at hc;cases hc
 |.label _,xc,hc,_,_,_,_,_,_,_,_,_,_,_,_,_,_,_,_,_,_=>by simp only [E1] at hc;cases hc
 |.goto _,xc,hc,_,_,_,_,_,_,_,_,_,_,_,_,_,_,_,_,_,_=>by simp only [E1] at hc;cases hc
 |.refuse _,xc,hc,_,_,_,_,_,_,_,_,_,_,_,_,_,_,_,_,_,_=>by simp only [E1] at hc;cases hc
end
theorem Tri.get_ofList {α:Type}:∀(l:List α) (k:Nat) (t:Tri α) (j:Nat),(Tri.ofList l k t).get j=if k<=j/\j<k+l.length then l[j - k]? else t.get j
 |[],k,t,j=>by simp [Tri.ofList];omega
 |x::l,k,t,j=>by
  rw [Tri.ofList,Tri.get_ofList l (k+1) (t.set k x) j,Tri.get_set]
  by_cases h:k+1<=j/\j<k+1+l.length
  ·rw [if_pos h,if_pos (by simp;omega),show j - k=(j - (k+1))+1 by omega];simp
  ·rw [if_neg h]
   by_cases e:k=j
   ·subst e;rw [if_pos rfl,if_pos (by simp)];simp
   ·rw [if_neg e,if_neg (by simp;omega)]
theorem A9n {nt:Nat} {φ:Loc} {args args':List Value} (h:VRels φ args args'):TRel nt φ (A0H args) { tmps:=args'.toArray++Array.replicate (nt - args'.toArray.size) undef,defers:=[] }:=by
 have hl:=h.length;refine ⟨?_,fun t=> ?_,trivial⟩
 ·grind
 ·have h1:(A0H args).ev (.tmp t)=(args[t]?).getD undef:=by
   simp only [A0H,Act.ev,Tri.get_ofList,Nat.zero_le,true_and,Nat.zero_add,Nat.sub_zero,Tri.get_nil];grind
  have h2:Go.Act.eval { tmps:=args'.toArray++Array.replicate (nt - args'.toArray.size) undef,defers:=[] } (.tmp t)=(args'[t]?).getD undef:=by
   simp only [Go.Act.eval,Array.getD_eq_getD_getElem?,Array.getElem?_append];grind
  rw [h1,h2]
  by_cases ht:t<args.length
  ·obtain ⟨v',h3,h4⟩:=h.get (i:=t) (v:=args[t]) (by simp [ht]);grind
  grind [VRel.undef]
structure OOk (P:Program) (gl:Glb) (f:FuncId) (args:List Value) (v:Value):Prop where
 to:A00 P f
 run:∀(W0:World) (N0:Nat) (φ:Loc) (s:AS) (w:World) (args':List Value) (e:End) (s':AS),Inv gl W0 N0 φ s w->VRels φ args args'->A8P v args s=some (e,s')->
  Calls P f args'.toArray w fun E w'=>∃ψ,C0t ψ e E/\Inv gl W0 N0 ψ s' w'/\Stp φ s.get w ψ s'.get w' s.next s'.next
theorem OOk.plain {P:Program} {gl:Glb} {f:FuncId} {args:List Value} {v:Value} (hto:A00 P f) (hm:A0I v=none)
  (run:∀(W0:World) (N0:Nat) (φ:Loc) (s:AS) (w:World) (args':List Value),Inv gl W0 N0 φ s w->VRels φ args args'->
   Calls P f args'.toArray w fun E w'=>∃v',E=.returned v'/\VRel φ v v'/\Inv gl W0 N0 φ s w'/\Stp φ s.get w φ s.get w' s.next s.next):OOk P gl f args v:=by
 refine ⟨hto,fun W0 N0 φ s w args' e s' hi ha h=> ?_⟩;unfold A8P at h;rw [hm] at h;cases h;refine Calls.mono (run W0 N0 φ s w args' hi ha) ?_;rintro E w' ⟨v',rfl,h1,h2,h3⟩;exact ⟨φ,⟨v',rfl,h1⟩,h2,h3⟩
structure Env (P:Program) (gl:Glb) (F:FuncId->Option XFun) (O:FuncId->List Value->Option Value):Prop where
 mixed:P.follows .mixedOrders=true
 fn:∀f x,F f=some x->∃fn,P.funcs[f]? =some fn/\A8 P gl fn=some x
 or:∀f args v,F f=none->O f args=some v->OOk P gl f args v
section
variable {P:Program} {gl:Glb} {W0:World} {N0:Nat} {nt:Nat} {C:Callee}
theorem A3J {fn : Func} {x : XFun} (h : A8 P gl fn = some x) : ∃ c, fn.body = some c /\ E1 P gl fn.ntmps c = some x.body /\ A1a P fn.results.toList = some x.results /\ x.nt = fn.ntmps /\ fn.name ≠ "runtime.NumGoroutine" := by
 grind [A8]
def A9o (tmps:Array Value):ResultVar->Sem Value
 |.tmp t=>pure (tmps.getD t undef)
 |.cell c t=>do loadVar t (<-asAddr (tmps.getD c undef))
theorem C0u {r:ResultVar} {xr:XRes} (hc:A6F P r=some xr) {φ:Loc} {a:Act} {s:AS} {a':Go.Act} {w:World} (ht:TRel nt φ a a') (hi:Inv gl W0 N0 φ s w) {v:Value} (h:A5i a s xr=some v):
  ∃v',VRel φ v v'/\(A9o a'.tmps r).run P w=.ok v' w:=by
 cases r with
 |tmp t=>
  simp only [A6F] at hc;cases hc;simp only [A5i] at h;cases h;exact ⟨_,ht.tm t,rfl⟩
 |cell c t=>
  simp only [A6F] at hc;have htm:=ht.tm c;split at hc
  ·rename_i n ha hn;cases hc;simp only [A5i] at h;split at h
   ·rename_i p hp;split at h
    ·rename_i l hl;cases h;rw [hp] at htm;have e0:a'.eval (.tmp c)=a'.tmps.getD c undef:=rfl;rw [e0] at htm;simp only [A9o];generalize a'.tmps.getD c undef=u at htm ⊢;cases htm with
     |@ptr i o b d t' hφ=>
      obtain ⟨l',hv,hlen,_,hcell⟩:=hi.rel.loads hl rfl hφ;exact ⟨_,.agg hv,by simp only [asAddr,Sem.run_bind,Sem.run_pure,Result.andThen_ok];exact (A29 (P:=P) hn hlen hcell).1 ha⟩
    ·cases h
   ·cases h
  ·rename_i ha hn;cases hc;simp only [A5i] at h;split at h
   ·rename_i p hp;split at h
    ·rename_i v2 hl;cases h;rw [hp] at htm;have e0:a'.eval (.tmp c)=a'.tmps.getD c undef:=rfl;rw [e0] at htm;simp only [A9o];generalize a'.tmps.getD c undef=u at htm ⊢;cases htm with
     |@ptr i o b d t' hφ=>
      obtain ⟨l',hv,hlen,_,hcell⟩:=hi.rel.loads hl rfl hφ;cases hv with
      |cons hv hnil=>
       cases hnil;exact ⟨_,hv,by simp only [asAddr,Sem.run_bind,Sem.run_pure,Result.andThen_ok];exact (A29 (P:=P) hn hlen hcell).2 ha _ rfl⟩
    ·cases h
   ·cases h
  ·cases hc
theorem B27:∀{rs:List ResultVar} {xrs:List XRes},A1a P rs=some xrs->∀{φ:Loc} {a:Act} {s:AS} {a':Go.Act} {w:World},TRel nt φ a a'->Inv gl W0 N0 φ s w->∀{l:List Value},K4 a s xrs=some l->
  ∃l',VRels φ l l'/\(rs.mapM (A9o a'.tmps)).run P w=.ok l' w
 |[],xrs,hc,φ,a,s,a',w,ht,hi,l,h=>by
  simp only [A1a] at hc;cases hc;simp only [K4] at h;cases h;exact ⟨[],.nil,rfl⟩
 |r::rs,xrs,hc,φ,a,s,a',w,ht,hi,l,h=>by
  simp only [A1a] at hc;split at hc
  ·rename_i x y h1 h2;cases hc;simp only [K4] at h;split at h
   ·rename_i v vs h3 h4;cases h;obtain ⟨v',q1,q2⟩:=C0u h1 ht hi h3;obtain ⟨l',q3,q4⟩:=B27 h2 ht hi h4;refine ⟨v'::l',.cons q1 q3,?_⟩;simp_all
   ·cases h
  ·cases hc
theorem A60 {fn:Func} {xrs:List XRes} (hc:A1a P fn.results.toList=some xrs) {φ:Loc} {a:Act} {s:AS} {a':Go.Act} {w:World} (ht:TRel nt φ a a') (hi:Inv gl W0 N0 φ s w) {l:List Value} (h:K4 a s xrs=some l):
  ∃v',VRel φ (packed l) v'/\(results fn a'.tmps).run P w=.ok v' w:=by
 obtain ⟨l',h1,h2⟩:=B27 hc ht hi h;have hrun:(fn.results.mapM (A9o a'.tmps)).run P w=.ok l'.toArray w:=by
  rw [Array.mapM_eq_mapM_toList];simp_all
 have hres:(results fn a'.tmps).run P w=.ok (if h:l'.toArray.size=1 then l'.toArray[0] else .tuple l'.toArray) w:=by
  have hfn:results fn a'.tmps=(do let vs <-fn.results.mapM (A9o a'.tmps);pure (if h:vs.size=1 then vs[0] else .tuple vs)):=by
   constructor<;>grind
  simp_all
 refine ⟨_,?_,hres⟩;cases h1 with
 |nil=>exact .tuple .nil
 |@cons v v' l l' hv hl=>
  cases hl with
  |nil=>exact hv
  |@cons u u' l l' hu hl=>
   have e1:packed (v::u::l)=.tuple (v::u::l).toArray:=rfl;have e2:(if h:(v'::u'::l').toArray.size=1 then (v'::u'::l').toArray[0] else Value.tuple (v'::u'::l').toArray)=.tuple (v'::u'::l').toArray:=by
    rw [dif_neg];simp
   rw [e1,e2];exact .tuple (.cons hv (.cons hu hl))
theorem A4C {F:FuncId->Option XFun} {O:FuncId->List Value->Option Value} (hE:Env P gl F O) (hC:COk P gl C) (hG:A0d C) (n:Nat) {fn:Func} {tmps:Array Value} {R:Ending->World->Prop}:
  ∀(dl:List Dfr) (s:AS) (m:Mode) (s1:AS) (m1:Mode),J0 C F n dl s m=some (s1,m1)->m≠.recovered->∀(φ:Loc) (ds:List Deferred) (w:World) (u:FrameMode),DfRel φ dl ds->Inv gl W0 N0 φ s w->Fr φ s.next s1.next->MRel φ m u->
   (∀ψ w' u',MRel ψ m1 u'->Inv gl W0 N0 ψ s1 w'->Stp φ s.get w ψ s1.get w' s.next s1.next->m1≠.recovered->Leaves P fn tmps R [] u' w')->Leaves P fn tmps R ds u w
 |[],s,m,s1,m1,h,hm,φ,ds,w,u,hd,hi,hf,hmr,hk=>by
  simp only [J0] at h;cases h;cases ds with
  |nil=>grind [Stp.refl]
  |cons d ds=>exact hd.elim
 |d::r,s,m,s1,m1,h,hm,φ,ds,w,u,hd,hi,hf,hmr,hk=>by
  cases ds with
  |nil=>exact hd.elim
  |cons d' ds=>
   obtain ⟨⟨cap,htar,hargs⟩,hdr⟩:=hd;simp only [J0] at h;split at h
   ·rename_i x hF;obtain ⟨fn2,hfn,hcf⟩:=hE.fn _ _ hF;obtain ⟨c,hb,hcc,hcr,hnt,hname⟩:=A3J hcf;have hto:A00 P d.f:=⟨fn2,hfn,hname,by rw [hb];rfl⟩;split at h
    ·rename_i e a2 s2 m2 hr;have g1:=I8 hG n _ _ _ _ _ _ _ _ hr hi.dm;have main:∀l,a2.df=[]->(e=.normal\/e=.ret)->J0 C F n r s2 m2.settle=some (s1,m1)->K4 a2 s2 x.results=some l->Leaves P fn tmps R (d'::ds) u w:=by
      intro l hdf he hrest hl;have g2:=L0 hG F n _ _ _ _ _ hrest g1.1;obtain ⟨tg,da⟩:=d';simp only at htar hargs;subst htar;have hu:u≠.run:=by
       cases m with
       |ret=>cases hmr;simp
       |panicking v=>obtain ⟨v',rfl,_⟩:=hmr;simp
       |recovered=>grind
      have hinv:(invoke (.fn (.func d.f) cap) da).run P w=.ok (.enter d.f (da++cap)) w:=A4v hto _ w;refine leaves_cons hu hinv (callsD_of_wpS hfn hb fun c₀ cs hc0=> ?_);have h0:({ c₀ with mode:=u }:Frame)=c₀:=by subst hc0;rfl
      have hent:=A9n (nt:=fn2.ntmps) hargs;rw [Array.toArray_toList] at hent;rw [<-h0];refine O4 hE.mixed hC hG n c x.body hcc φ (A0H d.args) s m e a2 s2 m2 hr _ w u _ hent hi (hf.le g2.2.next) hmr ?_;intro ψ a'' w'' u'' ht' hi' hs' hm';have hdf':a''.defers=[]:=by
       have:=ht'.df;rw [hdf] at this;cases hq:a''.defers with
       |nil=>rfl
       |cons y l=>rw [hq] at this;exact this.elim
      obtain ⟨v',_,hv'⟩:=A60 hcr ht' hi' hl;have hm3:MRel ψ m2.settle (settle u''):=by
       cases m2 with
       |ret=>cases hm';rfl
       |panicking v=>obtain ⟨v',rfl,hv⟩:=hm';exact ⟨v',rfl,hv⟩
       |recovered=>obtain ⟨v',rfl⟩:=hm';rfl
      have hgo:Leaves P fn tmps R ds (settle u'') w'':=by
       refine A4C hE hC hG n r s2 _ s1 m1 hrest (by cases m2<;>simp [Mode.settle]) ψ ds w'' (settle u'') (hdr.mono hs'.le) hi' (hf.step hs' g1.2.next) hm3 ?_;intro χ w3 u3 q1 q2 q3 q4;exact hk χ w3 u3 q1 q2 (hs'.trans q3 g1.2.next g2.2.next) q4
      rcases he with rfl|rfl
      ·constructor<;>grind
      constructor<;>grind
     grind
    ·cases h
   ·cases h
theorem A2L {F:FuncId->Option XFun} {O:FuncId->List Value->Option Value} (hE:Env P gl F O):∀n,COk P gl (P4 F O n)
 |0=>fun f args s e s' h=>by simp only [P4] at h;cases h
 |n+1=>fun f args s e s' h=>by
  have hC:=A2L hE n;have hG:=A77 F O n;simp only [P4] at h;split at h
  ·rename_i x hF;obtain ⟨fn,hfn,hcf⟩:=hE.fn _ _ hF;obtain ⟨c,hb,hcc,hcr,hnt,hname⟩:=A3J hcf;refine ⟨⟨fn,hfn,hname,by rw [hb];rfl⟩,fun W0 N0 φ w args' hi hf hv=> ?_⟩;have hent:=A9n (nt:=fn.ntmps) hv;refine calls_of_wp_defers hfn hb ?_;have fin:∀(a:Act) (s2 s3:AS) (m0 m:Mode),Goes s s2->m0≠.recovered->J0 (P4 F O n) F n a.df s2 m0=some (s3,m)->O3 a x s3 m=some (e,s')->
     ∀ψ (a':Go.Act) w' u,TRel fn.ntmps ψ a a'->Inv gl W0 N0 ψ s2 w'->Stp φ s.get w ψ s2.get w' s.next s2.next->MRel ψ m0 u->
      Leaves P fn a'.tmps (fun E w'=>∃ψ,C0t ψ e E/\Inv gl W0 N0 ψ s' w'/\Stp φ s.get w ψ s'.get w' s.next s'.next) a'.defers u w':=by
    intro a s2 s3 m0 m g1 hm0 hdef hfin ψ a' w' u ht hi' hs' hmr;have e1:=R4 hfin;subst e1;have g1':=g1 hi.dm;have g2:=L0 hG F n _ _ _ _ _ hdef g1'.1;refine A4C hE hC hG n a.df s2 m0 s' m hdef hm0 ψ a'.defers w' u ht.df hi' (hf.step hs' g1'.2.next) hmr ?_;intro χ w3 u3 q1 q2 q3 q4;have hst:=hs'.trans q3 g1'.2.next g2.2.next;unfold O3 at hfin;cases m with
    |recovered=>exact absurd rfl q4
    |panicking v=>
     simp only at hfin;cases hfin;obtain ⟨v',rfl,hv'⟩:=q1;exact ⟨χ,⟨v',rfl,hv'⟩,q2,hst⟩
    |ret=>
     cases q1;simp only at hfin;split at hfin
     ·rename_i l hl;cases hfin;obtain ⟨v',h1,h2⟩:=A60 hcr (ht.mono q3.le) q2 hl;exact ⟨v',h2,χ,⟨v',rfl,h1⟩,q2,hst⟩
     ·cases hfin
   split at h
   ·rename_i a s2 hcode;split at h
    ·rename_i s3 m hdef;have g1:=E5 hG n _ _ _ _ _ _ hcode;have g2:=L0 hG F n _ _ _ _ _ hdef (g1 hi.dm).1;have e1:=R4 h;refine J6 hE.mixed hC hG n c x.body hcc φ _ s _ a s2 hcode _ w _ hent hi (hf.le (by rw [e1];exact g2.2.next)) ?_;intro ψ a' w' ht' hi' hs';exact fin a s2 s3 .ret m g1 (by simp) hdef h ψ a' w' .returning ht' hi' hs' rfl
    ·cases h
   ·rename_i a s2 hcode;split at h
    ·rename_i s3 m hdef;have g1:=E5 hG n _ _ _ _ _ _ hcode;have g2:=L0 hG F n _ _ _ _ _ hdef (g1 hi.dm).1;have e1:=R4 h;refine J6 hE.mixed hC hG n c x.body hcc φ _ s _ a s2 hcode _ w _ hent hi (hf.le (by rw [e1];exact g2.2.next)) ?_;intro ψ a' w' ht' hi' hs';exact fin a s2 s3 .ret m g1 (by simp) hdef h ψ a' w' .returning ht' hi' hs' rfl
    ·cases h
   ·rename_i v a s2 hcode;split at h
    ·rename_i s3 m hdef;have g1:=E5 hG n _ _ _ _ _ _ hcode;have g2:=L0 hG F n _ _ _ _ _ hdef (g1 hi.dm).1;have e1:=R4 h;refine J6 hE.mixed hC hG n c x.body hcc φ _ s _ a s2 hcode _ w _ hent hi (hf.le (by rw [e1];exact g2.2.next)) ?_;intro ψ a' w' ht' hi' hs' v' hv';exact fin a s2 s3 (.panicking v) m g1 (by simp) hdef h ψ a' w' _ ht' hi' hs' ⟨v',rfl,hv'⟩
    ·cases h
   ·cases h
  ·rename_i hF;split at h
   ·rename_i v hO;have ho:=hE.or f args v hF hO;exact ⟨ho.to,fun W0 N0 φ w args' hi hf hv=>ho.run W0 N0 φ s w args' e s' hi hv h⟩
   ·cases h
end
def B7R (x:Operand) (g:Nat->Option AObj) (nx:Nat) (ρ:Operand->Value):Option PR:=
 some ⟨ρ x,[],nx⟩
def B7S (c:Operand) (a:Operand) (b:Operand) (g:Nat->Option AObj) (nx:Nat) (ρ:Operand->Value):Option PR:=
 match ρ c with
  |.bool true=>some ⟨ρ a,[],nx⟩
  |.bool false=>some ⟨ρ b,[],nx⟩
  |_=>none
def B5b (e:TypeId) (z:List Value) (g:Nat->Option AObj) (nx:Nat) (ρ:Operand->Value):Option PR:=
 match ones z with
  |false=>none
  |true=>some ⟨.pointer (some ⟨nx,0,none⟩),[(nx,some ⟨0,.cells z e false⟩)],nx+1⟩
def C1F (e:TypeId) (x:Operand) (g:Nat->Option AObj) (nx:Nat) (ρ:Operand->Value):Option PR:=
 match ones (ρ x).cells.toList with
  |false=>none
  |true=>some ⟨.pointer (some ⟨nx,0,none⟩),[(nx,some ⟨0,.cells (ρ x).cells.toList e false⟩)],nx+1⟩
def B5c (z:List Value) (ps:List (Nat×Nat×Operand)) (g:Nat->Option AObj) (nx:Nat) (ρ:Operand->Value):Option PR:=
 match A1M z (ps.map fun (o,n,x)=>(o,n,ρ x)) with
  |some cs=>some ⟨.agg cs.toArray,[],nx⟩
  |none=>none
def A4D (e:TypeId) (size:Nat) (z:List Value) (len:Nat) (ps:List (Nat×Nat×Operand)) (g:Nat->Option AObj) (nx:Nat) (ρ:Operand->Value):Option PR:=
 match A1M (rep z len) (ps.map fun (o,n,x)=>(o,n,ρ x)) with
  |some cs=>match ones cs with
   |false=>none
   |true=>some ⟨.slice (some ⟨nx,0,none⟩) len len,[(nx,some ⟨0,.cells cs e false⟩)],nx+1⟩
  |none=>none
def B5d (a:Operand) (g:Nat->Option AObj) (nx:Nat) (ρ:Operand->Value):Option PR:=
 match ρ a with
  |.pointer (some a)=>match B8 g a 1 with
   |some [v]=>some ⟨v,[],nx⟩
   |_=>none
  |_=>none
def B5e (n:Nat) (a:Operand) (g:Nat->Option AObj) (nx:Nat) (ρ:Operand->Value):Option PR:=
 match ρ a with
  |.pointer (some a)=>match B8 g a n with
   |some l=>some ⟨.agg l.toArray,[],nx⟩
   |none=>none
  |_=>none
def B5f (n:Nat) (a:Operand) (x:Operand) (g:Nat->Option AObj) (nx:Nat) (ρ:Operand->Value):Option PR:=
 match ρ a with
  |.pointer (some a)=>match Nat.beq (ρ x).cells.toList.length n&&ones (ρ x).cells.toList with
   |true=>match F8 g a (ρ x).cells.toList with
    |some δ=>some ⟨undef,δ,nx⟩
    |none=>none
   |false=>none
  |_=>none
def A7i (x:Operand) (g:Nat->Option AObj) (nx:Nat) (ρ:Operand->Value):Option PR:=
 match ρ x with
  |.pointer (some a)=>some ⟨.pointer (some a),[],nx⟩
  |.func (.func f) a b=>some ⟨.func (.func f) a b,[],nx⟩
  |_=>none
def C1G (op:BinOp) (x:Operand) (y:Operand) (g:Nat->Option AObj) (nx:Nat) (ρ:Operand->Value):Option PR:=
 A3z nx (A6S op (ρ x) (ρ y))
def C72 (k:EqK) (neg:Bool) (x:Operand) (y:Operand) (g:Nat->Option AObj) (nx:Nat) (ρ:Operand->Value):Option PR:=
 match xeq g k (ρ x) (ρ y) with
  |some b=>some ⟨.bool (xor b neg),[],nx⟩
  |none=>none
def C73 (op:UnOp) (x:Operand) (g:Nat->Option AObj) (nx:Nat) (ρ:Operand->Value):Option PR:=
 A3z nx (xun op (ρ x))
def B5g (k:IntKind) (x:Operand) (g:Nat->Option AObj) (nx:Nat) (ρ:Operand->Value):Option PR:=
 match ρ x with
  |.int _ n=>some ⟨.int k (k.wrap n),[],nx⟩
  |_=>none
def B7T (x:Operand) (g:Nat->Option AObj) (nx:Nat) (ρ:Operand->Value):Option PR:=
 match ρ x with
  |.string s=>some ⟨.string s,[],nx⟩
  |_=>none
def A4E (x:Operand) (g:Nat->Option AObj) (nx:Nat) (ρ:Operand->Value):Option PR:=
 match ρ x with
  |.slice none _ _=>some ⟨.string ⟨#[]⟩,[],nx⟩
  |.slice (some a) n _=>match B8 g a n with
   |some l=>match Z7 l with
    |some bs=>some ⟨.string ⟨bs.toArray⟩,[],nx⟩
    |none=>none
   |none=>none
  |_=>none
def A4F (e:TypeId) (x:Operand) (g:Nat->Option AObj) (nx:Nat) (ρ:Operand->Value):Option PR:=
 match ρ x with
  |.string s=>match Nat.ble s.data.toList.length small with
   |true=>some ⟨.slice (some ⟨nx,0,none⟩) s.data.toList.length (D3+1),[(nx,some ⟨0,.cells (s.data.toList.map fun b=>.int .u8 b.toNat) e true⟩)],nx+1⟩
   |false=>none
  |_=>none
def A9p (t:TypeId) (x:Operand) (g:Nat->Option AObj) (nx:Nat) (ρ:Operand->Value):Option PR:=
 some ⟨.iface t (ρ x),[],nx⟩
def B28 (fn:Fn) (first:List Operand) (cap:List Operand) (g:Nat->Option AObj) (nx:Nat) (ρ:Operand->Value):Option PR:=
 some ⟨.func fn (first.map ρ).toArray (cap.map ρ).toArray,[],nx⟩
def B5h (g:Nat->Option AObj) (nx:Nat) (ρ:Operand->Value):Option PR:=
 some ⟨.map (some nx),[(nx,some ⟨0,.map [] 0⟩)],nx+1⟩
def A9q (e:TypeId) (z:List Value) (bytes:Nat) (l:Operand) (c:Operand) (g:Nat->Option AObj) (nx:Nat) (ρ:Operand->Value):Option PR:=
 match ρ l,ρ c with
  |.int .i64 (.ofNat l),.int .i64 (.ofNat c)=>match Nat.ble l c&&Nat.ble (bytes*c) 281474976710656&&Nat.ble c 9223372036854775807&&ones z with
   |true=>some ⟨.slice (some ⟨nx,0,none⟩) l c,[(nx,some ⟨0,.cells (rep z c) e false⟩)],nx+1⟩
   |false=>none
  |_,_=>none
def A7j (x:Operand) (lo:Option Operand) (hi:Option Operand) (g:Nat->Option AObj) (nx:Nat) (ρ:Operand->Value):Option PR:=
 match ρ x with
  |.string s=>match bounds s.data.toList.length s.data.toList.length (lo.map ρ) (hi.map ρ) none with
   |some (l,h,_)=>some ⟨.string ⟨((s.data.toList.drop l).take (h - l)).toArray⟩,[],nx⟩
   |none=>none
  |_=>none
def B5i (size:Nat) (x:Operand) (lo:Option Operand) (hi:Option Operand) (mx:Option Operand) (g:Nat->Option AObj) (nx:Nat) (ρ:Operand->Value):Option PR:=
 A3z nx (A0G size (ρ x) (lo.map ρ) (hi.map ρ) (mx.map ρ))
def A7k (n:Nat) (size:Nat) (x:Operand) (lo:Option Operand) (hi:Option Operand) (mx:Option Operand) (g:Nat->Option AObj) (nx:Nat) (ρ:Operand->Value):Option PR:=
 match ρ x with
  |.pointer (some a)=>match bounds n n (lo.map ρ) (hi.map ρ) (mx.map ρ) with
   |some (l,h,m)=>some ⟨.slice (some (match Nat.beq m l with|true=>a|false=>a.add (l*size))) (h - l) (m - l),[],nx⟩
   |none=>none
  |_=>none
def B7U (off:Nat) (x:Operand) (g:Nat->Option AObj) (nx:Nat) (ρ:Operand->Value):Option PR:=
 match ρ x with
  |.pointer (some a)=>some ⟨.pointer (some (a.add off)),[],nx⟩
  |_=>none
def B29 (off:Nat) (x:Operand) (g:Nat->Option AObj) (nx:Nat) (ρ:Operand->Value):Option PR:=
 match ρ x with
  |.agg cs=>match cs.toList[off]? with
   |some v=>some ⟨v,[],nx⟩
   |none=>none
  |_=>none
def B2a (off:Nat) (n:Nat) (x:Operand) (g:Nat->Option AObj) (nx:Nat) (ρ:Operand->Value):Option PR:=
 match ρ x with
  |.agg cs=>some ⟨.agg ((cs.toList.drop off).take n).toArray,[],nx⟩
  |_=>none
def A61 (size:Nat) (x:Operand) (i:Operand) (g:Nat->Option AObj) (nx:Nat) (ρ:Operand->Value):Option PR:=
 match ρ x,ρ i with
  |.slice (some a) len _,.int _ (.ofNat i)=>match Nat.blt i len with
   |true=>some ⟨.pointer (some (a.add (i*size))),[],nx⟩
   |false=>none
  |_,_=>none
def A2M (len:Nat) (size:Nat) (x:Operand) (i:Operand) (g:Nat->Option AObj) (nx:Nat) (ρ:Operand->Value):Option PR:=
 match ρ x,ρ i with
  |.pointer (some a),.int _ (.ofNat i)=>match Nat.blt i len with
   |true=>some ⟨.pointer (some (a.add (i*size))),[],nx⟩
   |false=>none
  |_,_=>none
def A7l (x:Operand) (i:Operand) (g:Nat->Option AObj) (nx:Nat) (ρ:Operand->Value):Option PR:=
 match ρ x,ρ i with
  |.string s,.int _ (.ofNat i)=>match s.data.toList[i]? with
   |some b=>some ⟨.int .u8 b.toNat,[],nx⟩
   |none=>none
  |_,_=>none
def B2b (len:Nat) (x:Operand) (i:Operand) (g:Nat->Option AObj) (nx:Nat) (ρ:Operand->Value):Option PR:=
 match ρ x,ρ i with
  |.agg cs,.int _ (.ofNat i)=>match Nat.blt i len with
   |true=>match cs.toList[i]? with
    |some v=>some ⟨v,[],nx⟩
    |none=>none
   |false=>none
  |_,_=>none
def B2c (len:Nat) (size:Nat) (x:Operand) (i:Operand) (g:Nat->Option AObj) (nx:Nat) (ρ:Operand->Value):Option PR:=
 match ρ x,ρ i with
  |.agg cs,.int _ (.ofNat i)=>match Nat.blt i len with
   |true=>some ⟨.agg ((cs.toList.drop (i*size)).take size).toArray,[],nx⟩
   |false=>none
  |_,_=>none
def B2d (k:EqK) (z:Value) (m:Operand) (x:Operand) (ok:Bool) (g:Nat->Option AObj) (nx:Nat) (ρ:Operand->Value):Option PR:=
    match (match ρ m with
     |.map none=>some (some none)
     |.map (some r)=>match g r with
      |some ⟨_,.map es _⟩=>some (S8 g k (ρ x) es 0)
      |_=>none
     |_=>none) with
    |some (some (some (_,v)))=>some ⟨match ok with|true=>.tuple #[v,.bool true]|false=>v,[],nx⟩
    |some (some none)=>some ⟨match ok with|true=>.tuple #[z,.bool false]|false=>z,[],nx⟩
    |_=>none
def A62 (k:EqK) (m:Operand) (x:Operand) (v:Operand) (g:Nat->Option AObj) (nx:Nat) (ρ:Operand->Value):Option PR:=
 match ρ m with
  |.map (some r)=>match g r with
   |some ⟨ver,.map es clock⟩=>match S8 g k (ρ x) es 0 with
    |some (some (i,_))=>some ⟨undef,[(r,some ⟨ver+1,.map (es.modify i fun e=>{ e with key:=ρ x,val:=ρ v }) clock⟩)],nx⟩
    |some none=>some ⟨undef,[(r,some ⟨ver+1,.map (es++[{ key:=ρ x,val:=ρ v,born:=clock }]) (clock+1)⟩)],nx⟩
    |none=>none
   |_=>none
  |_=>none
def A9r (t:TypeId) (z:Value) (x:Operand) (ok:Bool) (g:Nat->Option AObj) (nx:Nat) (ρ:Operand->Value):Option PR:=
 match ρ x with
  |.iface u v=>match Nat.beq u t with
   |true=>some ⟨match ok with|true=>.tuple #[v,.bool true]|false=>v,[],nx⟩
   |false=>match ok with
    |true=>some ⟨.tuple #[z,.bool false],[],nx⟩
    |false=>none
  |.nilIface=>match ok with
   |true=>some ⟨.tuple #[z,.bool false],[],nx⟩
   |false=>none
  |_=>none
def A9s (x:Operand) (i:Nat) (g:Nat->Option AObj) (nx:Nat) (ρ:Operand->Value):Option PR:=
 match ρ x with
  |.tuple vs=>match vs.toList[i]? with
   |some v=>some ⟨v,[],nx⟩
   |none=>none
  |_=>none
def B2e (x:Operand) (g:Nat->Option AObj) (nx:Nat) (ρ:Operand->Value):Option PR:=
 match ρ x with
  |.string s=>some ⟨.int .i64 (.ofNat s.data.toList.length),[],nx⟩
  |_=>none
def A7m (x:Operand) (g:Nat->Option AObj) (nx:Nat) (ρ:Operand->Value):Option PR:=
 match ρ x with
  |.slice _ n _=>some ⟨.int .i64 (.ofNat n),[],nx⟩
  |_=>none
def B2f (n:Nat) (g:Nat->Option AObj) (nx:Nat) (ρ:Operand->Value):Option PR:=
 some ⟨.int .i64 (.ofNat n),[],nx⟩
def B2g (x:Operand) (g:Nat->Option AObj) (nx:Nat) (ρ:Operand->Value):Option PR:=
 match ρ x with
  |.map none=>some ⟨.int .i64 0,[],nx⟩
  |.map (some r)=>match g r with
   |some ⟨_,.map es _⟩=>some ⟨.int .i64 (.ofNat es.length),[],nx⟩
   |_=>none
  |_=>none
def A7n (x:Operand) (g:Nat->Option AObj) (nx:Nat) (ρ:Operand->Value):Option PR:=
 match ρ x with
  |.slice _ _ c=>match Nat.ble D3 c with
   |true=>none
   |false=>some ⟨.int .i64 (.ofNat c),[],nx⟩
  |_=>none
def B2h (e:TypeId) (size:Nat) (bytes:Nat) (x:Operand) (y:Operand) (g:Nat->Option AObj) (nx:Nat) (ρ:Operand->Value):Option PR:=
 match L9 g size (ρ y) with
  |some (n,l)=>I1 g nx e size bytes (ρ x) n l
  |none=>none
def A9t (e:TypeId) (z:List Value) (bytes:Nat) (x:Operand) (n:Operand) (g:Nat->Option AObj) (nx:Nat) (ρ:Operand->Value):Option PR:=
 match ρ n with
  |.int .i64 (.ofNat n)=>match Nat.ble n small&&Nat.ble bytes 65536&&ones z with
   |true=>I1 g nx e z.length bytes (ρ x) n (rep z n)
   |false=>none
  |_=>none
def B7V (size:Nat) (x:Operand) (y:Operand) (g:Nat->Option AObj) (nx:Nat) (ρ:Operand->Value):Option PR:=
 match ρ x,ρ y with
  |.slice base n _,.slice src m _=>
   match Nat.min m n with
   |0=>some ⟨.int .i64 0,[],nx⟩
   |k=>match base,src with
    |some a,some b=>match B8 g b (k*size) with
     |some l=>match F8 g a l with
      |some δ=>some ⟨.int .i64 (.ofNat k),δ,nx⟩
      |none=>none
     |none=>none
    |_,_=>none
  |_,_=>none
def B7W (xs:List Operand) (g:Nat->Option AObj) (nx:Nat) (ρ:Operand->Value):Option PR:=
 match U1 (xs.map ρ) with
  |some ((k,n)::r)=>some ⟨.int k (r.foldl (fun a b=>match ltInt a b.2 with|true=>b.2|false=>a) n),[],nx⟩
  |_=>none
def B7X (xs:List Operand) (g:Nat->Option AObj) (nx:Nat) (ρ:Operand->Value):Option PR:=
 match U1 (xs.map ρ) with
  |some ((k,n)::r)=>some ⟨.int k (r.foldl (fun a b=>match ltInt b.2 a with|true=>b.2|false=>a) n),[],nx⟩
  |_=>none
def A7o (x:Operand) (g:Nat->Option AObj) (nx:Nat) (ρ:Operand->Value):Option PR:=none
def A9u (x:Operand) (g:Nat->Option AObj) (nx:Nat) (ρ:Operand->Value):Option PR:=none
def C2B (f:FuncId) (args:List Operand) (g:Nat->Option AObj) (nx:Nat) (ρ:Operand->Value):Option PR:=none
def C0v (x:Operand) (args:List Operand) (g:Nat->Option AObj) (nx:Nat) (ρ:Operand->Value):Option PR:=none
def C0w (x:Operand) (g:Nat->Option AObj) (nx:Nat) (ρ:Operand->Value):Option PR:=none
def C0x (x:Operand) (args:List Operand) (g:Nat->Option AObj) (nx:Nat) (ρ:Operand->Value):Option PR:=none
def B6s (g:Nat->Option AObj) (nx:Nat) (ρ:Operand->Value):Option PR:=none
noncomputable def C1H (xo:XOp):(Nat->Option AObj)->Nat->(Operand->Value)->Option PR:=
 XOp.rec B7R B7S B5b C1F B5c A4D B5d B5e B5f A7i C1G C72 C73 B5g B7T A4E A4F A9p B28 B5h A9q A7j B5i A7k B7U B29 B2a A61 A2M A7l B2b B2c B2d A62 A9r A9s B2e A7m B2f B2g A7n B2h A9t B7V B7W B7X A7o A9u C2B C0v C0w C0x B6s xo
theorem B2i (xo:XOp) (g:Nat->Option AObj) (nx:Nat) (ρ:Operand->Value):C1H xo g nx ρ=B0 g nx ρ xo:=by
 cases xo<;>rfl
inductive Path where
 |e
 |l (p:Path)
 |r (p:Path)
noncomputable def A0W (fuel:Nat):Nat->Path:=
 Nat.rec (fun _=>.e) (fun _ ih n=>Nat.rec .e (fun m _=>Bool.rec (.r (ih (Nat.div m 2))) (.l (ih (Nat.div m 2))) (Nat.beq (Nat.mod m 2) 0)) n) fuel
noncomputable def pathOf (n:Nat):Path:=A0W n n
section
variable {α:Type}
noncomputable def B7Y (p:Path):Tri α->Option α:=
 Path.rec (fun t=>Tri.rec none (fun _ v _ _ _=>v) t) (fun _ ih t=>Tri.rec none (fun l _ _ _ _=>ih l) t) (fun _ ih t=>Tri.rec none (fun _ _ r _ _=>ih r) t) p
noncomputable def B42 (v:α) (p:Path):Tri α->(Tri α->Bool)->Bool:=
 Path.rec (fun t k=>Tri.rec (k (.node .nil (some v) .nil)) (fun l _ r _ _=>k (.node l (some v) r)) t)
  (fun _ ih t k=>Tri.rec (ih .nil fun x=>k (.node x none .nil)) (fun l w r _ _=>ih l fun x=>k (.node x w r)) t)
  (fun _ ih t k=>Tri.rec (ih .nil fun x=>k (.node .nil none x)) (fun l w r _ _=>ih r fun x=>k (.node l w x)) t) p
theorem B0S (m:Nat):Nat.div m 2<=m:=Nat.div_le_self m 2
theorem B2j:∀(fuel n:Nat) (t:Tri α),n<=fuel->B7Y (A0W fuel n) t=t.get n
 |0,n,t,h=>by
  obtain rfl:n=0:=by omega
  cases t<;>rfl
 |fuel+1,0,t,h=>by cases t<;>rfl
 |fuel+1,n+1,t,h=>by
  have ih:=fun t=>B2j fuel (Nat.div n 2) t (by have:=B0S n;omega)
  have e1:A0W (fuel+1) (n+1)=Bool.rec (.r (A0W fuel (Nat.div n 2))) (.l (A0W fuel (Nat.div n 2))) (Nat.beq (Nat.mod n 2) 0):=rfl;rw [e1];cases t with
  |nil=>cases hb:Nat.beq (Nat.mod n 2) 0<;>rfl
  |node l v r=>
   simp only [Tri.get];cases hb:Nat.beq (Nat.mod n 2) 0
   ·exact ih r
   ·exact ih l
theorem B5j (n:Nat) (t:Tri α):B7Y (pathOf n) t=t.get n:=B2j n n t (Nat.le_refl n)
theorem B2k (v:α):∀(fuel n f:Nat) (t:Tri α) (k:Tri α->Bool),n<=fuel->n<f->B42 v (A0W fuel n) t k=k (Tri.setAux v f t n)
 |fuel,n,0,t,k,h,hf=>by omega
 |0,n,f+1,t,k,h,hf=>by
  obtain rfl:n=0:=by omega
  cases t<;>rfl
 |fuel+1,0,f+1,t,k,h,hf=>by cases t<;>rfl
 |fuel+1,n+1,f+1,t,k,h,hf=>by
  have ih:=fun t k=>B2k v fuel (Nat.div n 2) f t k (by have:=B0S n;omega) (by have:=B0S n;omega)
  have e1:A0W (fuel+1) (n+1)=Bool.rec (.r (A0W fuel (Nat.div n 2))) (.l (A0W fuel (Nat.div n 2))) (Nat.beq (Nat.mod n 2) 0):=rfl;rw [e1];cases t with
  |nil=>
   simp only [Tri.setAux];cases hb:Nat.beq (Nat.mod n 2) 0
   ·exact ih .nil _
   ·exact ih .nil _
  |node l w r=>
   simp only [Tri.setAux];cases hb:Nat.beq (Nat.mod n 2) 0
   ·exact ih r _
   ·exact ih l _
theorem B0T (v:α) (n:Nat) (t:Tri α) (k:Tri α->Bool):B42 v (pathOf n) t k=k (t.set n v):=B2k v n n (n+1) t k (Nat.le_refl n) (Nat.lt_succ_self n)
end
noncomputable def A2c (n:Nat) (k:Nat->Bool):Bool:=Nat.rec (k 0) (fun m _=>k (Nat.succ m)) n
theorem A0q (n:Nat) (k:Nat->Bool):A2c n k=k n:=by cases n<;>rfl
noncomputable def C74 (i:Int) (k:Int->Bool):Bool:=Int.rec (fun n=>A2c n fun n=>k (.ofNat n)) (fun n=>A2c n fun n=>k (.negSucc n)) i
theorem C0y (i:Int) (k:Int->Bool):C74 i k=k i:=by
 cases i with
 |ofNat n=>exact A0q n fun n=>k (.ofNat n)
 |negSucc n=>exact A0q n fun n=>k (.negSucc n)
noncomputable def B2l {α:Type} (l:List α):(List α->Bool)->Bool:=List.rec (fun k=>k []) (fun x _ ih k=>ih fun r=>k (x::r)) l
theorem A7p {α:Type}:∀(l:List α) (k:List α->Bool),B2l l k=k l
 |[],k=>rfl
 |x::l,k=>by
  have e:B2l (x::l) k=B2l l fun r=>k (x::r):=rfl
  rw [e,A7p l]
noncomputable def B7Z (a:Addr) (k:Addr->Bool):Bool:=Addr.rec (fun b o sp=>A2c b fun b=>A2c o fun o=>k ⟨b,o,sp⟩) a
theorem B80 (a:Addr) (k:Addr->Bool):B7Z a k=k a:=by
 cases a with
 |mk b o sp=>
  have e:B7Z ⟨b,o,sp⟩ k=A2c b fun b=>A2c o fun o=>k ⟨b,o,sp⟩:=rfl
  rw [e,A0q,A0q]
noncomputable def B0U (a:Option Addr) (k:Option Addr->Bool):Bool:=Option.rec (k none) (fun a=>B7Z a fun a=>k (some a)) a
theorem A9v (a:Option Addr) (k:Option Addr->Bool):B0U a k=k a:=by
 cases a with
 |none=>rfl
 |some a=>exact B80 a fun a=>k (some a)
noncomputable def C1I (b:Bool) (k:Bool->Bool):Bool:=Bool.rec (k false) (k true) b
theorem B81 (b:Bool) (k:Bool->Bool):C1I b k=k b:=by cases b<;>rfl
noncomputable def A3t (v:Value) (k:Value->Bool):Bool:=
 Value.casesOn (motive_1:=fun _=>Bool) v (fun b=>C1I b fun b=>k (.bool b)) (fun kk n=>C74 n fun n=>k (.int kk n)) (fun a b=>k (.float a b)) (fun a b c=>k (.complex a b c)) (fun s=>k (.string s))
  (fun a=>B0U a fun a=>k (.pointer a)) (fun a n c=>B0U a fun a=>A2c n fun n=>A2c c fun c=>k (.slice a n c)) (fun r=>k (.map r)) (fun c=>k (.chan c)) (fun f a b=>k (.func f a b)) (k .nilFunc)
  (fun t v=>k (.iface t v)) (k .nilIface) (fun a=>k (.agg a)) (fun a=>k (.tuple a))
theorem A4G (v:Value) (k:Value->Bool):A3t v k=k v:=by
 cases v<;>first|rfl|skip
 ·rename_i b;exact B81 b fun b=>k (.bool b)
 ·rename_i kk n;exact C0y n fun n=>k (.int kk n)
 ·rename_i a;exact A9v a fun a=>k (.pointer a)
 ·rename_i a n c;have e:A3t (.slice a n c) k=B0U a fun a=>A2c n fun n=>A2c c fun c=>k (.slice a n c):=rfl
  rw [e,A9v,A0q,A0q]
abbrev Hb:=Nat->Option AObj
abbrev Hh:=Tri (Option AObj)
abbrev KN:=Tri Value->List Dfr->Hb->Hh->Nat->Bool
abbrev KP:=Value->Tri Value->List Dfr->Hb->Hh->Nat->Bool
abbrev KT:=Ex->Tri Value->List Dfr->Hb->Hh->Nat->Bool
abbrev KF:=Tri Value->List Dfr->Hb->Hh->Nat->KT->Bool
abbrev KE:=End->Hb->Hh->Nat->Bool
abbrev FC:=FuncId->List Value->Hb->Hh->Nat->KE->Bool
abbrev KO:=FC->Option Nat->Tri Value->List Dfr->Hb->Hh->Nat->KN->KP->Bool
noncomputable def hget (B:Hb) (h:Hh) (id:Nat):Option AObj:=Option.rec (motive:=fun _=>Option AObj) (B id) (fun o=>o) (B7Y (pathOf id) h)
noncomputable def fev (tm:Tri Value) (x:Operand):Value:=
 Operand.rec (fun t=>Option.rec undef (fun v=>v) (B7Y (pathOf t) tm)) (fun v=>v) (fun g=>.pointer (some ⟨g,0,none⟩)) (fun f=>.func (.func f) #[] #[]) x
noncomputable def A4H (d:Option Nat) (v:Value) (tm:Tri Value) (k:Tri Value->Bool):Bool:=Option.rec (k tm) (fun t=>B42 v (pathOf t) tm k) d
noncomputable def B82 (ver:Nat) (k:Option AObj->Bool) (b:ABody):Bool:=
 ABody.rec (fun vs e ro=>B2l vs fun vs=>k (some ⟨ver,.cells vs e ro⟩)) (fun es c=>B2l es fun es=>k (some ⟨ver,.map es c⟩)) (fun s p=>k (some ⟨ver,.iter s p⟩)) b
noncomputable def C0z (o:Option AObj) (k:Option AObj->Bool):Bool:=Option.rec (k none) (fun o=>AObj.rec (fun ver b=>A2c ver fun ver=>B82 ver k b) o) o
noncomputable def B83 (δ:List (Nat×Option AObj)):Hh->(Hh->Bool)->Bool:=
 List.rec (fun h k=>k h) (fun x _ ih h k=>Prod.rec (fun id o=>A2c id fun id=>C0z o fun o=>B42 o (pathOf id) h fun h=>ih h k) x) δ
noncomputable def A1t (l:List Value):(List Value->Bool)->Bool:=List.rec (fun k=>k []) (fun x _ ih k=>A3t x fun x=>ih fun r=>k (x::r)) l
theorem B5k (B:Hb) (h:Hh) (nx:Nat):hget B h=(AS.mk B h nx).get:=by
 funext id
 unfold hget AS.get;rw [B5j];cases h.get id<;>rfl
theorem A2d (tm:Tri Value) (df:List Dfr):fev tm=Act.ev ⟨tm,df⟩:=by
 funext x
 cases x with
 |tmp t=>
  show Option.rec (motive:=fun _=>Value) undef (fun v=>v) (B7Y (pathOf t) tm)=_
  rw [B5j];simp only [Act.ev];cases tm.get t<;>rfl
 |_=>rfl
theorem A4I (d:Option Nat) (v:Value) (tm:Tri Value) (df:List Dfr) (k:Tri Value->Bool):A4H d v tm k=k (Act.put ⟨tm,df⟩ d v).tm:=by
 cases d with
 |none=>rfl
 |some t=>exact B0T v t tm k
theorem A2e (d:Option Nat) (v:Value) (tm:Tri Value) (df:List Dfr):Act.put ⟨tm,df⟩ d v=⟨(Act.put ⟨tm,df⟩ d v).tm,df⟩:=by cases d<;>rfl
theorem B84 (ver:Nat) (k:Option AObj->Bool) (b:ABody):B82 ver k b=k (some ⟨ver,b⟩):=by
 cases b with
 |cells vs e ro=>exact A7p vs fun vs=>k (some ⟨ver,.cells vs e ro⟩)
 |map es c=>exact A7p es fun es=>k (some ⟨ver,.map es c⟩)
 |iter s p=>rfl
theorem C0A (o:Option AObj) (k:Option AObj->Bool):C0z o k=k o:=by
 cases o with
 |none=>rfl
 |some o=>
  cases o with
  |mk ver b=>
   have e:C0z (some ⟨ver,b⟩) k=A2c ver fun ver=>B82 ver k b:=rfl
   rw [e,A0q,B84]
theorem B5l:∀(δ:List (Nat×Option AObj)) (h:Hh) (k:Hh->Bool),B83 δ h k=k (A5h h δ)
 |[],h,k=>rfl
 |(id,o)::r,h,k=>by
  have e:B83 ((id,o)::r) h k=A2c id fun id=>C0z o fun o=>B42 o (pathOf id) h fun h=>B83 r h k:=rfl
  rw [e,A0q,C0A,B0T,B5l r];rfl
theorem A1P:∀(l:List Value) (k:List Value->Bool),A1t l k=k l
 |[],k=>rfl
 |x::l,k=>by
  have e:A1t (x::l) k=A3t x fun x=>A1t l fun r=>k (x::r):=rfl
  rw [e,A4G,A1P l]
noncomputable def B85 (d:Option Nat) (tm:Tri Value) (df:List Dfr) (B:Hb) (h:Hh) (kn:KN) (p:PR):Bool:=
 PR.rec (fun v δ nx'=>A3t v fun v=>B83 δ h fun h=>A2c nx' fun nx'=>A4H d v tm fun tm=>kn tm df B h nx') p
noncomputable def F9 (f:(Nat->Option AObj)->Nat->(Operand->Value)->Option PR):KO:=fun _ d tm df B h nx kn _=>
 Option.rec false (B85 d tm df B h kn) (f (hget B h) nx (fev tm))
noncomputable def A91 (d:Option Nat) (tm:Tri Value) (df:List Dfr) (kn:KN) (kp:KP) (e:End) (B:Hb) (h:Hh) (nx:Nat):Bool:=
 End.rec (fun v=>A3t v fun v=>A4H d v tm fun tm=>kn tm df B h nx) (fun v=>kp v tm df B h nx) e
noncomputable def C75 (f:FuncId) (args:List Operand):KO:=fun C d tm df B h nx kn kp=>
 A1t (args.map (fev tm)) fun l=>C f l B h nx (A91 d tm df kn kp)
noncomputable def C2C (x:Operand) (args:List Operand):KO:=fun C d tm df B h nx kn kp=>
 Option.rec false (fun fl=>Prod.rec (fun f l=>A1t l fun l=>C f l B h nx (A91 d tm df kn kp)) fl) (target (fev tm x) (args.map (fev tm)))
def B5m:Value->Option Value
 |.iface t v=>some (.iface t v)
 |_=>none
noncomputable def C2D (x:Operand):KO:=fun _ _ tm df B h nx _ kp=>Option.rec false (fun v=>kp v tm df B h nx) (B5m (fev tm x))
noncomputable def C2E (x:Operand) (args:List Operand):KO:=fun _ d tm df B h nx kn _=>
 Option.rec false (fun fl=>Prod.rec (fun f l=>A1t l fun l=>A4H d undef tm fun tm=>kn tm (⟨f,l⟩::df) B h nx) fl) (target (fev tm x) (args.map (fev tm)))
noncomputable def C76:KO:=fun _ _ _ _ _ _ _ _ _=>false
noncomputable def A4J (op:XOp):KO:=
 XOp.rec (motive:=fun _=>KO)
  (fun x=>F9 (B7R x))
  (fun c a b=>F9 (B7S c a b))
  (fun elem zero=>F9 (B5b elem zero))
  (fun elem x=>F9 (C1F elem x))
  (fun zero parts=>F9 (B5c zero parts))
  (fun elem size zero len parts=>F9 (A4D elem size zero len parts))
  (fun a=>F9 (B5d a))
  (fun n a=>F9 (B5e n a))
  (fun n a x=>F9 (B5f n a x))
  (fun x=>F9 (A7i x))
  (fun op x y=>F9 (C1G op x y))
  (fun k neg x y=>F9 (C72 k neg x y))
  (fun op x=>F9 (C73 op x))
  (fun k x=>F9 (B5g k x))
  (fun x=>F9 (B7T x))
  (fun x=>F9 (A4E x))
  (fun elem x=>F9 (A4F elem x))
  (fun t x=>F9 (A9p t x))
  (fun fn first captured=>F9 (B28 fn first captured))
  (F9 (B5h))
  (fun elem zero bytes l c=>F9 (A9q elem zero bytes l c))
  (fun x lo hi=>F9 (A7j x lo hi))
  (fun size x lo hi mx=>F9 (B5i size x lo hi mx))
  (fun n size x lo hi mx=>F9 (A7k n size x lo hi mx))
  (fun off x=>F9 (B7U off x))
  (fun off x=>F9 (B29 off x))
  (fun off n x=>F9 (B2a off n x))
  (fun size x i=>F9 (A61 size x i))
  (fun len size x i=>F9 (A2M len size x i))
  (fun x i=>F9 (A7l x i))
  (fun len x i=>F9 (B2b len x i))
  (fun len size x i=>F9 (B2c len size x i))
  (fun k zero m x ok=>F9 (B2d k zero m x ok))
  (fun k m x v=>F9 (A62 k m x v))
  (fun t zero x ok=>F9 (A9r t zero x ok))
  (fun x i=>F9 (A9s x i))
  (fun x=>F9 (B2e x))
  (fun x=>F9 (A7m x))
  (fun n=>F9 (B2f n))
  (fun x=>F9 (B2g x))
  (fun x=>F9 (A7n x))
  (fun elem size bytes x y=>F9 (B2h elem size bytes x y))
  (fun elem zero bytes x n=>F9 (A9t elem zero bytes x n))
  (fun size x y=>F9 (B7V size x y))
  (fun xs=>F9 (B7W xs))
  (fun xs=>F9 (B7X xs))
  (fun x=>F9 (A7o x))
  (fun x=>F9 (A9u x))
  (fun f args=>C75 f args)
  (fun x args=>C2C x args)
  (fun x=>C2D x)
  (fun x args=>C2E x args)
  (C76) op
theorem A9w (op:XOp) (h:A0j op=true):A4J op=F9 (C1H op):=by
 cases op<;>first|rfl|(cases h;done)
def A4K (tm:Tri Value) (g:Option (Nat×Bool)):Bool:=J4 ⟨tm,[]⟩ g
noncomputable def C77 (C:FC) (o:XOper) (ih:KF):KF:=fun tm df B h nx k=>
 XOper.rec (fun d op g=>Bool.rec (A4H d undef tm fun tm=>ih tm df B h nx k) (A4J op C d tm df B h nx (fun tm df B h nx=>ih tm df B h nx k) (fun v tm df B h nx=>k (.panic v) tm df B h nx)) (A4K tm g)) o
noncomputable def A3u (C:FC) (l:List XOper):KF:=List.rec (fun tm df B h nx k=>k .normal tm df B h nx) (fun o _ ih=>C77 C o ih) l
def C78 (f:KF) (r:Act->AS->Option (Ex×Act×AS)):Prop:=∀tm df B h nx k,f tm df B h nx k=true->
 ∃e tm' df' B' h' nx',r ⟨tm,df⟩ ⟨B,h,nx⟩=some (e,⟨tm',df'⟩,⟨B',h',nx'⟩)/\k e tm' df' B' h' nx'=true
def C0B (C:FC) (C':Callee):Prop:=∀f args B h nx k,C f args B h nx k=true->∃e B' h' nx',C' f args ⟨B,h,nx⟩=some (e,⟨B',h',nx'⟩)/\k e B' h' nx'=true
theorem A9x {f:(Nat->Option AObj)->Nat->(Operand->Value)->Option PR} {C:FC} {d:Option Nat} {tm:Tri Value} {df:List Dfr} {B:Hb} {h:Hh} {nx:Nat} {kn:KN} {kp:KP} (hg:F9 f C d tm df B h nx kn kp=true):
  ∃p,f (AS.mk B h nx).get nx (Act.ev ⟨tm,df⟩)=some p/\kn (Act.put ⟨tm,df⟩ d p.v).tm df B (A5h h p.δ) p.nx=true:=by
 unfold F9 at hg;rw [B5k B h nx,A2d tm df] at hg;cases hf:f (AS.mk B h nx).get nx (Act.ev ⟨tm,df⟩) with
 |none=>rw [hf] at hg;cases hg
 |some p=>
  rw [hf] at hg;refine ⟨p,rfl,?_⟩;obtain ⟨v,δ,nx'⟩:=p;have e:B85 d tm df B h kn ⟨v,δ,nx'⟩=A3t v fun v=>B83 δ h fun h=>A2c nx' fun nx'=>A4H d v tm fun tm=>kn tm df B h nx':=rfl
  have hg':B85 d tm df B h kn ⟨v,δ,nx'⟩=true:=hg;rw [e,A4G,B5l,A0q,A4I (df:=df)] at hg';exact hg'
theorem A4L {d:Option Nat} {tm:Tri Value} {df:List Dfr} {kn:KN} {kp:KP} {e:End} {B:Hb} {h:Hh} {nx:Nat} (hr:A91 d tm df kn kp e B h nx=true):
  (∃v,e=.ret v/\kn (Act.put ⟨tm,df⟩ d v).tm df B h nx=true)\/(∃v,e=.panic v/\kp v tm df B h nx=true):=by
 cases e with
 |ret v=>
  have e:A91 d tm df kn kp (.ret v) B h nx=A3t v fun v=>A4H d v tm fun tm=>kn tm df B h nx:=rfl
  rw [e,A4G,A4I (df:=df)] at hr;exact .inl ⟨v,rfl,hr⟩
 |panic v=>exact .inr ⟨v,rfl,hr⟩
theorem A7q (tm:Tri Value) (df:List Dfr) (g:Option (Nat×Bool)):A4K tm g=J4 ⟨tm,df⟩ g:=by
 cases g with
 |none=>rfl
 |some p=>rfl
theorem B2m {C:FC} {C':Callee} (hC:C0B C C'):∀l,C78 (A3u C l) (A0g C' l)
 |[]=>fun tm df B h nx k hk=>⟨.normal,tm,df,B,h,nx,rfl,hk⟩
 |o::l=>fun tm df B h nx k hk=>by
  have ih:=B2m hC l;obtain ⟨d,op,g⟩:=o;have e:A3u C (⟨d,op,g⟩::l) tm df B h nx k=Bool.rec (A4H d undef tm fun tm=>A3u C l tm df B h nx k) (A4J op C d tm df B h nx (fun tm df B h nx=>A3u C l tm df B h nx k) (fun v tm df B h nx=>k (.panic v) tm df B h nx)) (A4K tm g):=rfl;rw [e,A7q tm df] at hk;unfold A0g;simp only;cases hw:J4 ⟨tm,df⟩ g with
  |false=>
   rw [hw] at hk
   replace hk:(A4H d undef tm fun tm=>A3u C l tm df B h nx k)=true:=hk
   rw [A4I (df:=df)] at hk;rw [A2e];exact ih _ _ _ _ _ _ hk
  |true=>
   rw [hw] at hk
   replace hk:A4J op C d tm df B h nx (fun tm df B h nx=>A3u C l tm df B h nx k) (fun v tm df B h nx=>k (.panic v) tm df B h nx)=true:=hk
   have prim:A0j op=true->∃e tm' df' B' h' nx',(match B0 (AS.mk B h nx).get nx (Act.ev ⟨tm,df⟩) op with
     |some p=>A0g C' l (Act.put ⟨tm,df⟩ d p.v) ((AS.mk B h nx).upd p.δ p.nx)
     |none=>none)=some (e,⟨tm',df'⟩,⟨B',h',nx'⟩)/\k e tm' df' B' h' nx'=true:=by
    intro hp;rw [A9w op hp] at hk;obtain ⟨p,h1,h2⟩:=A9x hk;rw [B2i] at h1;rw [h1];simp only;rw [A2e];exact ih _ _ _ _ _ _ h2
   cases op
   case call f args=>
    have e:A4J (.call f args) C d tm df B h nx (fun tm df B h nx=>A3u C l tm df B h nx k) (fun v tm df B h nx=>k (.panic v) tm df B h nx)=
     A1t (args.map (fev tm)) fun l2=>C f l2 B h nx (A91 d tm df (fun tm df B h nx=>A3u C l tm df B h nx k) (fun v tm df B h nx=>k (.panic v) tm df B h nx)):=rfl
    rw [e,A1P,A2d tm df] at hk;obtain ⟨en,B',h',nx',h1,h2⟩:=hC _ _ _ _ _ _ hk;simp only;rw [h1];rcases A4L h2 with ⟨v,rfl,h3⟩|⟨v,rfl,h3⟩
    ·simp only;rw [A2e];exact ih _ _ _ _ _ _ h3
    ·exact ⟨_,_,_,_,_,_,rfl,h3⟩
   case callV x args=>
    have e:A4J (.callV x args) C d tm df B h nx (fun tm df B h nx=>A3u C l tm df B h nx k) (fun v tm df B h nx=>k (.panic v) tm df B h nx)=
     Option.rec false (fun fl=>Prod.rec (fun f l2=>A1t l2 fun l2=>C f l2 B h nx (A91 d tm df (fun tm df B h nx=>A3u C l tm df B h nx k) (fun v tm df B h nx=>k (.panic v) tm df B h nx))) fl) (target (fev tm x) (args.map (fev tm))):=rfl
    rw [e,A2d tm df] at hk;simp only;cases ht:target (Act.ev ⟨tm,df⟩ x) (args.map (Act.ev ⟨tm,df⟩)) with
    |none=>rw [ht] at hk;cases hk
    |some fl=>
     obtain ⟨f,l2⟩:=fl;rw [ht] at hk;have hk:(A1t l2 fun l2=>C f l2 B h nx (A91 d tm df (fun tm df B h nx=>A3u C l tm df B h nx k) (fun v tm df B h nx=>k (.panic v) tm df B h nx)))=true:=hk;rw [A1P] at hk;obtain ⟨en,B',h',nx',h1,h2⟩:=hC _ _ _ _ _ _ hk;simp only;rw [h1];rcases A4L h2 with ⟨v,rfl,h3⟩|⟨v,rfl,h3⟩
     ·simp only;rw [A2e];exact ih _ _ _ _ _ _ h3
     ·exact ⟨_,_,_,_,_,_,rfl,h3⟩
   case panic x=>
    have e:A4J (.panic x) C d tm df B h nx (fun tm df B h nx=>A3u C l tm df B h nx k) (fun v tm df B h nx=>k (.panic v) tm df B h nx)=
     Option.rec false (fun v=>k (.panic v) tm df B h nx) (B5m (fev tm x)):=rfl
    rw [e,A2d tm df] at hk;simp only;cases hv:Act.ev ⟨tm,df⟩ x<;>rw [hv] at hk<;>first|(cases hk;done)|skip
    exact ⟨_,_,_,_,_,_,rfl,hk⟩
   case defer x args=>
    have e:A4J (.defer x args) C d tm df B h nx (fun tm df B h nx=>A3u C l tm df B h nx k) (fun v tm df B h nx=>k (.panic v) tm df B h nx)=
     Option.rec false (fun fl=>Prod.rec (fun f l2=>A1t l2 fun l2=>A4H d undef tm fun tm=>A3u C l tm (⟨f,l2⟩::df) B h nx k) fl) (target (fev tm x) (args.map (fev tm))):=rfl
    rw [e,A2d tm df] at hk;simp only;cases ht:target (Act.ev ⟨tm,df⟩ x) (args.map (Act.ev ⟨tm,df⟩)) with
    |none=>rw [ht] at hk;cases hk
    |some fl=>
     obtain ⟨f,l2⟩:=fl;rw [ht] at hk;have hk:(A1t l2 fun l2=>A4H d undef tm fun tm=>A3u C l tm (⟨f,l2⟩::df) B h nx k)=true:=hk;rw [A1P,A4I (df:=⟨f,l2⟩::df)] at hk;simp only;rw [A2e];exact ih _ _ _ _ _ _ hk
   case recover=>cases hk
   all_goals exact prim rfl
def B0V:XOp->Bool
 |.call _ _|.callV _ _=>true
 |_=>false
def okD (op:XOp):Bool:=A0j op||B0V op
def B86:Option PR->List Nat
 |some p=>p.δ.map (·.1)
 |none=>[]
noncomputable def frec (op:XOp) (tm:Tri Value) (B:Hb) (h:Hh) (nx:Nat) (B':Hb) (h':Hh) (nx':Nat):Rec:=
 ⟨B0V op,A18 (hget B h) (fev tm) op,B86 (B0 (hget B h) nx (fev tm) op),⟨B,h,nx⟩,⟨B',h',nx'⟩⟩
abbrev KD:=Tri Value->List Dfr->Hb->Hh->Nat->List Rec->Bool
abbrev KFD:=Tri Value->List Dfr->Hb->Hh->Nat->List Rec->KD->Bool
noncomputable def C2F (C:FC) (o:XOper) (ih:KFD):KFD:=fun tm df B h nx rs k=>
 XOper.rec (fun d op g=>Bool.rec (A4H d undef tm fun tm'=>ih tm' df B h nx (⟨false,[],[],⟨B,h,nx⟩,⟨B,h,nx⟩⟩::rs) k)
  (Bool.rec false (A4J op C d tm df B h nx (fun tm' df' B' h' nx'=>ih tm' df' B' h' nx' (frec op tm B h nx B' h' nx'::rs) k) (fun _ _ _ _ _ _=>false)) (okD op)) (A4K tm g)) o
noncomputable def A1u (C:FC) (l:List XOper):KFD:=List.rec (fun tm df B h nx rs k=>k tm df B h nx rs.reverse) (fun o _ ih=>C2F C o ih) l
theorem A9y {C:FC} {C':Callee} (hC:C0B C C'):∀l tm df B h nx rs k,A1u C l tm df B h nx rs k=true->
  ∃tm' df' B' h' nx' rs',Z8 C' l ⟨tm,df⟩ ⟨B,h,nx⟩ rs=some (⟨tm',df'⟩,⟨B',h',nx'⟩,rs')/\k tm' df' B' h' nx' rs'=true
 |[],tm,df,B,h,nx,rs,k,hk=>⟨tm,df,B,h,nx,rs.reverse,rfl,hk⟩
 |o::l,tm,df,B,h,nx,rs,k,hk=>by
  have ih:=A9y hC l;obtain ⟨d,op,g⟩:=o;have e:A1u C (⟨d,op,g⟩::l) tm df B h nx rs k=Bool.rec (A4H d undef tm fun tm'=>A1u C l tm' df B h nx (⟨false,[],[],⟨B,h,nx⟩,⟨B,h,nx⟩⟩::rs) k)
    (Bool.rec false (A4J op C d tm df B h nx (fun tm' df' B' h' nx'=>A1u C l tm' df' B' h' nx' (frec op tm B h nx B' h' nx'::rs) k) (fun _ _ _ _ _ _=>false)) (okD op)) (A4K tm g):=rfl
  rw [e,A7q tm df] at hk;unfold Z8;simp only;cases hw:J4 ⟨tm,df⟩ g with
  |false=>
   simp_all<;>grind [A4H,A1u,A4I,A2e]
  |true=>
   rw [hw] at hk
   replace hk:(Bool.rec false (A4J op C d tm df B h nx (fun tm' df' B' h' nx'=>A1u C l tm' df' B' h' nx' (frec op tm B h nx B' h' nx'::rs) k) (fun _ _ _ _ _ _=>false)) (okD op):Bool)=true:=hk
   cases hok:okD op with
   |false=>simp_all
   |true=>
    rw [hok] at hk
    replace hk:A4J op C d tm df B h nx (fun tm' df' B' h' nx'=>A1u C l tm' df' B' h' nx' (frec op tm B h nx B' h' nx'::rs) k) (fun _ _ _ _ _ _=>false)=true:=hk
    have prim:A0j op=true->B0V op=false->∃tm' df' B' h' nx' rs',(match B0 (AS.mk B h nx).get nx (Act.ev ⟨tm,df⟩) op with
      |some p=>Z8 C' l (Act.put ⟨tm,df⟩ d p.v) ((AS.mk B h nx).upd p.δ p.nx) (⟨false,A18 (AS.mk B h nx).get (Act.ev ⟨tm,df⟩) op,p.δ.map (·.1),⟨B,h,nx⟩,(AS.mk B h nx).upd p.δ p.nx⟩::rs)
      |none=>none)=some (⟨tm',df'⟩,⟨B',h',nx'⟩,rs')/\k tm' df' B' h' nx' rs'=true:=by
     intro hp hcx;rw [A9w op hp] at hk;obtain ⟨p,h1,h2⟩:=A9x hk;rw [B2i] at h1;simp only [frec,hcx,B5k B h nx,A2d tm df,h1,B86] at h2;rw [h1];simp only;rw [A2e];exact ih _ _ _ _ _ _ _ h2
    cases op
    case call f args=>
     have e:A4J (.call f args) C d tm df B h nx (fun tm' df' B' h' nx'=>A1u C l tm' df' B' h' nx' (frec (.call f args) tm B h nx B' h' nx'::rs) k) (fun _ _ _ _ _ _=>false)=
      A1t (args.map (fev tm)) fun l2=>C f l2 B h nx (A91 d tm df (fun tm' df' B' h' nx'=>A1u C l tm' df' B' h' nx' (frec (.call f args) tm B h nx B' h' nx'::rs) k) (fun _ _ _ _ _ _=>false)):=rfl
     rw [e,A1P,A2d tm df] at hk;obtain ⟨en,B',h',nx',h1,h2⟩:=hC _ _ _ _ _ _ hk;simp only;rw [h1];rcases A4L h2 with ⟨v,rfl,h3⟩|⟨v,rfl,h3⟩
     ·simp only;rw [A2e];exact ih _ _ _ _ _ _ _ h3
     ·cases h3
    case callV x args=>
     have e:A4J (.callV x args) C d tm df B h nx (fun tm' df' B' h' nx'=>A1u C l tm' df' B' h' nx' (frec (.callV x args) tm B h nx B' h' nx'::rs) k) (fun _ _ _ _ _ _=>false)=
      Option.rec false (fun fl=>Prod.rec (fun f l2=>A1t l2 fun l2=>C f l2 B h nx (A91 d tm df (fun tm' df' B' h' nx'=>A1u C l tm' df' B' h' nx' (frec (.callV x args) tm B h nx B' h' nx'::rs) k) (fun _ _ _ _ _ _=>false))) fl) (target (fev tm x) (args.map (fev tm))):=rfl
     rw [e,A2d tm df] at hk;simp only;cases ht:target (Act.ev ⟨tm,df⟩ x) (args.map (Act.ev ⟨tm,df⟩)) with
     |none=>rw [ht] at hk;cases hk
     |some fl=>
      obtain ⟨f,l2⟩:=fl;rw [ht] at hk
      replace hk:(A1t l2 fun l2=>C f l2 B h nx (A91 d tm df (fun tm' df' B' h' nx'=>A1u C l tm' df' B' h' nx' (frec (.callV x args) tm B h nx B' h' nx'::rs) k) (fun _ _ _ _ _ _=>false)))=true:=hk
      rw [A1P] at hk;obtain ⟨en,B',h',nx',h1,h2⟩:=hC _ _ _ _ _ _ hk;simp only;rw [h1];rcases A4L h2 with ⟨v,rfl,h3⟩|⟨v,rfl,h3⟩
      ·simp only;rw [A2e];exact ih _ _ _ _ _ _ _ h3
      ·cases h3
    case panic x=>cases hok
    case defer x args=>cases hok
    case recover=>cases hok
    all_goals exact prim rfl rfl
noncomputable def B43 (ps:List (Nat×Nat)) (k:KT):KD:=fun tm df B h nx l=>Bool.rec false (k .normal tm df B h nx) (A1o l ps)
noncomputable def C79 (C:FC) (ops:List XOper) (ps:List (Nat×Nat)):KF:=fun tm df B h nx k=>A1u C ops tm df B h nx [] (B43 ps k)
noncomputable def B5n (y:KF) (k:KT):KT:=fun e tm df B h nx=>
 Ex.rec (y tm df B h nx k) (fun id=>k (.exit id) tm df B h nx) (k .ret tm df B h nx) (fun v=>k (.panic v) tm df B h nx) e
noncomputable def D2h (x y:KF):KF:=fun tm df B h nx k=>x tm df B h nx (B5n y k)
def B5o:Value->Option Bool
 |.bool b=>some b
 |_=>none
noncomputable def C7a (c:Operand) (x y:KF):KF:=fun tm df B h nx k=>Option.rec false (fun b=>Bool.rec (y tm df B h nx k) (x tm df B h nx k) b) (B5o (fev tm c))
noncomputable def B0W (id:Nat) (k:KT):KT:=fun e tm df B h nx=>
 Ex.rec (k .normal tm df B h nx) (fun j=>Bool.rec (k (.exit j) tm df B h nx) (k .normal tm df B h nx) (Nat.beq j id)) (k .ret tm df B h nx) (fun v=>k (.panic v) tm df B h nx) e
noncomputable def C2G (id:Nat) (x:KF):KF:=fun tm df B h nx k=>x tm df B h nx (B0W id k)
noncomputable def C2H (x:KF) (rest:KF):KF:=fun tm df B h nx k=>x tm df B h nx (B5n rest k)
noncomputable def B87 (x:KF) (n:Nat):KF:=Nat.rec (fun _ _ _ _ _ _=>false) (fun _ ih=>C2H x ih) n
noncomputable def C2I (e:Ex):KF:=fun tm df B h nx k=>k e tm df B h nx
noncomputable def A2N (C:FC) (n:Nat) (c:XCode):KF:=
 XCode.rec (motive:=fun _=>KF) (C2I .normal) (A3u C) (C79 C) (fun _ _=>D2h) (fun c _ _=>C7a c) (fun id _=>C2G id) (fun _ x=>B87 x n) (fun id=>C2I (.exit id)) (C2I .ret) c
theorem A0k {C:FC} {C':Callee} (hC:C0B C C') (n:Nat):∀c,C78 (A2N C n c) (G1 C' n c)
 |.skip=>fun tm df B h nx k hk=>⟨_,_,_,_,_,_,rfl,hk⟩
 |.exit id=>fun tm df B h nx k hk=>⟨_,_,_,_,_,_,rfl,hk⟩
 |.ret=>fun tm df B h nx k hk=>⟨_,_,_,_,_,_,rfl,hk⟩
 |.region ops=>fun tm df B h nx k hk=>by
  have:=B2m hC ops tm df B h nx k hk;simp_all [G1]<;>grind
 |.regionD ops ps=>fun tm df B h nx k hk=>by
  have hk':A1u C ops tm df B h nx [] (B43 ps k)=true:=hk;obtain ⟨tm',df',B',h',nx',rs',h1,h2⟩:=A9y hC ops _ _ _ _ _ _ _ hk';simp only [G1,h1];unfold B43 at h2;cases hp:A1o rs' ps with
  |false=>rw [hp] at h2;cases h2
  |true=>simp_all<;>grind
 |.seq x y=>fun tm df B h nx k hk=>by
  have hk':A2N C n x tm df B h nx (B5n (A2N C n y) k)=true:=hk;obtain ⟨e,tm',df',B',h',nx',h1,h2⟩:=A0k hC n x _ _ _ _ _ _ hk';simp only [G1,h1];cases e with
  |normal=>exact A0k hC n y _ _ _ _ _ _ h2
  |exit id=>exact ⟨_,_,_,_,_,_,rfl,h2⟩
  |ret=>exact ⟨_,_,_,_,_,_,rfl,h2⟩
  |panic v=>exact ⟨_,_,_,_,_,_,rfl,h2⟩
 |.cond c x y=>fun tm df B h nx k hk=>by
  have hk':(Option.rec false (fun b=>Bool.rec (A2N C n y tm df B h nx k) (A2N C n x tm df B h nx k) b) (B5o (fev tm c)):Bool)=true:=hk;rw [A2d tm df] at hk';simp only [G1];cases hv:Act.ev ⟨tm,df⟩ c<;>rw [hv] at hk'<;>first|(cases hk';done)|skip
  rename_i b;cases b with
  |true=>exact A0k hC n x _ _ _ _ _ _ hk'
  |false=>exact A0k hC n y _ _ _ _ _ _ hk'
 |.block id c=>fun tm df B h nx k hk=>by
  have hk':A2N C n c tm df B h nx (B0W id k)=true:=hk;obtain ⟨e,tm',df',B',h',nx',h1,h2⟩:=A0k hC n c _ _ _ _ _ _ hk';simp only [G1,h1];cases e with
  |normal=>exact ⟨_,_,_,_,_,_,rfl,h2⟩
  |exit j=>
   unfold B0W at h2;simp only;cases hb:Nat.beq j id with
   |true=>simp_all<;>grind
   |false=>simp_all<;>grind
  |ret=>exact ⟨_,_,_,_,_,_,rfl,h2⟩
  |panic v=>exact ⟨_,_,_,_,_,_,rfl,h2⟩
 |.loop c=>fun tm df B h nx k hk=>by
  have key:∀m tm df B h nx k,B87 (A2N C n c) m tm df B h nx k=true->∃e tm' df' B' h' nx',A2u (G1 C' n c) m ⟨tm,df⟩ ⟨B,h,nx⟩=some (e,⟨tm',df'⟩,⟨B',h',nx'⟩)/\k e tm' df' B' h' nx'=true:=by
   intro m
   induction m with
   |zero=>intro tm df B h nx k hk;cases hk
   |succ m ih=>
    intro tm df B h nx k hk;have hk':A2N C n c tm df B h nx (B5n (B87 (A2N C n c) m) k)=true:=hk;obtain ⟨e,tm',df',B',h',nx',h1,h2⟩:=A0k hC n c _ _ _ _ _ _ hk';simp only [A2u,h1];cases e with
    |normal=>exact ih _ _ _ _ _ _ h2
    |exit id=>exact ⟨_,_,_,_,_,_,rfl,h2⟩
    |ret=>exact ⟨_,_,_,_,_,_,rfl,h2⟩
    |panic v=>exact ⟨_,_,_,_,_,_,rfl,h2⟩
  simp only [G1];exact key n tm df B h nx k hk
noncomputable def A7r (args:List Value):Nat->Tri Value->(Tri Value->Bool)->Bool:=
 List.rec (fun _ t k=>k t) (fun x _ ih i t k=>B42 x (pathOf i) t fun t=>A2c (Nat.succ i) fun j=>ih j t k) args
theorem A9z:∀(args:List Value) (i:Nat) (t:Tri Value) (k:Tri Value->Bool),A7r args i t k=k (Tri.ofList args i t)
 |[],i,t,k=>rfl
 |x::l,i,t,k=>by
  have e:A7r (x::l) i t k=B42 x (pathOf i) t fun t=>A2c (Nat.succ i) fun j=>A7r l j t k:=rfl
  rw [e,B0T,A0q,A9z l];rfl
noncomputable def B88 (F:FuncId->Option XFun) (O:FuncId->List Value->Option Value) (n:Nat) (fn:XFun) (k:KE) (m:Mode) (tm:Tri Value) (df:List Dfr) (B:Hb) (h:Hh) (nx:Nat):Bool:=
 match J0 (P4 F O n) F n df ⟨B,h,nx⟩ m with
 |some (s,m)=>match O3 ⟨tm,df⟩ fn s m with
  |some (e,s)=>k e s.base s.tri s.next
  |none=>false
 |none=>false
noncomputable def B89 (fn:XFun) (k:KE) (m:Mode) (tm:Tri Value) (B:Hb) (h:Hh) (nx:Nat):Bool:=
 Mode.rec (Option.rec false (fun l=>A3t (packed l) fun v=>k (.ret v) B h nx) (K4 ⟨tm,[]⟩ ⟨B,h,nx⟩ fn.results)) (fun v=>k (.panic v) B h nx) false m
noncomputable def C0C (F:FuncId->Option XFun) (O:FuncId->List Value->Option Value) (n:Nat) (fn:XFun) (k:KE) (m:Mode) (tm:Tri Value) (df:List Dfr) (B:Hb) (h:Hh) (nx:Nat):Bool:=
 List.rec (B89 fn k m tm B h nx) (fun _ _ _=>B88 F O n fn k m tm df B h nx) df
noncomputable def B8a (F:FuncId->Option XFun) (O:FuncId->List Value->Option Value) (n:Nat) (fn:XFun) (k:KE):KT:=fun e tm df B h nx=>
 Ex.rec (C0C F O n fn k .ret tm df B h nx) (fun _=>false) (C0C F O n fn k .ret tm df B h nx) (fun v=>C0C F O n fn k (.panicking v) tm df B h nx) e
noncomputable def C7b (F:FuncId->Option XFun) (O:FuncId->List Value->Option Value) (n:Nat) (C:FC) (args:List Value) (B:Hb) (h:Hh) (nx:Nat) (k:KE) (fn:XFun):Bool:=
 A7r args 0 .nil fun tm=>A2N C n fn.body tm [] B h nx (B8a F O n fn k)
noncomputable def C2J (F:FuncId->Option XFun) (O:FuncId->List Value->Option Value) (n:Nat) (C:FC):FC:=fun f args B h nx k=>
 Option.rec (Option.rec false (fun v=>Option.rec (A3t v fun v=>k (.ret v) B h nx) (fun _=>false) (A0I v)) (O f args)) (C7b F O n C args B h nx k) (F f)
noncomputable def B2n (F:FuncId->Option XFun) (O:FuncId->List Value->Option Value) (n:Nat):FC:=
 Nat.rec (fun _ _ _ _ _ _=>false) (fun n ih=>C2J F O n ih) n
theorem A7s {F:FuncId->Option XFun} {O:FuncId->List Value->Option Value} {n:Nat} {fn:XFun} {k:KE} {m:Mode} {tm:Tri Value} {df:List Dfr} {B:Hb} {h:Hh} {nx:Nat} (hk:C0C F O n fn k m tm df B h nx=true):
  ∃e B' h' nx',(match J0 (P4 F O n) F n df ⟨B,h,nx⟩ m with|some (s,m)=>O3 ⟨tm,df⟩ fn s m|none=>none)=some (e,⟨B',h',nx'⟩)/\k e B' h' nx'=true:=by
 cases df with
 |nil=>
  have hk':B89 fn k m tm B h nx=true:=hk;simp only [J0];cases m with
  |ret=>
   have hk2:(Option.rec false (fun l=>A3t (packed l) fun v=>k (.ret v) B h nx) (K4 ⟨tm,[]⟩ ⟨B,h,nx⟩ fn.results):Bool)=true:=hk';simp only [O3];cases hr:K4 ⟨tm,[]⟩ ⟨B,h,nx⟩ fn.results with
   |none=>simp_all
   |some l=>
    simp_all<;>grind [A3t,packed,A4G]
  |panicking v=>exact ⟨_,_,_,_,rfl,hk'⟩
  |recovered=>cases hk'
 |cons d r=>
  have hk':B88 F O n fn k m tm (d::r) B h nx=true:=hk;unfold B88 at hk';cases hx:J0 (P4 F O n) F n (d::r) ⟨B,h,nx⟩ m with
  |none=>grind
  |some sm=>
   obtain ⟨s,m'⟩:=sm;rw [hx] at hk';simp only at hk' ⊢;cases hf:O3 ⟨tm,d::r⟩ fn s m' with
   |none=>grind
   |some es=>
    grind
theorem A9A (F:FuncId->Option XFun) (O:FuncId->List Value->Option Value):∀n,C0B (B2n F O n) (P4 F O n)
 |0=>fun f args B h nx k hk=>by cases hk
 |n+1=>fun f args B h nx k hk=>by
  have hC:=A9A F O n;have hk':(Option.rec (Option.rec false (fun v=>Option.rec (A3t v fun v=>k (.ret v) B h nx) (fun _=>false) (A0I v)) (O f args)) (C7b F O n (B2n F O n) args B h nx k) (F f):Bool)=true:=hk;simp only [P4];cases hF:F f with
  |none=>
   rw [hF] at hk';have hk2:(Option.rec false (fun v=>Option.rec (A3t v fun v=>k (.ret v) B h nx) (fun _=>false) (A0I v)) (O f args):Bool)=true:=hk';simp only;cases hO:O f args with
   |none=>simp_all
   |some v=>
    rw [hO] at hk2;have hk3:(Option.rec (A3t v fun v=>k (.ret v) B h nx) (fun _=>false) (A0I v):Bool)=true:=hk2;simp only [A8P];cases hm:A0I v with
    |some _=>simp_all
    |none=>
     simp_all<;>grind [A3t,A4G]
  |some fn=>
   rw [hF] at hk';have hk2:(A7r args 0 .nil fun tm=>A2N (B2n F O n) n fn.body tm [] B h nx (B8a F O n fn k))=true:=hk';rw [A9z] at hk2;obtain ⟨e,tm',df',B',h',nx',h1,h2⟩:=A0k hC n fn.body _ _ _ _ _ _ hk2;have h1':G1 (P4 F O n) n fn.body (A0H args) ⟨B,h,nx⟩=some (e,⟨tm',df'⟩,⟨B',h',nx'⟩):=h1;simp only [h1'];cases e with
   |normal=>exact A7s h2
   |exit id=>cases h2
   |ret=>exact A7s h2
   |panic v=>exact A7s h2
end
section
open Go Go.RowKit
def A7t:List UInt8->List UInt8->Bool
 |[],_=>true
 |_::_,[]=>false
 |a::x,b::y=>match Nat.beq a.toNat b.toNat with
  |true=>A7t x y
  |false=>false
def A1Q (t:List UInt8):List UInt8->Bool
 |[]=>A7t t []
 |a::s=>match A7t t (a::s) with
  |true=>true
  |false=>A1Q t s
def A9B (n:Nat):List UInt8->Nat->Option Nat
 |[],_=>none
 |a::s,i=>match Nat.beq a.toNat n with
  |true=>some i
  |false=>A9B n s (i+1)
theorem B8b (a b:UInt8):Nat.beq a.toNat b.toNat=(a==b):=by
 rw [D8]
 by_cases h:a=b
 ·subst h;simp
 ·have:a.toNat≠b.toNat:=fun e=>h (UInt8.toNat_inj.1 e)
  simp [h,this]
theorem B2o:∀x y,A7t x y=x.isPrefixOf y
 |[],y=>by simp [A7t]
 |a::x,[]=>rfl
 |a::x,b::y=>by
  simp_all [A7t,B8b,B2o]<;>grind
theorem A4M (t:List UInt8):∀s,A1Q t s=Lib.contains s t
 |[]=>by
  unfold A1Q Lib.contains Lib.index;cases t<;>simp [A7t]
 |a::s=>by
  have ih:=A4M t s;unfold A1Q;rw [B2o];unfold Lib.contains at ih ⊢;have hge:=Lib.index_ge s t;unfold Lib.index;grind
theorem B2p (n:Nat) (hn:n<256):∀(s:List UInt8) (i:Nat),A9B n s i=if Lib.indexByte s n.toUInt8=-1 then none else some (i+(Lib.indexByte s n.toUInt8).toNat)
 |[],i=>by simp [A9B,Lib.indexByte]
 |a::s,i=>by
  have e1:(n.toUInt8).toNat=n:=by simp;omega
  have hb:Nat.beq a.toNat n=(a==n.toUInt8):=by rw [<-B8b,e1]
  have hge:=Lib.indexByte_ge s n.toUInt8;unfold A9B Lib.indexByte;rw [hb];cases a==n.toUInt8 with
  |true=>simp
  |false=>
   simp only [Bool.false_eq_true,if_false];rw [B2p n hn s (i+1)];grind
def C1J (P:Program) (W0:World) (N0:Nat):Prop:=N0=W0.heap.size/\W0.ShapedOpen P
theorem Rel.below {W0:World} {N0:Nat} {φ:Loc} {g:Hp} {w:World} (r:Rel W0 N0 φ g w) (h:N0=W0.heap.size):Below W0.heap.size W0 w:=
 ⟨r.os,r.tape,r.output,by rw [<-h];exact r.n0,fun k hk=>r.fixed k (by omega)⟩
theorem Rel.shaped {P:Program} {W0:World} {N0:Nat} {φ:Loc} {g:Hp} {w:World} (r:Rel W0 N0 φ g w) (h:C1J P W0 N0):w.ShapedOpen P:=
 h.2.keptBut ((r.below h.1).frame (fun _=>False)) (fun p hp=>hp.elim)
theorem OOk.still {P:Program} {gl:Glb} {f:FuncId} {args:List Value} {v:Value} (hto:A00 P f) (hv:plainV v=true) (hm:A0I v=none) (hargs:plainV.plainVs args=true) (hflat:∀φ args',VRels φ args args'->args'=args)
  (h:∀W0 N0 φ g w,gl.good W0 N0->Rel W0 N0 φ g w->Calls P f args.toArray w fun E w'=>E=.returned v/\w'=w):OOk P gl f args v:=by
 refine OOk.plain hto hm fun W0 N0 φ s w args' hi ha=> ?_
 rw [hflat φ args' ha];refine Calls.mono (h W0 N0 φ s.get w hi.good hi.rel) ?_;grind [VRel.plain,Stp.refl]
def isTrue:KE:=fun e _ _ _=>match e with
 |.ret v=>match v with
  |.bool b=>b
  |_=>false
 |_=>false
end
section
open Go Go.Proofs Go.RowKit
theorem OOk.grow {P:Program} {gl:Glb} {f:FuncId} {args:List Value} {v:Value} (hto:A00 P f) (hv:plainV v=true) (hm:A0I v=none) (hflat:∀φ args',VRels φ args args'->args'=args)
  (h:∀W0 N0 φ g w,gl.good W0 N0->Rel W0 N0 φ g w->Calls P f args.toArray w fun E w'=>E=.returned v/\Below w.heap.size w w'):OOk P gl f args v:=by
 refine OOk.plain hto hm fun W0 N0 φ s w args' hi ha=> ?_
 rw [hflat φ args' ha];refine Calls.mono (h W0 N0 φ s.get w hi.good hi.rel) ?_;rintro E w' ⟨rfl,hb⟩;have hr:=hi.rel;have hsz:=hb.size
 refine ⟨v,rfl,VRel.plain φ v hv,⟨⟨Nat.le_trans hr.n0 hsz,fun b hb'=> ?_,hb.os.trans hr.os,hb.tape.trans hr.tape,hb.output.trans hr.output,fun i o hio=> ?_,hr.inj⟩,hi.dm,hi.glob,hi.good⟩,⟨Loc.le_refl φ,fun _ _=>rfl,hsz,fun b hb' _=>hb.block b hb',fun i b d t hg hφ=>.inr ⟨i,d,t,hg,hφ⟩⟩⟩
 ·rw [hb.block b (Nat.lt_of_lt_of_le hb' hr.n0)];exact hr.fixed b hb'
 ·obtain ⟨b,d,t,ob,h1,h2,h3,h4⟩:=hr.obj i o hio;refine ⟨b,d,t,ob,h1,?_,h3,h4⟩;have:b<w.heap.size:=by
   rcases Nat.lt_or_ge b w.heap.size with h|h
   ·exact h
   ·rw [Array.getElem?_eq_none h] at h2;cases h2
  rw [hb.block b this];exact h2
structure Gr (w w':World):Prop where
 size:w.heap.size<=w'.heap.size
 block:∀b,b<w.heap.size->w'.heap[b]? =w.heap[b]?
 os:w'.os=w.os
 tape:w'.tape=w.tape
 output:w'.output=w.output
theorem Rel.gr {W0:World} {N0:Nat} {φ:Loc} {g:Hp} {w w':World} (r:Rel W0 N0 φ g w) (h:Gr w w') (lo:Nat):Rel W0 N0 φ g w'/\Stp φ g w φ g w' lo lo:=by
 refine ⟨⟨Nat.le_trans r.n0 h.size,fun b hb=> ?_,h.os.trans r.os,h.tape.trans r.tape,h.output.trans r.output,fun i o hio=> ?_,r.inj⟩,⟨Loc.le_refl φ,fun _ _=>rfl,h.size,fun b hb _=>h.block b hb,fun i b d t hg hφ=>.inr ⟨i,d,t,hg,hφ⟩⟩⟩
 ·rw [h.block b (Nat.lt_of_lt_of_le hb r.n0)];exact r.fixed b hb
 ·obtain ⟨b,d,t,ob,h1,h2,h3,h4⟩:=r.obj i o hio;exact ⟨b,d,t,ob,h1,by rw [h.block b (Array.getElem?_eq_some_iff.1 h2).1];exact h2,h3,h4⟩
theorem A7u:∀{l:List Value} {zs:List Int},A5V l=some zs->l=P6 zs
 |[],zs,h=>by simp only [A5V] at h;cases h;rfl
 |v::l,zs,h=>by
  unfold A5V at h;split at h
  ·rename_i h1;cases h1
  ·rename_i z l2 h1;cases h1;split at h
   ·rename_i zs' hz;cases h;rw [A7u hz];rfl
   ·cases h
  ·cases h
theorem B2q {φ:Loc}:∀{zs:List Int} {l:List Value},VRels φ (P6 zs) l->l=P6 zs
 |[],l,h=>by cases h;rfl
 |z::zs,l,h=>by
  simp only [P6,List.map_cons] at h;cases h with
  |cons h1 h2=>
   cases h1;have:=B2q (zs:=zs) h2;rw [this];rfl
theorem B2r (φ:Loc):∀zs:List Int,VRels φ (P6 zs) (P6 zs)
 |[]=>.nil
 |z::zs=>.cons (.int _ z) (B2r φ zs)
theorem A4N (zs:List Int):(P6 zs).length=zs.length:=by simp [P6]
theorem A2f:∀zs:List Int,(F0 zs).length<=zs.length
 |[]=>Nat.le_refl _
 |x::l=>by
  have ih:=A2f l;unfold F0;grind
theorem A7v (mk:Mk) (zs:List Int):(A0b mk zs).length=zs.length:=by
 cases mk with
 |sort=>simp [A0b,W3]
 |compact=>grind [A2f,A0b]
def B44 (P:Program) (f:FuncId) (mk:Mk):Prop:=∀(b o cap:Nat) (zs:List Int) (c:Array Value) (e:TypeId) (w:World),w.heap[b]? =some (.cells c e (0,0))->(c.toList.drop o).take zs.length=P6 zs->zs≠[]->zs.length<=1073741824->zs.length<=cap->
 Calls P f #[.slice (some ⟨b,o,none⟩) zs.length cap] w fun E w'=>E=.returned (A5j mk ⟨b,o,none⟩ zs cap)/\Gr (K1 w b (.cells (setList c.toList o (P6 (A0b mk zs))).toArray e (0,0))) w'
def B0X (P:Program) (f:FuncId) (mk:Mk):Prop:=∀(p:Option Addr) (cap:Nat) (w:World),Calls P f #[.slice p 0 cap] w fun E w'=>E=.returned (A4m mk (.slice p 0 cap))/\w'=w
theorem OOk.row {P:Program} {gl:Glb} {f:FuncId} {args:List Value} {mk:Mk} {mv:Value} (hmk:A0I mv=some mk) (hto:A00 P f) (hs:B44 P f mk) (hn:B0X P f mk):OOk P gl f args mv:=by
 refine ⟨hto,fun W0 N0 φ s w args' e s' hi ha h=> ?_⟩;unfold A8P at h;rw [hmk] at h;have h:B3P mk args s=some (e,s'):=h;unfold B3P at h;split at h
 ·rename_i p n cc h0;split at h
  ·rename_i hn0;cases h;rw [D8] at hn0;have hn0:=of_decide_eq_true hn0;subst hn0;have hret:∀u v',VRel φ u v'->VRel φ (A4m mk u) (A4m mk v'):=fun u v' h=>by
    cases mk with
    |sort=>exact .tuple .nil
    |compact=>exact h
   cases ha with
   |cons hv hnil=>
    cases hnil;rename_i v';have hv':=hv;have hsl:∃p' cap',v'=.slice p' 0 cap':=by
     cases hv<;>exact ⟨_,_,rfl⟩
    obtain ⟨p',cap',rfl⟩:=hsl;refine Calls.mono (hn p' cap' w) ?_;rintro E w' ⟨rfl,rfl⟩;exact ⟨φ,⟨_,rfl,hret _ _ hv'⟩,hi,Stp.refl _ _ _ _⟩
  ·rename_i a hn0;rw [D8] at hn0;have hn0:=of_decide_eq_false hn0;split at h
   ·rename_i l hl;split at h
    ·rename_i zs hz hble;split at h
     ·rename_i δ hδ;cases h;obtain rfl:=A7u hz;obtain ⟨i,o,ver,vs,ee,rfl,hg,hle,rfl⟩:=Q1 hδ;obtain ⟨i',o',ver',vs',e',ro',ha',hg',hle',hll⟩:=P0 hl;cases ha';rw [hg] at hg';cases hg';have hlen:(P6 zs).length=n:=by rw [hll,List.length_take,List.length_drop];omega
      rw [A4N] at hlen;obtain ⟨b,d,t,ob,hφ,hob,hor,hfix⟩:=hi.rel.obj i _ hg;obtain ⟨c,fr,hb,hsz0,hfr,h1,hvs,hsz⟩:=hi.rel.cells hg hφ;obtain rfl:=hfr rfl;have hw:=hi.rel.write (ver:=ver+1) hg hφ rfl (ORel.stored (e:=ee) (xs:=P6 (A0b mk zs)) (o:=o) hsz0 hvs h1 (B2r φ _) (A5p _) hle) s.next
      have hget:(s.upd [(i,some ⟨ver+1,.cells (setList vs o (P6 (A0b mk zs))) ee false⟩)] s.next).get=Hp.set1 s.get i (some ⟨ver+1,.cells (setList vs o (P6 (A0b mk zs))) ee false⟩):=by
       funext k;rw [AS.upd_get];rfl
      have hdm:Dm (s.upd [(i,some ⟨ver+1,.cells (setList vs o (P6 (A0b mk zs))) ee false⟩)] s.next):=by
       intro k hk;have hk:s.next<=k:=hk;rw [hget];have hne:i≠k:=by rintro rfl;rw [hi.dm i hk] at hg;cases hg
       rw [Hp.set1_ne _ _ hne];exact hi.dm k hk
      have hz1:zs.length≠0:=by omega
      have hcell:(c.toList.drop (d+o)).take zs.length=P6 zs:=by
       have h2:=(hvs.drop o).take n;rw [<-hll] at h2;have h3:=B2q h2;rw [<-h3,hlen];rw [List.drop_take,List.drop_drop,List.take_take];grind
      have hbig:zs.length<=1073741824:=by
       simp_all
      have hcz:=A2f zs;have hgo:∀cap,n<=cap->VRel φ (A5j mk ⟨i,o,none⟩ zs cc) (A5j mk ⟨b,d+o,none⟩ zs cap)->Calls P f #[.slice (some ⟨b,d+o,none⟩) n cap] w fun E w'=>∃ψ,C0t ψ (End.ret (A5j mk ⟨i,o,none⟩ zs cc)) E/\Inv gl W0 N0 ψ (s.upd [(i,some ⟨ver+1,.cells (setList vs o (P6 (A0b mk zs))) ee false⟩)] s.next) w'/\
        Stp φ s.get w ψ (s.upd [(i,some ⟨ver+1,.cells (setList vs o (P6 (A0b mk zs))) ee false⟩)] s.next).get w' s.next s.next:=by
       intro cap hcap hvr;rw [<-hlen];refine Calls.mono (hs b (d+o) cap zs c ee w hb hcell (fun e=>hz1 (by rw [e];rfl)) hbig (by omega)) ?_;rintro E w' ⟨rfl,hgr⟩;obtain ⟨q1,q2⟩:=hw.1.gr hgr s.next;refine ⟨φ,⟨_,rfl,hvr⟩,⟨by rw [hget];exact q1,hdm,hi.glob,hi.good⟩,?_⟩;rw [hget];exact hw.2.trans q2 (Nat.le_refl _) (Nat.le_refl _)
      cases ha with
      |cons hv hnil=>
       cases hnil;cases hv with
       |slice n c hφ2 q1 q3=>
        rw [hφ] at hφ2;cases hφ2;refine hgo _ q1 ?_;cases mk with
        |sort=>exact .tuple .nil
        |compact=>exact .slice _ _ hφ (by omega) q3
       |sliceU n c o' k hφ2 q1 q2 q3=>
        rw [hφ] at hφ2;cases hφ2;rcases q2 with rfl|q2
        ·refine hgo _ q1 ?_;cases mk with
         |sort=>exact .tuple .nil
         |compact=>exact .sliceU _ _ _ _ hφ (by omega) (.inl rfl) q3
        ·omega
       |slice0=>omega
     ·cases h
    ·cases h
   ·cases h
  ·cases h
 ·cases h
abbrev A63:=List (Nat×TypeId×List Value)
def laidG (l:A63) (w:World):Prop:=∀x∈l,w.heap[x.1]? =some (.cells x.2.2.toArray x.2.1 (0,0))
def B8c (P:Program) (l:A63) (W0:World) (N0:Nat):Prop:=C1J P W0 N0/\laidG l W0
theorem Rel.laidG {P:Program} {l:A63} {W0:World} {N0:Nat} {φ:Loc} {g:Hp} {w:World} (r:Rel W0 N0 φ g w) (h:B8c P l W0 N0):Xe.laidG l w:=fun x hx=>by
 have h1:=h.2 x hx;have hlt:x.1<N0:=by rw [h.1.1];exact (Array.getElem?_eq_some_iff.1 h1).1
 rw [r.fixed _ hlt];exact h1
def A3K:A63->Nat->Option AObj
 |[],_=>none
 |(g,e,vs)::r,i=>match Nat.beq i g with
  |true=>some ⟨0,.cells vs e true⟩
  |false=>A3K r i
theorem A3c:∀{l:A63} {i:Nat} {o:AObj},A3K l i=some o->∃e vs,(i,e,vs)∈l/\o=⟨0,.cells vs e true⟩
 |[],i,o,h=>by cases h
 |(g,e,vs)::r,i,o,h=>by
  unfold A3K at h;cases hb:Nat.beq i g with
  |true=>
   rw [hb] at h;cases h;rw [D8] at hb;exact ⟨e,vs,by rw [of_decide_eq_true hb];exact List.mem_cons_self,rfl⟩
  |false=>
   rw [hb] at h;obtain ⟨e',vs',h1,h2⟩:=A3c h;exact ⟨e',vs',List.mem_cons_of_mem _ h1,h2⟩
theorem A7w {gl:Glb} {φ:Loc} {nx:Nat} (l:A63) (hgl:∀i,gl.is i=true->∃t,φ i=some (i,0,t)) (hφ:∀i,nx<=i->φ i=none) (hat:∀x∈l,φ x.1=some (x.1,0,x.2.2.length)) (hp:∀x∈l,ones x.2.2=true/\plainV.plainVs x.2.2=true)
  {w:World} (hl:laidG l w) (hg:gl.good w w.heap.size):Inv gl w w.heap.size φ ⟨A3K l,.nil,nx⟩ w:=by
 have hget:∀i,(AS.mk (A3K l) .nil nx).get i=A3K l i:=fun i=>by simp only [AS.get,Tri.get_nil]
 refine ⟨⟨Nat.le_refl _,fun _ _=>rfl,rfl,rfl,rfl,fun i o h=> ?_,fun i j b d d' t t' hi hj h1 h2=>.inl ?_⟩,fun i hi=> ?_,hgl,hg⟩
 ·rw [hget] at h;obtain ⟨e,vs,h1,rfl⟩:=A3c h;have h3:=hl _ h1;refine ⟨i,0,vs.length,_,hat _ h1,h3,⟨by simp,rfl,(fun h=>by cases h),(hp _ h1).1,?_⟩,fun _=>rfl⟩;simp only [List.drop_zero,List.take_of_length_le (Nat.le_refl _)];exact VRels.plain φ vs (hp _ h1).2
 ·rw [hget] at hi;cases hb:A3K l i with
  |none=>exact absurd hb hi
  |some o=>
   obtain ⟨e,vs,h3,rfl⟩:=A3c hb;rw [hat _ h3] at h1;cases h1;exact (Array.getElem?_eq_some_iff.1 (hl _ h3)).1
 ·rw [hget];cases hb:A3K l i with
  |none=>rfl
  |some o=>
   obtain ⟨e,vs,h3,rfl⟩:=A3c hb;have:=hφ i hi;rw [hat _ h3] at this;cases this
theorem A5t {P:Program} {gl:Glb} {F:FuncId->Option XFun} {O:FuncId->List Value->Option Value} (hE:Env P gl F O) {φ:Loc} {nx:Nat} (l:A63) (hgl:∀i,gl.is i=true->∃t,φ i=some (i,0,t)) (hφ:∀i,nx<=i->φ i=none)
  (hat:∀x∈l,φ x.1=some (x.1,0,x.2.2.length)) (hp:∀x∈l,ones x.2.2=true/\plainV.plainVs x.2.2=true) {n:Nat} {f:FuncId}
  (h:B2n F O n f [] (A3K l) .nil nx isTrue=true) {w:World} (hl:laidG l w) (hg:gl.good w w.heap.size):Calls P f #[] w fun E w'=>E=.returned (.bool true)/\Below w.heap.size w w':=by
 obtain ⟨e,B',h',nx',h1,h2⟩:=A9A F O n _ _ _ _ _ _ h;obtain ⟨_,hc⟩:=A2L hE n f [] _ _ _ h1;refine Calls.mono (hc w w.heap.size φ w [] (A7w l hgl hφ hat hp hl hg) (fun i h1 _=>hφ i h1) .nil) ?_;rintro E w' ⟨ψ,hE',hi,hs⟩;cases e with
 |panic v=>cases h2
 |ret v=>
  obtain ⟨v',rfl,hv⟩:=hE';unfold isTrue at h2;cases v<;>simp only at h2<;>first|(cases h2;done)|skip
  subst h2;cases hv;exact ⟨rfl,hi.rel.below rfl⟩
end
end Go.Xe
namespace Go.Xe.YtlgknghehgmodaaGreatDoor
section
open Go Go.Xe Go.Proofs
def opsL:A63:=[(0,229,[.string ⟨#[]⟩,.string ⟨#[43]⟩,.string ⟨#[45]⟩,.string ⟨#[42]⟩,.string ⟨#[47]⟩,.string ⟨#[37]⟩,.string ⟨#[61,61]⟩,.string ⟨#[60]⟩,.string ⟨#[60,61]⟩,.string ⟨#[58,58]⟩,.string ⟨#[97,110,100]⟩,.string ⟨#[111,114]⟩,.string ⟨#[110,111,116]⟩,.string ⟨#[110,101,103]⟩])]
def glb:Glb:=⟨fun i=>Nat.blt i 2,B8c Tryz.prog opsL⟩
def J9:Glb:=⟨fun _=>false,B8c Tryz.prog opsL⟩
abbrev W(f:Func):=(x:XFun)->A8 Tryz.prog J9 f=some x->XFun
abbrev V0{α:Type}(c:α):=(x:α)->c=x->α
abbrev V1{α:Type}(c:XCode->α):=(x:XCode->α)->(∀a,c a=x a)->XCode->α
abbrev V2{α:Type}(c:XCode->XCode->α):=(x:XCode->XCode->α)->(∀a b,c a b=x a b)->XCode->XCode->α
abbrev V3{α:Type}(c:XCode->XCode->XCode->α):=(x:XCode->XCode->XCode->α)->(∀a b d,c a b d=x a b d)->XCode->XCode->XCode->α
abbrev V4{α:Type}(c:XCode->XCode->XCode->XCode->α):=(x:XCode->XCode->XCode->XCode->α)->(∀a b d e,c a b d e=x a b d e)->XCode->XCode->XCode->XCode->α
def gT:XCode->List Nat->XCode
|x,[]=>x
|.seq x y,n::p=>if n=0 then gT x p else gT y p
|.cond _ x y,n::p=>if n=0 then gT x p else gT y p
|.block _ x,_::p=>gT x p
|.loop x,_::p=>gT x p
|x,_=>x
def pT:XCode->List Nat->XCode->XCode
|_,[],a=>a
|.seq x y,n::p,a=>if n=0 then .seq (pT x p a) y else .seq x (pT y p a)
|.cond c x y,n::p,a=>if n=0 then .cond c (pT x p a) y else .cond c x (pT y p a)
|.block i x,_::p,a=>.block i (pT x p a)
|.loop x,_::p,a=>.loop (pT x p a)
|x,_,_=>x
def qZ (a:Nat):Operand:=.tmp a
def qa (z:Int):Operand:=.const (.int .i64 z)
def qA (d:Nat)(p:XOp):XOper:=⟨some d,p,none⟩
def qB (p:XOp):XOper:=⟨none,p,none⟩
def qC (x:XOper)(k:Nat)(b:Bool):XOper:=⟨x.dst,x.op,some (k,b)⟩
def qD (d a:Nat):XOper:=⟨some d,.move (.tmp a),none⟩
def qE (d:Nat)(z:Int):XOper:=⟨some d,.move (.const (.int .i64 z)),none⟩
def qF (d k a:Nat):XOper:=⟨some d,.addr k (.tmp a),none⟩
def qG (d a:Nat):XOper:=⟨some d,.load1 (.tmp a),none⟩
def qH (d k a:Nat):XOper:=⟨some d,.loadN k (.tmp a),none⟩
def qI (d a:Nat):XOper:=⟨some d,.lenSlice (.tmp a),none⟩
def qJ (d k a b:Nat):XOper:=⟨some d,.indexAddr k (.tmp a) (.tmp b),none⟩
def qK (d:Nat)(p:BinOp)(a b:Nat):XOper:=⟨some d,.bin p (.tmp a) (.tmp b),none⟩
def qL (d:Nat)(p:BinOp)(a:Nat)(z:Int):XOper:=⟨some d,.bin p (.tmp a) (.const (.int .i64 z)),none⟩
def qM (k a b:Nat):XOper:=⟨none,.store k (.tmp a) (.tmp b),none⟩
def qN (d a:Nat):XOper:=⟨some d,.un .not (.tmp a),none⟩
def qO (d f:Nat)(l:List Operand):XOper:=⟨some d,.call f l,none⟩
def qQ (d k:Nat)(l:List Value):XOper:=⟨some d,.alloc k l,none⟩
def qR (d a b:Nat):XOper:=⟨some d,.pick (.tmp a) (.tmp b) (.const (.bool false)),none⟩
def qS (d k a:Nat):XOper:=⟨some d,.box k (.tmp a),none⟩
def qT :List Value:=[(.int .i64 0),(.int .i64 0),(.int .i64 0),(.int .i64 0),(.int .i64 0),(.slice none 0 0),(.slice none 0 0),(.slice none 0 0)]
def qU :List Value:=[(.int .i64 0),(.int .i64 0),(.int .i64 0),(.int .i64 0),(.int .i64 0),(.int .i64 0),(.int .i64 0),(.slice none 0 0),(.slice none 0 0),(.slice none 0 0)]
def qV :List Value:=[(.slice none 0 0),(.slice none 0 0),(.int .i64 0),(.int .i64 0),(.int .i64 0),(.int .i64 0),(.int .i64 0),(.int .i64 0),(.int .i64 0),(.slice none 0 0),(.slice none 0 0),(.slice none 0 0),(.int .i64 0)]
def qW :List Value:=[(.int .i64 0)]
def qX :List Value:=[(.int .i64 0),(.slice none 0 0)]
def qY :List Value:=[(.int .i64 0),(.int .i64 0),(.slice none 0 0)]
def qb (l:List XOper):XCode:=.region l
def qc (l:List XOper)(p:List (Nat×Nat)):XCode:=.regionD l p
def qd (x y:XCode):XCode:=.seq x y
def qe (a:Nat)(x y:XCode):XCode:=.cond (.tmp a) x y
def T (n:Nat):Operand:=.tmp n
def x1004:XFun:=(by exact fun x _=>x:W Tryz.f4) _ (by conv=>lhs;cbv)
def x1009:XFun:=(by exact fun x _=>x:W Tryz.f9) _ (by conv=>lhs;cbv)
def x1010:XFun:=(by exact fun x _=>x:W Tryz.f10) _ (by conv=>lhs;cbv)
def x1011:XFun:=(by exact fun x _=>x:W Tryz.f11) _ (by conv=>lhs;cbv)
def x1012:XFun:=(by exact fun x _=>x:W Tryz.f12) _ (by conv=>lhs;cbv)
def x1013:XFun:=(by exact fun x _=>x:W Tryz.f13) _ (by conv=>lhs;cbv)
def x1015:XFun:=(by exact fun x _=>x:W Tryz.f15) _ (by conv=>lhs;cbv)
def x6:XFun:=(by exact fun x _=>x:W Tryz.f16) _ (by conv=>lhs;cbv)
def x1017:XFun:=(by exact fun x _=>x:W Tryz.f17) _ (by conv=>lhs;cbv)
def x1018:XFun:=(by exact fun x _=>x:W Tryz.f18) _ (by conv=>lhs;cbv)
def x1019:XFun:=(by exact fun x _=>x:W Tryz.f19) _ (by conv=>lhs;cbv)
def x1020:XFun:=(by exact fun x _=>x:W Tryz.f20) _ (by conv=>lhs;cbv)
def x1021:XFun:=(by exact fun x _=>x:W Tryz.f21) _ (by conv=>lhs;cbv)
def x1022:XFun:=(by exact fun x _=>x:W Tryz.f22) _ (by conv=>lhs;cbv)
def x9:XFun:=(by exact fun x _=>x:W Tryz.f26) _ (by conv=>lhs;cbv)
def x24:XFun:=(by exact fun x _=>x:W Tryz.f29) _ (by conv=>lhs;cbv)
def x1031:XFun:=(by exact fun x _=>x:W Tryz.f31) _ (by conv=>lhs;cbv)
def x66:XFun:=(by exact fun x _=>x:W Tryz.f32) _ (by conv=>lhs;cbv)
def x1033:XFun:=(by exact fun x _=>x:W Tryz.f33) _ (by conv=>lhs;cbv)
def x1034:XFun:=(by exact fun x _=>x:W Tryz.f34) _ (by conv=>lhs;cbv)
def x1035:XFun:=(by exact fun x _=>x:W Tryz.f35) _ (by conv=>lhs;cbv)
def x19:XFun:=(by exact fun x _=>x:W Tryz.f36) _ (by conv=>lhs;cbv)
def x20:XFun:=(by exact fun x _=>x:W Tryz.f37) _ (by conv=>lhs;cbv)
def x1038:XFun:=(by exact fun x _=>x:W Tryz.f38) _ (by conv=>lhs;cbv)
def x16:XFun:=(by exact fun x _=>x:W Tryz.f39) _ (by conv=>lhs;cbv)
def x1040:XFun:=(by exact fun x _=>x:W Tryz.f40) _ (by conv=>lhs;cbv)
def x1041:XFun:=(by exact fun x _=>x:W Tryz.f41) _ (by conv=>lhs;cbv)
def x1042:XFun:=(by exact fun x _=>x:W Tryz.f42) _ (by conv=>lhs;cbv)
def x1043:XFun:=(by exact fun x _=>x:W Tryz.f43) _ (by conv=>lhs;cbv)
def x1044:XFun:=(by exact fun x _=>x:W Tryz.f44) _ (by conv=>lhs;cbv)
def x65:XFun:=(by exact fun x _=>x:W Tryz.f45) _ (by conv=>lhs;cbv)
def x23:XFun:=(by exact fun x _=>x:W Tryz.f46) _ (by conv=>lhs;cbv)
def x1047:XFun:=(by exact fun x _=>x:W Tryz.f47) _ (by conv=>lhs;cbv)
def x1048:XFun:=(by exact fun x _=>x:W Tryz.f48) _ (by conv=>lhs;cbv)
def x1049:XFun:=(by exact fun x _=>x:W Tryz.f49) _ (by conv=>lhs;cbv)
def x1050:XFun:=(by exact fun x _=>x:W Tryz.f50) _ (by conv=>lhs;cbv)
def x1051:XFun:=(by exact fun x _=>x:W Tryz.f51) _ (by conv=>lhs;cbv)
def x10:XFun:=(by exact fun x _=>x:W Tryz.f52) _ (by conv=>lhs;cbv)
def x1053:XFun:=(by exact fun x _=>x:W Tryz.f53) _ (by conv=>lhs;cbv)
def x1054:XFun:=(by exact fun x _=>x:W Tryz.f54) _ (by conv=>lhs;cbv)
def x1055:XFun:=(by exact fun x _=>x:W Tryz.f55) _ (by conv=>lhs;cbv)
def x1056:XFun:=(by exact fun x _=>x:W Tryz.f56) _ (by conv=>lhs;cbv)
def x1057:XFun:=(by exact fun x _=>x:W Tryz.f57) _ (by conv=>lhs;cbv)
def x28:XFun:=(by exact fun x _=>x:W Tryz.f62) _ (by conv=>lhs;cbv)
def x29:XFun:=(by exact fun x _=>x:W Tryz.f63) _ (by conv=>lhs;cbv)
def x35:XFun:=(by exact fun x _=>x:W Tryz.f64) _ (by conv=>lhs;cbv)
def x37:XFun:=(by exact fun x _=>x:W Tryz.f66) _ (by conv=>lhs;cbv)
def x21:XFun:=(by exact fun x _=>x:W Tryz.f68) _ (by conv=>lhs;cbv)
def x7:XFun:=(by exact fun x _=>x:W Tryz.f69) _ (by conv=>lhs;cbv)
def x111:XFun:=(by exact fun x _=>x:W Tryz.f72) _ (by conv=>lhs;cbv)
def x1073:XFun:=(by exact fun x _=>x:W Tryz.f73) _ (by conv=>lhs;cbv)
def x41:XFun:=(by exact fun x _=>x:W Tryz.f74) _ (by conv=>lhs;cbv)
def x44:XFun:=(by exact fun x _=>x:W Tryz.f77) _ (by conv=>lhs;cbv)
def x45:XFun:=(by exact fun x _=>x:W Tryz.f78) _ (by conv=>lhs;cbv)
def x46:XFun:=(by exact fun x _=>x:W Tryz.f79) _ (by conv=>lhs;cbv)
def x1080:XFun:=(by exact fun x _=>x:W Tryz.f80) _ (by conv=>lhs;cbv)
def x67:XFun:=(by exact fun x _=>x:W Tryz.f81) _ (by conv=>lhs;cbv)
def x1082:XFun:=(by exact fun x _=>x:W Tryz.f82) _ (by conv=>lhs;cbv)
def x1083:XFun:=(by exact fun x _=>x:W Tryz.f83) _ (by conv=>lhs;cbv)
def x1084:XFun:=(by exact fun x _=>x:W Tryz.f84) _ (by conv=>lhs;cbv)
def x109:XFun:=(by exact fun x _=>x:W Tryz.f85) _ (by conv=>lhs;cbv)
def x110:XFun:=(by exact fun x _=>x:W Tryz.f86) _ (by conv=>lhs;cbv)
def x47:XFun:=(by exact fun x _=>x:W Tryz.f87) _ (by conv=>lhs;cbv)
def x1088:XFun:=(by exact fun x _=>x:W Tryz.f88) _ (by conv=>lhs;cbv)
def x1089:XFun:=(by exact fun x _=>x:W Tryz.f89) _ (by conv=>lhs;cbv)
def x1090:XFun:=(by exact fun x _=>x:W Tryz.f90) _ (by conv=>lhs;cbv)
def x30:XFun:=(by exact fun x _=>x:W Tryz.f91) _ (by conv=>lhs;cbv)
def x31:XFun:=(by exact fun x _=>x:W Tryz.f92) _ (by conv=>lhs;cbv)
def x1093:XFun:=(by exact fun x _=>x:W Tryz.f93) _ (by conv=>lhs;cbv)
def x1094:XFun:=(by exact fun x _=>x:W Tryz.f94) _ (by conv=>lhs;cbv)
def x1095:XFun:=(by exact fun x _=>x:W Tryz.f95) _ (by conv=>lhs;cbv)
def x56:XFun:=(by exact fun x _=>x:W Tryz.f97) _ (by conv=>lhs;cbv)
def x57:XFun:=(by exact fun x _=>x:V0 (⟨195,[.tmp 8],.seq (qb [qS 5 28 1,qA 8 (.move (.const (.bool false)))]) (qd (.seq (qc [qD 16 3,qL 17 .lss 16 1,qD 18 17,qC (qD 19 0) 18 false,qC (qH 20 8 5) 18 false,qC (qO 21 121 [qZ 19,qZ 20]) 18 false,qC (qF 22 7 5) 18 false,qC (qG 23 22) 18 false,qC (qI 24 23) 18 false,qC (qK 25 .neq 21 24) 18 false,qA 26 (.pick (qZ 18) (.const (.bool true)) (qZ 25))] [(5,7)]) (qe 26 (qd (qb [qA 8 (.move (.const (.bool false)))]) .ret) .skip)) (qd (qb [qD 27 2,qD 9 27,qE 10 0,qE 11 0]) (qd (.seq (qb [qF 28 0 5,qG 29 28]) (.block 0 (qd (qb [qL 31 .eql 29 1,qD 30 31]) (qe 30 (qd (qb [qF 32 3 5,qH 33 3 32,qO 34 122 [qZ 33],qD 8 34]) .ret) (qd (qb [qL 36 .eql 29 2,qD 35 36]) (qe 35 (qd (qc [qF 37 1 5,qG 38 37,qL 39 .geq 38 0,qD 40 39,qC (qF 41 1 5) 40 true,qC (qG 42 41) 40 true,qC (qD 43 0) 40 true,qC (qA 44 (.nilCheck (qZ 43))) 40 true,qC (qF 45 13 44) 40 true,qC (qG 46 45) 40 true,qC (qK 47 .lss 42 46) 40 true,qR 48 40 47,qD 49 48,qC (qD 50 2) 49 true,qC (qF 51 1 5) 49 true,qC (qG 52 51) 49 true,qC (qJ 53 1 50 52) 49 true,qC (qG 54 53) 49 true,qR 55 49 54,qD 8 55] []) .ret) (qd (qb [qL 57 .eql 29 7,qD 56 57]) (qe 56 (qd (qc [qF 58 1 5,qG 59 58,qF 60 2 5,qG 61 60,qD 10 59,qD 11 61] []) (qd (qb [qD 62 11,qL 63 .lss 62 1,qD 64 63,qC (qD 65 11) 64 false,qC (qL 66 .gtr 65 4) 64 false,qA 67 (.pick (qZ 64) (.const (.bool true)) (qZ 66))]) (qe 67 (qd (qb [qA 8 (.move (.const (.bool false)))]) .ret) .skip))) (qd (qb [qL 69 .eql 29 9,qD 68 69]) (qe 68 (qb [qF 70 1 5,qG 71 70,qD 10 71,qE 11 2]) (qd (qb [qL 73 .eql 29 11,qD 72 73]) (qe 72 (qd (qc [qF 74 6 5,qG 75 74,qI 76 75,qL 77 .neq 76 2,qD 78 77,qC (qF 79 6 5) 78 false,qC (qG 80 79) 78 false,qC (qA 81 (.indexAddr 1 (qZ 80) (qa 0))) 78 false,qC (qG 82 81) 78 false,qC (qL 83 .lss 82 0) 78 false,qA 84 (.pick (qZ 78) (.const (.bool true)) (qZ 83)),qD 85 84,qC (qF 86 6 5) 85 false,qC (qG 87 86) 85 false,qC (qA 88 (.indexAddr 1 (qZ 87) (qa 0))) 85 false,qC (qG 89 88) 85 false,qC (qF 90 6 5) 85 false,qC (qG 91 90) 85 false,qC (qA 92 (.indexAddr 1 (qZ 91) (qa 1))) 85 false,qC (qG 93 92) 85 false,qC (qK 94 .gtr 89 93) 85 false,qA 95 (.pick (qZ 85) (.const (.bool true)) (qZ 94)),qD 96 95,qC (qF 97 6 5) 96 false,qC (qG 98 97) 96 false,qC (qA 99 (.indexAddr 1 (qZ 98) (qa 1))) 96 false,qC (qG 100 99) 96 false,qC (qL 101 .lss 100 1) 96 false,qA 102 (.pick (qZ 96) (.const (.bool true)) (qZ 101)),qD 103 102,qC (qF 104 6 5) 103 false,qC (qG 105 104) 103 false,qC (qA 106 (.indexAddr 1 (qZ 105) (qa 1))) 103 false,qC (qG 107 106) 103 false,qC (qL 108 .gtr 107 1000) 103 false,qA 109 (.pick (qZ 103) (.const (.bool true)) (qZ 108))] []) (qe 109 (qd (qb [qA 8 (.move (.const (.bool false)))]) .ret) .skip)) (qd (qb [qL 111 .eql 29 12,qD 110 111]) (qe 110 (qd (qc [qF 112 6 5,qG 113 112,qI 114 113,qF 115 7 5,qG 116 115,qI 117 116,qK 118 .neq 114 117,qD 119 118,qC (qF 120 1 5) 119 false,qC (qG 121 120) 119 false,qC (qL 122 .lss 121 0) 119 false,qA 123 (.pick (qZ 119) (.const (.bool true)) (qZ 122)),qD 124 123,qC (qF 125 1 5) 124 false,qC (qG 126 125) 124 false,qC (qD 127 0) 124 false,qC (qA 128 (.nilCheck (qZ 127))) 124 false,qC (qF 129 0 128) 124 false,qC (qF 130 12 129) 124 false,qC (qG 131 130) 124 false,qC (qK 132 .geq 126 131) 124 false,qA 133 (.pick (qZ 124) (.const (.bool true)) (qZ 132)),qD 134 133,qC (qF 135 6 5) 134 false,qC (qG 136 135) 134 false,qC (qO 137 123 [qZ 136,(.func 124)]) 134 false,qA 138 (.pick (qZ 134) (.const (.bool true)) (qZ 137))] []) (qe 138 (qd (qb [qA 8 (.move (.const (.bool false)))]) .ret) .skip)) .skip)))))))))))))) (qd (.seq (qb [qD 139 11,qL 140 .gtr 139 0]) (qe 140 (qd (.seq (qb [qD 141 10,qL 142 .lss 141 0,qD 143 142,qC (qD 144 10) 143 false,qC (qD 145 0) 143 false,qC (qA 146 (.nilCheck (qZ 145))) 143 false,qC (qF 147 13 146) 143 false,qC (qG 148 147) 143 false,qC (qD 149 11) 143 false,qC (qK 150 .sub 148 149) 143 false,qC (qK 151 .gtr 144 150) 143 false,qA 152 (.pick (qZ 143) (.const (.bool true)) (qZ 151))]) (qe 152 (qd (qb [qA 8 (.move (.const (.bool false)))]) .ret) .skip)) (qd (qb [qD 153 2,qO 154 125 [qZ 153],qD 9 154]) (qd (qb [qD 155 11,qE 156 0]) (.block 1 (.loop (qd (qb [qK 157 .lss 156 155]) (qd (qe 157 .skip (.exit 1)) (qd (.block 2 (qd (qb [qD 158 156,qD 12 158]) (qd (.seq (qb [qD 159 2,qD 160 10,qD 161 12,qK 162 .add 160 161,qJ 163 1 159 162,qG 164 163]) (qe 164 (qd (qb [qA 8 (.move (.const (.bool false)))]) .ret) .skip)) (qb [qD 165 9,qD 166 10,qD 167 12,qK 168 .add 166 167,qJ 169 1 165 168,qB (.store 1 (qZ 169) (.const (.bool true)))])))) (qb [qL 170 .add 156 1,qD 156 170]))))))))) .skip)) (qd (.seq (qb [qF 171 7 5,qG 172 171,qI 173 172,qE 174 0]) (.block 3 (.loop (qd (qb [qK 175 .lss 174 173]) (qd (qe 175 .skip (.exit 3)) (qd (.block 4 (qd (qb [qD 176 174,qJ 177 8 172 174,qH 178 8 177,qQ 14 28 qT,qD 13 176,qM 8 14 178]) (qd (qb [qD 179 2,qD 15 179]) (qd (.seq (qb [qD 180 13,qF 181 7 5,qG 182 181,qI 183 182,qL 184 .sub 183 1,qK 185 .eql 180 184]) (qe 185 (qb [qD 186 9,qD 15 186]) .skip)) (qd (qb [qD 187 0,qH 188 8 14,qD 189 15,qD 190 3,qL 191 .sub 190 1,qO 192 98 [qZ 187,qZ 188,qZ 189,qZ 191],qN 193 192]) (qe 193 (qd (qb [qA 8 (.move (.const (.bool false)))]) .ret) .skip)))))) (qb [qL 194 .add 174 1,qD 174 194]))))))) (qd (qb [qA 8 (.move (.const (.bool true)))]) .ret))))))⟩:XFun)) _ (by conv=>lhs;cbv)
def x25:XFun:=(by exact fun x _=>x:W Tryz.f100) _ (by conv=>lhs;cbv)
def x1111:XFun:=(by exact fun x _=>x:W Tryz.f111) _ (by conv=>lhs;cbv)
def x106:XFun:=(by exact fun x _=>x:W Tryz.f112) _ (by conv=>lhs;cbv)
def x107:XFun:=(by exact fun x _=>x:W Tryz.f113) _ (by conv=>lhs;cbv)
def x108:XFun:=(by exact fun x _=>x:W Tryz.f114) _ (by conv=>lhs;cbv)
def x159:XFun:=(by exact fun x _=>x:W Tryz.f115) _ (by conv=>lhs;cbv)
def x58:XFun:=(by exact fun x _=>x:W Tryz.f116) _ (by conv=>lhs;cbv)
def x59:XFun:=(by exact fun x _=>x:W Tryz.f117) _ (by conv=>lhs;cbv)
def x1118:XFun:=(by exact fun x _=>x:W Tryz.f118) _ (by conv=>lhs;cbv)
def x95:XFun:=(by exact fun x _=>x:W Tryz.f119) _ (by conv=>lhs;cbv)
def x96:XFun:=(by exact fun x _=>x:W Tryz.f120) _ (by conv=>lhs;cbv)
def x97:XFun:=(by exact fun x _=>x:W Tryz.f121) _ (by conv=>lhs;cbv)
def x98:XFun:=(by exact fun x _=>x:W Tryz.f122) _ (by conv=>lhs;cbv)
def x99:XFun:=(by exact fun x _=>x:W Tryz.f123) _ (by conv=>lhs;cbv)
def x100:XFun:=(by exact fun x _=>x:W Tryz.f124) _ (by conv=>lhs;cbv)
def x101:XFun:=(by exact fun x _=>x:W Tryz.f125) _ (by conv=>lhs;cbv)
def x158:XFun:=(by exact fun x _=>x:W Tryz.f162) _ (by conv=>lhs;cbv)
def x182:XFun:=(by exact fun x _=>x:W Tryz.f163) _ (by conv=>lhs;cbv)
def x102:XFun:=(by exact fun x _=>x:V0 (⟨197,[.tmp 4],.seq (qb [qS 3 28 1,qA 4 (.move (.const (.bool false)))]) (qd (qb [qF 6 7 3,qG 7 6,qI 8 7,qD 5 8]) (qd (.seq (qb [qF 9 0 3,qG 10 9]) (.block 0 (qd (qb [qL 12 .eql 10 1,qD 11 12]) (qe 11 (qd (qb [qD 13 5,qL 14 .eql 13 0,qD 15 14,qC (qF 16 3 3) 15 true,qC (qH 17 3 16) 15 true,qC (qO 18 204 [qZ 17]) 15 true,qR 19 15 18,qD 4 19]) .ret) (qd (qb [qL 21 .eql 10 2,qD 20 21]) (qe 20 (qd (qc [qD 22 5,qL 23 .eql 22 0,qD 24 23,qC (qF 25 1 3) 24 true,qC (qG 26 25) 24 true,qC (qL 27 .geq 26 0) 24 true,qR 28 24 27,qD 29 28,qC (qF 30 1 3) 29 true,qC (qG 31 30) 29 true,qC (qD 32 0) 29 true,qC (qA 33 (.nilCheck (qZ 32))) 29 true,qC (qF 34 13 33) 29 true,qC (qG 35 34) 29 true,qC (qK 36 .lss 31 35) 29 true,qR 37 29 36,qD 38 37,qC (qD 39 0) 38 true,qC (qA 40 (.nilCheck (qZ 39))) 38 true,qC (qF 41 14 40) 38 true,qC (qG 42 41) 38 true,qC (qF 43 1 3) 38 true,qC (qG 44 43) 38 true,qC (qJ 45 1 42 44) 38 true,qC (qG 46 45) 38 true,qR 47 38 46,qD 4 47] []) .ret) (qd (qb [qL 49 .eql 10 3,qD 48 49]) (qe 48 (qd (qc [qF 50 1 3,qG 51 50,qL 52 .geq 51 0,qD 53 52,qC (qF 54 1 3) 53 true,qC (qG 55 54) 53 true,qC (qD 56 0) 53 true,qC (qA 57 (.nilCheck (qZ 56))) 53 true,qC (qF 58 0 57) 53 true,qC (qF 59 1 58) 53 true,qC (qG 60 59) 53 true,qC (qI 61 60) 53 true,qC (qK 62 .lss 55 61) 53 true,qR 63 53 62,qD 64 63,qC (qD 65 5) 64 true,qC (qD 66 0) 64 true,qC (qA 67 (.nilCheck (qZ 66))) 64 true,qC (qF 68 0 67) 64 true,qC (qF 69 1 68) 64 true,qC (qG 70 69) 64 true,qC (qF 71 1 3) 64 true,qC (qG 72 71) 64 true,qC (qJ 73 10 70 72) 64 true,qC (qF 74 0 73) 64 true,qC (qG 75 74) 64 true,qC (qK 76 .eql 65 75) 64 true,qR 77 64 76,qD 4 77] []) .ret) (qd (qb [qL 79 .eql 10 4,qD 78 79]) (qe 78 (qd (qb [qD 80 5,qL 81 .geq 80 2,qD 82 81,qC (qD 83 5) 82 true,qC (qL 84 .leq 83 4) 82 true,qR 85 82 84,qD 4 85]) .ret) (qd (qb [qL 87 .eql 10 5,qD 86 87]) (qe 86 (qd (qb [qD 88 5,qL 89 .leq 88 32,qD 4 89]) .ret) (qd (qb [qL 91 .eql 10 6,qD 90 91]) (qe 90 (qd (qb [qF 92 1 3,qG 93 92,qL 94 .geq 93 1,qD 95 94,qC (qF 96 1 3) 95 true,qC (qG 97 96) 95 true,qC (qL 98 .leq 97 13) 95 true,qR 99 95 98,qD 100 99,qC (qD 101 5) 100 true,qC (qL 102 .eql 101 1) 100 true,qC (qF 103 1 3) 100 true,qC (qG 104 103) 100 true,qC (qL 105 .eql 104 12) 100 true,qC (qD 106 105) 100 true,qC (qF 107 1 3) 106 false,qC (qG 108 107) 106 false,qC (qL 109 .eql 108 13) 106 false,qC (qA 110 (.pick (qZ 106) (.const (.bool true)) (qZ 109))) 100 true,qC (qA 111 (.eq .bool false (qZ 102) (qZ 110))) 100 true,qR 112 100 111,qD 113 112,qC (qD 114 5) 113 true,qC (qL 115 .eql 114 1) 113 true,qC (qD 116 115) 113 true,qC (qD 117 5) 116 false,qC (qL 118 .eql 117 2) 116 false,qC (qA 119 (.pick (qZ 116) (.const (.bool true)) (qZ 118))) 113 true,qR 120 113 119,qD 4 120]) .ret) (qd (qb [qL 122 .eql 10 7,qD 121 122]) (qe 121 (qd (qb [qD 123 5,qL 124 .eql 123 2,qD 125 124,qC (qF 126 2 3) 125 true,qC (qG 127 126) 125 true,qC (qL 128 .geq 127 1) 125 true,qR 129 125 128,qD 130 129,qC (qF 131 2 3) 130 true,qC (qG 132 131) 130 true,qC (qL 133 .leq 132 4) 130 true,qR 134 130 133,qD 135 134,qC (qD 136 0) 135 true,qC (qF 137 1 3) 135 true,qC (qG 138 137) 135 true,qC (qF 139 2 3) 135 true,qC (qG 140 139) 135 true,qC (qO 141 205 [qZ 136,qZ 138,qZ 140]) 135 true,qR 142 135 141,qD 4 142]) .ret) (qd (qb [qL 144 .eql 10 8,qD 143 144]) (qe 143 (qd (qb [qD 145 5,qL 146 .eql 145 3,qD 4 146]) .ret) (qd (qb [qL 148 .eql 10 9,qD 147 148]) (qe 147 (qd (qb [qD 149 5,qL 150 .eql 149 3,qD 151 150,qC (qD 152 0) 151 true,qC (qF 153 1 3) 151 true,qC (qG 154 153) 151 true,qC (qO 155 205 [qZ 152,qZ 154,qa 2]) 151 true,qR 156 151 155,qD 4 156]) .ret) (qd (qb [qL 158 .eql 10 10,qD 157 158]) (qe 157 (qd (qb [qD 159 5,qL 160 .eql 159 2,qD 4 160]) .ret) (qd (qb [qL 162 .eql 10 11,qD 161 162]) (qe 161 (qd (qb [qD 163 5,qL 164 .eql 163 1,qD 165 164,qC (qF 166 6 3) 165 true,qC (qG 167 166) 165 true,qC (qO 168 206 [qZ 167]) 165 true,qR 169 165 168,qD 4 169]) .ret) (qd (qb [qL 171 .eql 10 12,qD 170 171]) (qe 170 (qd (qc [qD 172 5,qF 173 6 3,qG 174 173,qI 175 174,qK 176 .eql 172 175,qD 177 176,qC (qF 178 6 3) 177 true,qC (qG 179 178) 177 true,qC (qO 180 207 [qZ 179]) 177 true,qR 181 177 180,qD 182 181,qC (qF 183 1 3) 182 true,qC (qG 184 183) 182 true,qC (qL 185 .geq 184 0) 182 true,qR 186 182 185,qD 187 186,qC (qF 188 1 3) 187 true,qC (qG 189 188) 187 true,qC (qD 190 0) 187 true,qC (qA 191 (.nilCheck (qZ 190))) 187 true,qC (qF 192 0 191) 187 true,qC (qF 193 12 192) 187 true,qC (qG 194 193) 187 true,qC (qK 195 .lss 189 194) 187 true,qR 196 187 195,qD 4 196] []) .ret) .skip)))))))))))))))))))))))))) (qd (qb [qA 4 (.move (.const (.bool false)))]) .ret)))⟩:XFun)) _ (by conv=>lhs;cbv)
def x149:XFun:=(by exact fun x _=>x:W Tryz.f165) _ (by conv=>lhs;cbv)
def x150:XFun:=(by exact fun x _=>x:W Tryz.f166) _ (by conv=>lhs;cbv)
def x151:XFun:=(by exact fun x _=>x:W Tryz.f167) _ (by conv=>lhs;cbv)
def x61:XFun:=(by exact fun x _=>x:W Tryz.f168) _ (by conv=>lhs;cbv)
def x152:XFun:=(by exact fun x _=>x:W Tryz.f169) _ (by conv=>lhs;cbv)
def x165:XFun:=(by exact fun x _=>x:W Tryz.f201) _ (by conv=>lhs;cbv)
def x180:XFun:=(by exact fun x _=>x:W Tryz.f202) _ (by conv=>lhs;cbv)
def x181:XFun:=(by exact fun x _=>x:W Tryz.f203) _ (by conv=>lhs;cbv)
def x153:XFun:=(by exact fun x _=>x:W Tryz.f204) _ (by conv=>lhs;cbv)
def x154:XFun:=(by exact fun x _=>x:W Tryz.f205) _ (by conv=>lhs;cbv)
def x155:XFun:=(by exact fun x _=>x:W Tryz.f206) _ (by conv=>lhs;cbv)
def x156:XFun:=(by exact fun x _=>x:W Tryz.f207) _ (by conv=>lhs;cbv)
def x60:XFun:=(by exact fun x _=>x:W Tryz.f208) _ (by conv=>lhs;cbv)
def x178:XFun:=(by exact fun x _=>x:W Tryz.f209) _ (by conv=>lhs;cbv)
def x63:XFun:=(by exact fun x _=>x:W Tryz.f223) _ (by conv=>lhs;cbv)
def x179:XFun:=(by exact fun x _=>x:W Tryz.f224) _ (by conv=>lhs;cbv)
def x103:XFun:=(by exact fun x _=>x:W Tryz.f226) _ (by conv=>lhs;cbv)
def x104:XFun:=(by exact fun x _=>x:W Tryz.f227) _ (by conv=>lhs;cbv)
def x105:XFun:=(by exact fun x _=>x:W Tryz.f234) _ (by conv=>lhs;cbv)
def x62:XFun:=(by exact fun x _=>x:W Tryz.f235) _ (by conv=>lhs;cbv)
def x190:XFun:=(by exact fun x _=>x:W Tryz.f236) _ (by conv=>lhs;cbv)
def x157:XFun:=(by exact fun x _=>x:W Tryz.f237) _ (by conv=>lhs;cbv)
end
end Go.Xe.YtlgknghehgmodaaGreatDoor
