/-
  A part of the proof: it is imported by YtlgknghehgmodaaGreatDoorTop. Nothing here is a claim of its own.
-/
import Derived.Test.YtlgknghehgmodaaGreatDoorK1
import Derived.LoopN
import Derived.Below
import Derived.ChangeAgain
import Derived.Lib.IndexMore
import Derived.Test.YtlgknghehgmodaaGreatDoorChecked
import Derived.KernelRfl
import Derived.Deep.Slices
import Derived.ChangeArms
import Derived.DataReads
set_option linter.unusedVariables false
set_option linter.unusedSimpArgs false
set_option linter.unusedSectionVars false
section
namespace Go.Xe
open Go
theorem inList_iff:∀(l:List Nat) (k:Nat),inList k l=true↔k∈l
 |[],k=>by simp [inList]
 |x::r,k=>by
  simp only [inList]
  cases h:Nat.beq x k with
  |true=>rw [beqNat] at h;have:=of_decide_eq_true h;simp [this]
  |false=>
   rw [beqNat] at h;have:=of_decide_eq_false h
   simp only [inList_iff r k,List.mem_cons]
   constructor
   ·exact .inr
   ·rintro (h2|h2)
    ·exact absurd h2.symm this
    ·exact h2
theorem apart_spec:∀(l m:List Nat),apart l m=true→∀k∈l,k∉m
 |[],m,_,k,hk=>by cases hk
 |x::r,m,h,k,hk=>by
  simp only [apart] at h
  cases hi:inList x m with
  |true=>rw [hi] at h;cases h
  |false=>
   rw [hi] at h
   rcases List.mem_cons.1 hk with rfl|hk
   ·intro hm;rw [(inList_iff m k).2 hm] at hi;cases hi
   ·exact apart_spec r m h k hk
theorem sameVer_spec (s s':AS):∀(l:List Nat),sameVer s s' l=true→∀k∈l,∃o o',s.get k=some o∧s'.get k=some o'∧o.ver=o'.ver
 |[],_,k,hk=>by cases hk
 |x::r,h,k,hk=>by
  simp only [sameVer] at h
  split at h
  ·rename_i o o' h1 h2
   split at h
   ·rename_i hv
    rw [beqNat] at hv
    rcases List.mem_cons.1 hk with rfl|hk
    ·exact ⟨o,o',h1,h2,of_decide_eq_true hv⟩
    ·exact sameVer_spec s s' r h k hk
   ·cases h
  ·cases h
theorem pairsOk_spec (l:List Rec):∀(ps:List (Nat×Nat)),pairsOk l ps=true→∀i j,(i,j)∈ps→∃x y,l[i]? =some x∧l[j]? =some y∧pairOk x y=true
 |[],_,i,j,h=>by cases h
 |(a,b)::r,h,i,j,hm=>by
  simp only [pairsOk] at h
  split at h
  ·rename_i x y h1 h2
   split at h
   ·rename_i hp
    rcases List.mem_cons.1 hm with e|hm
    ·cases e;exact ⟨x,y,h1,h2,hp⟩
    ·exact pairsOk_spec l r h i j hm
   ·cases h
  ·cases h
theorem Hp.upd_other (g:Hp):∀(δ:List (Nat×Option AObj)) (k:Nat),(∀o,(k,o)∉δ)→Hp.upd g δ k=g k
 |[],_,_=>rfl
 |(j,o)::r,k,h=>by
  simp only [Hp.upd]
  rw [Hp.upd_other _ r k (fun o' hm=>h o' (by simp [hm])),Hp.set1_ne]
  rintro rfl
  exact h o (by simp)
theorem xprim_still {g:Hp} {nx:Nat} {ρ:Operand→Value} {xo:XOp} {p:PR} (hc:clsX xo=.pure∨clsX xo=.read) (h:xprim g nx ρ xo=some p):p.δ=[]:=by
 cases xo<;>simp only [xprim] at h<;>try (cases h;done)
 case bin=>exact pure1_delta h
 case un=>exact pure1_delta h
 case slice=>exact pure1_delta h
 case append=>rcases hc with hc|hc<;>cases hc
 case appendZ=>rcases hc with hc|hc<;>cases hc
 case store=>rcases hc with hc|hc<;>cases hc
 case copy=>rcases hc with hc|hc<;>cases hc
 case mapUpdate=>rcases hc with hc|hc<;>cases hc
 case alloc=>rcases hc with hc|hc<;>cases hc
 case box=>rcases hc with hc|hc<;>cases hc
 case buildSlice=>rcases hc with hc|hc<;>cases hc
 case strToBytes=>rcases hc with hc|hc<;>cases hc
 case mkMap=>rcases hc with hc|hc<;>cases hc
 case mkSlice=>rcases hc with hc|hc<;>cases hc
 all_goals (repeat' split at h)<;>first|(cases h;done)|(cases h;rfl)
theorem touch_none {g:Hp} {ρ:Operand→Value} {xo:XOp} (hc:clsX xo=.pure∨clsX xo=.alloc):touch g ρ xo=[]:=by
 cases xo<;>first|rfl|(rcases hc with hc|hc<;>cases hc;done)|skip
 rename_i k neg x y
 cases k<;>first|(rcases hc with hc|hc<;>cases hc;done)|skip
 all_goals (simp [touch,idsK])
section
variable {C:Callee} {xl:List XOper} {a:Act} {s:AS} {A:Nat→Act} {Z:Nat→AS} {V:Nat→Value} {R:Nat→Rec}
def Wt (xl:List XOper) (i t:Nat):Prop:=∃xo,xl[i]? =some xo∧xo.dst=some t
def Lk (ops:Array Oper) (i t:Nat):Prop:=∃o,ops[i]? =some o∧t∈o.looksAt ops
def Wh (R:Nat→Rec) (Z:Nat→AS) (i k:Nat):Prop:=((R i).call=true∧(Z (i+1)).get k≠(Z i).get k)∨((R i).call=false∧k∈(R i).wrote)
def Lh (R:Nat→Rec) (Z:Nat→AS) (i k:Nat):Prop:=((R i).call=true∧k<(Z i).next)∨((R i).call=false∧k∈(R i).touched)
theorem Trace.goes (t:Trace C xl a s A Z V R) (hC:CGoes C) {i:Nat} (hi:i<xl.length):Goes (Z i) (Z (i+1)):=by
 obtain ⟨hs,_⟩:=t.step i xl[i] (by simp [hi])
 generalize Z (i+1)=z at hs
 generalize V i=v at hs
 generalize R i=r at hs
 cases hs with
 |skip h=>exact Goes.refl _
 |call f l v s' hw hc h=>exact hC _ _ _ _ _ h
 |prim p hw hp h=>exact xprim_goes h
theorem Trace.upto (t:Trace C xl a s A Z V R) (hC:CGoes C) (hd:Dm s):∀i,i≤xl.length→Dm (Z i)
 |0,_=>by rw [t.s0];exact hd
 |i+1,h=>(t.goes hC (by omega) (t.upto hC hd i (by omega))).1
theorem Trace.next_le (t:Trace C xl a s A Z V R) (hC:CGoes C) (hd:Dm s) {i:Nat}:∀j,i≤j→j≤xl.length→(Z i).next≤(Z j).next
 |0,h,_=>by obtain rfl:i=0:=by omega
            exact Nat.le_refl _
 |j+1,h,hj=>by
  by_cases e:i=j+1
  ·subst e;exact Nat.le_refl _
  ·exact Nat.le_trans (t.next_le hC hd j (by omega) (by omega)) (t.goes hC (by omega) (t.upto hC hd j (by omega))).2.next
theorem Trace.frame (t:Trace C xl a s A Z V R) {i k:Nat} (hi:i<xl.length) (h:¬Wh R Z i k):(Z (i+1)).get k=(Z i).get k:=by
 obtain ⟨hs,_⟩:=t.step i xl[i] (by simp [hi])
 unfold Wh at h
 generalize Z (i+1)=z at hs h
 generalize V i=v at hs
 generalize R i=r at hs h
 cases hs with
 |skip _=>rfl
 |call f l v s' hw hc h'=>
  by_cases e:z.get k=(Z i).get k
  ·exact e
  ·exact absurd (.inl ⟨rfl,e⟩) h
 |prim p hw hp h'=>
  rw [AS.upd_get]
  refine Hp.upd_other _ _ _ fun o hm=>h (.inr ⟨rfl,?_⟩)
  exact List.mem_map.2 ⟨(k,o),hm,rfl⟩
theorem Trace.frameT (t:Trace C xl a s A Z V R) {i k:Nat} (hi:i<xl.length) (h:¬Wt xl i k):(A (i+1)).ev (.tmp k)=(A i).ev (.tmp k):=by
 obtain ⟨_,hA⟩:=t.step i xl[i] (by simp [hi])
 rw [hA]
 cases hd:xl[i].dst with
 |none=>rfl
 |some d=>
  rw [Act.ev_put_ne]
  rintro rfl
  exact h ⟨xl[i],by simp [hi],hd⟩
theorem Trace.wrote (t:Trace C xl a s A Z V R) (hC:CGoes C) (hd:Dm s) {i k:Nat} (hi:i<xl.length) (h:Wh R Z i k):Lh R Z i k∨((Z i).next≤k∧k<(Z (i+1)).next):=by
 have hg:=t.goes hC hi (t.upto hC hd i (by omega))
 have hdm:=t.upto hC hd i (by omega)
 obtain ⟨hs,_⟩:=t.step i xl[i] (by simp [hi])
 unfold Wh at h
 unfold Lh
 generalize Z (i+1)=z at hs h hg
 generalize V i=v at hs
 generalize R i=r at hs h
 cases hs with
 |skip _=>rcases h with ⟨h,_⟩|⟨_,h⟩; · cases h
          · cases h
 |call f l v s' hw hc h'=>
  rcases h with ⟨_,h⟩|⟨h,_⟩
  ·by_cases hk:k<(Z i).next
   ·exact .inl (.inl ⟨rfl,hk⟩)
   ·refine .inr ⟨by omega,?_⟩
    by_cases hk2:k<z.next
    ·exact hk2
    ·exact absurd (by rw [hg.1 k (by omega),hdm k (by omega)]) h
  ·cases h
 |prim p hw hp h'=>
  rcases h with ⟨h,_⟩|⟨_,h⟩
  ·cases h
  ·obtain ⟨⟨k',o⟩,hm,rfl⟩:=List.mem_map.1 h
   rcases xprim_wrote h' (hdm _ (Nat.le_refl _)) k' o hm with h1|⟨h1,h2⟩
   ·exact .inl (.inr ⟨rfl,h1⟩)
   ·refine .inr ⟨by simp only at h1 ⊢;omega,?_⟩
    rw [AS.upd_next];simp only at h1 ⊢;omega
structure Sheet (c:Cls) (r:Rec):Prop where
 still:c=.pure∨c=.read→r.call=false∧r.wrote=[]
 blind:c=.pure∨c=.alloc→r.call=false∧r.touched=[]
 eff:c=.eff→r.call=false
 call:c=.call→r.call=true∨(r.touched=[]∧r.wrote=[])
 recs:True
theorem Trace.sheet (t:Trace C xl a s A Z V R) {i:Nat} {xo:XOper} (hx:xl[i]? =some xo):Sheet (clsX xo.op) (R i)∧(R i).s0=Z i∧(R i).s1=Z (i+1):=by
 obtain ⟨hs,_⟩:=t.step i xo hx
 generalize Z (i+1)=z at hs
 generalize V i=v at hs
 generalize R i=r at hs
 cases hs with
 |skip _=>exact ⟨⟨fun _=>⟨rfl,rfl⟩,fun _=>⟨rfl,rfl⟩,fun _=>rfl,fun _=>.inr ⟨rfl,rfl⟩,trivial⟩,rfl,rfl⟩
 |call f l v s' hw hc h'=>
  have hcl:clsX xo.op=.call:=by rcases hc with ⟨args,h,_⟩|⟨x,args,h,_⟩<;>rw [h]<;>rfl
  rw [hcl]
  refine ⟨⟨fun h=> ?_,fun h=> ?_,fun h=> ?_,fun _=>.inl rfl,trivial⟩,rfl,rfl⟩
  ·rcases h with h|h<;>cases h
  ·rcases h with h|h<;>cases h
  ·cases h
 |prim p hw hp h'=>
  refine ⟨⟨fun h=>⟨rfl,?_⟩,fun h=>⟨rfl,touch_none h⟩,fun _=>rfl,fun h=> ?_,trivial⟩,rfl,rfl⟩
  ·show p.δ.map (·.1)=[]
   rw [xprim_still h h'];rfl
  ·cases hq:xo.op<;>rw [hq] at h hp<;>first|(cases hp;done)|(simp [clsX] at h;done)|skip
   rename_i k _ _ _
   cases k<;>cases h
structure Com (ops:Array Oper) (xl:List XOper) (R:Nat→Rec) (Z:Nat→AS) (i j:Nat):Prop where
 t1:∀t,Wt xl i t→¬Lk ops j t∧¬Wt xl j t
 t2:∀t,Wt xl j t→¬Lk ops i t
 h1:∀k,Wh R Z i k→¬Lh R Z j k∧¬Wh R Z j k
 h2:∀k,Wh R Z j k→¬Lh R Z i k
theorem Com.symm {ops:Array Oper} {i j:Nat} (h:Com ops xl R Z i j):Com ops xl R Z j i:=
 ⟨fun t ht=>⟨h.t2 t ht,fun hw=>(h.t1 t hw).2 ht⟩,fun t ht=>(h.t1 t ht).1,fun k hk=>⟨h.h2 k hk,fun hw=>(h.h1 k hw).2 hk⟩,fun k hk=>(h.h1 k hk).1⟩
theorem com_heap (t:Trace C xl a s A Z V R) (hC:CGoes C) (hd:Dm s) {i j:Nat} (hij:i<j) (hj:j<xl.length) {xi xj:XOper} (hxi:xl[i]? =some xi) (hxj:xl[j]? =some xj) {b:Bool}
  (hn:pairNeeds (clsX xi.op) (clsX xj.op)=some b) (hb:b=true→pairOk (R i) (R j)=true) (hbi:clsX xi.op≠.bad) (hbj:clsX xj.op≠.bad):
  (∀k,Wh R Z i k→¬Lh R Z j k∧¬Wh R Z j k)∧(∀k,Wh R Z j k→¬Lh R Z i k):=by
 obtain ⟨si,i0,i1⟩:=t.sheet hxi
 obtain ⟨sj,j0,j1⟩:=t.sheet hxj
 have gi:=t.goes hC (i:=i) (by omega) (t.upto hC hd i (by omega))
 have gj:=t.goes hC (i:=j) (by omega) (t.upto hC hd j (by omega))
 have hle:=t.next_le hC hd (i:=i+1) j (by omega) (by omega)
 have hle1:=gi.2.next
 have fi:=fun k (h:Wh R Z i k)=>t.wrote hC hd (i:=i) (k:=k) (by omega) h
 have fj:=fun k (h:Wh R Z j k)=>t.wrote hC hd (i:=j) (k:=k) (by omega) h
 have prims:(R i).call=false→(R j).call=false→(∀k∈(R i).touched,k∉(R j).wrote)→(∀k∈(R j).touched,k∉(R i).wrote)→
   (∀k,Wh R Z i k→¬Lh R Z j k∧¬Wh R Z j k)∧(∀k,Wh R Z j k→¬Lh R Z i k):=by
  intro ci cj h1 h2
  have wi:∀k,Wh R Z i k→k∈(R i).wrote:=fun k h=>by rcases h with ⟨h,_⟩|⟨_,h⟩; · rw [ci] at h;cases h
                                                   · exact h
  have wj:∀k,Wh R Z j k→k∈(R j).wrote:=fun k h=>by rcases h with ⟨h,_⟩|⟨_,h⟩; · rw [cj] at h;cases h
                                                   · exact h
  have li:∀k,Lh R Z i k→k∈(R i).touched:=fun k h=>by rcases h with ⟨h,_⟩|⟨_,h⟩; · rw [ci] at h;cases h
                                                     · exact h
  have lj:∀k,Lh R Z j k→k∈(R j).touched:=fun k h=>by rcases h with ⟨h,_⟩|⟨_,h⟩; · rw [cj] at h;cases h
                                                     · exact h
  refine ⟨fun k hk=>⟨fun hl=>h2 k (lj k hl) (wi k hk),fun hw=> ?_⟩,fun k hk hl=>h1 k (li k hl) (wj k hk)⟩
  rcases fj k hw with hl|hl
  ·exact h2 k (lj k hl) (wi k hk)
  ·rcases fi k hk with hl2|hl2
   ·exact h1 k (li k hl2) (wj k hw)
   ·omega
 have dyn:b=true→(R i).call=false→(R j).call=false→(∀k∈(R i).touched,k∉(R j).wrote)∧(∀k∈(R j).touched,k∉(R i).wrote):=by
  intro h ci cj
  have hp:=hb h
  unfold pairOk at hp
  rw [ci,cj] at hp
  simp only [Bool.and_eq_true] at hp
  exact ⟨apart_spec _ _ hp.1,apart_spec _ _ hp.2⟩
 have same:∀{m:Nat} (hg:Dm (Z (m+1))∧Evo (Z m) (Z (m+1))) (l:List Nat),sameVer (Z m) (Z (m+1)) l=true→(R m).call=true→∀k,Wh R Z m k→k∉l:=by
  intro m hg l hs hc k hw hk
  obtain ⟨o,o',h1,h2,h3⟩:=sameVer_spec _ _ l hs k hk
  rcases hw with ⟨_,hw⟩|⟨h,_⟩
  ·exact hw (by rw [h1,h2,(hg.2.ver k o o' h1 h2).2 h3])
  ·rw [hc] at h;cases h
 have wsi:clsX xi.op=.pure∨clsX xi.op=.read→∀k,k∉(R i).wrote:=fun h k hk=>by rw [(si.still h).2] at hk;cases hk
 have wsj:clsX xj.op=.pure∨clsX xj.op=.read→∀k,k∉(R j).wrote:=fun h k hk=>by rw [(sj.still h).2] at hk;cases hk
 have tbi:clsX xi.op=.pure∨clsX xi.op=.alloc→∀k,k∉(R i).touched:=fun h k hk=>by rw [(si.blind h).2] at hk;cases hk
 have tbj:clsX xj.op=.pure∨clsX xj.op=.alloc→∀k,k∉(R j).touched:=fun h k hk=>by rw [(sj.blind h).2] at hk;cases hk
 have tci:clsX xi.op=.call→(R i).call=false→(∀k,k∉(R i).touched)∧∀k,k∉(R i).wrote:=fun h hc=>by
  rcases si.call h with h|h
  ·rw [hc] at h;cases h
  ·refine ⟨fun k hk=> ?_,fun k hk=> ?_⟩
   ·rw [h.1] at hk;cases hk
   ·rw [h.2] at hk;cases hk
 have only:∀{c:Cls} {r:Rec},Sheet c r→r.call=true→c≠.bad→c=.call:=by
  intro c r hs hr hb
  cases c with
  |pure=>have:=(hs.still (.inl rfl)).1;rw [hr] at this;cases this
  |read=>have:=(hs.still (.inr rfl)).1;rw [hr] at this;cases this
  |alloc=>have:=(hs.blind (.inr rfl)).1;rw [hr] at this;cases this
  |eff=>have:=hs.eff rfl;rw [hr] at this;cases this
  |call=>rfl
  |bad=>exact absurd rfl hb
 cases ci:(R i).call with
 |false=>
  cases cj:(R j).call with
  |false=>
   cases b with
   |true=>obtain ⟨h1,h2⟩:=dyn rfl ci cj;exact prims ci cj h1 h2
   |false=>
    refine prims ci cj ?_ ?_
    ·intro k hk hm
     cases hi:clsX xi.op<;>cases hjj:clsX xj.op<;>rw [hi,hjj] at hn<;>first|(cases hn;done)|exact hbi hi|exact hbj hjj|exact wsj (.inl hjj) k hm|exact wsj (.inr hjj) k hm|exact tbi (.inl hi) k hk|exact tbi (.inr hi) k hk|exact (tci hi ci).1 k hk
    ·intro k hk hm
     cases hi:clsX xi.op<;>cases hjj:clsX xj.op<;>rw [hi,hjj] at hn<;>first|(cases hn;done)|exact hbi hi|exact hbj hjj|exact wsi (.inl hi) k hm|exact wsi (.inr hi) k hm|exact tbj (.inl hjj) k hk|exact tbj (.inr hjj) k hk|exact (tci hi ci).2 k hm
  |true=>
   have hcj:clsX xj.op=.call:=only sj cj hbj
   have hci:clsX xi.op=.pure∨clsX xi.op=.read:=by
    rw [hcj] at hn
    cases hi:clsX xi.op<;>rw [hi] at hn<;>first|(cases hn;done)|exact .inl rfl|exact .inr rfl|exact absurd hi hbi
   have hw:=(si.still hci).2
   refine ⟨fun k hk=> ?_,fun k hk hl=> ?_⟩
   ·rcases hk with ⟨h,_⟩|⟨_,h⟩
    ·rw [ci] at h;cases h
    ·rw [hw] at h;cases h
   ·rcases hl with ⟨h,_⟩|⟨_,hl⟩
    ·rw [ci] at h;cases h
    ·rcases hci with hci|hci
     ·rw [(si.blind (.inl hci)).2] at hl;cases hl
     ·skip
      rw [hci,hcj] at hn
      cases hn
      have hp:=hb rfl
      unfold pairOk at hp
      rw [ci,cj] at hp
      simp only at hp
      rw [j0,j1] at hp
      exact same gj _ hp cj k hk hl
 |true=>
  have hci:clsX xi.op=.call:=only si ci hbi
  have hcj:clsX xj.op=.pure∨clsX xj.op=.alloc∨(clsX xj.op=.read∧b=true):=by
   rw [hci] at hn
   cases hjj:clsX xj.op<;>rw [hjj] at hn<;>first|(cases hn;done)|exact .inl rfl|exact .inr (.inl rfl)|skip
   cases hn;exact .inr (.inr ⟨rfl,rfl⟩)
  have cj:(R j).call=false:=by
   rcases hcj with h|h|⟨h,_⟩
   ·exact (sj.still (.inl h)).1
   ·exact (sj.blind (.inr h)).1
   ·exact (sj.still (.inr h)).1
  have wi:∀k,Wh R Z i k→k<(Z (i+1)).next:=fun k hk=>by
   rcases fi k hk with h|h
   ·rcases h with ⟨_,h⟩|⟨h,_⟩
    ·omega
    ·rw [ci] at h;cases h
   ·omega
  have wj:∀k,Wh R Z j k→k∈(R j).wrote:=fun k h=>by rcases h with ⟨h,_⟩|⟨_,h⟩; · rw [cj] at h;cases h
                                                   · exact h
  have lj:∀k,Lh R Z j k→k∈(R j).touched:=fun k h=>by rcases h with ⟨h,_⟩|⟨_,h⟩; · rw [cj] at h;cases h
                                                     · exact h
  have newj:∀k,Wh R Z j k→(R j).touched=[]→(Z (i+1)).next≤k:=fun k hk ht=>by
   rcases fj k hk with h|h
   ·have:=lj k h;rw [ht] at this;cases this
   ·omega
  have li:∀k,Lh R Z i k→k<(Z i).next:=fun k h=>by rcases h with ⟨_,h⟩|⟨h,_⟩; · exact h
                                                  · rw [ci] at h;cases h
  rcases hcj with h|h|⟨h,hbt⟩
  ·have h1:=(sj.still (.inl h)).2
   have h2:=(sj.blind (.inl h)).2
   refine ⟨fun k hk=>⟨fun hl=> ?_,fun hw=> ?_⟩,fun k hw hl=> ?_⟩
   ·have:=lj k hl;rw [h2] at this;cases this
   ·have:=wj k hw;rw [h1] at this;cases this
   ·have:=wj k hw;rw [h1] at this;cases this
  ·have h2:=(sj.blind (.inr h)).2
   refine ⟨fun k hk=>⟨fun hl=> ?_,fun hw=> ?_⟩,fun k hw hl=> ?_⟩
   ·have:=lj k hl;rw [h2] at this;cases this
   ·have:=newj k hw h2;have:=wi k hk;omega
   ·have:=newj k hw h2;have:=li k hl;omega
  ·have h1:=(sj.still (.inr h)).2
   have hp:=hb hbt
   unfold pairOk at hp
   rw [ci,cj] at hp
   simp only at hp
   rw [i0,i1] at hp
   refine ⟨fun k hk=>⟨fun hl=>same gi _ hp ci k hk (lj k hl),fun hw=> ?_⟩,fun k hw hl=> ?_⟩
   ·have:=wj k hw;rw [h1] at this;cases this
   ·have:=wj k hw;rw [h1] at this;cases this
end
end Go.Xe
end
section
namespace Go.Xe
open Go
section
variable {W0:World} {N0:Nat} {φ ψ χ:Loc} {w w' w'':World} {lo hi:Nat}
theorem Stp.widen {g h:Hp} (s:Stp φ g w ψ h w' lo hi) {lo' hi':Nat} (h1:lo'≤lo) (h2:hi≤hi'):Stp φ g w ψ h w' lo' hi':=
 ⟨s.le,fun i hi=>s.out i (by omega),s.size,s.away,s.own⟩
theorem Stp.trans1 {g h k:Hp} (a:Stp φ g w ψ h w' lo hi) (b:Stp ψ h w' χ k w'' lo hi):Stp φ g w χ k w'' lo hi:=by
 refine ⟨Loc.le_trans a.le b.le,fun i hi=> ?_,Nat.le_trans a.size b.size,fun x hx ha=> ?_,fun i x d t hk hχ=> ?_⟩
 ·rw [b.out i hi,a.out i hi]
 ·rw [b.away x (Nat.lt_of_lt_of_le hx a.size) ?_,a.away x hx ha]
  intro i d t hh hψ
  rcases a.own i x d t hh hψ with h|⟨j,d',t',hj,hφ⟩
  ·omega
  ·exact ha j d' t' hj hφ
 ·rcases b.own i x d t hk hχ with h|⟨j,d',t',hj,hψ⟩
  ·exact .inl (Nat.le_trans a.size h)
  ·exact a.own j x d' t' hj hψ
theorem Rel.join {gm g0 g1 gm':Hp} (r:Rel W0 N0 φ gm w) (h0:∀k o,g0 k=some o→gm k=some o) (r1:Rel W0 N0 ψ g1 w') (st:Stp φ g0 w ψ g1 w' lo hi)
  (hm:∀k o,gm' k=some o→g1 k=some o∨(g0 k=none∧gm k=some o)):Rel W0 N0 ψ gm' w'∧Stp φ gm w ψ gm' w' lo hi:=by
 have h0n:∀k,g0 k≠none→gm k≠none:=fun k hk=>by
  cases e:g0 k with
  |none=>exact absurd e hk
  |some o=>rw [h0 k o e];simp
 have other:∀k o,g0 k=none→gm k=some o→∃b d t ob,φ k=some (b,d,t)∧ψ k=some (b,d,t)∧b<w.heap.size∧w.heap[b]? =some ob∧w'.heap[b]? =some ob∧ORel φ d t o.body ob∧(b<N0→o.body.isRo=true)∧(b<N0∨∀j d' t',g0 j≠none→φ j≠some (b,d',t')):=by
  intro k o hk ho
  obtain ⟨b,d,t,ob,h1,h2,h3,h4⟩:=r.obj k o ho
  have hlt:b<w.heap.size:=by
   by_cases h:b<w.heap.size
   ·exact h
   ·rw [Array.getElem?_eq_none (by omega)] at h2;cases h2
  have hno:b<N0∨∀j d' t',g0 j≠none→φ j≠some (b,d',t'):=by
   by_cases hN:b<N0
   ·exact .inl hN
   ·right
    intro j d' t' hj e
    have:=(r.inj j k b d' d t' t (h0n j hj) (by rw [ho];simp) e h1).resolve_left hN
    subst this
    exact hj hk
  refine ⟨b,d,t,ob,h1,st.le _ _ h1,hlt,h2,?_,h3,h4,hno⟩
  rcases hno with hN|hno
  ·rw [r1.fixed b hN,←r.fixed b hN];exact h2
  ·rw [st.away b hlt (fun i d' t' hi=>hno i d' t' hi)];exact h2
 refine ⟨⟨r1.n0,r1.fixed,r1.os,r1.tape,r1.output,fun k o hk=> ?_,fun i j b d d' t t' hi hj h1 h2=> ?_⟩,⟨st.le,st.out,st.size,fun b hb ha=> ?_,fun i b d t hi hψ=> ?_⟩⟩
 ·rcases hm k o hk with h|⟨h,h'⟩
  ·exact r1.obj k o h
  ·obtain ⟨b,d,t,ob,_,a2,_,_,a5,a6,a7,_⟩:=other k o h h'
   exact ⟨b,d,t,ob,a2,a5,a6.mono st.le,a7⟩
 ·obtain ⟨o,ho⟩:∃o,gm' i=some o:=by cases e:gm' i with|none=>exact absurd e hi|some o=>exact ⟨o,rfl⟩
  obtain ⟨o',ho'⟩:∃o,gm' j=some o:=by cases e:gm' j with|none=>exact absurd e hj|some o=>exact ⟨o,rfl⟩
  have cross:∀{i j:Nat} {o o':AObj} {d d' t t':Nat},g1 i=some o→g0 j=none→gm j=some o'→ψ i=some (b,d,t)→ψ j=some (b,d',t')→b<N0∨i=j:=by
   intro i j o o' d d' t t' hi hj hj' h1 h2
   obtain ⟨b2,d2,t2,ob,a1,a2,a3,_,_,_,_,a8⟩:=other j o' hj hj'
   rw [a2] at h2;cases h2
   rcases st.own i b d t (by rw [hi];simp) h1 with h|⟨k,d3,t3,hk,hk'⟩
   ·omega
   ·rcases a8 with a8|a8
    ·exact .inl a8
    ·exact absurd hk' (a8 k d3 t3 hk)
  rcases hm i o ho with h|⟨h,h'⟩
  ·rcases hm j o' ho' with k|⟨k,k'⟩
   ·exact r1.inj i j b d d' t t' (by rw [h];simp) (by rw [k];simp) h1 h2
   ·exact cross h k k' h1 h2
  ·rcases hm j o' ho' with k|⟨k,k'⟩
   ·exact (cross k h h' h2 h1).imp id Eq.symm
   ·obtain ⟨b1,d1,t1,_,a1,a2,_⟩:=other i o h h'
    obtain ⟨b2,d2,t2,_,c1,c2,_⟩:=other j o' k k'
    rw [a2] at h1;cases h1
    rw [c2] at h2;cases h2
    exact r.inj i j _ _ _ _ _ (by rw [h'];simp) (by rw [k'];simp) a1 c1
 ·exact st.away b hb (fun i d t hi=>ha i d t (h0n i hi))
 ·obtain ⟨o,ho⟩:∃o,gm' i=some o:=by cases e:gm' i with|none=>exact absurd e hi|some o=>exact ⟨o,rfl⟩
  rcases hm i o ho with h|⟨h,h'⟩
  ·rcases st.own i b d t (by rw [h];simp) hψ with k|⟨j,d',t',hj,hφ⟩
   ·exact .inl k
   ·exact .inr ⟨j,d',t',h0n j hj,hφ⟩
  ·obtain ⟨b1,d1,t1,_,a1,a2,_⟩:=other i o h h'
   rw [a2] at hψ;cases hψ
   exact .inr ⟨i,_,_,by rw [h'];simp,a1⟩
end
def left (B:Nat→Bool):Nat→Nat
 |0=>0
 |m+1=>left B m+(if B m=true then 0 else 1)
theorem left_setS_lt (B:Nat→Bool) (i:Nat):∀m,m≤i→left (setS B i) m=left B m
 |0,_=>rfl
 |m+1,h=>by
  have:setS B i m=B m:=by simp [setS];omega
  simp only [left,this,left_setS_lt B i m (by omega)]
theorem left_setS (B:Nat→Bool) {i:Nat} (hB:B i=false):∀m,i<m→left (setS B i) m+1=left B m
 |0,h=>by omega
 |m+1,h=>by
  by_cases e:m=i
  ·subst e
   have:setS B m m=true:=by simp [setS]
   simp [left,this,hB,left_setS_lt B m m (Nat.le_refl _)]
  ·have h1:setS B i m=B m:=by simp [setS,e]
   simp only [left,h1]
   have:=left_setS B hB m (by omega)
   omega
theorem left_zero {B:Nat→Bool}:∀{m:Nat},left B m=0→∀j,j<m→B j=true
 |0,_,j,h=>by omega
 |m+1,h,j,hj=>by
  simp only [left] at h
  by_cases e:j=m
  ·subst e
   by_cases hb:B j=true
   ·exact hb
   ·rw [if_neg hb] at h;omega
  ·have h':left B m=0:=by omega
   exact left_zero h' j (by omega)
theorem left_none:∀(m:Nat),left (fun _=>false) m=m
 |0=>rfl
 |m+1=>by simp [left,left_none m]
theorem compOpers_get {P:Program} {gl:Glb} {nt:Nat} {ops:Array Oper}:∀{l:List Oper} {xl:List XOper},compOpers P gl nt ops l=some xl→xl.length=l.length∧∀(i:Nat) (o:Oper),l[i]? =some o→∃xo:XOper,xl[i]? =some xo∧compOper P gl nt ops o=some xo
 |[],xl,h=>by simp only [compOpers] at h;cases h;exact ⟨rfl,fun i o h=>by simp at h⟩
 |o::l,xl,h=>by
  simp only [compOpers] at h
  split at h
  ·rename_i x xl' h1 h2
   cases h
   obtain ⟨a,b⟩:=compOpers_get h2
   refine ⟨by simp [a],fun i o' ho=> ?_⟩
   cases i with
   |zero=>simp at ho;subst ho;exact ⟨x,rfl,h1⟩
   |succ i=>obtain ⟨y,h3,h4⟩:=b i o' (by simpa using ho);exact ⟨y,by simpa using h3,h4⟩
  ·cases h
theorem wanted_at {ops:Array Oper} {o:Oper} {g:Option (Nat×Bool)} (hg:compGuard ops o.guard=some g) {φ:Loc} {a:Act} {a':Go.Act} (r:∀t b,g=some (t,b)→VRel φ (a.ev (.tmp t)) (a'.eval (.tmp t))):Region.wanted o (yielded ops a'.tmps)=wantedX a g:=by
 cases g with
 |none=>
  unfold Region.wanted
  cases ho:o.guard with
  |none=>rfl
  |some jb=>
   obtain ⟨j,b⟩:=jb
   rw [ho] at hg
   simp only [compGuard] at hg
   split at hg<;>cases hg
 |some tb=>
  obtain ⟨t,b⟩:=tb
  have:=wanted_of (nt:=a'.tmps.size) (φ:=φ) hg (a:=⟨Tri.set .nil t (a.ev (.tmp t)),[]⟩) (a':=⟨(Array.replicate a'.tmps.size undef).setIfInBounds t (a'.tmps.getD t undef),[]⟩) ⟨by simp,fun u=> ?_,trivial⟩
  ·have e1:wantedX (⟨Tri.set .nil t (a.ev (.tmp t)),[]⟩:Act) (some (t,b))=wantedX a (some (t,b)):=by
    simp only [wantedX,Tri.get_set_same,Act.ev]
    cases a.tm.get t<;>simp [undef]
   rw [←e1,←this]
   unfold Region.wanted
   cases ho:o.guard with
   |none=>rfl
   |some jb=>
    obtain ⟨j,b'⟩:=jb
    rw [ho] at hg
    simp only [compGuard] at hg
    cases ht:(ops[j]?).bind (·.dst) with
    |none=>rw [ht] at hg;cases hg
    |some t'=>
     rw [ht] at hg;cases hg
     simp only [yielded,ht,Option.bind_some]
     by_cases hlt:t<a'.tmps.size
     ·simp [hlt]
     ·have:a'.tmps[t]? =none:=Array.getElem?_eq_none (Nat.le_of_not_lt hlt)
      simp [this,hlt]
  ·simp only [Act.ev,Go.Act.eval]
   by_cases hu:t=u
   ·subst hu
    rw [Tri.get_set_same]
    have h1:=r t b rfl
    simp only [Act.ev,Go.Act.eval] at h1
    by_cases hlt:t<a'.tmps.size
    ·simpa [hlt] using h1
    ·have e0:a'.tmps.getD t undef=undef:=by simp [hlt]
     rw [e0] at h1
     simp [hlt]
     exact h1
   ·rw [Tri.get_set_ne _ _ hu,Tri.get_nil]
    have:((Array.replicate a'.tmps.size undef).setIfInBounds t (a'.tmps.getD t undef)).getD u undef=undef:=by
     refine (eval_put_ne ⟨Array.replicate a'.tmps.size undef,[]⟩ (a'.tmps.getD t undef) hu).trans ?_
     simp only [Go.Act.eval]
     by_cases hlt:u<a'.tmps.size
     ·simp [hlt]
     ·simp [hlt]
    rw [this]
    exact VRel.undef φ
end Go.Xe
end
section
namespace Go.Xe
open Go
section
variable {P:Program} {gl:Glb} {nt:Nat} {C:Callee} {ops:Array Oper} {xl:List XOper} {a:Act} {s:AS} {A:Nat→Act} {Z:Nat→AS} {V:Nat→Value} {R:Nat→Rec}
noncomputable def MT (A:Nat→Act) (xl:List XOper) (B:Nat→Bool) (t:Nat):Value:=mix (fun i t=>(A i).ev (.tmp t)) (Wt xl) B xl.length t
noncomputable def MH (Z:Nat→AS) (R:Nat→Rec) (xl:List XOper) (B:Nat→Bool):Hp:=mix (fun i=>(Z i).get) (Wh R Z) B xl.length
structure DSt (gl:Glb) (nt:Nat) (xl:List XOper) (a:Act) (s:AS) (A:Nat→Act) (Z:Nat→AS) (R:Nat→Rec) (W0:World) (N0:Nat) (φ0:Loc) (w0:World) (B:Nat→Bool) (φ:Loc) (a':Go.Act) (w:World):Prop where
 size:nt≤a'.tmps.size
 tm:∀t,VRel φ (MT A xl B t) (a'.eval (.tmp t))
 df:DfRel φ a.df a'.defers
 rel:Rel W0 N0 φ (MH Z R xl B) w
 free:∀k,s.next≤k→k<(Z xl.length).next→φ k≠none→∃j,j<xl.length∧B j=true∧(Z j).next≤k∧k<(Z (j+1)).next
 glob:∀i,gl.is i=true→∃t,φ i=some (i,0,t)
 good:gl.good W0 N0
 stp:Stp φ0 s.get w0 φ (MH Z R xl B) w s.next (Z xl.length).next
variable (t:Trace C xl a s A Z V R) (hG:CGoes C) (hd:Dm s)
 (hc:∀(i:Nat) (o:Oper),ops[i]? =some o→∃xo:XOper,xl[i]? =some xo∧compOper P gl nt ops o=some xo) (hfl:∀x∈xl,flatX x.op=true)
include t hG hd hc hfl
theorem draw_step (hC:COk P gl C) {W0:World} {N0:Nat} {φ0 φ:Loc} {w0 w:World} {B:Nat→Bool} {a':Go.Act} (D:DSt gl nt xl a s A Z R W0 N0 φ0 w0 B φ a' w) {i:Nat} {o:Oper} (hi:ops[i]? =some o) (hB:B i=false)
  (hcom:∀j,j<xl.length→j≠i→(j<i→B j=false)→(i<j→B j=true)→Com ops xl R Z i j) {K:Go.Act→World→Prop} {Q:Exit→Go.Act→World→Prop}
  (hK:∀ψ a'' w'',DSt gl nt xl a s A Z R W0 N0 φ0 w0 (setS B i) ψ a'' w''→K a'' w''):wpOp P ops Q i K a' w:=by
 obtain ⟨xo,hxo,hco⟩:=hc i o hi
 obtain ⟨hx,hg,hdst,hok,hdok⟩:=compOper_parts hco
 have hlt:i<xl.length:=(List.getElem?_eq_some_iff.1 hxo).1
 obtain ⟨hstep,hAn⟩:=t.step i xo hxo
 have hfr:=fun j (hj:j<xl.length) k (h:¬Wh R Z j k)=>t.frame hj h
 have hfrT:=fun j (hj:j<xl.length) k (h:¬Wt xl j k)=>t.frameT hj h
 have hdm:=t.upto hG hd i (by omega)
 have hgo:=(t.goes hG hlt hdm)
 have nx0:s.next≤(Z i).next:=by have:=t.next_le hG hd (i:=0) i (by omega) (by omega);rw [t.s0] at this;exact this
 have nx1:(Z (i+1)).next≤(Z xl.length).next:=t.next_le hG hd xl.length (by omega) (by omega)
 have seeT:∀u,Lk ops i u→MT A xl B u=(A i).ev (.tmp u):=fun u hu=>
  mix_sees hlt (fun j hj h=>hfrT j hj u h) hB (fun j hj hS hw=>(hcom j (by omega) (by omega) (fun _=>hS) (fun h=>by omega)).t2 u hw hu)
   (fun j h1 h2 hS hw=>(hcom j h2 (by omega) (fun h=>by omega) (fun _=>hS)).t2 u hw hu)
 have seeH:∀k,Lh R Z i k→MH Z R xl B k=(Z i).get k:=fun k hk=>
  mix_sees (X:=fun i=>(Z i).get) hlt (fun j hj h=>hfr j hj k h) hB (fun j hj hS hw=>(hcom j (by omega) (by omega) (fun _=>hS) (fun h=>by omega)).h2 k hw hk)
   (fun j h1 h2 hS hw=>(hcom j h2 (by omega) (fun h=>by omega) (fun _=>hS)).h2 k hw hk)
 have opnd:∀x∈o.op.operands.toList,VRel φ ((A i).ev x) (a'.eval x):=fun x hx=>by
  cases hq:x with
  |tmp u=>
   have hl:Lk ops i u:=⟨o,hi,List.mem_append_left _ (List.mem_filterMap.2 ⟨x,hx,by rw [hq]⟩)⟩
   rw [←seeT u hl];exact D.tm u
  |const v=>have:=hok x hx;rw [hq] at this;exact VRel.plain φ v this
  |global g=>
   have:=hok x hx;rw [hq] at this
   obtain ⟨b,hb⟩:=D.glob g this
   exact VRel.ptr (o:=0) hb
  |func f=>exact .func _ .nil .nil
 have hwant:Region.wanted o (yielded ops a'.tmps)=wantedX (A i) xo.guard:=wanted_at (φ:=φ) hg fun u b hgu=>by
  rw [←seeT u ⟨o,hi,List.mem_append_right _ ?_⟩]
  ·exact D.tm u
  ·cases hgo:o.guard with
   |none=>rw [hgo] at hg;simp only [compGuard] at hg;rw [hgu] at hg;cases hg
   |some jb=>
    obtain ⟨j,b'⟩:=jb
    rw [hgo] at hg
    simp only [compGuard] at hg
    cases ht:(ops[j]?).bind (·.dst) with
    |none=>rw [ht] at hg;cases hg
    |some t'=>rw [ht,hgu] at hg;cases hg;simp [ht]
 have hV:(A (i+1)).ev (.tmp 0)=(A (i+1)).ev (.tmp 0):=rfl
 have bringT:∀u,MT A xl (setS B i) u=if xo.dst=some u then V i else MT A xl B u:=fun u=>by
  have h1:=mix_brings (X:=fun i t=>(A i).ev (.tmp t)) (W:=Wt xl) (S:=B) (k:=u) hlt hB (fun hw j h1 h2 hS hw2=>((hcom j h2 (by omega) (fun h=>by omega) (fun _=>hS)).t1 u hw).2 hw2)
  unfold MT
  rw [h1]
  have hiff:Wt xl i u↔xo.dst=some u:=⟨fun ⟨y,hy,hyd⟩=>by rw [hxo] at hy;cases hy;exact hyd,fun h=>⟨xo,hxo,h⟩⟩
  by_cases hw:xo.dst=some u
  ·rw [if_pos (hiff.2 hw),if_pos hw,hAn,hw,Act.ev_put_same]
  ·rw [if_neg (fun h=>hw (hiff.1 h)),if_neg hw]
 have bringH:∀k,(Wh R Z i k→MH Z R xl (setS B i) k=(Z (i+1)).get k)∧(¬Wh R Z i k→MH Z R xl (setS B i) k=MH Z R xl B k):=fun k=>by
  have h1:=mix_brings (X:=fun i=>(Z i).get) (W:=Wh R Z) (S:=B) (k:=k) hlt hB (fun hw j h1 h2 hS hw2=>((hcom j h2 (by omega) (fun h=>by omega) (fun _=>hS)).h1 k hw).2 hw2)
  unfold MH
  exact ⟨fun h=>by rw [h1,if_pos h],fun h=>by rw [h1,if_neg h]⟩
 have hfree:Fr φ (Z i).next (Z (i+1)).next:=fun k h1 h2=>by
  cases hk:φ k with
  |none=>rfl
  |some x=>
   obtain ⟨j,hj,hS,h3,h4⟩:=D.free k (by omega) (by omega) (by rw [hk];simp)
   rcases Nat.lt_trichotomy j i with h|h|h
   ·have:=t.next_le hG hd (i:=j+1) i (by omega) (by omega);omega
   ·subst h;rw [hB] at hS;cases hS
   ·have:=t.next_le hG hd (i:=i+1) j (by omega) (by omega);omega
 have fin:∀ψ w'' v',VRel ψ (V i) v'→Rel W0 N0 ψ (MH Z R xl (setS B i)) w''→Stp φ (MH Z R xl B) w ψ (MH Z R xl (setS B i)) w'' (Z i).next (Z (i+1)).next→K (a'.put o.dst v') w'':=by
  intro ψ w'' v' hv hr hs
  refine hK ψ _ _ ⟨?_,fun u=> ?_,?_,hr,fun k h1 h2 h3=> ?_,fun g hg=> ?_,D.good,D.stp.trans1 (hs.widen nx0 nx1)⟩
  ·cases hdo:o.dst<;>simpa [Go.Act.put] using D.size
  ·rw [bringT u]
   cases hdo:o.dst with
   |none=>
    rw [hdst,hdo,if_neg (by simp)]
    exact (D.tm u).mono hs.le
   |some d=>
    rw [hdst,hdo]
    by_cases e:d=u
    ·subst e
     have hlt:d<nt:=by rw [hdo] at hdok;simpa [okDst,bltNat] using hdok
     rw [if_pos rfl,eval_put_same _ _ (Nat.lt_of_lt_of_le hlt D.size)];exact hv
    ·rw [if_neg (by simpa using e),eval_put_ne _ _ e];exact (D.tm u).mono hs.le
  ·cases hdo:o.dst<;>exact D.df.mono hs.le
  ·by_cases hk:(Z i).next≤k∧k<(Z (i+1)).next
   ·exact ⟨i,hlt,by simp [setS],hk.1,hk.2⟩
   ·rw [hs.out k hk] at h3
    obtain ⟨j,hj,hS,h4,h5⟩:=D.free k h1 h2 h3
    exact ⟨j,hj,by simp [setS];exact .inr hS,h4,h5⟩
  ·obtain ⟨b,hb⟩:=D.glob g hg;exact ⟨b,hs.le _ _ hb⟩
 unfold wpOp
 simp only [hi]
 rw [hwant]
 generalize hz:Z (i+1)=z at hstep
 generalize hv:V i=v at hstep
 generalize hrr:R i=rr at hstep
 cases hstep with
 |skip hw=>
  rw [hw]
  simp only [Bool.false_eq_true,if_false]
  have hno:∀k,¬Wh R Z i k:=fun k h=>by
   unfold Wh at h;rw [hrr] at h
   rcases h with ⟨h,_⟩|⟨_,h⟩<;>cases h
  have he:MH Z R xl (setS B i)=MH Z R xl B:=funext fun k=>(bringH k).2 (hno k)
  refine fin φ w undef (by rw [hv];exact VRel.undef φ) (by rw [he];exact D.rel) ?_
  rw [he]
  have:=Stp.refl φ (MH Z R xl B) w (Z i).next
  exact this.widen (Nat.le_refl _) (by have:=hgo.2.next;omega)
 |call f l v2 s2 hw hcall hrun=>
  rw [hw]
  simp only [if_true]
  left
  obtain ⟨hto,hcalls⟩:=hC f l (Z i) _ _ hrun
  have hLh:∀k,k<(Z i).next→Lh R Z i k:=fun k hk=>.inl ⟨by rw [hrr],hk⟩
  have h0:∀k ob,(Z i).get k=some ob→MH Z R xl B k=some ob:=fun k ob hk=>by
   have hkl:k<(Z i).next:=by
    by_cases h:k<(Z i).next
    ·exact h
    ·rw [hdm k (by omega)] at hk;cases hk
   rw [seeH k (hLh k hkl)];exact hk
  have hinv:Inv gl W0 N0 φ (Z i) w:=⟨D.rel.less h0,hdm,D.glob,D.good⟩
  have go:∀l',VRels φ l l'→(execOp a'.eval o).run P w=.ok (.enter f l'.toArray) w→o.wp P a' w K Q:=by
   intro l' hl hrun2
   unfold Go.Oper.wp
   rw [hrun2]
   refine Calls.mono (hcalls W0 N0 φ w l' hinv (by rw [←hz];exact hfree) hl) ?_
   rintro E w' ⟨ψ,⟨v',rfl,hv'⟩,hi',hs'⟩
   rw [←hz] at hi' hs'
   have hj:=D.rel.join h0 hi'.rel hs' (gm':=MH Z R xl (setS B i)) (fun k ob hk=>by
    by_cases hwk:Wh R Z i k
    ·rw [(bringH k).1 hwk] at hk;exact .inl hk
    ·rw [(bringH k).2 hwk] at hk
     have hsame:=hfr i hlt k hwk
     cases hq:(Z i).get k with
     |none=>exact .inr ⟨rfl,hk⟩
     |some ob2=>
      have:=h0 k ob2 hq
      rw [this] at hk;cases hk
      left;rw [hsame,hq])
   exact fin ψ w' v' (by rw [hv];exact hv') hj.1 hj.2
  rcases hcall with ⟨args,hop,rfl⟩|⟨x,args,hop,ht⟩
  ·rw [hop] at hx
   obtain ⟨c,ho,hcc,rfl⟩:=special_call (compX_special hx rfl)
   have hvs:VRels φ (c.args.toList.map (A i).ev) (c.args.toList.map a'.eval):=VRels.of_map fun x hx=>opnd x (by rw [ho];simp [Op.operands,Call.operands,hcc];right;simpa using hx)
   refine go _ hvs ?_
   have:=call_run (P:=P) ho hcc (ρ:=a'.eval) (first:=#[]) (cap:=#[]) rfl hto w
   simpa using this
  ·rw [hop] at hx
   obtain ⟨c,ho,hcc,rfl⟩:=special_callV (compX_special hx rfl)
   have hvs:VRels φ (c.args.toList.map (A i).ev) (c.args.toList.map a'.eval):=VRels.of_map fun x hx=>opnd x (by rw [ho];simp [Op.operands,Call.operands,hcc];right;simpa using hx)
   have hxv:=opnd x (by rw [ho];simp [Op.operands,Call.operands,hcc])
   obtain ⟨first,cap,e1,e2⟩:=target_of hxv hvs ht
   exact go _ e2 (call_run (P:=P) ho hcc e1 hto w)
 |prim p hw hpr hp=>
  rw [hw]
  simp only [if_true]
  left
  have hflat:=hfl xo (List.mem_of_getElem? hxo)
  have hp':xprim (MH Z R xl B) (Z i).next (A i).ev xo.op=some p:=by
   rw [xprim_local hflat (g:=(Z i).get) (fun k hk=>seeH k (.inr ⟨by rw [hrr],by rw [hrr];exact hk⟩))]
   exact hp
  have hnx:(Z i).next≤p.nx:=by
   have:=hgo.2.next;rw [hz,AS.upd_next] at this;exact this
  have hφn:(Z i).next<p.nx→φ (Z i).next=none:=fun h=>hfree _ (Nat.le_refl _) (by rw [hz,AS.upd_next];exact h)
  obtain ⟨ψ,w',v',hrun,hv',hr,hst⟩:=prim_sound o.op o rfl (compX_prim hx hpr) (ρ':=a'.eval) opnd hp' D.rel hφn (fun h=>by
   cases hq:MH Z R xl B (Z i).next with
   |none=>rfl
   |some ob=>
    obtain ⟨b,d,t',ob',hb,_⟩:=D.rel.obj _ _ hq
    rw [hφn h] at hb;cases hb)
  have he:MH Z R xl (setS B i)=Hp.upd (MH Z R xl B) p.δ:=by
   funext k
   by_cases hwk:Wh R Z i k
   ·rw [(bringH k).1 hwk,hz,AS.upd_get]
    have hmem:k∈p.δ.map (·.1):=by
     unfold Wh at hwk;rw [hrr] at hwk
     rcases hwk with ⟨h,_⟩|⟨_,h⟩
     ·cases h
     ·exact h
    have:∀(δ:List (Nat×Option AObj)) (g1 g2:Hp),k∈δ.map (·.1)→Hp.upd g1 δ k=Hp.upd g2 δ k:=by
     intro δ
     induction δ with
     |nil=>intro g1 g2 h;cases h
     |cons x r ih=>
      intro g1 g2 h
      obtain ⟨j,ob⟩:=x
      simp only [Hp.upd]
      by_cases hr:k∈r.map (·.1)
      ·exact ih _ _ hr
      ·have hkj:k=j:=by
        simp only [List.map_cons,List.mem_cons] at h
        exact h.resolve_right hr
       have hnot:∀ob',(k,ob')∉r:=fun ob' hm=>hr (List.mem_map.2 ⟨_,hm,rfl⟩)
       rw [Hp.upd_other _ r k hnot,Hp.upd_other _ r k hnot,hkj,Hp.set1_same,Hp.set1_same]
    exact this _ _ _ hmem
   ·rw [(bringH k).2 hwk,Hp.upd_other]
    intro ob hm
    exact hwk (.inr ⟨by rw [hrr],by rw [hrr];exact List.mem_map.2 ⟨_,hm,rfl⟩⟩)
  refine Oper.wp_value hrun (fin ψ w' v' (by rw [hv];exact hv') (by rw [he];exact hr) ?_)
  rw [he,hz,AS.upd_next]
  exact hst
end
end Go.Xe
end
section
namespace Go.Xe
open Go
theorem edgesBack_get:∀(l:List Oper) (n:Nat),edgesBack n l=true→∀(i:Nat) (o:Oper),l[i]? =some o→∀e∈o.after.toList,Region.binds .any e=true→e.on<n+i
 |[],n,_,i,o,h,_,_,_=>by simp at h
 |o'::l,n,hb,i,o,h,e,he,hbe=>by
  simp only [edgesBack,Bool.and_eq_true,List.all_eq_true] at hb
  cases i with
  |zero=>
   simp at h;subst h
   have:=hb.1 e he
   rw [hbe] at this
   simpa [bltNat] using this
  |succ i=>
   have:=edgesBack_get l (n+1) hb.2 i o (by simpa using h) e he hbe
   omega
theorem anc_done {ops:Array Oper} (hb:edgesBack 0 ops.toList=true) {B:Nat→Bool}
  (hB:∀(j:Nat) (o:Oper),ops[j]? =some o→B j=true→∀e∈o.after.toList,Region.binds .any e=true→B e.on=true):
  ∀(j:Nat) (o:Oper),ops[j]? =some o→(∀e∈o.after.toList,Region.binds .any e=true→B e.on=true)→∀k,Nat.testBit ((rowsOf ops.toList []).getD j 0) k=true→B k=true:=by
 intro j
 induction j using Nat.strongRecOn with
 |_ j ih=>
  intro o ho hdeps k hk
  obtain ⟨e,he,hbe,hlt,h⟩:=rowsOf_bit ops.toList [] hb j o (by simpa using ho) k (by simpa using hk)
  have hon:=hdeps e he hbe
  rcases h with rfl|h
  ·exact hon
  ·have hjl:j<ops.size:=(Array.getElem?_eq_some_iff.1 ho).1
   simp only [List.length_nil,Nat.zero_add] at hlt
   have ho':ops[e.on]? =some ops[e.on]:=by simp [show e.on<ops.size by omega]
   exact ih e.on hlt _ ho' (hB _ _ ho' hon) k h
section
variable {P:Program} {gl:Glb} {nt:Nat} {C:Callee} {ops:Array Oper} {xl:List XOper}
theorem draws {a:Act} {s:AS} {A:Nat→Act} {Z:Nat→AS} {V:Nat→Value} {R:Nat→Rec} (t:Trace C xl a s A Z V R) (hG:CGoes C) (hd:Dm s)
  (hc:∀(i:Nat) (o:Oper),ops[i]? =some o→∃xo:XOper,xl[i]? =some xo∧compOper P gl nt ops o=some xo) (hfl:∀x∈xl,flatX x.op=true) (hn:xl.length=ops.size)
  (hb:edgesBack 0 ops.toList=true) (hcom:∀i j,i<j→j<xl.length→Nat.testBit ((rowsOf ops.toList []).getD j 0) i=false→Com ops xl R Z i j)
  (hC:COk P gl C) {W0:World} {N0:Nat} {φ0:Loc} {w0:World} {Q:Exit→Go.Act→World→Prop}
  (hQ:∀φ a' w,DSt gl nt xl a s A Z R W0 N0 φ0 w0 (fun _=>true) φ a' w→Q .normal a' w):
  ∀(fuel:Nat) (listed:Array Bool) (a':Go.Act) (w:World),listed.size=ops.size→left (fun j=>listed.getD j false) ops.size=fuel→
   (∀(j:Nat) (o:Oper),ops[j]? =some o→listed.getD j false=true→∀e∈o.after.toList,Region.binds .any e=true→listed.getD e.on false=true)→
   (∃φ,DSt gl nt xl a s A Z R W0 N0 φ0 w0 (fun j=>listed.getD j false) φ a' w)→wpAny P .any ops Q fuel listed a' w:=by
 have done:∀(listed:Array Bool) (a':Go.Act) (w:World),(∀j,j<ops.size→listed.getD j false=true)→(∃φ,DSt gl nt xl a s A Z R W0 N0 φ0 w0 (fun j=>listed.getD j false) φ a' w)→Q .normal a' w:=by
  rintro listed a' w hall ⟨φ,D⟩
  have hT:∀B:Nat→Bool,(∀j,j<xl.length→B j=true)→MT A xl B=fun u=>(A xl.length).ev (.tmp u):=fun B hB=>funext fun u=>mix_all (fun j hj h=>t.frameT hj h) hB
  have hH:∀B:Nat→Bool,(∀j,j<xl.length→B j=true)→MH Z R xl B=(Z xl.length).get:=fun B hB=>funext fun u=>mix_all (X:=fun i=>(Z i).get) (fun j hj h=>t.frame hj h) hB
  have hall':∀j,j<xl.length→(fun j=>listed.getD j false) j=true:=fun j hj=>hall j (by omega)
  refine hQ φ a' w ⟨D.size,fun u=> ?_,D.df,?_,fun k h1 h2 h3=> ?_,D.glob,D.good,?_⟩
  ·rw [hT _ (fun _ _=>rfl),←hT _ hall'];exact D.tm u
  ·rw [hH _ (fun _ _=>rfl),←hH _ hall'];exact D.rel
  ·obtain ⟨j,hj,_,h⟩:=D.free k h1 h2 h3;exact ⟨j,hj,rfl,h⟩
  ·rw [hH _ (fun _ _=>rfl),←hH _ hall'];exact D.stp
 have ready_nil:∀listed:Array Bool,(∀j,j<ops.size→listed.getD j false=true)→listed.size=ops.size→Region.ready .any ops listed=[]:=by
  intro listed hall hs
  rw [List.eq_nil_iff_forall_not_mem]
  intro j hj
  rw [mem_ready] at hj
  obtain ⟨h1,o,ho,_⟩:=hj
  have hlt:j<ops.size:=(Array.getElem?_eq_some_iff.1 ho).1
  have:=hall j hlt
  simp [hs,hlt] at h1 this
  rw [h1] at this;cases this
 intro fuel
 induction fuel with
 |zero=>
  intro listed a' w hs hf hcl hD
  have hall:=left_zero hf
  exact ⟨ready_nil listed hall hs,done listed a' w hall hD⟩
 |succ fuel ih=>
  intro listed a' w hs hf hcl hD
  refine ⟨fun hnil=>done listed a' w (fun j hj=> ?_) hD,fun i hi=> ?_⟩
  ·-- the least that is not done could be done
   have key:∀m,m≤ops.size→∀j,j<m→listed.getD j false=true:=by
    intro m
    induction m with
    |zero=>intro _ j h;omega
    |succ m ihm=>
     intro hm j hj
     by_cases e:j<m
     ·exact ihm (by omega) j e
     ·obtain rfl:j=m:=by omega
      cases hb2:listed.getD j false with
      |true=>rfl
      |false=>
       exfalso
       have hjl:j<ops.size:=by omega
       have ho:ops[j]? =some ops[j]:=by simp [hjl]
       have:j∈Region.ready .any ops listed:=by
        rw [mem_ready]
        refine ⟨?_,ops[j],ho,fun e he hbe=> ?_⟩
        ·have h2:listed.getD j true=listed.getD j false:=by simp [hs,hjl]
         rw [h2];exact hb2
        ·have:=edgesBack_get ops.toList 0 hb j ops[j] (by simp [hjl]) e (by simpa using he) hbe
         exact ihm (by omega) e.on (by omega)
       rw [hnil] at this;cases this
   exact key ops.size (Nat.le_refl _) j hj
  ·rw [mem_ready] at hi
   obtain ⟨hi1,o,ho,hdeps⟩:=hi
   have hlt:i<ops.size:=(Array.getElem?_eq_some_iff.1 ho).1
   have hB:listed.getD i false=false:=by
    have h2:listed.getD i true=listed.getD i false:=by simp [hs,hlt]
    rw [←h2];exact hi1
   obtain ⟨φ,D⟩:=hD
   have hset:(fun j=>(listed.setIfInBounds i true).getD j false)=setS (fun j=>listed.getD j false) i:=by
    funext j
    simp only [setS]
    by_cases e:j=i
    ·subst e;simp [hs,hlt]
    ·rw [if_neg e]
     have:=getD_set_ne (listed:=listed) (i:=i) (j:=j) false (Ne.symm e)
     exact this
   refine draw_step t hG hd hc hfl hC D ho hB (fun j hj hne h1 h2=> ?_) (fun ψ a'' w'' D'=> ?_)
   ·rcases Nat.lt_or_gt_of_ne hne with h|h
    ·refine (hcom j i h (by omega) ?_).symm
     cases hbit:Nat.testBit ((rowsOf ops.toList []).getD i 0) j with
     |false=>rfl
     |true=>
      have:=anc_done hb (B:=fun j=>listed.getD j false) hcl i o ho (fun e he hbe=>hdeps e (by simpa using he) hbe) j hbit
      rw [h1 h] at this;cases this
    ·refine hcom i j h hj ?_
     cases hbit:Nat.testBit ((rowsOf ops.toList []).getD j 0) i with
     |false=>rfl
     |true=>
      have ho':ops[j]? =some ops[j]:=by simp [show j<ops.size by omega]
      have:=anc_done hb (B:=fun j=>listed.getD j false) hcl j _ ho' (hcl j _ ho' (h2 h)) i hbit
      rw [hB] at this;cases this
   ·refine ih _ a'' w'' (by simp [hs]) ?_ ?_ ⟨ψ,by rw [hset];exact D'⟩
    ·rw [hset]
     have:=left_setS (fun j=>listed.getD j false) hB ops.size hlt
     omega
    ·intro j o' ho' hj e he hbe
     have hj':setS (fun j=>listed.getD j false) i j=true:=by rw [←hset];exact hj
     have key:listed.getD e.on false=true→(listed.setIfInBounds i true).getD e.on false=true:=fun h=>by
      have:setS (fun j=>listed.getD j false) i e.on=true:=by
       simp only [setS]
       split
       ·rfl
       ·exact h
      rw [←hset] at this;exact this
     by_cases e1:j=i
     ·subst e1
      rw [ho] at ho';cases ho'
      exact key (hdeps e (by simpa using he) hbe)
     ·simp only [setS,if_neg e1] at hj'
      exact key (hcl j o' ho' hj' e he hbe)
theorem draw_sound (hC:COk P gl C) (hG:CGoes C) (hm:P.follows .mixedOrders=true) {id:Nat} (hx:compOpers P gl nt ops ops.toList=some xl) {xc:XCode} (hcd:compDraw ops xl=some xc) {n:Nat}
  {φ:Loc} {a:Act} {s:AS} {e:Ex} {a1:Act} {s1:AS} (h:xcode C n xc a s=some (e,a1,s1)) {a':Go.Act} {w:World} {W0:World} {N0:Nat} {Q:Exit→Go.Act→World→Prop}
  (ht:TRel nt φ a a') (hi:Inv gl W0 N0 φ s w) (hf:Fr φ s.next s1.next) (haft:Aft gl W0 N0 nt φ s w e a1 s1 Q):(Code.region id ops true).wp P Q a' w:=by
 unfold compDraw at hcd
 split at hcd
 ·rename_i hcond
  cases hcd
  simp only [Bool.and_eq_true,List.all_eq_true] at hcond
  obtain ⟨hpairs,hedges,hokx⟩:=hcond
  simp only [xcode] at h
  split at h
  ·rename_i a2 s2 l hops
   split at h
   ·rename_i hpok
    cases h
    obtain ⟨A,Z,V,R,t,hA,hZ,hl⟩:=xopsD_trace xl a s [] a1 s1 l hops
    rw [List.reverse_nil,List.nil_append] at hl
    obtain ⟨hlen,hget⟩:=compOpers_get hx
    have hn:xl.length=ops.size:=by rw [hlen];simp
    have hc:∀(i:Nat) (o:Oper),ops[i]? =some o→∃xo:XOper,xl[i]? =some xo∧compOper P gl nt ops o=some xo:=fun i o ho=>hget i o (by simpa using ho)
    have hfl:∀x∈xl,flatX x.op=true:=fun x hx=>by have:=hokx x hx;simp only [okX,Bool.and_eq_true] at this;exact this.1
    have hbad:∀x∈xl,clsX x.op≠.bad:=fun x hx e=>by have:=hokx x hx;simp only [okX,e,Bool.and_eq_true] at this;cases this.2
    have hcom:∀i j,i<j→j<xl.length→Nat.testBit ((rowsOf ops.toList []).getD j 0) i=false→Com ops xl R Z i j:=by
     intro i j hij hj hbit
     have hmem:=unordered_mem (n:=xl.length) hij hj hbit
     have hok:=hpairs (i,j) hmem
     unfold okPair at hok
     split at hok
     ·rename_i oi oj xi xj hoi hoj hxi hxj
      simp only at hoi hoj hxi hxj
      simp only [Bool.and_eq_true] at hok
      obtain ⟨hap,hne⟩:=hok
      obtain ⟨p1,p2,p3⟩:=Go.Oper.apart_spec hap
      cases hb:pairNeeds (clsX xi.op) (clsX xj.op) with
      |none=>rw [hb] at hne;cases hne
      |some b=>
       have hdyn:b=true→pairOk (R i) (R j)=true:=by
        rintro rfl
        have hm2:(i,j)∈(unordered (rowsOf ops.toList []) xl.length).filter (needPair xl):=by
         refine List.mem_filter.2 ⟨hmem,?_⟩
         simp only [needPair,hxi,hxj,hb]
        obtain ⟨x,y,h1,h2,h3⟩:=pairsOk_spec l _ hpok i j hm2
        rw [hl] at h1 h2
        rw [List.getElem?_map,List.getElem?_range (by omega)] at h1
        rw [List.getElem?_map,List.getElem?_range (by omega)] at h2
        cases h1;cases h2
        exact h3
       obtain ⟨hh1,hh2⟩:=com_heap t hG hi.dm hij hj hxi hxj hb hdyn (hbad xi (List.mem_of_getElem? hxi)) (hbad xj (List.mem_of_getElem? hxj))
       have dsti:xi.dst=oi.dst:=by
        obtain ⟨y,hy,hco⟩:=hc i oi hoi
        rw [hxi] at hy;cases hy
        exact (compOper_parts hco).2.2.1
       have dstj:xj.dst=oj.dst:=by
        obtain ⟨y,hy,hco⟩:=hc j oj hoj
        rw [hxj] at hy;cases hy
        exact (compOper_parts hco).2.2.1
       refine ⟨fun u hw=>⟨fun hl=> ?_,fun hw2=> ?_⟩,fun u hw hl=> ?_,hh1,hh2⟩
       ·obtain ⟨y,hy,hyd⟩:=hw
        rw [hxi] at hy;cases hy
        obtain ⟨o,ho,hlo⟩:=hl
        rw [hoj] at ho;cases ho
        exact p1 u (by rw [←dsti];exact hyd) hlo
       ·obtain ⟨y,hy,hyd⟩:=hw
        rw [hxi] at hy;cases hy
        obtain ⟨z,hz,hzd⟩:=hw2
        rw [hxj] at hz;cases hz
        exact p2 u (by rw [←dsti];exact hyd) (by rw [←dstj];exact hzd)
       ·obtain ⟨y,hy,hyd⟩:=hw
        rw [hxj] at hy;cases hy
        obtain ⟨o,ho,hlo⟩:=hl
        rw [hoi] at ho;cases ho
        exact p3 u (by rw [←dstj];exact hyd) hlo
     ·cases hok
    have hdr:Drawn w { w with drawn:=w.drawn+1 }:=⟨rfl,rfl,rfl,rfl⟩
    have hMT0:MT A xl (fun _=>false)=fun u=>a.ev (.tmp u):=funext fun u=>by
     unfold MT;rw [mix_none xl.length (fun _ _=>rfl),t.a0]
    have hMH0:MH Z R xl (fun _=>false)=s.get:=by
     unfold MH;funext u;rw [mix_none xl.length (fun _ _=>rfl),t.s0]
    have hMT1:MT A xl (fun _=>true)=fun u=>a1.ev (.tmp u):=funext fun u=>by
     rw [←hA];exact mix_all (fun j hj h=>t.frameT hj h) (fun _ _=>rfl)
    have hMH1:MH Z R xl (fun _=>true)=s1.get:=funext fun u=>by
     rw [←hZ];exact mix_all (X:=fun i=>(Z i).get) (fun j hj h=>t.frame hj h) (fun _ _=>rfl)
    have hgo:=xopsD_goes hG xl _ _ _ _ _ _ hops hi.dm
    have hdf:a1.df=a.df:=by
     have:∀m,m≤xl.length→(A m).df=a.df:=by
      intro m
      induction m with
      |zero=>intro _;rw [t.a0]
      |succ m ih=>
       intro hm
       obtain ⟨_,h2⟩:=t.step m xl[m] (by simp [show m<xl.length by omega])
       rw [h2,←ih (by omega)]
       cases xl[m].dst<;>rfl
     rw [←hA];exact this _ (Nat.le_refl _)
    refine wp_region_any hm (draws t hG hi.dm hc hfl hn hedges hcom hC (W0:=W0) (N0:=N0) (φ0:=φ) (w0:=w) (fun ψ a'' w'' D=> ?_) ops.size _ _ _ (by simp) ?_ ?_ ⟨φ,?_⟩)
    ·have hrel:=D.rel
     rw [hMH1] at hrel
     have hst:=D.stp
     rw [hMH1,hZ] at hst
     exact haft ψ a'' w'' ⟨D.size,fun u=>by have:=D.tm u;rw [hMT1] at this;exact this,by rw [hdf];exact D.df⟩ ⟨hrel,hgo.1,D.glob,D.good⟩ hst
    ·have:(fun j=>(Array.replicate ops.size false).getD j false)=fun _=>false:=funext fun j=>by
      by_cases h:j<ops.size<;>simp [h]
     rw [this,left_none]
    ·intro j o ho hj
     by_cases h:j<ops.size<;>simp [h] at hj
    ·have:(fun j=>(Array.replicate ops.size false).getD j false)=fun _=>false:=funext fun j=>by
      by_cases h:j<ops.size<;>simp [h]
     rw [this]
     refine ⟨ht.size,fun u=>by rw [hMT0];exact ht.tm u,ht.df,by rw [hMH0];exact hi.rel.drawn hdr,fun k h1 h2 h3=> ?_,hi.glob,hi.good,?_⟩
     ·rw [hZ] at h2
      exact absurd (hf k h1 h2) h3
     ·rw [hMH0,hZ]
      exact ((Stp.refl φ s.get w s.next).drawn hdr).widen (Nat.le_refl _) hgo.2.next
   ·cases h
  ·cases h
 ·cases hcd
end
end Go.Xe
end
section
namespace Go.Xe
open Go
section
variable (P:Program) (gl:Glb)
def compCode (nt:Nat):Code→Option XCode
 |.skip=>some .skip
 |.region _ ops draw=>match compOpers P gl nt ops ops.toList with
  |some xl=>match draw with
   |true=>compDraw ops xl
   |false=>some (.region xl)
  |none=>none
 |.seq x y=>match compCode nt x,compCode nt y with
  |some a,some b=>some (.seq a b)
  |_,_=>none
 |.cond c x y=>match okOpnd gl c,compCode nt x,compCode nt y with
  |true,some a,some b=>some (.cond c a b)
  |_,_,_=>none
 |.block id c=>match compCode nt c with
  |some a=>some (.block id a)
  |none=>none
 |.loop c=>match compCode nt c with
  |some a=>some (.loop a)
  |none=>none
 |.exit id=>some (.exit id)
 |.ret=>some .ret
 |_=>none
def compRes:ResultVar→Option XRes
 |.tmp t=>some (.tmp t)
 |.cell a t=>match aggT P t,sizeT P t with
  |some true,some n=>some (.cellN a n)
  |some false,some 1=>some (.cell1 a)
  |_,_=>none
def compRess:List ResultVar→Option (List XRes)
 |[]=>some []
 |r::l=>match compRes P r,compRess l with
  |some x,some y=>some (x::y)
  |_,_=>none
def compFun (fn:Func):Option XFun:=
 match fn.body with
 |none=>none
 | some c => match compCode P gl fn.ntmps c, compRess P fn.results.toList, fn.name == "runtime.NumGoroutine" with
  |some xc,some rs,false=>some ⟨fn.ntmps,rs,xc⟩
  |_,_,_=>none
end
section
variable {P:Program} {gl:Glb} {W0:World} {N0:Nat} {nt:Nat} {C:Callee}
theorem op_sound (hC:COk P gl C) (hG:CGoes C) {ops:Array Oper} {o:Oper} {xo:XOper} (ho:compOper P gl nt ops o=some xo) {φ:Loc} {a:Act} {s:AS} {e:Ex} {a1:Act} {s1:AS} (hw:wantedX a xo.guard=true)
  (h:xops C [xo] a s=some (e,a1,s1)) {a':Go.Act} {w:World} {K:Go.Act→World→Prop} {Q:Exit→Go.Act→World→Prop} (ht:TRel nt φ a a') (hi:Inv gl W0 N0 φ s w) (hfr:Fr φ s.next s1.next)
  (hK:e=.normal→∀ψ a'' w'',TRel nt ψ a1 a''→Inv gl W0 N0 ψ s1 w''→Stp φ s.get w ψ s1.get w'' s.next s1.next→K a'' w'')
  (hQ:∀v,e=.panic v→∀ψ v' a'' w'',TRel nt ψ a1 a''→VRel ψ v v'→Inv gl W0 N0 ψ s1 w''→Stp φ s.get w ψ s1.get w'' s.next s1.next→Q (.panic [{ v:=v',recovered:=false }]) a'' w''):o.wp P a' w K Q:=by
 obtain ⟨hx,hg,hd,hok,hdst⟩:=compOper_parts ho
 rw [←hd] at hdst
 unfold xops at h
 rw [hw] at h
 simp only at h
 split at h
 ·rename_i f args hop
  split at h
  ·rename_i v s2 hcall
   simp only [xops] at h;cases h
   refine call_in hC hG ho hi ht (.inl ⟨args,hop,rfl⟩) hcall hfr ?_ (fun v' h=>by cases h)
   rintro v2 hv2 ψ v' w' hv hi' hs'
   cases hv2
   rw [←hd]
   exact hK rfl ψ _ w' ((ht.mono hs'.le).put hdst hv) hi' hs'
  ·rename_i v s2 hcall
   cases h
   refine call_in hC hG ho hi ht (.inl ⟨args,hop,rfl⟩) hcall hfr (fun v' h=>by cases h) ?_
   rintro v2 hv2 ψ v' w' hv hi' hs'
   cases hv2
   exact hQ v rfl ψ v' a' w' (ht.mono hs'.le) hv hi' hs'
  ·cases h
 ·rename_i x args hop
  split at h
  ·rename_i f la htar
   split at h
   ·rename_i v s2 hcall
    simp only [xops] at h;cases h
    refine call_in hC hG ho hi ht (.inr ⟨x,args,hop,htar⟩) hcall hfr ?_ (fun v' h=>by cases h)
    rintro v2 hv2 ψ v' w' hv hi' hs'
    cases hv2
    rw [←hd]
    exact hK rfl ψ _ w' ((ht.mono hs'.le).put hdst hv) hi' hs'
   ·rename_i v s2 hcall
    cases h
    refine call_in hC hG ho hi ht (.inr ⟨x,args,hop,htar⟩) hcall hfr (fun v' h=>by cases h) ?_
    rintro v2 hv2 ψ v' w' hv hi' hs'
    cases hv2
    exact hQ v rfl ψ v' a' w' (ht.mono hs'.le) hv hi' hs'
   ·cases h
  ·cases h
 ·rename_i x hop
  split at h
  ·rename_i t v hv
   cases h
   rw [hop] at hx
   have hop2:=special_panic (compX_special hx rfl)
   have hxv:=ht.eval hi (hok x (by rw [hop2];simp [Op.operands]))
   rw [hv] at hxv
   unfold Go.Oper.wp
   cases hq:a'.eval x<;>rw [hq] at hxv<;>cases hxv
   rename_i v' hv'
   have:(execOp a'.eval o).run P w=.halt (.panic (.iface t v')) w:=by
    simp only [execOp,hop2,hq,Instr.panic];rfl
   rw [this]
   exact hQ _ rfl φ _ a' w ht (.iface t hv') hi (Stp.refl _ _ _ _)
  ·cases h
 ·rename_i x args hop
  split at h
  ·rename_i f la htar
   simp only [xops] at h;cases h
   rw [hop] at hx
   obtain ⟨c,hop2,hcc,rfl⟩:=special_defer (compX_special hx rfl)
   have hvs:=VRels.of_ops hi ht (l:=c.args.toList) fun x hx=>hok x (by rw [hop2];simp [Op.operands,Call.operands,hcc];right;simpa using hx)
   have hxv:=ht.eval hi (hok x (by rw [hop2];simp [Op.operands,Call.operands,hcc]))
   obtain ⟨first,cap,e1,e2⟩:=target_of hxv hvs htar
   unfold Go.Oper.wp
   rw [defer_run hop2 hcc e1]
   rw [Go.Oper.upon_defer,←hd]
   exact hK rfl φ _ w (TRel.put (a:=⟨a.tm,⟨f,la⟩::a.df⟩) (a':={ a' with defers:={ target:=.fn (.func f) cap,args:=first++c.args.map a'.eval }::a'.defers }) ⟨ht.size,ht.tm,⟨⟨cap,rfl,by simpa using e2⟩,ht.df⟩⟩ hdst (VRel.undef φ)) hi (Stp.refl _ _ _ _)
  ·cases h
 ·rename_i h1 h2 h3 h4
  split at h
  ·rename_i p hp
   simp only [xops] at h;cases h
   have hpr:isPrim xo.op=true:=by
    cases hq:xo.op<;>first|rfl|exact absurd hq (h1 _ _)|exact absurd hq (h2 _ _)|exact absurd hq (h3 _)|exact absurd hq (h4 _ _)|(rw [hq] at hp;simp only [xprim] at hp;cases hp)
   obtain ⟨ψ,w',v',hrun,ht',hi',hs'⟩:=prim_in ho hpr hi ht hp hfr
   exact Oper.wp_value hrun (hK rfl ψ _ w' ht' hi' hs')
  ·cases h
theorem code_sound (hm:P.follows .mixedOrders=true) (hC:COk P gl C) (hG:CGoes C) (n:Nat):∀(c:Code) (xc:XCode),compCode P gl nt c=some xc→∀(φ:Loc) (a:Act) (s:AS) (e:Ex) (a1:Act) (s1:AS),xcode C n xc a s=some (e,a1,s1)→
  ∀(a':Go.Act) (w:World) (Q:Exit→Go.Act→World→Prop),TRel nt φ a a'→Inv gl W0 N0 φ s w→Fr φ s.next s1.next→Aft gl W0 N0 nt φ s w e a1 s1 Q→c.wp P Q a' w
 |.skip,xc,hc,φ,a,s,e,a1,s1,h,a',w,Q,ht,hi,hf,haft=>by
  simp only [compCode] at hc;cases hc
  simp only [xcode] at h;cases h
  exact wp_skip (haft φ a' w ht hi (Stp.refl _ _ _ _))
 |.region id ops draw,xc,hc,φ,a,s,e,a1,s1,h,a',w,Q,ht,hi,hf,haft=>by
  simp only [compCode] at hc
  split at hc
  ·rename_i xl hx
   split at hc
   ·exact draw_sound hC hG hm hx hc h ht hi hf haft
   ·cases hc
    simp only [xcode] at h
    exact wp_region_list (ops_sound hC hG ops.toList xl hx φ a s e a1 s1 h a' w Q ht hi hf haft)
  ·cases hc
 |.seq x y,xc,hc,φ,a,s,e,a1,s1,h,a',w,Q,ht,hi,hf,haft=>by
  simp only [compCode] at hc
  split at hc
  ·rename_i xa xb h1 h2
   cases hc
   simp only [xcode] at h
   split at h
   ·rename_i a2 s2 hr
    have g1:=xcode_goes hG n _ _ _ _ _ _ hr hi.dm
    have g2:=xcode_goes hG n _ _ _ _ _ _ h g1.1
    refine wp_seq (code_sound hm hC hG n x xa h1 φ a s _ a2 s2 hr a' w _ ht hi (hf.le g2.2.next) ?_)
    intro ψ a'' w'' ht' hi' hs'
    exact code_sound hm hC hG n y xb h2 ψ a2 s2 e a1 s1 h a'' w'' Q ht' hi' (hf.step hs' g1.2.next) (haft.step hs' g1.2.next g2.2.next)
   ·rename_i hr
    refine wp_seq (code_sound hm hC hG n x xa h1 φ a s e a1 s1 h a' w _ ht hi hf ?_)
    intro ψ a'' w'' ht' hi' hs'
    have:=haft ψ a'' w'' ht' hi' hs'
    cases e with
    |normal=>exact absurd h (hr _ _)
    |exit k=>exact this
    |ret=>exact this
    |panic v=>exact this
  ·cases hc
 |.cond c x y,xc,hc,φ,a,s,e,a1,s1,h,a',w,Q,ht,hi,hf,haft=>by
  simp only [compCode] at hc
  split at hc
  ·rename_i xa xb h0 h1 h2
   cases hc
   simp only [xcode] at h
   have hcv:=ht.eval hi h0
   split at h
   ·rename_i hv
    rw [hv] at hcv
    have e1:a'.eval c=.bool true:=by cases hq:a'.eval c<;>rw [hq] at hcv<;>cases hcv;rfl
    exact wp_cond_true e1 (code_sound hm hC hG n x xa h1 φ a s e a1 s1 h a' w Q ht hi hf haft)
   ·rename_i hv
    rw [hv] at hcv
    have e1:a'.eval c=.bool false:=by cases hq:a'.eval c<;>rw [hq] at hcv<;>cases hcv;rfl
    exact wp_cond_false e1 (code_sound hm hC hG n y xb h2 φ a s e a1 s1 h a' w Q ht hi hf haft)
   ·cases h
  ·cases hc
 |.block id c,xc,hc,φ,a,s,e,a1,s1,h,a',w,Q,ht,hi,hf,haft=>by
  simp only [compCode] at hc
  split at hc
  ·rename_i xa h1
   cases hc
   simp only [xcode] at h
   split at h
   ·rename_i k a2 s2 hr
    split at h
    ·rename_i hk
     rw [beqNat] at hk
     obtain rfl:=of_decide_eq_true hk
     cases h
     refine wp_block (code_sound hm hC hG n c xa h1 φ a s _ a1 s1 hr a' w _ ht hi hf ?_)
     intro ψ a'' w'' ht' hi' hs'
     have:=haft ψ a'' w'' ht' hi' hs'
     simp only [exQ,Exit.inBlock,if_true]
     exact this
    ·rename_i hk
     rw [beqNat] at hk
     have hk:=of_decide_eq_false hk
     cases h
     refine wp_block (code_sound hm hC hG n c xa h1 φ a s _ a1 s1 hr a' w _ ht hi hf ?_)
     intro ψ a'' w'' ht' hi' hs'
     have:=haft ψ a'' w'' ht' hi' hs'
     simp only [exQ,Exit.inBlock,if_neg hk]
     exact this
   ·rename_i hr
    refine wp_block (code_sound hm hC hG n c xa h1 φ a s e a1 s1 h a' w _ ht hi hf ?_)
    intro ψ a'' w'' ht' hi' hs'
    have:=haft ψ a'' w'' ht' hi' hs'
    cases e with
    |normal=>exact this
    |exit k=>exact absurd h (hr _ _ _)
    |ret=>exact this
    |panic v=>exact this
  ·cases hc
 |.loop c,xc,hc,φ,a,s,e,a1,s1,h,a',w,Q,ht,hi,hf,haft=>by
  simp only [compCode] at hc
  split at hc
  ·rename_i xa h1
   cases hc
   simp only [xcode] at h
   refine wp_loop_rounds n ?_
   have key:∀(m:Nat) (φ:Loc) (a:Act) (s:AS) (a':Go.Act) (w:World),xloop (xcode C n xa) m a s=some (e,a1,s1)→TRel nt φ a a'→Inv gl W0 N0 φ s w→Fr φ s.next s1.next→Aft gl W0 N0 nt φ s w e a1 s1 Q→Code.rounds P c Q m a' w:=by
    intro m
    induction m with
    |zero=>intro φ a s a' w h;simp only [xloop] at h;cases h
    |succ m ih=>
     intro φ a s a' w h ht hi hf haft
     simp only [xloop] at h
     rw [rounds_succ]
     split at h
     ·rename_i a2 s2 hr
      have g1:=xcode_goes hG n _ _ _ _ _ _ hr hi.dm
      have g2:=xloop_goes hG (fun a s e a1 s1 h=>xcode_goes hG n _ _ _ _ _ _ h) m _ _ _ _ _ h g1.1
      refine code_sound hm hC hG n c xa h1 φ a s _ a2 s2 hr a' w _ ht hi (hf.le g2.2.next) ?_
      intro ψ a'' w'' ht' hi' hs'
      exact ih ψ a2 s2 a'' w'' h ht' hi' (hf.step hs' g1.2.next) (haft.step hs' g1.2.next g2.2.next)
     ·rename_i hr
      refine code_sound hm hC hG n c xa h1 φ a s e a1 s1 h a' w _ ht hi hf ?_
      intro ψ a'' w'' ht' hi' hs'
      have:=haft ψ a'' w'' ht' hi' hs'
      cases e with
      |normal=>exact absurd h (hr _ _)
      |exit k=>exact this
      |ret=>exact this
      |panic v=>exact this
   exact key n φ a s a' w h ht hi hf haft
  ·cases hc
 |.exit id,xc,hc,φ,a,s,e,a1,s1,h,a',w,Q,ht,hi,hf,haft=>by
  simp only [compCode] at hc;cases hc
  simp only [xcode] at h;cases h
  exact wp_exit (haft φ a' w ht hi (Stp.refl _ _ _ _))
 |.ret,xc,hc,φ,a,s,e,a1,s1,h,a',w,Q,ht,hi,hf,haft=>by
  simp only [compCode] at hc;cases hc
  simp only [xcode] at h;cases h
  exact wp_ret (haft φ a' w ht hi (Stp.refl _ _ _ _))
 |.rangeFunc _ _ _ _,xc,hc,_,_,_,_,_,_,_,_,_,_,_,_,_,_=>by simp only [compCode] at hc;cases hc
 |.scope _,xc,hc,_,_,_,_,_,_,_,_,_,_,_,_,_,_=>by simp only [compCode] at hc;cases hc
 |.label _,xc,hc,_,_,_,_,_,_,_,_,_,_,_,_,_,_=>by simp only [compCode] at hc;cases hc
 |.goto _,xc,hc,_,_,_,_,_,_,_,_,_,_,_,_,_,_=>by simp only [compCode] at hc;cases hc
 |.refuse _,xc,hc,_,_,_,_,_,_,_,_,_,_,_,_,_,_=>by simp only [compCode] at hc;cases hc
end
end Go.Xe
end
section
namespace Go.Xe
open Go
section
variable {P:Program} {gl:Glb} {W0:World} {N0:Nat} {nt:Nat} {C:Callee}
theorem wpS_block {id:Nat} {c:Code} {Q:Exit→Go.Act→List Frame→World→Prop} {a:Go.Act} {cs:List Frame} {w:World}
  (h:c.wpS P (fun e a cs w=>match e with|.exit id'=>(if id'=id then Q .normal a cs w else Q (.exit id') a cs w)|e=>Q e a cs w) a cs w):(Code.block id c).wpS P Q a cs w:=by
 intro b k hb hr
 obtain ⟨e,a₁,cs₁,w₁,hq,harr⟩:=h b (.inBlock id::k) hb hr
 cases e with
 |normal=>exact ⟨.normal,a₁,cs₁,w₁,hq,.head step_block (Steps.trans harr (.one step_inBlock))⟩
 |exit id'=>
  by_cases hid:id'=id
  ·simp only [hid,if_true] at hq
   exact ⟨.normal,a₁,cs₁,w₁,hq,.head step_block (harr k (by simp [exitTo,hid]))⟩
  ·simp only [hid,if_false] at hq
   refine ⟨.exit id',a₁,cs₁,w₁,hq,fun k' hk=>.head step_block (harr k' ?_)⟩
   have:(id==id')=false:=by simp;exact fun h=>hid h.symm
   simp [exitTo,this,hk]
 |goto l=>exact ⟨_,a₁,cs₁,w₁,hq,fun k' hk=>.head step_block (harr k' (by simp [gotoIn,hk]))⟩
 |ret=>exact ⟨_,a₁,cs₁,w₁,hq,.of_steps (.one step_block) harr⟩
 |panic ch=>exact ⟨_,a₁,cs₁,w₁,hq,.of_steps (.one step_block) harr⟩
 |outgrown=>exact ⟨_,a₁,cs₁,w₁,hq,.of_steps (b:=b) (k:=k) (cs:=cs₁) (e:=.outgrown) (.one step_block) harr⟩
def MRel (φ:Loc):Mode→FrameMode→Prop
 |.ret,u=>u=.returning
 |.panicking v,u=>∃v',u=.panicking [{ v:=v',recovered:=false }]∧VRel φ v v'
 |.recovered,u=>∃v',u=.panicking [{ v:=v',recovered:=true }]
theorem MRel.mono {φ ψ:Loc} (h:φ.le ψ) {m:Mode} {u:FrameMode} (r:MRel φ m u):MRel ψ m u:=by
 cases m with
 |ret=>exact r
 |panicking v=>obtain ⟨v',h1,h2⟩:=r;exact ⟨v',h1,h2.mono h⟩
 |recovered=>exact r
def exS (Q:Exit→Go.Act→List Frame→World→Prop) (φ:Loc):Ex→Go.Act→List Frame→World→Prop
 |.normal,a,cs,w=>Q .normal a cs w
 |.exit id,a,cs,w=>Q (.exit id) a cs w
 |.ret,a,cs,w=>Q .ret a cs w
 |.panic v,a,cs,w=>∀v',VRel φ v v'→Q (.panic [{ v:=v',recovered:=false }]) a cs w
def AftS (gl:Glb) (W0:World) (N0:Nat) (nt:Nat) (c₀:Frame) (cs:List Frame) (φ:Loc) (s:AS) (w:World) (e:Ex) (a1:Act) (s1:AS) (m1:Mode) (Q:Exit→Go.Act→List Frame→World→Prop):Prop:=
 ∀ψ a' w' u',TRel nt ψ a1 a'→Inv gl W0 N0 ψ s1 w'→Stp φ s.get w ψ s1.get w' s.next s1.next→MRel ψ m1 u'→exS Q ψ e a' ({ c₀ with mode:=u' }::cs) w'
theorem AftS.step {c₀:Frame} {cs:List Frame} {φ ψ:Loc} {e:Ex} {a1:Act} {s s1 s2:AS} {m:Mode} {w w1:World} {Q:Exit→Go.Act→List Frame→World→Prop} (h:AftS gl W0 N0 nt c₀ cs φ s w e a1 s2 m Q) (st:Stp φ s.get w ψ s1.get w1 s.next s1.next) (h1:s.next≤s1.next) (h2:s1.next≤s2.next):
  AftS gl W0 N0 nt c₀ cs ψ s1 w1 e a1 s2 m Q:=
 fun χ a' w' u' ht hi hs hm=>h χ a' w' u' ht hi (st.trans hs h1 h2) hm
theorem codeS_plain (hm:P.follows .mixedOrders=true) (hC:COk P gl C) (hG:CGoes C) (n:Nat) {c:Code} {xc:XCode} (hc:compCode P gl nt c=some xc) {φ:Loc} {a:Act} {s:AS} {e:Ex} {a1:Act} {s1:AS} (h:xcode C n xc a s=some (e,a1,s1))
  {c₀:Frame} {cs:List Frame} {m:Mode} {u:FrameMode} (hmr:MRel φ m u) {a':Go.Act} {w:World} {Q:Exit→Go.Act→List Frame→World→Prop} (ht:TRel nt φ a a') (hi:Inv gl W0 N0 φ s w) (hf:Fr φ s.next s1.next)
  (haft:AftS gl W0 N0 nt c₀ cs φ s w e a1 s1 m Q):c.wpS P Q a' ({ c₀ with mode:=u }::cs) w:=by
 refine wpS_of_wp (code_sound hm hC hG n c xc hc φ a s e a1 s1 h a' w _ ht hi hf ?_)
 intro ψ a'' w'' ht' hi' hs'
 have:=haft ψ a'' w'' u ht' hi' hs' (hmr.mono hs'.le)
 cases e<;>exact this
theorem wpOpsS_list {ops:Array Oper} {Q:Exit→Go.Act→List Frame→World→Prop} (hC:COk P gl C) (hG:CGoes C) {c₀:Frame} {cs:List Frame}:∀(l:List Oper) (xl:List XOper) (k:Nat),(∀j:Nat,l[j]? =ops[k+j]?)→compOpers P gl nt ops l=some xl→
  ∀(φ:Loc) (a:Act) (s:AS) (m:Mode) (e:Ex) (a1:Act) (s1:AS) (m1:Mode),xopsR C xl a s m=some (e,a1,s1,m1)→∀(a':Go.Act) (w:World) (u:FrameMode),TRel nt φ a a'→Inv gl W0 N0 φ s w→Fr φ s.next s1.next→MRel φ m u→
   AftS gl W0 N0 nt c₀ cs φ s w e a1 s1 m1 Q→wpOpsS P ops Q (List.range' k l.length) a' ({ c₀ with mode:=u }::cs) w:=by
 intro l
 induction l with
 |nil=>
  intro xl k hk hc φ a s m e a1 s1 m1 h a' w u ht hi hf hmr haft
  simp only [compOpers] at hc;cases hc
  simp only [xopsR] at h;cases h
  exact haft φ a' w u ht hi (Stp.refl _ _ _ _) hmr
 |cons o l ih=>
  intro xl k hk hc φ a s m e a1 s1 m1 h a' w u ht hi hf hmr haft
  simp only [compOpers] at hc
  split at hc
  ·rename_i xo xl ho hl
   cases hc
   obtain ⟨hx,hg,hd,hok,hdst⟩:=compOper_parts ho
   have h0:ops[k]? =some o:=by simpa using (hk 0).symm
   have hk':∀j:Nat,l[j]? =ops[k+1+j]? :=fun j=>by have:=hk (j+1);simpa [Nat.add_assoc,Nat.add_comm 1 j] using this
   simp only [List.length_cons,List.range'_succ,wpOpsS,h0]
   rw [wanted_of hg ht]
   have hdst':=hdst
   rw [←hd] at hdst'
   unfold xopsR at h
   split at h
   ·rename_i hw
    rw [hw]
    simp only [Bool.false_eq_true,if_false]
    rw [←hd]
    exact ih xl (k+1) hk' hl φ _ s m e a1 s1 m1 h _ w u (ht.put hdst' (VRel.undef φ)) hi hf hmr haft
   ·rename_i hw
    rw [hw]
    simp only [if_true]
    split at h
    ·-- recover
     rename_i hop
     rw [hop] at hx
     obtain ⟨c,hop2,hcc,hca⟩:=special_recover (compX_special hx rfl)
     have hrun:(execOp a'.eval o).run P w=.ok .recover w:=by
      simp only [execOp,hop2,resolve,hcc,Sem.run_bind,Sem.run_pure,Result.andThen_ok,invoke,builtin]
     rw [hrun]
     simp only
     split at h
     ·rename_i v
      obtain ⟨v',rfl,hv⟩:=hmr
      simp only [recoverD]
      rw [←hd]
      exact ih xl (k+1) hk' hl φ _ s _ e a1 s1 m1 h _ w (.panicking [{ v:=v',recovered:=true }]) (ht.put hdst' hv) hi hf ⟨v',rfl⟩ haft
     ·rename_i hnp
      have:recoverD ({ c₀ with mode:=u }::cs)=none:=by
       cases m with
       |ret=>cases hmr;rfl
       |panicking v=>exact absurd rfl (hnp v)
       |recovered=>obtain ⟨v',rfl⟩:=hmr;rfl
      rw [this]
      simp only
      rw [←hd]
      exact ih xl (k+1) hk' hl φ _ s m e a1 s1 m1 h _ w u (ht.put hdst' .nilIface) hi hf hmr haft
    ·-- another operation
     have toS:∀(K:Go.Act→World→Prop),o.wp P a' w K (fun e a' w'=>Q e a' ({ c₀ with mode:=u }::cs) w')→(∀a' w',K a' w'→wpOpsS P ops Q (List.range' (k+1) l.length) a' ({ c₀ with mode:=u }::cs) w')→
       (match (execOp a'.eval o).run P w with
        |.ok .recover w'=>
         match recoverD ({ c₀ with mode:=u }::cs) with
         |some (v,cs')=>wpOpsS P ops Q (List.range' (k+1) l.length) (a'.put o.dst v) cs' w'
         |none=>wpOpsS P ops Q (List.range' (k+1) l.length) (a'.put o.dst .nilIface) ({ c₀ with mode:=u }::cs) w'
        |r=>o.upon P a' (fun a' w'=>wpOpsS P ops Q (List.range' (k+1) l.length) a' ({ c₀ with mode:=u }::cs) w') (fun e a' w'=>Q e a' ({ c₀ with mode:=u }::cs) w') r):=by
      intro K hwp hKs
      have hwp2:=Go.Oper.wp_mono hKs hwp
      unfold Go.Oper.wp at hwp2
      split
      ·rename_i w2 hr
       rw [hr] at hwp2
       exact hwp2.elim
      ·exact hwp2
     split at h
     ·rename_i a2 s2 hr
      have g1:=xops_goes hG _ _ _ _ _ _ hr hi.dm
      have g2:=xopsR_goes hG _ _ _ _ _ _ _ _ h g1.1
      refine toS (fun a'' w''=>∃ψ,TRel nt ψ a2 a''∧Inv gl W0 N0 ψ s2 w''∧Stp φ s.get w ψ s2.get w'' s.next s2.next) (op_sound hC hG ho hw hr ht hi (hf.le g2.2.next) (fun _ ψ a'' w'' h1 h2 h3=>⟨ψ,h1,h2,h3⟩) (fun v hv=>by cases hv)) ?_
      rintro a'' w'' ⟨ψ,h1,h2,h3⟩
      exact ih xl (k+1) hk' hl ψ a2 s2 m e a1 s1 m1 h a'' w'' u h1 h2 (hf.step h3 g1.2.next) (hmr.mono h3.le) (haft.step h3 g1.2.next g2.2.next)
     ·rename_i e2 a2 s2 hne hr
      cases h
      refine toS (fun _ _=>False) (op_sound hC hG ho hw hr ht hi hf (fun he=>absurd he (by rintro rfl;exact hne rfl)) (fun v hv ψ v' a'' w'' h1 h2 h3 h4=> ?_)) (fun _ _ h=>h.elim)
      subst hv
      exact haft ψ a'' w'' u h1 h3 h4 (hmr.mono h4.le) v' h2
     ·cases h
  ·cases hc
theorem codeR_sound (hm:P.follows .mixedOrders=true) (hC:COk P gl C) (hG:CGoes C) (n:Nat) {c₀:Frame} {cs:List Frame}:∀(c:Code) (xc:XCode),compCode P gl nt c=some xc→∀(φ:Loc) (a:Act) (s:AS) (m:Mode) (e:Ex) (a1:Act) (s1:AS) (m1:Mode),
  xcodeR C n xc a s m=some (e,a1,s1,m1)→∀(a':Go.Act) (w:World) (u:FrameMode) (Q:Exit→Go.Act→List Frame→World→Prop),TRel nt φ a a'→Inv gl W0 N0 φ s w→Fr φ s.next s1.next→MRel φ m u→AftS gl W0 N0 nt c₀ cs φ s w e a1 s1 m1 Q→
   c.wpS P Q a' ({ c₀ with mode:=u }::cs) w
 |.skip,xc,hc,φ,a,s,m,e,a1,s1,m1,h,a',w,u,Q,ht,hi,hf,hmr,haft=>by
  have hc0:=hc
  simp only [compCode] at hc;cases hc
  simp only [xcodeR] at h
  split at h
  ·rename_i hr;cases h
   exact codeS_plain hm hC hG n hc0 hr hmr ht hi hf haft
  ·cases h
 |.region id ops draw,xc,hc,φ,a,s,m,e,a1,s1,m1,h,a',w,u,Q,ht,hi,hf,hmr,haft=>by
  have hc0:=hc
  simp only [compCode] at hc
  split at hc
  ·rename_i xl hx
   split at hc
   ·unfold compDraw at hc
    split at hc
    ·cases hc
     simp only [xcodeR] at h
     split at h
     ·rename_i hr;cases h
      exact codeS_plain hm hC hG n hc0 hr hmr ht hi hf haft
     ·cases h
    ·cases hc
   ·cases hc
    simp only [xcodeR] at h
    refine wpS_region ?_
    rw [List.range_eq_range',←Array.length_toList]
    exact wpOpsS_list hC hG ops.toList xl 0 (by simp) hx φ a s m e a1 s1 m1 h a' w u ht hi hf hmr haft
  ·cases hc
 |.seq x y,xc,hc,φ,a,s,m,e,a1,s1,m1,h,a',w,u,Q,ht,hi,hf,hmr,haft=>by
  simp only [compCode] at hc
  split at hc
  ·rename_i xa xb h1 h2
   cases hc
   simp only [xcodeR] at h
   split at h
   ·rename_i a2 s2 m2 hr
    have g1:=xcodeR_goes hG n _ _ _ _ _ _ _ _ hr hi.dm
    have g2:=xcodeR_goes hG n _ _ _ _ _ _ _ _ h g1.1
    refine wpS_seq (codeR_sound hm hC hG n x xa h1 φ a s m _ a2 s2 m2 hr a' w u _ ht hi (hf.le g2.2.next) hmr ?_)
    intro ψ a'' w'' u'' ht' hi' hs' hm'
    exact codeR_sound hm hC hG n y xb h2 ψ a2 s2 m2 e a1 s1 m1 h a'' w'' u'' Q ht' hi' (hf.step hs' g1.2.next) hm' (haft.step hs' g1.2.next g2.2.next)
   ·rename_i hr
    refine wpS_seq (codeR_sound hm hC hG n x xa h1 φ a s m e a1 s1 m1 h a' w u _ ht hi hf hmr ?_)
    intro ψ a'' w'' u'' ht' hi' hs' hm'
    have:=haft ψ a'' w'' u'' ht' hi' hs' hm'
    cases e with
    |normal=>exact absurd h (hr _ _ _)
    |exit k=>exact this
    |ret=>exact this
    |panic v=>exact this
  ·cases hc
 |.cond c x y,xc,hc,φ,a,s,m,e,a1,s1,m1,h,a',w,u,Q,ht,hi,hf,hmr,haft=>by
  simp only [compCode] at hc
  split at hc
  ·rename_i xa xb h0 h1 h2
   cases hc
   simp only [xcodeR] at h
   have hcv:=ht.eval hi h0
   split at h
   ·rename_i hv
    rw [hv] at hcv
    have e1:a'.eval c=.bool true:=by cases hq:a'.eval c<;>rw [hq] at hcv<;>cases hcv;rfl
    exact wpS_cond e1 (by simpa using codeR_sound hm hC hG n x xa h1 φ a s m e a1 s1 m1 h a' w u Q ht hi hf hmr haft)
   ·rename_i hv
    rw [hv] at hcv
    have e1:a'.eval c=.bool false:=by cases hq:a'.eval c<;>rw [hq] at hcv<;>cases hcv;rfl
    exact wpS_cond e1 (by simpa using codeR_sound hm hC hG n y xb h2 φ a s m e a1 s1 m1 h a' w u Q ht hi hf hmr haft)
   ·cases h
  ·cases hc
 |.block id c,xc,hc,φ,a,s,m,e,a1,s1,m1,h,a',w,u,Q,ht,hi,hf,hmr,haft=>by
  simp only [compCode] at hc
  split at hc
  ·rename_i xa h1
   cases hc
   simp only [xcodeR] at h
   split at h
   ·rename_i k a2 s2 m2 hr
    split at h
    ·rename_i hk
     rw [beqNat] at hk
     obtain rfl:=of_decide_eq_true hk
     cases h
     refine wpS_block (codeR_sound hm hC hG n c xa h1 φ a s m _ a1 s1 m1 hr a' w u _ ht hi hf hmr ?_)
     intro ψ a'' w'' u'' ht' hi' hs' hm'
     have:=haft ψ a'' w'' u'' ht' hi' hs' hm'
     simp only [exS,if_true]
     exact this
    ·rename_i hk
     rw [beqNat] at hk
     have hk:=of_decide_eq_false hk
     cases h
     refine wpS_block (codeR_sound hm hC hG n c xa h1 φ a s m _ a1 s1 m1 hr a' w u _ ht hi hf hmr ?_)
     intro ψ a'' w'' u'' ht' hi' hs' hm'
     have:=haft ψ a'' w'' u'' ht' hi' hs' hm'
     simp only [exS,if_neg hk]
     exact this
   ·rename_i hr
    refine wpS_block (codeR_sound hm hC hG n c xa h1 φ a s m e a1 s1 m1 h a' w u _ ht hi hf hmr ?_)
    intro ψ a'' w'' u'' ht' hi' hs' hm'
    have:=haft ψ a'' w'' u'' ht' hi' hs' hm'
    cases e with
    |normal=>exact this
    |exit k=>exact absurd h (hr _ _ _ _)
    |ret=>exact this
    |panic v=>exact this
  ·cases hc
 |.loop c,xc,hc,φ,a,s,m,e,a1,s1,m1,h,a',w,u,Q,ht,hi,hf,hmr,haft=>by
  have hc0:=hc
  simp only [compCode] at hc
  split at hc
  ·cases hc
   simp only [xcodeR] at h
   split at h
   ·rename_i hr;cases h
    exact codeS_plain hm hC hG n hc0 hr hmr ht hi hf haft
   ·cases h
  ·cases hc
 |.exit id,xc,hc,φ,a,s,m,e,a1,s1,m1,h,a',w,u,Q,ht,hi,hf,hmr,haft=>by
  have hc0:=hc
  simp only [compCode] at hc;cases hc
  simp only [xcodeR] at h
  split at h
  ·rename_i hr;cases h
   exact codeS_plain hm hC hG n hc0 hr hmr ht hi hf haft
  ·cases h
 |.ret,xc,hc,φ,a,s,m,e,a1,s1,m1,h,a',w,u,Q,ht,hi,hf,hmr,haft=>by
  have hc0:=hc
  simp only [compCode] at hc;cases hc
  simp only [xcodeR] at h
  split at h
  ·rename_i hr;cases h
   exact codeS_plain hm hC hG n hc0 hr hmr ht hi hf haft
  ·cases h
 |.rangeFunc _ _ _ _,xc,hc,_,_,_,_,_,_,_,_,_,_,_,_,_,_,_,_,_,_=>by simp only [compCode] at hc;cases hc
 |.scope _,xc,hc,_,_,_,_,_,_,_,_,_,_,_,_,_,_,_,_,_,_=>by simp only [compCode] at hc;cases hc
 |.label _,xc,hc,_,_,_,_,_,_,_,_,_,_,_,_,_,_,_,_,_,_=>by simp only [compCode] at hc;cases hc
 |.goto _,xc,hc,_,_,_,_,_,_,_,_,_,_,_,_,_,_,_,_,_,_=>by simp only [compCode] at hc;cases hc
 |.refuse _,xc,hc,_,_,_,_,_,_,_,_,_,_,_,_,_,_,_,_,_,_=>by simp only [compCode] at hc;cases hc
end
end Go.Xe
end
section
namespace Go.Xe
open Go
theorem Tri.get_ofList {α:Type}:∀(l:List α) (k:Nat) (t:Tri α) (j:Nat),(Tri.ofList l k t).get j=if k≤j∧j<k+l.length then l[j - k]? else t.get j
 |[],k,t,j=>by simp [Tri.ofList];omega
 |x::l,k,t,j=>by
  rw [Tri.ofList,Tri.get_ofList l (k+1) (t.set k x) j,Tri.get_set]
  by_cases h:k+1≤j∧j<k+1+l.length
  ·rw [if_pos h,if_pos (by simp;omega),show j - k=(j - (k+1))+1 by omega];simp
  ·rw [if_neg h]
   by_cases e:k=j
   ·subst e;rw [if_pos rfl,if_pos (by simp)];simp
   ·rw [if_neg e,if_neg (by simp;omega)]
theorem enter_rel {nt:Nat} {φ:Loc} {args args':List Value} (h:VRels φ args args'):TRel nt φ (enterX args) { tmps:=args'.toArray++Array.replicate (nt - args'.toArray.size) undef,defers:=[] }:=by
 have hl:=h.length
 refine ⟨?_,fun t=> ?_,trivial⟩
 ·show nt≤(args'.toArray++Array.replicate (nt - args'.toArray.size) undef).size
  rw [Array.size_append,Array.size_replicate]
  omega
 ·have h1:(enterX args).ev (.tmp t)=(args[t]?).getD undef:=by
   simp only [enterX,Act.ev,Tri.get_ofList,Nat.zero_le,true_and,Nat.zero_add,Nat.sub_zero,Tri.get_nil]
   by_cases ht:t<args.length
   ·simp [ht]
   ·simp [ht]
  have h2:Go.Act.eval { tmps:=args'.toArray++Array.replicate (nt - args'.toArray.size) undef,defers:=[] } (.tmp t)=(args'[t]?).getD undef:=by
   simp only [Go.Act.eval,Array.getD_eq_getD_getElem?,Array.getElem?_append]
   by_cases ht:t<args'.length
   ·simp [ht]
   ·simp [ht]
    by_cases h3:t - args'.length<nt - args'.length
    ·simp [h3]
    ·simp [h3]
  rw [h1,h2]
  by_cases ht:t<args.length
  ·obtain ⟨v',h3,h4⟩:=h.get (i:=t) (v:=args[t]) (by simp [ht])
   have e1:args[t]? =some args[t]:=by simp [ht]
   rw [h3,e1];exact h4
  ·have e1:args[t]? =none:=List.getElem?_eq_none (Nat.le_of_not_lt ht)
   have e2:args'[t]? =none:=List.getElem?_eq_none (by rw [hl];exact Nat.le_of_not_lt ht)
   rw [e1,e2];exact VRel.undef φ
structure OOk (P:Program) (gl:Glb) (f:FuncId) (args:List Value) (v:Value):Prop where
 to:CallTo P f
 run:∀(W0:World) (N0:Nat) (φ:Loc) (s:AS) (w:World) (args':List Value) (e:End) (s':AS),Inv gl W0 N0 φ s w→VRels φ args args'→oEnd v args s=some (e,s')→
  Calls P f args'.toArray w fun E w'=>∃ψ,ERel ψ e E∧Inv gl W0 N0 ψ s' w'∧Stp φ s.get w ψ s'.get w' s.next s'.next
theorem OOk.plain {P:Program} {gl:Glb} {f:FuncId} {args:List Value} {v:Value} (hto:CallTo P f) (hm:markOf v=none)
  (run:∀(W0:World) (N0:Nat) (φ:Loc) (s:AS) (w:World) (args':List Value),Inv gl W0 N0 φ s w→VRels φ args args'→
   Calls P f args'.toArray w fun E w'=>∃v',E=.returned v'∧VRel φ v v'∧Inv gl W0 N0 φ s w'∧Stp φ s.get w φ s.get w' s.next s.next):OOk P gl f args v:=by
 refine ⟨hto,fun W0 N0 φ s w args' e s' hi ha h=> ?_⟩
 unfold oEnd at h
 rw [hm] at h
 cases h
 refine Calls.mono (run W0 N0 φ s w args' hi ha) ?_
 rintro E w' ⟨v',rfl,h1,h2,h3⟩
 exact ⟨φ,⟨v',rfl,h1⟩,h2,h3⟩
structure Env (P:Program) (gl:Glb) (F:FuncId→Option XFun) (O:FuncId→List Value→Option Value):Prop where
 mixed:P.follows .mixedOrders=true
 fn:∀f x,F f=some x→∃fn,P.funcs[f]? =some fn∧compFun P gl fn=some x
 or:∀f args v,F f=none→O f args=some v→OOk P gl f args v
section
variable {P:Program} {gl:Glb} {W0:World} {N0:Nat} {nt:Nat} {C:Callee}
theorem compFun_parts {fn : Func} {x : XFun} (h : compFun P gl fn = some x) : ∃ c, fn.body = some c ∧ compCode P gl fn.ntmps c = some x.body ∧ compRess P fn.results.toList = some x.results ∧ x.nt = fn.ntmps ∧ fn.name ≠ "runtime.NumGoroutine" := by
 unfold compFun at h
 split at h
 ·cases h
 ·rename_i c hb
  split at h
  ·rename_i xc rs h1 h2 h3
   cases h
   exact ⟨c,hb,h1,h2,rfl,by simpa using h3⟩
  ·cases h
def rvRun (tmps:Array Value):ResultVar→Sem Value
 |.tmp t=>pure (tmps.getD t undef)
 |.cell c t=>do loadVar t (←asAddr (tmps.getD c undef))
theorem res_run {r:ResultVar} {xr:XRes} (hc:compRes P r=some xr) {φ:Loc} {a:Act} {s:AS} {a':Go.Act} {w:World} (ht:TRel nt φ a a') (hi:Inv gl W0 N0 φ s w) {v:Value} (h:xres a s xr=some v):
  ∃v',VRel φ v v'∧(rvRun a'.tmps r).run P w=.ok v' w:=by
 cases r with
 |tmp t=>
  simp only [compRes] at hc;cases hc
  simp only [xres] at h;cases h
  exact ⟨_,ht.tm t,rfl⟩
 |cell c t=>
  simp only [compRes] at hc
  have htm:=ht.tm c
  split at hc
  ·rename_i n ha hn
   cases hc
   simp only [xres] at h
   split at h
   ·rename_i p hp
    split at h
    ·rename_i l hl
     cases h
     rw [hp] at htm
     have e0:a'.eval (.tmp c)=a'.tmps.getD c undef:=rfl
     rw [e0] at htm
     simp only [rvRun]
     generalize a'.tmps.getD c undef=u at htm ⊢
     cases htm with
     |@ptr i o b d t' hφ=>
      obtain ⟨l',hv,hlen,_,hcell⟩:=hi.rel.loads hl rfl hφ
      exact ⟨_,.agg hv,by simp only [asAddr,Sem.run_bind,Sem.run_pure,Result.andThen_ok];exact (run_loadVarX (P:=P) hn hlen hcell).1 ha⟩
    ·cases h
   ·cases h
  ·rename_i ha hn
   cases hc
   simp only [xres] at h
   split at h
   ·rename_i p hp
    split at h
    ·rename_i v2 hl
     cases h
     rw [hp] at htm
     have e0:a'.eval (.tmp c)=a'.tmps.getD c undef:=rfl
     rw [e0] at htm
     simp only [rvRun]
     generalize a'.tmps.getD c undef=u at htm ⊢
     cases htm with
     |@ptr i o b d t' hφ=>
      obtain ⟨l',hv,hlen,_,hcell⟩:=hi.rel.loads hl rfl hφ
      cases hv with
      |cons hv hnil=>
       cases hnil
       exact ⟨_,hv,by simp only [asAddr,Sem.run_bind,Sem.run_pure,Result.andThen_ok];exact (run_loadVarX (P:=P) hn hlen hcell).2 ha _ rfl⟩
    ·cases h
   ·cases h
  ·cases hc
theorem ress_run:∀{rs:List ResultVar} {xrs:List XRes},compRess P rs=some xrs→∀{φ:Loc} {a:Act} {s:AS} {a':Go.Act} {w:World},TRel nt φ a a'→Inv gl W0 N0 φ s w→∀{l:List Value},xresults a s xrs=some l→
  ∃l',VRels φ l l'∧(rs.mapM (rvRun a'.tmps)).run P w=.ok l' w
 |[],xrs,hc,φ,a,s,a',w,ht,hi,l,h=>by
  simp only [compRess] at hc;cases hc
  simp only [xresults] at h;cases h
  exact ⟨[],.nil,rfl⟩
 |r::rs,xrs,hc,φ,a,s,a',w,ht,hi,l,h=>by
  simp only [compRess] at hc
  split at hc
  ·rename_i x y h1 h2
   cases hc
   simp only [xresults] at h
   split at h
   ·rename_i v vs h3 h4
    cases h
    obtain ⟨v',q1,q2⟩:=res_run h1 ht hi h3
    obtain ⟨l',q3,q4⟩:=ress_run h2 ht hi h4
    refine ⟨v'::l',.cons q1 q3,?_⟩
    rw [List.mapM_cons]
    simp only [Sem.run_bind]
    refine (congrArg (fun r=>Result.andThen r _) q2).trans ?_
    simp only [Result.andThen_ok,Sem.run_bind]
    refine (congrArg (fun r=>Result.andThen r _) q4).trans ?_
    simp only [Result.andThen_ok,Sem.run_pure]
   ·cases h
  ·cases hc
theorem results_run {fn:Func} {xrs:List XRes} (hc:compRess P fn.results.toList=some xrs) {φ:Loc} {a:Act} {s:AS} {a':Go.Act} {w:World} (ht:TRel nt φ a a') (hi:Inv gl W0 N0 φ s w) {l:List Value} (h:xresults a s xrs=some l):
  ∃v',VRel φ (packed l) v'∧(results fn a'.tmps).run P w=.ok v' w:=by
 obtain ⟨l',h1,h2⟩:=ress_run hc ht hi h
 have hrun:(fn.results.mapM (rvRun a'.tmps)).run P w=.ok l'.toArray w:=by
  rw [Array.mapM_eq_mapM_toList]
  rw [←bind_pure_comp]
  simp only [Sem.run_bind]
  refine (congrArg (fun r=>Result.andThen r _) h2).trans ?_
  simp only [Result.andThen_ok,Sem.run_pure]
 have hres:(results fn a'.tmps).run P w=.ok (if h:l'.toArray.size=1 then l'.toArray[0] else .tuple l'.toArray) w:=by
  have hfn:results fn a'.tmps=(do let vs ←fn.results.mapM (rvRun a'.tmps);pure (if h:vs.size=1 then vs[0] else .tuple vs)):=by
   unfold results
   have:rvRun a'.tmps=fun r=>(match r with|.tmp t=>pure (a'.tmps.getD t undef)|.cell a t=>do loadVar t (←asAddr (a'.tmps.getD a undef))):=funext fun r=>by cases r<;>rfl
   rw [this]
   rfl
  rw [hfn]
  simp only [Sem.run_bind]
  refine (congrArg (fun r=>Result.andThen r _) hrun).trans ?_
  simp only [Result.andThen_ok,Sem.run_pure]
 refine ⟨_,?_,hres⟩
 cases h1 with
 |nil=>exact .tuple .nil
 |@cons v v' l l' hv hl=>
  cases hl with
  |nil=>exact hv
  |@cons u u' l l' hu hl=>
   have e1:packed (v::u::l)=.tuple (v::u::l).toArray:=rfl
   have e2:(if h:(v'::u'::l').toArray.size=1 then (v'::u'::l').toArray[0] else Value.tuple (v'::u'::l').toArray)=.tuple (v'::u'::l').toArray:=by
    rw [dif_neg];simp
   rw [e1,e2]
   exact .tuple (.cons hv (.cons hu hl))
theorem leaves_sound {F:FuncId→Option XFun} {O:FuncId→List Value→Option Value} (hE:Env P gl F O) (hC:COk P gl C) (hG:CGoes C) (n:Nat) {fn:Func} {tmps:Array Value} {R:Ending→World→Prop}:
  ∀(dl:List Dfr) (s:AS) (m:Mode) (s1:AS) (m1:Mode),xdefers C F n dl s m=some (s1,m1)→m≠.recovered→∀(φ:Loc) (ds:List Deferred) (w:World) (u:FrameMode),DfRel φ dl ds→Inv gl W0 N0 φ s w→Fr φ s.next s1.next→MRel φ m u→
   (∀ψ w' u',MRel ψ m1 u'→Inv gl W0 N0 ψ s1 w'→Stp φ s.get w ψ s1.get w' s.next s1.next→m1≠.recovered→Leaves P fn tmps R [] u' w')→Leaves P fn tmps R ds u w
 |[],s,m,s1,m1,h,hm,φ,ds,w,u,hd,hi,hf,hmr,hk=>by
  simp only [xdefers] at h;cases h
  cases ds with
  |nil=>exact hk φ w u hmr hi (Stp.refl _ _ _ _) hm
  |cons d ds=>exact hd.elim
 |d::r,s,m,s1,m1,h,hm,φ,ds,w,u,hd,hi,hf,hmr,hk=>by
  cases ds with
  |nil=>exact hd.elim
  |cons d' ds=>
   obtain ⟨⟨cap,htar,hargs⟩,hdr⟩:=hd
   simp only [xdefers] at h
   split at h
   ·rename_i x hF
    obtain ⟨fn2,hfn,hcf⟩:=hE.fn _ _ hF
    obtain ⟨c,hb,hcc,hcr,hnt,hname⟩:=compFun_parts hcf
    have hto:CallTo P d.f:=⟨fn2,hfn,hname,by rw [hb];rfl⟩
    split at h
    ·rename_i e a2 s2 m2 hr
     have g1:=xcodeR_goes hG n _ _ _ _ _ _ _ _ hr hi.dm
     have main:∀l,a2.df=[]→(e=.normal∨e=.ret)→xdefers C F n r s2 m2.settle=some (s1,m1)→xresults a2 s2 x.results=some l→Leaves P fn tmps R (d'::ds) u w:=by
      intro l hdf he hrest hl
      have g2:=xdefers_goes hG F n _ _ _ _ _ hrest g1.1
      obtain ⟨tg,da⟩:=d'
      simp only at htar hargs
      subst htar
      have hu:u≠.run:=by
       cases m with
       |ret=>cases hmr;simp
       |panicking v=>obtain ⟨v',rfl,_⟩:=hmr;simp
       |recovered=>obtain ⟨v',rfl⟩:=hmr;simp
      have hinv:(invoke (.fn (.func d.f) cap) da).run P w=.ok (.enter d.f (da++cap)) w:=callFunc_run hto _ w
      refine leaves_cons hu hinv (callsD_of_wpS hfn hb fun c₀ cs hc0=> ?_)
      have h0:({ c₀ with mode:=u }:Frame)=c₀:=by subst hc0;rfl
      have hent:=enter_rel (nt:=fn2.ntmps) hargs
      rw [Array.toArray_toList] at hent
      rw [←h0]
      refine codeR_sound hE.mixed hC hG n c x.body hcc φ (enterX d.args) s m e a2 s2 m2 hr _ w u _ hent hi (hf.le g2.2.next) hmr ?_
      intro ψ a'' w'' u'' ht' hi' hs' hm'
      have hdf':a''.defers=[]:=by
       have:=ht'.df;rw [hdf] at this
       cases hq:a''.defers with
       |nil=>rfl
       |cons y l=>rw [hq] at this;exact this.elim
      obtain ⟨v',_,hv'⟩:=results_run hcr ht' hi' hl
      have hm3:MRel ψ m2.settle (settle u''):=by
       cases m2 with
       |ret=>cases hm';rfl
       |panicking v=>obtain ⟨v',rfl,hv⟩:=hm';exact ⟨v',rfl,hv⟩
       |recovered=>obtain ⟨v',rfl⟩:=hm';rfl
      have hgo:Leaves P fn tmps R ds (settle u'') w'':=by
       refine leaves_sound hE hC hG n r s2 _ s1 m1 hrest (by cases m2<;>simp [Mode.settle]) ψ ds w'' (settle u'') (hdr.mono hs'.le) hi' (hf.step hs' g1.2.next) hm3 ?_
       intro χ w3 u3 q1 q2 q3 q4
       exact hk χ w3 u3 q1 q2 (hs'.trans q3 g1.2.next g2.2.next) q4
      rcases he with rfl|rfl
      ·exact ⟨hdf',u'',rfl,v',hv',hgo⟩
      ·exact ⟨hdf',u'',rfl,v',hv',hgo⟩
     split at h
     ·rename_i h1 h2;exact main _ h1 (.inl rfl) h h2
     ·rename_i h1 h2;exact main _ h1 (.inr rfl) h h2
     ·cases h
    ·cases h
   ·cases h
theorem xcall_sound {F:FuncId→Option XFun} {O:FuncId→List Value→Option Value} (hE:Env P gl F O):∀n,COk P gl (xcall F O n)
 |0=>fun f args s e s' h=>by simp only [xcall] at h;cases h
 |n+1=>fun f args s e s' h=>by
  have hC:=xcall_sound hE n
  have hG:=xcall_goes F O n
  simp only [xcall] at h
  split at h
  ·rename_i x hF
   obtain ⟨fn,hfn,hcf⟩:=hE.fn _ _ hF
   obtain ⟨c,hb,hcc,hcr,hnt,hname⟩:=compFun_parts hcf
   refine ⟨⟨fn,hfn,hname,by rw [hb];rfl⟩,fun W0 N0 φ w args' hi hf hv=> ?_⟩
   have hent:=enter_rel (nt:=fn.ntmps) hv
   refine calls_of_wp_defers hfn hb ?_
   have fin:∀(a:Act) (s2 s3:AS) (m0 m:Mode),Goes s s2→m0≠.recovered→xdefers (xcall F O n) F n a.df s2 m0=some (s3,m)→xfinish a x s3 m=some (e,s')→
     ∀ψ (a':Go.Act) w' u,TRel fn.ntmps ψ a a'→Inv gl W0 N0 ψ s2 w'→Stp φ s.get w ψ s2.get w' s.next s2.next→MRel ψ m0 u→
      Leaves P fn a'.tmps (fun E w'=>∃ψ,ERel ψ e E∧Inv gl W0 N0 ψ s' w'∧Stp φ s.get w ψ s'.get w' s.next s'.next) a'.defers u w':=by
    intro a s2 s3 m0 m g1 hm0 hdef hfin ψ a' w' u ht hi' hs' hmr
    have e1:=xfinish_same hfin
    subst e1
    have g1':=g1 hi.dm
    have g2:=xdefers_goes hG F n _ _ _ _ _ hdef g1'.1
    refine leaves_sound hE hC hG n a.df s2 m0 s' m hdef hm0 ψ a'.defers w' u ht.df hi' (hf.step hs' g1'.2.next) hmr ?_
    intro χ w3 u3 q1 q2 q3 q4
    have hst:=hs'.trans q3 g1'.2.next g2.2.next
    unfold xfinish at hfin
    cases m with
    |recovered=>exact absurd rfl q4
    |panicking v=>
     simp only at hfin;cases hfin
     obtain ⟨v',rfl,hv'⟩:=q1
     exact ⟨χ,⟨v',rfl,hv'⟩,q2,hst⟩
    |ret=>
     cases q1
     simp only at hfin
     split at hfin
     ·rename_i l hl
      cases hfin
      obtain ⟨v',h1,h2⟩:=results_run hcr (ht.mono q3.le) q2 hl
      exact ⟨v',h2,χ,⟨v',rfl,h1⟩,q2,hst⟩
     ·cases hfin
   split at h
   ·rename_i a s2 hcode
    split at h
    ·rename_i s3 m hdef
     have g1:=xcode_goes hG n _ _ _ _ _ _ hcode
     have g2:=xdefers_goes hG F n _ _ _ _ _ hdef (g1 hi.dm).1
     have e1:=xfinish_same h
     refine code_sound hE.mixed hC hG n c x.body hcc φ _ s _ a s2 hcode _ w _ hent hi (hf.le (by rw [e1];exact g2.2.next)) ?_
     intro ψ a' w' ht' hi' hs'
     exact fin a s2 s3 .ret m g1 (by simp) hdef h ψ a' w' .returning ht' hi' hs' rfl
    ·cases h
   ·rename_i a s2 hcode
    split at h
    ·rename_i s3 m hdef
     have g1:=xcode_goes hG n _ _ _ _ _ _ hcode
     have g2:=xdefers_goes hG F n _ _ _ _ _ hdef (g1 hi.dm).1
     have e1:=xfinish_same h
     refine code_sound hE.mixed hC hG n c x.body hcc φ _ s _ a s2 hcode _ w _ hent hi (hf.le (by rw [e1];exact g2.2.next)) ?_
     intro ψ a' w' ht' hi' hs'
     exact fin a s2 s3 .ret m g1 (by simp) hdef h ψ a' w' .returning ht' hi' hs' rfl
    ·cases h
   ·rename_i v a s2 hcode
    split at h
    ·rename_i s3 m hdef
     have g1:=xcode_goes hG n _ _ _ _ _ _ hcode
     have g2:=xdefers_goes hG F n _ _ _ _ _ hdef (g1 hi.dm).1
     have e1:=xfinish_same h
     refine code_sound hE.mixed hC hG n c x.body hcc φ _ s _ a s2 hcode _ w _ hent hi (hf.le (by rw [e1];exact g2.2.next)) ?_
     intro ψ a' w' ht' hi' hs' v' hv'
     exact fin a s2 s3 (.panicking v) m g1 (by simp) hdef h ψ a' w' _ ht' hi' hs' ⟨v',rfl,hv'⟩
    ·cases h
   ·cases h
  ·rename_i hF
   split at h
   ·rename_i v hO
    have ho:=hE.or f args v hF hO
    exact ⟨ho.to,fun W0 N0 φ w args' hi hf hv=>ho.run W0 N0 φ s w args' e s' hi hv h⟩
   ·cases h
end
end Go.Xe
end
section
namespace Go.Xe
open Go
def f_move (x:Operand) (g:Nat→Option AObj) (nx:Nat) (ρ:Operand→Value):Option PR:=
 some ⟨ρ x,[],nx⟩
def f_pick (c:Operand) (a:Operand) (b:Operand) (g:Nat→Option AObj) (nx:Nat) (ρ:Operand→Value):Option PR:=
 match ρ c with
  |.bool true=>some ⟨ρ a,[],nx⟩
  |.bool false=>some ⟨ρ b,[],nx⟩
  |_=>none
def f_alloc (e:TypeId) (z:List Value) (g:Nat→Option AObj) (nx:Nat) (ρ:Operand→Value):Option PR:=
 match ones z with
  |false=>none
  |true=>some ⟨.pointer (some ⟨nx,0,none⟩),[(nx,some ⟨0,.cells z e false⟩)],nx+1⟩
def f_box (e:TypeId) (x:Operand) (g:Nat→Option AObj) (nx:Nat) (ρ:Operand→Value):Option PR:=
 match ones (ρ x).cells.toList with
  |false=>none
  |true=>some ⟨.pointer (some ⟨nx,0,none⟩),[(nx,some ⟨0,.cells (ρ x).cells.toList e false⟩)],nx+1⟩
def f_build (z:List Value) (ps:List (Nat×Nat×Operand)) (g:Nat→Option AObj) (nx:Nat) (ρ:Operand→Value):Option PR:=
 match fillX z (ps.map fun (o,n,x)=>(o,n,ρ x)) with
  |some cs=>some ⟨.agg cs.toArray,[],nx⟩
  |none=>none
def f_buildSlice (e:TypeId) (size:Nat) (z:List Value) (len:Nat) (ps:List (Nat×Nat×Operand)) (g:Nat→Option AObj) (nx:Nat) (ρ:Operand→Value):Option PR:=
 match fillX (rep z len) (ps.map fun (o,n,x)=>(o,n,ρ x)) with
  |some cs=>match ones cs with
   |false=>none
   |true=>some ⟨.slice (some ⟨nx,0,none⟩) len len,[(nx,some ⟨0,.cells cs e false⟩)],nx+1⟩
  |none=>none
def f_load1 (a:Operand) (g:Nat→Option AObj) (nx:Nat) (ρ:Operand→Value):Option PR:=
 match ρ a with
  |.pointer (some a)=>match loadList g a 1 with
   |some [v]=>some ⟨v,[],nx⟩
   |_=>none
  |_=>none
def f_loadN (n:Nat) (a:Operand) (g:Nat→Option AObj) (nx:Nat) (ρ:Operand→Value):Option PR:=
 match ρ a with
  |.pointer (some a)=>match loadList g a n with
   |some l=>some ⟨.agg l.toArray,[],nx⟩
   |none=>none
  |_=>none
def f_store (n:Nat) (a:Operand) (x:Operand) (g:Nat→Option AObj) (nx:Nat) (ρ:Operand→Value):Option PR:=
 match ρ a with
  |.pointer (some a)=>match Nat.beq (ρ x).cells.toList.length n&&ones (ρ x).cells.toList with
   |true=>match storeList g a (ρ x).cells.toList with
    |some δ=>some ⟨undef,δ,nx⟩
    |none=>none
   |false=>none
  |_=>none
def f_nilCheck (x:Operand) (g:Nat→Option AObj) (nx:Nat) (ρ:Operand→Value):Option PR:=
 match ρ x with
  |.pointer (some a)=>some ⟨.pointer (some a),[],nx⟩
  |.func (.func f) a b=>some ⟨.func (.func f) a b,[],nx⟩
  |_=>none
def f_bin (op:BinOp) (x:Operand) (y:Operand) (g:Nat→Option AObj) (nx:Nat) (ρ:Operand→Value):Option PR:=
 pure1 nx (xbin op (ρ x) (ρ y))
def f_eq (k:EqK) (neg:Bool) (x:Operand) (y:Operand) (g:Nat→Option AObj) (nx:Nat) (ρ:Operand→Value):Option PR:=
 match xeq g k (ρ x) (ρ y) with
  |some b=>some ⟨.bool (xor b neg),[],nx⟩
  |none=>none
def f_un (op:UnOp) (x:Operand) (g:Nat→Option AObj) (nx:Nat) (ρ:Operand→Value):Option PR:=
 pure1 nx (xun op (ρ x))
def f_toInt (k:IntKind) (x:Operand) (g:Nat→Option AObj) (nx:Nat) (ρ:Operand→Value):Option PR:=
 match ρ x with
  |.int _ n=>some ⟨.int k (k.wrap n),[],nx⟩
  |_=>none
def f_keep (x:Operand) (g:Nat→Option AObj) (nx:Nat) (ρ:Operand→Value):Option PR:=
 match ρ x with
  |.string s=>some ⟨.string s,[],nx⟩
  |_=>none
def f_bytesToStr (x:Operand) (g:Nat→Option AObj) (nx:Nat) (ρ:Operand→Value):Option PR:=
 match ρ x with
  |.slice none _ _=>some ⟨.string ⟨#[]⟩,[],nx⟩
  |.slice (some a) n _=>match loadList g a n with
   |some l=>match toBytes l with
    |some bs=>some ⟨.string ⟨bs.toArray⟩,[],nx⟩
    |none=>none
   |none=>none
  |_=>none
def f_strToBytes (e:TypeId) (x:Operand) (g:Nat→Option AObj) (nx:Nat) (ρ:Operand→Value):Option PR:=
 match ρ x with
  |.string s=>match Nat.ble s.data.toList.length small with
   |true=>some ⟨.slice (some ⟨nx,0,none⟩) s.data.toList.length (capU+1),[(nx,some ⟨0,.cells (s.data.toList.map fun b=>.int .u8 b.toNat) e true⟩)],nx+1⟩
   |false=>none
  |_=>none
def f_mkIface (t:TypeId) (x:Operand) (g:Nat→Option AObj) (nx:Nat) (ρ:Operand→Value):Option PR:=
 some ⟨.iface t (ρ x),[],nx⟩
def f_mkFunc (fn:Fn) (first:List Operand) (cap:List Operand) (g:Nat→Option AObj) (nx:Nat) (ρ:Operand→Value):Option PR:=
 some ⟨.func fn (first.map ρ).toArray (cap.map ρ).toArray,[],nx⟩
def f_mkMap (g:Nat→Option AObj) (nx:Nat) (ρ:Operand→Value):Option PR:=
 some ⟨.map (some nx),[(nx,some ⟨0,.map [] 0⟩)],nx+1⟩
def f_mkSlice (e:TypeId) (z:List Value) (bytes:Nat) (l:Operand) (c:Operand) (g:Nat→Option AObj) (nx:Nat) (ρ:Operand→Value):Option PR:=
 match ρ l,ρ c with
  |.int .i64 (.ofNat l),.int .i64 (.ofNat c)=>match Nat.ble l c&&Nat.ble (bytes*c) 281474976710656&&Nat.ble c 9223372036854775807&&ones z with
   |true=>some ⟨.slice (some ⟨nx,0,none⟩) l c,[(nx,some ⟨0,.cells (rep z c) e false⟩)],nx+1⟩
   |false=>none
  |_,_=>none
def f_sliceStr (x:Operand) (lo:Option Operand) (hi:Option Operand) (g:Nat→Option AObj) (nx:Nat) (ρ:Operand→Value):Option PR:=
 match ρ x with
  |.string s=>match bounds s.data.toList.length s.data.toList.length (lo.map ρ) (hi.map ρ) none with
   |some (l,h,_)=>some ⟨.string ⟨((s.data.toList.drop l).take (h - l)).toArray⟩,[],nx⟩
   |none=>none
  |_=>none
def f_slice (size:Nat) (x:Operand) (lo:Option Operand) (hi:Option Operand) (mx:Option Operand) (g:Nat→Option AObj) (nx:Nat) (ρ:Operand→Value):Option PR:=
 pure1 nx (xslice size (ρ x) (lo.map ρ) (hi.map ρ) (mx.map ρ))
def f_sliceArr (n:Nat) (size:Nat) (x:Operand) (lo:Option Operand) (hi:Option Operand) (mx:Option Operand) (g:Nat→Option AObj) (nx:Nat) (ρ:Operand→Value):Option PR:=
 match ρ x with
  |.pointer (some a)=>match bounds n n (lo.map ρ) (hi.map ρ) (mx.map ρ) with
   |some (l,h,m)=>some ⟨.slice (some (match Nat.beq m l with|true=>a|false=>a.add (l*size))) (h - l) (m - l),[],nx⟩
   |none=>none
  |_=>none
def f_addr (off:Nat) (x:Operand) (g:Nat→Option AObj) (nx:Nat) (ρ:Operand→Value):Option PR:=
 match ρ x with
  |.pointer (some a)=>some ⟨.pointer (some (a.add off)),[],nx⟩
  |_=>none
def f_field1 (off:Nat) (x:Operand) (g:Nat→Option AObj) (nx:Nat) (ρ:Operand→Value):Option PR:=
 match ρ x with
  |.agg cs=>match cs.toList[off]? with
   |some v=>some ⟨v,[],nx⟩
   |none=>none
  |_=>none
def f_fieldN (off:Nat) (n:Nat) (x:Operand) (g:Nat→Option AObj) (nx:Nat) (ρ:Operand→Value):Option PR:=
 match ρ x with
  |.agg cs=>some ⟨.agg ((cs.toList.drop off).take n).toArray,[],nx⟩
  |_=>none
def f_indexAddr (size:Nat) (x:Operand) (i:Operand) (g:Nat→Option AObj) (nx:Nat) (ρ:Operand→Value):Option PR:=
 match ρ x,ρ i with
  |.slice (some a) len _,.int _ (.ofNat i)=>match Nat.blt i len with
   |true=>some ⟨.pointer (some (a.add (i*size))),[],nx⟩
   |false=>none
  |_,_=>none
def f_indexArrAddr (len:Nat) (size:Nat) (x:Operand) (i:Operand) (g:Nat→Option AObj) (nx:Nat) (ρ:Operand→Value):Option PR:=
 match ρ x,ρ i with
  |.pointer (some a),.int _ (.ofNat i)=>match Nat.blt i len with
   |true=>some ⟨.pointer (some (a.add (i*size))),[],nx⟩
   |false=>none
  |_,_=>none
def f_indexStr (x:Operand) (i:Operand) (g:Nat→Option AObj) (nx:Nat) (ρ:Operand→Value):Option PR:=
 match ρ x,ρ i with
  |.string s,.int _ (.ofNat i)=>match s.data.toList[i]? with
   |some b=>some ⟨.int .u8 b.toNat,[],nx⟩
   |none=>none
  |_,_=>none
def f_index1 (len:Nat) (x:Operand) (i:Operand) (g:Nat→Option AObj) (nx:Nat) (ρ:Operand→Value):Option PR:=
 match ρ x,ρ i with
  |.agg cs,.int _ (.ofNat i)=>match Nat.blt i len with
   |true=>match cs.toList[i]? with
    |some v=>some ⟨v,[],nx⟩
    |none=>none
   |false=>none
  |_,_=>none
def f_indexN (len:Nat) (size:Nat) (x:Operand) (i:Operand) (g:Nat→Option AObj) (nx:Nat) (ρ:Operand→Value):Option PR:=
 match ρ x,ρ i with
  |.agg cs,.int _ (.ofNat i)=>match Nat.blt i len with
   |true=>some ⟨.agg ((cs.toList.drop (i*size)).take size).toArray,[],nx⟩
   |false=>none
  |_,_=>none
def f_lookup (k:EqK) (z:Value) (m:Operand) (x:Operand) (ok:Bool) (g:Nat→Option AObj) (nx:Nat) (ρ:Operand→Value):Option PR:=
    match (match ρ m with
     |.map none=>some (some none)
     |.map (some r)=>match g r with
      |some ⟨_,.map es _⟩=>some (findX g k (ρ x) es 0)
      |_=>none
     |_=>none) with
    |some (some (some (_,v)))=>some ⟨match ok with|true=>.tuple #[v,.bool true]|false=>v,[],nx⟩
    |some (some none)=>some ⟨match ok with|true=>.tuple #[z,.bool false]|false=>z,[],nx⟩
    |_=>none
def f_mapUpdate (k:EqK) (m:Operand) (x:Operand) (v:Operand) (g:Nat→Option AObj) (nx:Nat) (ρ:Operand→Value):Option PR:=
 match ρ m with
  |.map (some r)=>match g r with
   |some ⟨ver,.map es clock⟩=>match findX g k (ρ x) es 0 with
    |some (some (i,_))=>some ⟨undef,[(r,some ⟨ver+1,.map (es.modify i fun e=>{ e with key:=ρ x,val:=ρ v }) clock⟩)],nx⟩
    |some none=>some ⟨undef,[(r,some ⟨ver+1,.map (es++[{ key:=ρ x,val:=ρ v,born:=clock }]) (clock+1)⟩)],nx⟩
    |none=>none
   |_=>none
  |_=>none
def f_assertT (t:TypeId) (z:Value) (x:Operand) (ok:Bool) (g:Nat→Option AObj) (nx:Nat) (ρ:Operand→Value):Option PR:=
 match ρ x with
  |.iface u v=>match Nat.beq u t with
   |true=>some ⟨match ok with|true=>.tuple #[v,.bool true]|false=>v,[],nx⟩
   |false=>match ok with
    |true=>some ⟨.tuple #[z,.bool false],[],nx⟩
    |false=>none
  |.nilIface=>match ok with
   |true=>some ⟨.tuple #[z,.bool false],[],nx⟩
   |false=>none
  |_=>none
def f_extract (x:Operand) (i:Nat) (g:Nat→Option AObj) (nx:Nat) (ρ:Operand→Value):Option PR:=
 match ρ x with
  |.tuple vs=>match vs.toList[i]? with
   |some v=>some ⟨v,[],nx⟩
   |none=>none
  |_=>none
def f_lenStr (x:Operand) (g:Nat→Option AObj) (nx:Nat) (ρ:Operand→Value):Option PR:=
 match ρ x with
  |.string s=>some ⟨.int .i64 (.ofNat s.data.toList.length),[],nx⟩
  |_=>none
def f_lenSlice (x:Operand) (g:Nat→Option AObj) (nx:Nat) (ρ:Operand→Value):Option PR:=
 match ρ x with
  |.slice _ n _=>some ⟨.int .i64 (.ofNat n),[],nx⟩
  |_=>none
def f_lenArr (n:Nat) (g:Nat→Option AObj) (nx:Nat) (ρ:Operand→Value):Option PR:=
 some ⟨.int .i64 (.ofNat n),[],nx⟩
def f_lenMap (x:Operand) (g:Nat→Option AObj) (nx:Nat) (ρ:Operand→Value):Option PR:=
 match ρ x with
  |.map none=>some ⟨.int .i64 0,[],nx⟩
  |.map (some r)=>match g r with
   |some ⟨_,.map es _⟩=>some ⟨.int .i64 (.ofNat es.length),[],nx⟩
   |_=>none
  |_=>none
def f_capSlice (x:Operand) (g:Nat→Option AObj) (nx:Nat) (ρ:Operand→Value):Option PR:=
 match ρ x with
  |.slice _ _ c=>match Nat.ble capU c with
   |true=>none
   |false=>some ⟨.int .i64 (.ofNat c),[],nx⟩
  |_=>none
def f_append (e:TypeId) (size:Nat) (bytes:Nat) (x:Operand) (y:Operand) (g:Nat→Option AObj) (nx:Nat) (ρ:Operand→Value):Option PR:=
 match srcCells g size (ρ y) with
  |some (n,l)=>xappend g nx e size bytes (ρ x) n l
  |none=>none
def f_appendZ (e:TypeId) (z:List Value) (bytes:Nat) (x:Operand) (n:Operand) (g:Nat→Option AObj) (nx:Nat) (ρ:Operand→Value):Option PR:=
 match ρ n with
  |.int .i64 (.ofNat n)=>match Nat.ble n small&&Nat.ble bytes 65536&&ones z with
   |true=>xappend g nx e z.length bytes (ρ x) n (rep z n)
   |false=>none
  |_=>none
def f_copy (size:Nat) (x:Operand) (y:Operand) (g:Nat→Option AObj) (nx:Nat) (ρ:Operand→Value):Option PR:=
 match ρ x,ρ y with
  |.slice base n _,.slice src m _=>
   match Nat.min m n with
   |0=>some ⟨.int .i64 0,[],nx⟩
   |k=>match base,src with
    |some a,some b=>match loadList g b (k*size) with
     |some l=>match storeList g a l with
      |some δ=>some ⟨.int .i64 (.ofNat k),δ,nx⟩
      |none=>none
     |none=>none
    |_,_=>none
  |_,_=>none
def f_maxI (xs:List Operand) (g:Nat→Option AObj) (nx:Nat) (ρ:Operand→Value):Option PR:=
 match allInts (xs.map ρ) with
  |some ((k,n)::r)=>some ⟨.int k (r.foldl (fun a b=>match ltInt a b.2 with|true=>b.2|false=>a) n),[],nx⟩
  |_=>none
def f_minI (xs:List Operand) (g:Nat→Option AObj) (nx:Nat) (ρ:Operand→Value):Option PR:=
 match allInts (xs.map ρ) with
  |some ((k,n)::r)=>some ⟨.int k (r.foldl (fun a b=>match ltInt b.2 a with|true=>b.2|false=>a) n),[],nx⟩
  |_=>none
def f_rangeStr (x:Operand) (g:Nat→Option AObj) (nx:Nat) (ρ:Operand→Value):Option PR:=none
def f_nextStr (x:Operand) (g:Nat→Option AObj) (nx:Nat) (ρ:Operand→Value):Option PR:=none
def f_call (f:FuncId) (args:List Operand) (g:Nat→Option AObj) (nx:Nat) (ρ:Operand→Value):Option PR:=none
def f_callV (x:Operand) (args:List Operand) (g:Nat→Option AObj) (nx:Nat) (ρ:Operand→Value):Option PR:=none
def f_panic (x:Operand) (g:Nat→Option AObj) (nx:Nat) (ρ:Operand→Value):Option PR:=none
def f_defer (x:Operand) (args:List Operand) (g:Nat→Option AObj) (nx:Nat) (ρ:Operand→Value):Option PR:=none
def f_recover (g:Nat→Option AObj) (nx:Nat) (ρ:Operand→Value):Option PR:=none
noncomputable def fprim (xo:XOp):(Nat→Option AObj)→Nat→(Operand→Value)→Option PR:=
 XOp.rec f_move f_pick f_alloc f_box f_build f_buildSlice f_load1 f_loadN f_store f_nilCheck f_bin f_eq f_un f_toInt f_keep f_bytesToStr f_strToBytes f_mkIface f_mkFunc f_mkMap f_mkSlice f_sliceStr f_slice f_sliceArr f_addr f_field1 f_fieldN f_indexAddr f_indexArrAddr f_indexStr f_index1 f_indexN f_lookup f_mapUpdate f_assertT f_extract f_lenStr f_lenSlice f_lenArr f_lenMap f_capSlice f_append f_appendZ f_copy f_maxI f_minI f_rangeStr f_nextStr f_call f_callV f_panic f_defer f_recover xo
theorem fprim_eq (xo:XOp) (g:Nat→Option AObj) (nx:Nat) (ρ:Operand→Value):fprim xo g nx ρ=xprim g nx ρ xo:=by
 cases xo<;>rfl
end Go.Xe
end
section
namespace Go.Xe
open Go
inductive Path where
 |e
 |l (p:Path)
 |r (p:Path)
noncomputable def pathAux (fuel:Nat):Nat→Path:=
 Nat.rec (fun _=>.e) (fun _ ih n=>Nat.rec .e (fun m _=>Bool.rec (.r (ih (Nat.div m 2))) (.l (ih (Nat.div m 2))) (Nat.beq (Nat.mod m 2) 0)) n) fuel
noncomputable def pathOf (n:Nat):Path:=pathAux n n
section
variable {α:Type}
noncomputable def fget (p:Path):Tri α→Option α:=
 Path.rec (fun t=>Tri.rec none (fun _ v _ _ _=>v) t) (fun _ ih t=>Tri.rec none (fun l _ _ _ _=>ih l) t) (fun _ ih t=>Tri.rec none (fun _ _ r _ _=>ih r) t) p
noncomputable def fset (v:α) (p:Path):Tri α→(Tri α→Bool)→Bool:=
 Path.rec (fun t k=>Tri.rec (k (.node .nil (some v) .nil)) (fun l _ r _ _=>k (.node l (some v) r)) t)
  (fun _ ih t k=>Tri.rec (ih .nil fun x=>k (.node x none .nil)) (fun l w r _ _=>ih l fun x=>k (.node x w r)) t)
  (fun _ ih t k=>Tri.rec (ih .nil fun x=>k (.node .nil none x)) (fun l w r _ _=>ih r fun x=>k (.node l w x)) t) p
theorem div2_lt (m:Nat):Nat.div m 2≤m:=Nat.div_le_self m 2
theorem fget_aux:∀(fuel n:Nat) (t:Tri α),n≤fuel→fget (pathAux fuel n) t=t.get n
 |0,n,t,h=>by
  obtain rfl:n=0:=by omega
  cases t<;>rfl
 |fuel+1,0,t,h=>by cases t<;>rfl
 |fuel+1,n+1,t,h=>by
  have ih:=fun t=>fget_aux fuel (Nat.div n 2) t (by have:=div2_lt n;omega)
  have e1:pathAux (fuel+1) (n+1)=Bool.rec (.r (pathAux fuel (Nat.div n 2))) (.l (pathAux fuel (Nat.div n 2))) (Nat.beq (Nat.mod n 2) 0):=rfl
  rw [e1]
  cases t with
  |nil=>cases hb:Nat.beq (Nat.mod n 2) 0<;>rfl
  |node l v r=>
   simp only [Tri.get]
   cases hb:Nat.beq (Nat.mod n 2) 0
   ·exact ih r
   ·exact ih l
theorem fget_eq (n:Nat) (t:Tri α):fget (pathOf n) t=t.get n:=fget_aux n n t (Nat.le_refl n)
theorem fset_aux (v:α):∀(fuel n f:Nat) (t:Tri α) (k:Tri α→Bool),n≤fuel→n<f→fset v (pathAux fuel n) t k=k (Tri.setAux v f t n)
 |fuel,n,0,t,k,h,hf=>by omega
 |0,n,f+1,t,k,h,hf=>by
  obtain rfl:n=0:=by omega
  cases t<;>rfl
 |fuel+1,0,f+1,t,k,h,hf=>by cases t<;>rfl
 |fuel+1,n+1,f+1,t,k,h,hf=>by
  have ih:=fun t k=>fset_aux v fuel (Nat.div n 2) f t k (by have:=div2_lt n;omega) (by have:=div2_lt n;omega)
  have e1:pathAux (fuel+1) (n+1)=Bool.rec (.r (pathAux fuel (Nat.div n 2))) (.l (pathAux fuel (Nat.div n 2))) (Nat.beq (Nat.mod n 2) 0):=rfl
  rw [e1]
  cases t with
  |nil=>
   simp only [Tri.setAux]
   cases hb:Nat.beq (Nat.mod n 2) 0
   ·exact ih .nil _
   ·exact ih .nil _
  |node l w r=>
   simp only [Tri.setAux]
   cases hb:Nat.beq (Nat.mod n 2) 0
   ·exact ih r _
   ·exact ih l _
theorem fset_eq (v:α) (n:Nat) (t:Tri α) (k:Tri α→Bool):fset v (pathOf n) t k=k (t.set n v):=fset_aux v n n (n+1) t k (Nat.le_refl n) (Nat.lt_succ_self n)
end
noncomputable def fnat (n:Nat) (k:Nat→Bool):Bool:=Nat.rec (k 0) (fun m _=>k (Nat.succ m)) n
theorem fnat_eq (n:Nat) (k:Nat→Bool):fnat n k=k n:=by cases n<;>rfl
noncomputable def fint (i:Int) (k:Int→Bool):Bool:=Int.rec (fun n=>fnat n fun n=>k (.ofNat n)) (fun n=>fnat n fun n=>k (.negSucc n)) i
theorem fint_eq (i:Int) (k:Int→Bool):fint i k=k i:=by
 cases i with
 |ofNat n=>exact fnat_eq n fun n=>k (.ofNat n)
 |negSucc n=>exact fnat_eq n fun n=>k (.negSucc n)
noncomputable def flist {α:Type} (l:List α):(List α→Bool)→Bool:=List.rec (fun k=>k []) (fun x _ ih k=>ih fun r=>k (x::r)) l
theorem flist_eq {α:Type}:∀(l:List α) (k:List α→Bool),flist l k=k l
 |[],k=>rfl
 |x::l,k=>by
  have e:flist (x::l) k=flist l fun r=>k (x::r):=rfl
  rw [e,flist_eq l]
noncomputable def faddr (a:Addr) (k:Addr→Bool):Bool:=Addr.rec (fun b o sp=>fnat b fun b=>fnat o fun o=>k ⟨b,o,sp⟩) a
theorem faddr_eq (a:Addr) (k:Addr→Bool):faddr a k=k a:=by
 cases a with
 |mk b o sp=>
  have e:faddr ⟨b,o,sp⟩ k=fnat b fun b=>fnat o fun o=>k ⟨b,o,sp⟩:=rfl
  rw [e,fnat_eq,fnat_eq]
noncomputable def foaddr (a:Option Addr) (k:Option Addr→Bool):Bool:=Option.rec (k none) (fun a=>faddr a fun a=>k (some a)) a
theorem foaddr_eq (a:Option Addr) (k:Option Addr→Bool):foaddr a k=k a:=by
 cases a with
 |none=>rfl
 |some a=>exact faddr_eq a fun a=>k (some a)
noncomputable def fbool (b:Bool) (k:Bool→Bool):Bool:=Bool.rec (k false) (k true) b
theorem fbool_eq (b:Bool) (k:Bool→Bool):fbool b k=k b:=by cases b<;>rfl
noncomputable def fval (v:Value) (k:Value→Bool):Bool:=
 Value.casesOn (motive_1:=fun _=>Bool) v (fun b=>fbool b fun b=>k (.bool b)) (fun kk n=>fint n fun n=>k (.int kk n)) (fun a b=>k (.float a b)) (fun a b c=>k (.complex a b c)) (fun s=>k (.string s))
  (fun a=>foaddr a fun a=>k (.pointer a)) (fun a n c=>foaddr a fun a=>fnat n fun n=>fnat c fun c=>k (.slice a n c)) (fun r=>k (.map r)) (fun c=>k (.chan c)) (fun f a b=>k (.func f a b)) (k .nilFunc)
  (fun t v=>k (.iface t v)) (k .nilIface) (fun a=>k (.agg a)) (fun a=>k (.tuple a))
theorem fval_eq (v:Value) (k:Value→Bool):fval v k=k v:=by
 cases v<;>first|rfl|skip
 ·rename_i b;exact fbool_eq b fun b=>k (.bool b)
 ·rename_i kk n;exact fint_eq n fun n=>k (.int kk n)
 ·rename_i a;exact foaddr_eq a fun a=>k (.pointer a)
 ·rename_i a n c
  have e:fval (.slice a n c) k=foaddr a fun a=>fnat n fun n=>fnat c fun c=>k (.slice a n c):=rfl
  rw [e,foaddr_eq,fnat_eq,fnat_eq]
end Go.Xe
end
section
namespace Go.Xe
open Go
abbrev Hb:=Nat→Option AObj
abbrev Hh:=Tri (Option AObj)
abbrev KN:=Tri Value→List Dfr→Hb→Hh→Nat→Bool
abbrev KP:=Value→Tri Value→List Dfr→Hb→Hh→Nat→Bool
abbrev KT:=Ex→Tri Value→List Dfr→Hb→Hh→Nat→Bool
abbrev KF:=Tri Value→List Dfr→Hb→Hh→Nat→KT→Bool
abbrev KE:=End→Hb→Hh→Nat→Bool
abbrev FC:=FuncId→List Value→Hb→Hh→Nat→KE→Bool
abbrev KO:=FC→Option Nat→Tri Value→List Dfr→Hb→Hh→Nat→KN→KP→Bool
noncomputable def hget (B:Hb) (h:Hh) (id:Nat):Option AObj:=Option.rec (motive:=fun _=>Option AObj) (B id) (fun o=>o) (fget (pathOf id) h)
noncomputable def fev (tm:Tri Value) (x:Operand):Value:=
 Operand.rec (fun t=>Option.rec undef (fun v=>v) (fget (pathOf t) tm)) (fun v=>v) (fun g=>.pointer (some ⟨g,0,none⟩)) (fun f=>.func (.func f) #[] #[]) x
noncomputable def fput (d:Option Nat) (v:Value) (tm:Tri Value) (k:Tri Value→Bool):Bool:=Option.rec (k tm) (fun t=>fset v (pathOf t) tm k) d
noncomputable def fbody (ver:Nat) (k:Option AObj→Bool) (b:ABody):Bool:=
 ABody.rec (fun vs e ro=>flist vs fun vs=>k (some ⟨ver,.cells vs e ro⟩)) (fun es c=>flist es fun es=>k (some ⟨ver,.map es c⟩)) (fun s p=>k (some ⟨ver,.iter s p⟩)) b
noncomputable def fobj (o:Option AObj) (k:Option AObj→Bool):Bool:=Option.rec (k none) (fun o=>AObj.rec (fun ver b=>fnat ver fun ver=>fbody ver k b) o) o
noncomputable def fdel (δ:List (Nat×Option AObj)):Hh→(Hh→Bool)→Bool:=
 List.rec (fun h k=>k h) (fun x _ ih h k=>Prod.rec (fun id o=>fnat id fun id=>fobj o fun o=>fset o (pathOf id) h fun h=>ih h k) x) δ
noncomputable def fvals (l:List Value):(List Value→Bool)→Bool:=List.rec (fun k=>k []) (fun x _ ih k=>fval x fun x=>ih fun r=>k (x::r)) l
theorem hget_eq (B:Hb) (h:Hh) (nx:Nat):hget B h=(AS.mk B h nx).get:=by
 funext id
 unfold hget AS.get
 rw [fget_eq]
 cases h.get id<;>rfl
theorem fev_eq (tm:Tri Value) (df:List Dfr):fev tm=Act.ev ⟨tm,df⟩:=by
 funext x
 cases x with
 |tmp t=>
  show Option.rec (motive:=fun _=>Value) undef (fun v=>v) (fget (pathOf t) tm)=_
  rw [fget_eq]
  simp only [Act.ev]
  cases tm.get t<;>rfl
 |_=>rfl
theorem fput_eq (d:Option Nat) (v:Value) (tm:Tri Value) (df:List Dfr) (k:Tri Value→Bool):fput d v tm k=k (Act.put ⟨tm,df⟩ d v).tm:=by
 cases d with
 |none=>rfl
 |some t=>exact fset_eq v t tm k
theorem put_df (d:Option Nat) (v:Value) (tm:Tri Value) (df:List Dfr):Act.put ⟨tm,df⟩ d v=⟨(Act.put ⟨tm,df⟩ d v).tm,df⟩:=by cases d<;>rfl
theorem fbody_eq (ver:Nat) (k:Option AObj→Bool) (b:ABody):fbody ver k b=k (some ⟨ver,b⟩):=by
 cases b with
 |cells vs e ro=>exact flist_eq vs fun vs=>k (some ⟨ver,.cells vs e ro⟩)
 |map es c=>exact flist_eq es fun es=>k (some ⟨ver,.map es c⟩)
 |iter s p=>rfl
theorem fobj_eq (o:Option AObj) (k:Option AObj→Bool):fobj o k=k o:=by
 cases o with
 |none=>rfl
 |some o=>
  cases o with
  |mk ver b=>
   have e:fobj (some ⟨ver,b⟩) k=fnat ver fun ver=>fbody ver k b:=rfl
   rw [e,fnat_eq,fbody_eq]
theorem fdel_eq:∀(δ:List (Nat×Option AObj)) (h:Hh) (k:Hh→Bool),fdel δ h k=k (updTri h δ)
 |[],h,k=>rfl
 |(id,o)::r,h,k=>by
  have e:fdel ((id,o)::r) h k=fnat id fun id=>fobj o fun o=>fset o (pathOf id) h fun h=>fdel r h k:=rfl
  rw [e,fnat_eq,fobj_eq,fset_eq,fdel_eq r]
  rfl
theorem fvals_eq:∀(l:List Value) (k:List Value→Bool),fvals l k=k l
 |[],k=>rfl
 |x::l,k=>by
  have e:fvals (x::l) k=fval x fun x=>fvals l fun r=>k (x::r):=rfl
  rw [e,fval_eq,fvals_eq l]
noncomputable def gdone (d:Option Nat) (tm:Tri Value) (df:List Dfr) (B:Hb) (h:Hh) (kn:KN) (p:PR):Bool:=
 PR.rec (fun v δ nx'=>fval v fun v=>fdel δ h fun h=>fnat nx' fun nx'=>fput d v tm fun tm=>kn tm df B h nx') p
noncomputable def gprim (f:(Nat→Option AObj)→Nat→(Operand→Value)→Option PR):KO:=fun _ d tm df B h nx kn _=>
 Option.rec false (gdone d tm df B h kn) (f (hget B h) nx (fev tm))
noncomputable def fret (d:Option Nat) (tm:Tri Value) (df:List Dfr) (kn:KN) (kp:KP) (e:End) (B:Hb) (h:Hh) (nx:Nat):Bool:=
 End.rec (fun v=>fval v fun v=>fput d v tm fun tm=>kn tm df B h nx) (fun v=>kp v tm df B h nx) e
noncomputable def kcall (f:FuncId) (args:List Operand):KO:=fun C d tm df B h nx kn kp=>
 fvals (args.map (fev tm)) fun l=>C f l B h nx (fret d tm df kn kp)
noncomputable def kcallV (x:Operand) (args:List Operand):KO:=fun C d tm df B h nx kn kp=>
 Option.rec false (fun fl=>Prod.rec (fun f l=>fvals l fun l=>C f l B h nx (fret d tm df kn kp)) fl) (target (fev tm x) (args.map (fev tm)))
def asIface:Value→Option Value
 |.iface t v=>some (.iface t v)
 |_=>none
noncomputable def kpanic (x:Operand):KO:=fun _ _ tm df B h nx _ kp=>Option.rec false (fun v=>kp v tm df B h nx) (asIface (fev tm x))
noncomputable def kdefer (x:Operand) (args:List Operand):KO:=fun _ d tm df B h nx kn _=>
 Option.rec false (fun fl=>Prod.rec (fun f l=>fvals l fun l=>fput d undef tm fun tm=>kn tm (⟨f,l⟩::df) B h nx) fl) (target (fev tm x) (args.map (fev tm)))
noncomputable def knone:KO:=fun _ _ _ _ _ _ _ _ _=>false
noncomputable def fone (op:XOp):KO:=
 XOp.rec (motive:=fun _=>KO)
  (fun x=>gprim (f_move x))
  (fun c a b=>gprim (f_pick c a b))
  (fun elem zero=>gprim (f_alloc elem zero))
  (fun elem x=>gprim (f_box elem x))
  (fun zero parts=>gprim (f_build zero parts))
  (fun elem size zero len parts=>gprim (f_buildSlice elem size zero len parts))
  (fun a=>gprim (f_load1 a))
  (fun n a=>gprim (f_loadN n a))
  (fun n a x=>gprim (f_store n a x))
  (fun x=>gprim (f_nilCheck x))
  (fun op x y=>gprim (f_bin op x y))
  (fun k neg x y=>gprim (f_eq k neg x y))
  (fun op x=>gprim (f_un op x))
  (fun k x=>gprim (f_toInt k x))
  (fun x=>gprim (f_keep x))
  (fun x=>gprim (f_bytesToStr x))
  (fun elem x=>gprim (f_strToBytes elem x))
  (fun t x=>gprim (f_mkIface t x))
  (fun fn first captured=>gprim (f_mkFunc fn first captured))
  (gprim (f_mkMap))
  (fun elem zero bytes l c=>gprim (f_mkSlice elem zero bytes l c))
  (fun x lo hi=>gprim (f_sliceStr x lo hi))
  (fun size x lo hi mx=>gprim (f_slice size x lo hi mx))
  (fun n size x lo hi mx=>gprim (f_sliceArr n size x lo hi mx))
  (fun off x=>gprim (f_addr off x))
  (fun off x=>gprim (f_field1 off x))
  (fun off n x=>gprim (f_fieldN off n x))
  (fun size x i=>gprim (f_indexAddr size x i))
  (fun len size x i=>gprim (f_indexArrAddr len size x i))
  (fun x i=>gprim (f_indexStr x i))
  (fun len x i=>gprim (f_index1 len x i))
  (fun len size x i=>gprim (f_indexN len size x i))
  (fun k zero m x ok=>gprim (f_lookup k zero m x ok))
  (fun k m x v=>gprim (f_mapUpdate k m x v))
  (fun t zero x ok=>gprim (f_assertT t zero x ok))
  (fun x i=>gprim (f_extract x i))
  (fun x=>gprim (f_lenStr x))
  (fun x=>gprim (f_lenSlice x))
  (fun n=>gprim (f_lenArr n))
  (fun x=>gprim (f_lenMap x))
  (fun x=>gprim (f_capSlice x))
  (fun elem size bytes x y=>gprim (f_append elem size bytes x y))
  (fun elem zero bytes x n=>gprim (f_appendZ elem zero bytes x n))
  (fun size x y=>gprim (f_copy size x y))
  (fun xs=>gprim (f_maxI xs))
  (fun xs=>gprim (f_minI xs))
  (fun x=>gprim (f_rangeStr x))
  (fun x=>gprim (f_nextStr x))
  (fun f args=>kcall f args)
  (fun x args=>kcallV x args)
  (fun x=>kpanic x)
  (fun x args=>kdefer x args)
  (knone) op
theorem fone_prim (op:XOp) (h:isPrim op=true):fone op=gprim (fprim op):=by
 cases op<;>first|rfl|(cases h;done)
def wantedF (tm:Tri Value) (g:Option (Nat×Bool)):Bool:=wantedX ⟨tm,[]⟩ g
noncomputable def foper (C:FC) (o:XOper) (ih:KF):KF:=fun tm df B h nx k=>
 XOper.rec (fun d op g=>Bool.rec (fput d undef tm fun tm=>ih tm df B h nx k) (fone op C d tm df B h nx (fun tm df B h nx=>ih tm df B h nx k) (fun v tm df B h nx=>k (.panic v) tm df B h nx)) (wantedF tm g)) o
noncomputable def fops (C:FC) (l:List XOper):KF:=List.rec (fun tm df B h nx k=>k .normal tm df B h nx) (fun o _ ih=>foper C o ih) l
def SndF (f:KF) (r:Act→AS→Option (Ex×Act×AS)):Prop:=∀tm df B h nx k,f tm df B h nx k=true→
 ∃e tm' df' B' h' nx',r ⟨tm,df⟩ ⟨B,h,nx⟩=some (e,⟨tm',df'⟩,⟨B',h',nx'⟩)∧k e tm' df' B' h' nx'=true
def SndC (C:FC) (C':Callee):Prop:=∀f args B h nx k,C f args B h nx k=true→∃e B' h' nx',C' f args ⟨B,h,nx⟩=some (e,⟨B',h',nx'⟩)∧k e B' h' nx'=true
theorem gprim_snd {f:(Nat→Option AObj)→Nat→(Operand→Value)→Option PR} {C:FC} {d:Option Nat} {tm:Tri Value} {df:List Dfr} {B:Hb} {h:Hh} {nx:Nat} {kn:KN} {kp:KP} (hg:gprim f C d tm df B h nx kn kp=true):
  ∃p,f (AS.mk B h nx).get nx (Act.ev ⟨tm,df⟩)=some p∧kn (Act.put ⟨tm,df⟩ d p.v).tm df B (updTri h p.δ) p.nx=true:=by
 unfold gprim at hg
 rw [hget_eq B h nx,fev_eq tm df] at hg
 cases hf:f (AS.mk B h nx).get nx (Act.ev ⟨tm,df⟩) with
 |none=>rw [hf] at hg;cases hg
 |some p=>
  rw [hf] at hg
  refine ⟨p,rfl,?_⟩
  obtain ⟨v,δ,nx'⟩:=p
  have e:gdone d tm df B h kn ⟨v,δ,nx'⟩=fval v fun v=>fdel δ h fun h=>fnat nx' fun nx'=>fput d v tm fun tm=>kn tm df B h nx':=rfl
  have hg':gdone d tm df B h kn ⟨v,δ,nx'⟩=true:=hg
  rw [e,fval_eq,fdel_eq,fnat_eq,fput_eq (df:=df)] at hg'
  exact hg'
theorem fret_snd {d:Option Nat} {tm:Tri Value} {df:List Dfr} {kn:KN} {kp:KP} {e:End} {B:Hb} {h:Hh} {nx:Nat} (hr:fret d tm df kn kp e B h nx=true):
  (∃v,e=.ret v∧kn (Act.put ⟨tm,df⟩ d v).tm df B h nx=true)∨(∃v,e=.panic v∧kp v tm df B h nx=true):=by
 cases e with
 |ret v=>
  have e:fret d tm df kn kp (.ret v) B h nx=fval v fun v=>fput d v tm fun tm=>kn tm df B h nx:=rfl
  rw [e,fval_eq,fput_eq (df:=df)] at hr
  exact .inl ⟨v,rfl,hr⟩
 |panic v=>exact .inr ⟨v,rfl,hr⟩
theorem wantedF_eq (tm:Tri Value) (df:List Dfr) (g:Option (Nat×Bool)):wantedF tm g=wantedX ⟨tm,df⟩ g:=by
 cases g with
 |none=>rfl
 |some p=>rfl
theorem fops_snd {C:FC} {C':Callee} (hC:SndC C C'):∀l,SndF (fops C l) (xops C' l)
 |[]=>fun tm df B h nx k hk=>⟨.normal,tm,df,B,h,nx,rfl,hk⟩
 |o::l=>fun tm df B h nx k hk=>by
  have ih:=fops_snd hC l
  obtain ⟨d,op,g⟩:=o
  have e:fops C (⟨d,op,g⟩::l) tm df B h nx k=Bool.rec (fput d undef tm fun tm=>fops C l tm df B h nx k) (fone op C d tm df B h nx (fun tm df B h nx=>fops C l tm df B h nx k) (fun v tm df B h nx=>k (.panic v) tm df B h nx)) (wantedF tm g):=rfl
  rw [e,wantedF_eq tm df] at hk
  unfold xops
  simp only
  cases hw:wantedX ⟨tm,df⟩ g with
  |false=>
   rw [hw] at hk
   replace hk:(fput d undef tm fun tm=>fops C l tm df B h nx k)=true:=hk
   rw [fput_eq (df:=df)] at hk
   rw [put_df]
   exact ih _ _ _ _ _ _ hk
  |true=>
   rw [hw] at hk
   replace hk:fone op C d tm df B h nx (fun tm df B h nx=>fops C l tm df B h nx k) (fun v tm df B h nx=>k (.panic v) tm df B h nx)=true:=hk
   have prim:isPrim op=true→∃e tm' df' B' h' nx',(match xprim (AS.mk B h nx).get nx (Act.ev ⟨tm,df⟩) op with
     |some p=>xops C' l (Act.put ⟨tm,df⟩ d p.v) ((AS.mk B h nx).upd p.δ p.nx)
     |none=>none)=some (e,⟨tm',df'⟩,⟨B',h',nx'⟩)∧k e tm' df' B' h' nx'=true:=by
    intro hp
    rw [fone_prim op hp] at hk
    obtain ⟨p,h1,h2⟩:=gprim_snd hk
    rw [fprim_eq] at h1
    rw [h1]
    simp only
    rw [put_df]
    exact ih _ _ _ _ _ _ h2
   cases op
   case call f args=>
    have e:fone (.call f args) C d tm df B h nx (fun tm df B h nx=>fops C l tm df B h nx k) (fun v tm df B h nx=>k (.panic v) tm df B h nx)=
     fvals (args.map (fev tm)) fun l2=>C f l2 B h nx (fret d tm df (fun tm df B h nx=>fops C l tm df B h nx k) (fun v tm df B h nx=>k (.panic v) tm df B h nx)):=rfl
    rw [e,fvals_eq,fev_eq tm df] at hk
    obtain ⟨en,B',h',nx',h1,h2⟩:=hC _ _ _ _ _ _ hk
    simp only
    rw [h1]
    rcases fret_snd h2 with ⟨v,rfl,h3⟩|⟨v,rfl,h3⟩
    ·simp only
     rw [put_df]
     exact ih _ _ _ _ _ _ h3
    ·exact ⟨_,_,_,_,_,_,rfl,h3⟩
   case callV x args=>
    have e:fone (.callV x args) C d tm df B h nx (fun tm df B h nx=>fops C l tm df B h nx k) (fun v tm df B h nx=>k (.panic v) tm df B h nx)=
     Option.rec false (fun fl=>Prod.rec (fun f l2=>fvals l2 fun l2=>C f l2 B h nx (fret d tm df (fun tm df B h nx=>fops C l tm df B h nx k) (fun v tm df B h nx=>k (.panic v) tm df B h nx))) fl) (target (fev tm x) (args.map (fev tm))):=rfl
    rw [e,fev_eq tm df] at hk
    simp only
    cases ht:target (Act.ev ⟨tm,df⟩ x) (args.map (Act.ev ⟨tm,df⟩)) with
    |none=>rw [ht] at hk;cases hk
    |some fl=>
     obtain ⟨f,l2⟩:=fl
     rw [ht] at hk
     have hk:(fvals l2 fun l2=>C f l2 B h nx (fret d tm df (fun tm df B h nx=>fops C l tm df B h nx k) (fun v tm df B h nx=>k (.panic v) tm df B h nx)))=true:=hk
     rw [fvals_eq] at hk
     obtain ⟨en,B',h',nx',h1,h2⟩:=hC _ _ _ _ _ _ hk
     simp only
     rw [h1]
     rcases fret_snd h2 with ⟨v,rfl,h3⟩|⟨v,rfl,h3⟩
     ·simp only
      rw [put_df]
      exact ih _ _ _ _ _ _ h3
     ·exact ⟨_,_,_,_,_,_,rfl,h3⟩
   case panic x=>
    have e:fone (.panic x) C d tm df B h nx (fun tm df B h nx=>fops C l tm df B h nx k) (fun v tm df B h nx=>k (.panic v) tm df B h nx)=
     Option.rec false (fun v=>k (.panic v) tm df B h nx) (asIface (fev tm x)):=rfl
    rw [e,fev_eq tm df] at hk
    simp only
    cases hv:Act.ev ⟨tm,df⟩ x<;>rw [hv] at hk<;>first|(cases hk;done)|skip
    exact ⟨_,_,_,_,_,_,rfl,hk⟩
   case defer x args=>
    have e:fone (.defer x args) C d tm df B h nx (fun tm df B h nx=>fops C l tm df B h nx k) (fun v tm df B h nx=>k (.panic v) tm df B h nx)=
     Option.rec false (fun fl=>Prod.rec (fun f l2=>fvals l2 fun l2=>fput d undef tm fun tm=>fops C l tm (⟨f,l2⟩::df) B h nx k) fl) (target (fev tm x) (args.map (fev tm))):=rfl
    rw [e,fev_eq tm df] at hk
    simp only
    cases ht:target (Act.ev ⟨tm,df⟩ x) (args.map (Act.ev ⟨tm,df⟩)) with
    |none=>rw [ht] at hk;cases hk
    |some fl=>
     obtain ⟨f,l2⟩:=fl
     rw [ht] at hk
     have hk:(fvals l2 fun l2=>fput d undef tm fun tm=>fops C l tm (⟨f,l2⟩::df) B h nx k)=true:=hk
     rw [fvals_eq,fput_eq (df:=⟨f,l2⟩::df)] at hk
     simp only
     rw [put_df]
     exact ih _ _ _ _ _ _ hk
   case recover=>cases hk
   all_goals exact prim rfl
end Go.Xe
end
section
namespace Go.Xe
open Go
def isCallX:XOp→Bool
 |.call _ _|.callV _ _=>true
 |_=>false
def okD (op:XOp):Bool:=isPrim op||isCallX op
def wroteF:Option PR→List Nat
 |some p=>p.δ.map (·.1)
 |none=>[]
noncomputable def frec (op:XOp) (tm:Tri Value) (B:Hb) (h:Hh) (nx:Nat) (B':Hb) (h':Hh) (nx':Nat):Rec:=
 ⟨isCallX op,touch (hget B h) (fev tm) op,wroteF (xprim (hget B h) nx (fev tm) op),⟨B,h,nx⟩,⟨B',h',nx'⟩⟩
abbrev KD:=Tri Value→List Dfr→Hb→Hh→Nat→List Rec→Bool
abbrev KFD:=Tri Value→List Dfr→Hb→Hh→Nat→List Rec→KD→Bool
noncomputable def foperD (C:FC) (o:XOper) (ih:KFD):KFD:=fun tm df B h nx rs k=>
 XOper.rec (fun d op g=>Bool.rec (fput d undef tm fun tm'=>ih tm' df B h nx (⟨false,[],[],⟨B,h,nx⟩,⟨B,h,nx⟩⟩::rs) k)
  (Bool.rec false (fone op C d tm df B h nx (fun tm' df' B' h' nx'=>ih tm' df' B' h' nx' (frec op tm B h nx B' h' nx'::rs) k) (fun _ _ _ _ _ _=>false)) (okD op)) (wantedF tm g)) o
noncomputable def fopsD (C:FC) (l:List XOper):KFD:=List.rec (fun tm df B h nx rs k=>k tm df B h nx rs.reverse) (fun o _ ih=>foperD C o ih) l
theorem fopsD_snd {C:FC} {C':Callee} (hC:SndC C C'):∀l tm df B h nx rs k,fopsD C l tm df B h nx rs k=true→
  ∃tm' df' B' h' nx' rs',xopsD C' l ⟨tm,df⟩ ⟨B,h,nx⟩ rs=some (⟨tm',df'⟩,⟨B',h',nx'⟩,rs')∧k tm' df' B' h' nx' rs'=true
 |[],tm,df,B,h,nx,rs,k,hk=>⟨tm,df,B,h,nx,rs.reverse,rfl,hk⟩
 |o::l,tm,df,B,h,nx,rs,k,hk=>by
  have ih:=fopsD_snd hC l
  obtain ⟨d,op,g⟩:=o
  have e:fopsD C (⟨d,op,g⟩::l) tm df B h nx rs k=Bool.rec (fput d undef tm fun tm'=>fopsD C l tm' df B h nx (⟨false,[],[],⟨B,h,nx⟩,⟨B,h,nx⟩⟩::rs) k)
    (Bool.rec false (fone op C d tm df B h nx (fun tm' df' B' h' nx'=>fopsD C l tm' df' B' h' nx' (frec op tm B h nx B' h' nx'::rs) k) (fun _ _ _ _ _ _=>false)) (okD op)) (wantedF tm g):=rfl
  rw [e,wantedF_eq tm df] at hk
  unfold xopsD
  simp only
  cases hw:wantedX ⟨tm,df⟩ g with
  |false=>
   rw [hw] at hk
   replace hk:(fput d undef tm fun tm'=>fopsD C l tm' df B h nx (⟨false,[],[],⟨B,h,nx⟩,⟨B,h,nx⟩⟩::rs) k)=true:=hk
   rw [fput_eq (df:=df)] at hk
   rw [put_df]
   exact ih _ _ _ _ _ _ _ hk
  |true=>
   rw [hw] at hk
   replace hk:(Bool.rec false (fone op C d tm df B h nx (fun tm' df' B' h' nx'=>fopsD C l tm' df' B' h' nx' (frec op tm B h nx B' h' nx'::rs) k) (fun _ _ _ _ _ _=>false)) (okD op):Bool)=true:=hk
   cases hok:okD op with
   |false=>rw [hok] at hk;cases hk
   |true=>
    rw [hok] at hk
    replace hk:fone op C d tm df B h nx (fun tm' df' B' h' nx'=>fopsD C l tm' df' B' h' nx' (frec op tm B h nx B' h' nx'::rs) k) (fun _ _ _ _ _ _=>false)=true:=hk
    have prim:isPrim op=true→isCallX op=false→∃tm' df' B' h' nx' rs',(match xprim (AS.mk B h nx).get nx (Act.ev ⟨tm,df⟩) op with
      |some p=>xopsD C' l (Act.put ⟨tm,df⟩ d p.v) ((AS.mk B h nx).upd p.δ p.nx) (⟨false,touch (AS.mk B h nx).get (Act.ev ⟨tm,df⟩) op,p.δ.map (·.1),⟨B,h,nx⟩,(AS.mk B h nx).upd p.δ p.nx⟩::rs)
      |none=>none)=some (⟨tm',df'⟩,⟨B',h',nx'⟩,rs')∧k tm' df' B' h' nx' rs'=true:=by
     intro hp hcx
     rw [fone_prim op hp] at hk
     obtain ⟨p,h1,h2⟩:=gprim_snd hk
     rw [fprim_eq] at h1
     simp only [frec,hcx,hget_eq B h nx,fev_eq tm df,h1,wroteF] at h2
     rw [h1]
     simp only
     rw [put_df]
     exact ih _ _ _ _ _ _ _ h2
    cases op
    case call f args=>
     have e:fone (.call f args) C d tm df B h nx (fun tm' df' B' h' nx'=>fopsD C l tm' df' B' h' nx' (frec (.call f args) tm B h nx B' h' nx'::rs) k) (fun _ _ _ _ _ _=>false)=
      fvals (args.map (fev tm)) fun l2=>C f l2 B h nx (fret d tm df (fun tm' df' B' h' nx'=>fopsD C l tm' df' B' h' nx' (frec (.call f args) tm B h nx B' h' nx'::rs) k) (fun _ _ _ _ _ _=>false)):=rfl
     rw [e,fvals_eq,fev_eq tm df] at hk
     obtain ⟨en,B',h',nx',h1,h2⟩:=hC _ _ _ _ _ _ hk
     simp only
     rw [h1]
     rcases fret_snd h2 with ⟨v,rfl,h3⟩|⟨v,rfl,h3⟩
     ·simp only
      rw [put_df]
      exact ih _ _ _ _ _ _ _ h3
     ·cases h3
    case callV x args=>
     have e:fone (.callV x args) C d tm df B h nx (fun tm' df' B' h' nx'=>fopsD C l tm' df' B' h' nx' (frec (.callV x args) tm B h nx B' h' nx'::rs) k) (fun _ _ _ _ _ _=>false)=
      Option.rec false (fun fl=>Prod.rec (fun f l2=>fvals l2 fun l2=>C f l2 B h nx (fret d tm df (fun tm' df' B' h' nx'=>fopsD C l tm' df' B' h' nx' (frec (.callV x args) tm B h nx B' h' nx'::rs) k) (fun _ _ _ _ _ _=>false))) fl) (target (fev tm x) (args.map (fev tm))):=rfl
     rw [e,fev_eq tm df] at hk
     simp only
     cases ht:target (Act.ev ⟨tm,df⟩ x) (args.map (Act.ev ⟨tm,df⟩)) with
     |none=>rw [ht] at hk;cases hk
     |some fl=>
      obtain ⟨f,l2⟩:=fl
      rw [ht] at hk
      replace hk:(fvals l2 fun l2=>C f l2 B h nx (fret d tm df (fun tm' df' B' h' nx'=>fopsD C l tm' df' B' h' nx' (frec (.callV x args) tm B h nx B' h' nx'::rs) k) (fun _ _ _ _ _ _=>false)))=true:=hk
      rw [fvals_eq] at hk
      obtain ⟨en,B',h',nx',h1,h2⟩:=hC _ _ _ _ _ _ hk
      simp only
      rw [h1]
      rcases fret_snd h2 with ⟨v,rfl,h3⟩|⟨v,rfl,h3⟩
      ·simp only
       rw [put_df]
       exact ih _ _ _ _ _ _ _ h3
      ·cases h3
    case panic x=>cases hok
    case defer x args=>cases hok
    case recover=>cases hok
    all_goals exact prim rfl rfl
noncomputable def fdrawK (ps:List (Nat×Nat)) (k:KT):KD:=fun tm df B h nx l=>Bool.rec false (k .normal tm df B h nx) (pairsOk l ps)
noncomputable def fdraw (C:FC) (ops:List XOper) (ps:List (Nat×Nat)):KF:=fun tm df B h nx k=>fopsD C ops tm df B h nx [] (fdrawK ps k)
noncomputable def fseqK (y:KF) (k:KT):KT:=fun e tm df B h nx=>
 Ex.rec (y tm df B h nx k) (fun id=>k (.exit id) tm df B h nx) (k .ret tm df B h nx) (fun v=>k (.panic v) tm df B h nx) e
noncomputable def fseq (x y:KF):KF:=fun tm df B h nx k=>x tm df B h nx (fseqK y k)
def asBoolF:Value→Option Bool
 |.bool b=>some b
 |_=>none
noncomputable def fcond (c:Operand) (x y:KF):KF:=fun tm df B h nx k=>Option.rec false (fun b=>Bool.rec (y tm df B h nx k) (x tm df B h nx k) b) (asBoolF (fev tm c))
noncomputable def fblockK (id:Nat) (k:KT):KT:=fun e tm df B h nx=>
 Ex.rec (k .normal tm df B h nx) (fun j=>Bool.rec (k (.exit j) tm df B h nx) (k .normal tm df B h nx) (Nat.beq j id)) (k .ret tm df B h nx) (fun v=>k (.panic v) tm df B h nx) e
noncomputable def fblock (id:Nat) (x:KF):KF:=fun tm df B h nx k=>x tm df B h nx (fblockK id k)
noncomputable def floopS (x:KF) (rest:KF):KF:=fun tm df B h nx k=>x tm df B h nx (fseqK rest k)
noncomputable def floop (x:KF) (n:Nat):KF:=Nat.rec (fun _ _ _ _ _ _=>false) (fun _ ih=>floopS x ih) n
noncomputable def fend (e:Ex):KF:=fun tm df B h nx k=>k e tm df B h nx
noncomputable def fcode (C:FC) (n:Nat) (c:XCode):KF:=
 XCode.rec (motive:=fun _=>KF) (fend .normal) (fops C) (fdraw C) (fun _ _=>fseq) (fun c _ _=>fcond c) (fun id _=>fblock id) (fun _ x=>floop x n) (fun id=>fend (.exit id)) (fend .ret) c
theorem fcode_snd {C:FC} {C':Callee} (hC:SndC C C') (n:Nat):∀c,SndF (fcode C n c) (xcode C' n c)
 |.skip=>fun tm df B h nx k hk=>⟨_,_,_,_,_,_,rfl,hk⟩
 |.exit id=>fun tm df B h nx k hk=>⟨_,_,_,_,_,_,rfl,hk⟩
 |.ret=>fun tm df B h nx k hk=>⟨_,_,_,_,_,_,rfl,hk⟩
 |.region ops=>fun tm df B h nx k hk=>by
  have:=fops_snd hC ops tm df B h nx k hk
  simpa only [xcode] using this
 |.regionD ops ps=>fun tm df B h nx k hk=>by
  have hk':fopsD C ops tm df B h nx [] (fdrawK ps k)=true:=hk
  obtain ⟨tm',df',B',h',nx',rs',h1,h2⟩:=fopsD_snd hC ops _ _ _ _ _ _ _ hk'
  simp only [xcode,h1]
  unfold fdrawK at h2
  cases hp:pairsOk rs' ps with
  |false=>rw [hp] at h2;cases h2
  |true=>rw [hp] at h2;exact ⟨_,_,_,_,_,_,rfl,h2⟩
 |.seq x y=>fun tm df B h nx k hk=>by
  have hk':fcode C n x tm df B h nx (fseqK (fcode C n y) k)=true:=hk
  obtain ⟨e,tm',df',B',h',nx',h1,h2⟩:=fcode_snd hC n x _ _ _ _ _ _ hk'
  simp only [xcode,h1]
  cases e with
  |normal=>exact fcode_snd hC n y _ _ _ _ _ _ h2
  |exit id=>exact ⟨_,_,_,_,_,_,rfl,h2⟩
  |ret=>exact ⟨_,_,_,_,_,_,rfl,h2⟩
  |panic v=>exact ⟨_,_,_,_,_,_,rfl,h2⟩
 |.cond c x y=>fun tm df B h nx k hk=>by
  have hk':(Option.rec false (fun b=>Bool.rec (fcode C n y tm df B h nx k) (fcode C n x tm df B h nx k) b) (asBoolF (fev tm c)):Bool)=true:=hk
  rw [fev_eq tm df] at hk'
  simp only [xcode]
  cases hv:Act.ev ⟨tm,df⟩ c<;>rw [hv] at hk'<;>first|(cases hk';done)|skip
  rename_i b
  cases b with
  |true=>exact fcode_snd hC n x _ _ _ _ _ _ hk'
  |false=>exact fcode_snd hC n y _ _ _ _ _ _ hk'
 |.block id c=>fun tm df B h nx k hk=>by
  have hk':fcode C n c tm df B h nx (fblockK id k)=true:=hk
  obtain ⟨e,tm',df',B',h',nx',h1,h2⟩:=fcode_snd hC n c _ _ _ _ _ _ hk'
  simp only [xcode,h1]
  cases e with
  |normal=>exact ⟨_,_,_,_,_,_,rfl,h2⟩
  |exit j=>
   unfold fblockK at h2
   simp only
   cases hb:Nat.beq j id with
   |true=>simp only [hb] at h2;exact ⟨_,_,_,_,_,_,rfl,h2⟩
   |false=>simp only [hb] at h2;exact ⟨_,_,_,_,_,_,rfl,h2⟩
  |ret=>exact ⟨_,_,_,_,_,_,rfl,h2⟩
  |panic v=>exact ⟨_,_,_,_,_,_,rfl,h2⟩
 |.loop c=>fun tm df B h nx k hk=>by
  have key:∀m tm df B h nx k,floop (fcode C n c) m tm df B h nx k=true→∃e tm' df' B' h' nx',xloop (xcode C' n c) m ⟨tm,df⟩ ⟨B,h,nx⟩=some (e,⟨tm',df'⟩,⟨B',h',nx'⟩)∧k e tm' df' B' h' nx'=true:=by
   intro m
   induction m with
   |zero=>intro tm df B h nx k hk;cases hk
   |succ m ih=>
    intro tm df B h nx k hk
    have hk':fcode C n c tm df B h nx (fseqK (floop (fcode C n c) m) k)=true:=hk
    obtain ⟨e,tm',df',B',h',nx',h1,h2⟩:=fcode_snd hC n c _ _ _ _ _ _ hk'
    simp only [xloop,h1]
    cases e with
    |normal=>exact ih _ _ _ _ _ _ h2
    |exit id=>exact ⟨_,_,_,_,_,_,rfl,h2⟩
    |ret=>exact ⟨_,_,_,_,_,_,rfl,h2⟩
    |panic v=>exact ⟨_,_,_,_,_,_,rfl,h2⟩
  simp only [xcode]
  exact key n tm df B h nx k hk
noncomputable def fenter (args:List Value):Nat→Tri Value→(Tri Value→Bool)→Bool:=
 List.rec (fun _ t k=>k t) (fun x _ ih i t k=>fset x (pathOf i) t fun t=>fnat (Nat.succ i) fun j=>ih j t k) args
theorem fenter_eq:∀(args:List Value) (i:Nat) (t:Tri Value) (k:Tri Value→Bool),fenter args i t k=k (Tri.ofList args i t)
 |[],i,t,k=>rfl
 |x::l,i,t,k=>by
  have e:fenter (x::l) i t k=fset x (pathOf i) t fun t=>fnat (Nat.succ i) fun j=>fenter l j t k:=rfl
  rw [e,fset_eq,fnat_eq,fenter_eq l]
  rfl
noncomputable def fslow (F:FuncId→Option XFun) (O:FuncId→List Value→Option Value) (n:Nat) (fn:XFun) (k:KE) (m:Mode) (tm:Tri Value) (df:List Dfr) (B:Hb) (h:Hh) (nx:Nat):Bool:=
 match xdefers (xcall F O n) F n df ⟨B,h,nx⟩ m with
 |some (s,m)=>match xfinish ⟨tm,df⟩ fn s m with
  |some (e,s)=>k e s.base s.tri s.next
  |none=>false
 |none=>false
noncomputable def fquick (fn:XFun) (k:KE) (m:Mode) (tm:Tri Value) (B:Hb) (h:Hh) (nx:Nat):Bool:=
 Mode.rec (Option.rec false (fun l=>fval (packed l) fun v=>k (.ret v) B h nx) (xresults ⟨tm,[]⟩ ⟨B,h,nx⟩ fn.results)) (fun v=>k (.panic v) B h nx) false m
noncomputable def ffin (F:FuncId→Option XFun) (O:FuncId→List Value→Option Value) (n:Nat) (fn:XFun) (k:KE) (m:Mode) (tm:Tri Value) (df:List Dfr) (B:Hb) (h:Hh) (nx:Nat):Bool:=
 List.rec (fquick fn k m tm B h nx) (fun _ _ _=>fslow F O n fn k m tm df B h nx) df
noncomputable def fleave (F:FuncId→Option XFun) (O:FuncId→List Value→Option Value) (n:Nat) (fn:XFun) (k:KE):KT:=fun e tm df B h nx=>
 Ex.rec (ffin F O n fn k .ret tm df B h nx) (fun _=>false) (ffin F O n fn k .ret tm df B h nx) (fun v=>ffin F O n fn k (.panicking v) tm df B h nx) e
noncomputable def frun (F:FuncId→Option XFun) (O:FuncId→List Value→Option Value) (n:Nat) (C:FC) (args:List Value) (B:Hb) (h:Hh) (nx:Nat) (k:KE) (fn:XFun):Bool:=
 fenter args 0 .nil fun tm=>fcode C n fn.body tm [] B h nx (fleave F O n fn k)
noncomputable def fcallS (F:FuncId→Option XFun) (O:FuncId→List Value→Option Value) (n:Nat) (C:FC):FC:=fun f args B h nx k=>
 Option.rec (Option.rec false (fun v=>Option.rec (fval v fun v=>k (.ret v) B h nx) (fun _=>false) (markOf v)) (O f args)) (frun F O n C args B h nx k) (F f)
noncomputable def fcall (F:FuncId→Option XFun) (O:FuncId→List Value→Option Value) (n:Nat):FC:=
 Nat.rec (fun _ _ _ _ _ _=>false) (fun n ih=>fcallS F O n ih) n
theorem ffin_snd {F:FuncId→Option XFun} {O:FuncId→List Value→Option Value} {n:Nat} {fn:XFun} {k:KE} {m:Mode} {tm:Tri Value} {df:List Dfr} {B:Hb} {h:Hh} {nx:Nat} (hk:ffin F O n fn k m tm df B h nx=true):
  ∃e B' h' nx',(match xdefers (xcall F O n) F n df ⟨B,h,nx⟩ m with|some (s,m)=>xfinish ⟨tm,df⟩ fn s m|none=>none)=some (e,⟨B',h',nx'⟩)∧k e B' h' nx'=true:=by
 cases df with
 |nil=>
  have hk':fquick fn k m tm B h nx=true:=hk
  simp only [xdefers]
  cases m with
  |ret=>
   have hk2:(Option.rec false (fun l=>fval (packed l) fun v=>k (.ret v) B h nx) (xresults ⟨tm,[]⟩ ⟨B,h,nx⟩ fn.results):Bool)=true:=hk'
   simp only [xfinish]
   cases hr:xresults ⟨tm,[]⟩ ⟨B,h,nx⟩ fn.results with
   |none=>rw [hr] at hk2;cases hk2
   |some l=>
    rw [hr] at hk2
    have hk3:(fval (packed l) fun v=>k (.ret v) B h nx)=true:=hk2
    rw [fval_eq] at hk3
    exact ⟨_,_,_,_,rfl,hk3⟩
  |panicking v=>exact ⟨_,_,_,_,rfl,hk'⟩
  |recovered=>cases hk'
 |cons d r=>
  have hk':fslow F O n fn k m tm (d::r) B h nx=true:=hk
  unfold fslow at hk'
  cases hx:xdefers (xcall F O n) F n (d::r) ⟨B,h,nx⟩ m with
  |none=>rw [hx] at hk';cases hk'
  |some sm=>
   obtain ⟨s,m'⟩:=sm
   rw [hx] at hk'
   simp only at hk' ⊢
   cases hf:xfinish ⟨tm,d::r⟩ fn s m' with
   |none=>rw [hf] at hk';cases hk'
   |some es=>
    obtain ⟨e,s'⟩:=es
    rw [hf] at hk'
    exact ⟨e,s'.base,s'.tri,s'.next,rfl,hk'⟩
theorem fcall_snd (F:FuncId→Option XFun) (O:FuncId→List Value→Option Value):∀n,SndC (fcall F O n) (xcall F O n)
 |0=>fun f args B h nx k hk=>by cases hk
 |n+1=>fun f args B h nx k hk=>by
  have hC:=fcall_snd F O n
  have hk':(Option.rec (Option.rec false (fun v=>Option.rec (fval v fun v=>k (.ret v) B h nx) (fun _=>false) (markOf v)) (O f args)) (frun F O n (fcall F O n) args B h nx k) (F f):Bool)=true:=hk
  simp only [xcall]
  cases hF:F f with
  |none=>
   rw [hF] at hk'
   have hk2:(Option.rec false (fun v=>Option.rec (fval v fun v=>k (.ret v) B h nx) (fun _=>false) (markOf v)) (O f args):Bool)=true:=hk'
   simp only
   cases hO:O f args with
   |none=>rw [hO] at hk2;cases hk2
   |some v=>
    rw [hO] at hk2
    have hk3:(Option.rec (fval v fun v=>k (.ret v) B h nx) (fun _=>false) (markOf v):Bool)=true:=hk2
    simp only [oEnd]
    cases hm:markOf v with
    |some _=>rw [hm] at hk3;cases hk3
    |none=>
     rw [hm] at hk3
     have hk4:(fval v fun v=>k (.ret v) B h nx)=true:=hk3
     rw [fval_eq] at hk4
     exact ⟨_,_,_,_,rfl,hk4⟩
  |some fn=>
   rw [hF] at hk'
   have hk2:(fenter args 0 .nil fun tm=>fcode (fcall F O n) n fn.body tm [] B h nx (fleave F O n fn k))=true:=hk'
   rw [fenter_eq] at hk2
   obtain ⟨e,tm',df',B',h',nx',h1,h2⟩:=fcode_snd hC n fn.body _ _ _ _ _ _ hk2
   have h1':xcode (xcall F O n) n fn.body (enterX args) ⟨B,h,nx⟩=some (e,⟨tm',df'⟩,⟨B',h',nx'⟩):=h1
   simp only [h1']
   cases e with
   |normal=>exact ffin_snd h2
   |exit id=>cases h2
   |ret=>exact ffin_snd h2
   |panic v=>exact ffin_snd h2
end Go.Xe
end
section
namespace Go.Xe
open Go Go.RowKit
def isPre:List UInt8→List UInt8→Bool
 |[],_=>true
 |_::_,[]=>false
 |a::x,b::y=>match Nat.beq a.toNat b.toNat with
  |true=>isPre x y
  |false=>false
def containsL (t:List UInt8):List UInt8→Bool
 |[]=>isPre t []
 |a::s=>match isPre t (a::s) with
  |true=>true
  |false=>containsL t s
def findB (n:Nat):List UInt8→Nat→Option Nat
 |[],_=>none
 |a::s,i=>match Nat.beq a.toNat n with
  |true=>some i
  |false=>findB n s (i+1)
theorem u8_beq (a b:UInt8):Nat.beq a.toNat b.toNat=(a==b):=by
 rw [beqNat]
 by_cases h:a=b
 ·subst h;simp
 ·have:a.toNat≠b.toNat:=fun e=>h (UInt8.toNat_inj.1 e)
  simp [h,this]
theorem isPre_eq:∀x y,isPre x y=x.isPrefixOf y
 |[],y=>by simp [isPre]
 |a::x,[]=>rfl
 |a::x,b::y=>by
  simp only [isPre,List.isPrefixOf,u8_beq]
  cases a==b<;>simp [isPre_eq x y]
theorem containsL_eq (t:List UInt8):∀s,containsL t s=Lib.contains s t
 |[]=>by
  unfold containsL Lib.contains Lib.index
  cases t<;>simp [isPre]
 |a::s=>by
  have ih:=containsL_eq t s
  unfold containsL
  rw [isPre_eq]
  unfold Lib.contains at ih ⊢
  have hge:=Lib.index_ge s t
  unfold Lib.index
  cases hp:t.isPrefixOf (a::s) with
  |true=>simp
  |false=>
   simp only [ih,Bool.false_eq_true,if_false]
   by_cases h:Lib.index s t=-1
   ·simp [h]
   ·have h2:¬(Lib.index s t==-1)=true:=by simpa using h
    rw [if_neg h2]
    have:0≤Lib.index s t:=by omega
    simp [this];omega
theorem findB_eq (n:Nat) (hn:n<256):∀(s:List UInt8) (i:Nat),findB n s i=if Lib.indexByte s n.toUInt8=-1 then none else some (i+(Lib.indexByte s n.toUInt8).toNat)
 |[],i=>by simp [findB,Lib.indexByte]
 |a::s,i=>by
  have e1:(n.toUInt8).toNat=n:=by simp;omega
  have hb:Nat.beq a.toNat n=(a==n.toUInt8):=by rw [←u8_beq,e1]
  have hge:=Lib.indexByte_ge s n.toUInt8
  unfold findB Lib.indexByte
  rw [hb]
  cases a==n.toUInt8 with
  |true=>simp
  |false=>
   simp only [Bool.false_eq_true,if_false]
   rw [findB_eq n hn s (i+1)]
   by_cases h:Lib.indexByte s n.toUInt8=-1
   ·simp [h]
   ·have h2:¬(Lib.indexByte s n.toUInt8==-1)=true:=by simpa using h
    rw [if_neg h,if_neg h2,if_neg (by omega)]
    congr 1
    omega
def goodW (P:Program) (W0:World) (N0:Nat):Prop:=N0=W0.heap.size∧W0.ShapedOpen P
theorem Rel.below {W0:World} {N0:Nat} {φ:Loc} {g:Hp} {w:World} (r:Rel W0 N0 φ g w) (h:N0=W0.heap.size):Below W0.heap.size W0 w:=
 ⟨r.os,r.tape,r.output,by rw [←h];exact r.n0,fun k hk=>r.fixed k (by omega)⟩
theorem Rel.shaped {P:Program} {W0:World} {N0:Nat} {φ:Loc} {g:Hp} {w:World} (r:Rel W0 N0 φ g w) (h:goodW P W0 N0):w.ShapedOpen P:=
 h.2.keptBut ((r.below h.1).frame (fun _=>False)) (fun p hp=>hp.elim)
theorem OOk.still {P:Program} {gl:Glb} {f:FuncId} {args:List Value} {v:Value} (hto:CallTo P f) (hv:plainV v=true) (hm:markOf v=none) (hargs:plainV.plainVs args=true) (hflat:∀φ args',VRels φ args args'→args'=args)
  (h:∀W0 N0 φ g w,gl.good W0 N0→Rel W0 N0 φ g w→Calls P f args.toArray w fun E w'=>E=.returned v∧w'=w):OOk P gl f args v:=by
 refine OOk.plain hto hm fun W0 N0 φ s w args' hi ha=> ?_
 rw [hflat φ args' ha]
 refine Calls.mono (h W0 N0 φ s.get w hi.good hi.rel) ?_
 rintro E w' ⟨rfl,rfl⟩
 exact ⟨v,rfl,VRel.plain φ v hv,hi,Stp.refl _ _ _ _⟩
def isTrue:KE:=fun e _ _ _=>match e with
 |.ret v=>match v with
  |.bool b=>b
  |_=>false
 |_=>false
end Go.Xe
end
section
namespace Go.Xe
open Go Go.Proofs Go.RowKit
theorem OOk.grow {P:Program} {gl:Glb} {f:FuncId} {args:List Value} {v:Value} (hto:CallTo P f) (hv:plainV v=true) (hm:markOf v=none) (hflat:∀φ args',VRels φ args args'→args'=args)
  (h:∀W0 N0 φ g w,gl.good W0 N0→Rel W0 N0 φ g w→Calls P f args.toArray w fun E w'=>E=.returned v∧Below w.heap.size w w'):OOk P gl f args v:=by
 refine OOk.plain hto hm fun W0 N0 φ s w args' hi ha=> ?_
 rw [hflat φ args' ha]
 refine Calls.mono (h W0 N0 φ s.get w hi.good hi.rel) ?_
 rintro E w' ⟨rfl,hb⟩
 have hr:=hi.rel
 have hsz:=hb.size
 refine ⟨v,rfl,VRel.plain φ v hv,⟨⟨Nat.le_trans hr.n0 hsz,fun b hb'=> ?_,hb.os.trans hr.os,hb.tape.trans hr.tape,hb.output.trans hr.output,fun i o hio=> ?_,hr.inj⟩,hi.dm,hi.glob,hi.good⟩,⟨Loc.le_refl φ,fun _ _=>rfl,hsz,fun b hb' _=>hb.block b hb',fun i b d t hg hφ=>.inr ⟨i,d,t,hg,hφ⟩⟩⟩
 ·rw [hb.block b (Nat.lt_of_lt_of_le hb' hr.n0)];exact hr.fixed b hb'
 ·obtain ⟨b,d,t,ob,h1,h2,h3,h4⟩:=hr.obj i o hio
  refine ⟨b,d,t,ob,h1,?_,h3,h4⟩
  have:b<w.heap.size:=by
   rcases Nat.lt_or_ge b w.heap.size with h|h
   ·exact h
   ·rw [Array.getElem?_eq_none h] at h2;cases h2
  rw [hb.block b this];exact h2
end Go.Xe
end
section
namespace Go.Xe
open Go Go.Proofs Go.RowKit
structure Gr (w w':World):Prop where
 size:w.heap.size≤w'.heap.size
 block:∀b,b<w.heap.size→w'.heap[b]? =w.heap[b]?
 os:w'.os=w.os
 tape:w'.tape=w.tape
 output:w'.output=w.output
theorem Rel.gr {W0:World} {N0:Nat} {φ:Loc} {g:Hp} {w w':World} (r:Rel W0 N0 φ g w) (h:Gr w w') (lo:Nat):Rel W0 N0 φ g w'∧Stp φ g w φ g w' lo lo:=by
 refine ⟨⟨Nat.le_trans r.n0 h.size,fun b hb=> ?_,h.os.trans r.os,h.tape.trans r.tape,h.output.trans r.output,fun i o hio=> ?_,r.inj⟩,⟨Loc.le_refl φ,fun _ _=>rfl,h.size,fun b hb _=>h.block b hb,fun i b d t hg hφ=>.inr ⟨i,d,t,hg,hφ⟩⟩⟩
 ·rw [h.block b (Nat.lt_of_lt_of_le hb r.n0)];exact r.fixed b hb
 ·obtain ⟨b,d,t,ob,h1,h2,h3,h4⟩:=r.obj i o hio
  exact ⟨b,d,t,ob,h1,by rw [h.block b (Array.getElem?_eq_some_iff.1 h2).1];exact h2,h3,h4⟩
theorem intsV_some:∀{l:List Value} {zs:List Int},intsV l=some zs→l=encZ zs
 |[],zs,h=>by simp only [intsV] at h;cases h;rfl
 |v::l,zs,h=>by
  unfold intsV at h
  split at h
  ·rename_i h1;cases h1
  ·rename_i z l2 h1
   cases h1
   split at h
   ·rename_i zs' hz
    cases h
    rw [intsV_some hz];rfl
   ·cases h
  ·cases h
theorem rel_encZ {φ:Loc}:∀{zs:List Int} {l:List Value},VRels φ (encZ zs) l→l=encZ zs
 |[],l,h=>by cases h;rfl
 |z::zs,l,h=>by
  simp only [encZ,List.map_cons] at h
  cases h with
  |cons h1 h2=>
   cases h1
   have:=rel_encZ (zs:=zs) h2
   rw [this];rfl
theorem encZ_rel (φ:Loc):∀zs:List Int,VRels φ (encZ zs) (encZ zs)
 |[]=>.nil
 |z::zs=>.cons (.int _ z) (encZ_rel φ zs)
theorem encZ_len (zs:List Int):(encZ zs).length=zs.length:=by simp [encZ]
theorem compactZ_len:∀zs:List Int,(compactZ zs).length≤zs.length
 |[]=>Nat.le_refl _
 |x::l=>by
  have ih:=compactZ_len l
  unfold compactZ
  split
  ·simp
  ·split
   ·simp only [List.length_cons] at ih ⊢;omega
   ·simp only [List.length_cons] at ih ⊢;omega
theorem rowH_len (mk:Mk) (zs:List Int):(rowH mk zs).length=zs.length:=by
 cases mk with
 |sort=>simp [rowH,sortZ]
 |compact=>have:=compactZ_len zs;simp [rowH];omega
def RowsOk (P:Program) (f:FuncId) (mk:Mk):Prop:=∀(b o cap:Nat) (zs:List Int) (c:Array Value) (e:TypeId) (w:World),w.heap[b]? =some (.cells c e (0,0))→(c.toList.drop o).take zs.length=encZ zs→zs≠[]→zs.length≤1073741824→zs.length≤cap→
 Calls P f #[.slice (some ⟨b,o,none⟩) zs.length cap] w fun E w'=>E=.returned (rowRet mk ⟨b,o,none⟩ zs cap)∧Gr (putBlk w b (.cells (setList c.toList o (encZ (rowH mk zs))).toArray e (0,0))) w'
def RowsNil (P:Program) (f:FuncId) (mk:Mk):Prop:=∀(p:Option Addr) (cap:Nat) (w:World),Calls P f #[.slice p 0 cap] w fun E w'=>E=.returned (rowRet0 mk (.slice p 0 cap))∧w'=w
theorem OOk.row {P:Program} {gl:Glb} {f:FuncId} {args:List Value} {mk:Mk} {mv:Value} (hmk:markOf mv=some mk) (hto:CallTo P f) (hs:RowsOk P f mk) (hn:RowsNil P f mk):OOk P gl f args mv:=by
 refine ⟨hto,fun W0 N0 φ s w args' e s' hi ha h=> ?_⟩
 unfold oEnd at h
 rw [hmk] at h
 have h:rowX mk args s=some (e,s'):=h
 unfold rowX at h
 split at h
 ·rename_i p n cc h0
  split at h
  ·rename_i hn0
   cases h
   rw [beqNat] at hn0
   have hn0:=of_decide_eq_true hn0
   subst hn0
   have hret:∀u v',VRel φ u v'→VRel φ (rowRet0 mk u) (rowRet0 mk v'):=fun u v' h=>by
    cases mk with
    |sort=>exact .tuple .nil
    |compact=>exact h
   cases ha with
   |cons hv hnil=>
    cases hnil
    rename_i v'
    have hv':=hv
    have hsl:∃p' cap',v'=.slice p' 0 cap':=by
     cases hv<;>exact ⟨_,_,rfl⟩
    obtain ⟨p',cap',rfl⟩:=hsl
    refine Calls.mono (hn p' cap' w) ?_
    rintro E w' ⟨rfl,rfl⟩
    exact ⟨φ,⟨_,rfl,hret _ _ hv'⟩,hi,Stp.refl _ _ _ _⟩
  ·rename_i a hn0
   rw [beqNat] at hn0
   have hn0:=of_decide_eq_false hn0
   split at h
   ·rename_i l hl
    split at h
    ·rename_i zs hz hble
     split at h
     ·rename_i δ hδ
      cases h
      obtain rfl:=intsV_some hz
      obtain ⟨i,o,ver,vs,ee,rfl,hg,hle,rfl⟩:=storeList_some hδ
      obtain ⟨i',o',ver',vs',e',ro',ha',hg',hle',hll⟩:=loadList_some hl
      cases ha'
      rw [hg] at hg';cases hg'
      have hlen:(encZ zs).length=n:=by rw [hll,List.length_take,List.length_drop];omega
      rw [encZ_len] at hlen
      obtain ⟨b,d,t,ob,hφ,hob,hor,hfix⟩:=hi.rel.obj i _ hg
      obtain ⟨c,fr,hb,hsz0,hfr,h1,hvs,hsz⟩:=hi.rel.cells hg hφ
      obtain rfl:=hfr rfl
      have hw:=hi.rel.write (ver:=ver+1) hg hφ rfl (ORel.stored (e:=ee) (xs:=encZ (rowH mk zs)) (o:=o) hsz0 hvs h1 (encZ_rel φ _) (ones_encZ _) hle) s.next
      have hget:(s.upd [(i,some ⟨ver+1,.cells (setList vs o (encZ (rowH mk zs))) ee false⟩)] s.next).get=Hp.set1 s.get i (some ⟨ver+1,.cells (setList vs o (encZ (rowH mk zs))) ee false⟩):=by
       funext k;rw [AS.upd_get];rfl
      have hdm:Dm (s.upd [(i,some ⟨ver+1,.cells (setList vs o (encZ (rowH mk zs))) ee false⟩)] s.next):=by
       intro k hk
       have hk:s.next≤k:=hk
       rw [hget]
       have hne:i≠k:=by rintro rfl;rw [hi.dm i hk] at hg;cases hg
       rw [Hp.set1_ne _ _ hne];exact hi.dm k hk
      have hz1:zs.length≠0:=by omega
      have hcell:(c.toList.drop (d+o)).take zs.length=encZ zs:=by
       have h2:=(hvs.drop o).take n
       rw [←hll] at h2
       have h3:=rel_encZ h2
       rw [←h3,hlen]
       rw [List.drop_take,List.drop_drop,List.take_take]
       congr 1
       omega
      have hbig:zs.length≤1073741824:=by
       rw [bleNat] at hble
       have:=of_decide_eq_true hble
       omega
      have hcz:=compactZ_len zs
      have hgo:∀cap,n≤cap→VRel φ (rowRet mk ⟨i,o,none⟩ zs cc) (rowRet mk ⟨b,d+o,none⟩ zs cap)→Calls P f #[.slice (some ⟨b,d+o,none⟩) n cap] w fun E w'=>∃ψ,ERel ψ (End.ret (rowRet mk ⟨i,o,none⟩ zs cc)) E∧Inv gl W0 N0 ψ (s.upd [(i,some ⟨ver+1,.cells (setList vs o (encZ (rowH mk zs))) ee false⟩)] s.next) w'∧
        Stp φ s.get w ψ (s.upd [(i,some ⟨ver+1,.cells (setList vs o (encZ (rowH mk zs))) ee false⟩)] s.next).get w' s.next s.next:=by
       intro cap hcap hvr
       rw [←hlen]
       refine Calls.mono (hs b (d+o) cap zs c ee w hb hcell (fun e=>hz1 (by rw [e];rfl)) hbig (by omega)) ?_
       rintro E w' ⟨rfl,hgr⟩
       obtain ⟨q1,q2⟩:=hw.1.gr hgr s.next
       refine ⟨φ,⟨_,rfl,hvr⟩,⟨by rw [hget];exact q1,hdm,hi.glob,hi.good⟩,?_⟩
       rw [hget]
       exact hw.2.trans q2 (Nat.le_refl _) (Nat.le_refl _)
      cases ha with
      |cons hv hnil=>
       cases hnil
       cases hv with
       |slice n c hφ2 q1 q3=>
        rw [hφ] at hφ2;cases hφ2
        refine hgo _ q1 ?_
        cases mk with
        |sort=>exact .tuple .nil
        |compact=>exact .slice _ _ hφ (by omega) q3
       |sliceU n c o' k hφ2 q1 q2 q3=>
        rw [hφ] at hφ2;cases hφ2
        rcases q2 with rfl|q2
        ·refine hgo _ q1 ?_
         cases mk with
         |sort=>exact .tuple .nil
         |compact=>exact .sliceU _ _ _ _ hφ (by omega) (.inl rfl) q3
        ·omega
       |slice0=>omega
     ·cases h
    ·cases h
   ·cases h
  ·cases h
 ·cases h
end Go.Xe
end
section
namespace Go.Xe
open Go Go.Proofs Go.RowKit
abbrev LaidG:=List (Nat×TypeId×List Value)
def laidG (l:LaidG) (w:World):Prop:=∀x∈l,w.heap[x.1]? =some (.cells x.2.2.toArray x.2.1 (0,0))
def goodL (P:Program) (l:LaidG) (W0:World) (N0:Nat):Prop:=goodW P W0 N0∧laidG l W0
theorem Rel.laidG {P:Program} {l:LaidG} {W0:World} {N0:Nat} {φ:Loc} {g:Hp} {w:World} (r:Rel W0 N0 φ g w) (h:goodL P l W0 N0):Xe.laidG l w:=fun x hx=>by
 have h1:=h.2 x hx
 have hlt:x.1<N0:=by rw [h.1.1];exact (Array.getElem?_eq_some_iff.1 h1).1
 rw [r.fixed _ hlt];exact h1
def baseG:LaidG→Nat→Option AObj
 |[],_=>none
 |(g,e,vs)::r,i=>match Nat.beq i g with
  |true=>some ⟨0,.cells vs e true⟩
  |false=>baseG r i
theorem baseG_mem:∀{l:LaidG} {i:Nat} {o:AObj},baseG l i=some o→∃e vs,(i,e,vs)∈l∧o=⟨0,.cells vs e true⟩
 |[],i,o,h=>by cases h
 |(g,e,vs)::r,i,o,h=>by
  unfold baseG at h
  cases hb:Nat.beq i g with
  |true=>
   rw [hb] at h;cases h
   rw [beqNat] at hb
   exact ⟨e,vs,by rw [of_decide_eq_true hb];exact List.mem_cons_self,rfl⟩
  |false=>
   rw [hb] at h
   obtain ⟨e',vs',h1,h2⟩:=baseG_mem h
   exact ⟨e',vs',List.mem_cons_of_mem _ h1,h2⟩
theorem start_inv_laid {gl:Glb} {φ:Loc} {nx:Nat} (l:LaidG) (hgl:∀i,gl.is i=true→∃t,φ i=some (i,0,t)) (hφ:∀i,nx≤i→φ i=none) (hat:∀x∈l,φ x.1=some (x.1,0,x.2.2.length)) (hp:∀x∈l,ones x.2.2=true∧plainV.plainVs x.2.2=true)
  {w:World} (hl:laidG l w) (hg:gl.good w w.heap.size):Inv gl w w.heap.size φ ⟨baseG l,.nil,nx⟩ w:=by
 have hget:∀i,(AS.mk (baseG l) .nil nx).get i=baseG l i:=fun i=>by simp only [AS.get,Tri.get_nil]
 refine ⟨⟨Nat.le_refl _,fun _ _=>rfl,rfl,rfl,rfl,fun i o h=> ?_,fun i j b d d' t t' hi hj h1 h2=>.inl ?_⟩,fun i hi=> ?_,hgl,hg⟩
 ·rw [hget] at h
  obtain ⟨e,vs,h1,rfl⟩:=baseG_mem h
  have h3:=hl _ h1
  refine ⟨i,0,vs.length,_,hat _ h1,h3,⟨by simp,rfl,(fun h=>by cases h),(hp _ h1).1,?_⟩,fun _=>rfl⟩
  simp only [List.drop_zero,List.take_of_length_le (Nat.le_refl _)]
  exact VRels.plain φ vs (hp _ h1).2
 ·rw [hget] at hi
  cases hb:baseG l i with
  |none=>exact absurd hb hi
  |some o=>
   obtain ⟨e,vs,h3,rfl⟩:=baseG_mem hb
   rw [hat _ h3] at h1;cases h1
   exact (Array.getElem?_eq_some_iff.1 (hl _ h3)).1
 ·rw [hget]
  cases hb:baseG l i with
  |none=>rfl
  |some o=>
   obtain ⟨e,vs,h3,rfl⟩:=baseG_mem hb
   have:=hφ i hi
   rw [hat _ h3] at this;cases this
theorem closed_true_laid {P:Program} {gl:Glb} {F:FuncId→Option XFun} {O:FuncId→List Value→Option Value} (hE:Env P gl F O) {φ:Loc} {nx:Nat} (l:LaidG) (hgl:∀i,gl.is i=true→∃t,φ i=some (i,0,t)) (hφ:∀i,nx≤i→φ i=none)
  (hat:∀x∈l,φ x.1=some (x.1,0,x.2.2.length)) (hp:∀x∈l,ones x.2.2=true∧plainV.plainVs x.2.2=true) {n:Nat} {f:FuncId}
  (h:fcall F O n f [] (baseG l) .nil nx isTrue=true) {w:World} (hl:laidG l w) (hg:gl.good w w.heap.size):Calls P f #[] w fun E w'=>E=.returned (.bool true)∧Below w.heap.size w w':=by
 obtain ⟨e,B',h',nx',h1,h2⟩:=fcall_snd F O n _ _ _ _ _ _ h
 obtain ⟨_,hc⟩:=xcall_sound hE n f [] _ _ _ h1
 refine Calls.mono (hc w w.heap.size φ w [] (start_inv_laid l hgl hφ hat hp hl hg) (fun i h1 _=>hφ i h1) .nil) ?_
 rintro E w' ⟨ψ,hE',hi,hs⟩
 cases e with
 |panic v=>cases h2
 |ret v=>
  obtain ⟨v',rfl,hv⟩:=hE'
  unfold isTrue at h2
  cases v<;>simp only at h2<;>first|(cases h2;done)|skip
  subst h2
  cases hv
  exact ⟨rfl,hi.rel.below rfl⟩
end Go.Xe
end
section
namespace Go.Xe.YtlgknghehgmodaaGreatDoor
open Go Go.Xe
def T (n:Nat):Operand:=.tmp n
def x1003:XFun:=⟨33,[.tmp 4],.seq (.region [⟨some 2,.box 28 (.tmp 0),none⟩,⟨some 4,.move (.const (.bool false)),none⟩]) (.seq (.seq (.region [⟨some 5,.loadN 8 (.tmp 2),none⟩,⟨some 6,.call 7 [(.const (.int .i64 2000)),(.tmp 5)],none⟩,⟨some 7,.un .not (.tmp 6),none⟩]) (.cond (.tmp 7) (.seq (.region [⟨some 8,.call 8 [],none⟩,⟨some 4,.move (.tmp 8),none⟩]) (.ret)) (.skip))) (.seq (.regionD [⟨some 9,.loadN 8 (.tmp 2),none⟩,⟨some 10,.call 9 [(.tmp 9)],none⟩,⟨some 11,.loadN 8 (.tmp 2),none⟩,⟨some 12,.call 10 [(.tmp 11)],none⟩,⟨some 13,.eq .bool false (.tmp 10) (.tmp 12),none⟩,⟨some 14,.move (.tmp 13),none⟩,⟨some 15,.loadN 8 (.tmp 2),(some (14,true))⟩,⟨some 16,.move (.tmp 1),(some (14,true))⟩,⟨some 17,.call 11 [(.tmp 15),(.tmp 16)],(some (14,true))⟩,⟨some 18,.loadN 8 (.tmp 2),(some (14,true))⟩,⟨some 19,.move (.tmp 1),(some (14,true))⟩,⟨some 20,.call 12 [(.tmp 18),(.tmp 19)],(some (14,true))⟩,⟨some 21,.eq .bool false (.tmp 17) (.tmp 20),(some (14,true))⟩,⟨some 22,.pick (.tmp 14) (.tmp 21) (.const (.bool false)),none⟩,⟨some 23,.move (.tmp 22),none⟩,⟨some 24,.loadN 8 (.tmp 2),(some (23,true))⟩,⟨some 25,.call 14 [(.tmp 24)],(some (23,true))⟩,⟨some 26,.loadN 8 (.tmp 2),(some (23,true))⟩,⟨some 27,.call 15 [(.tmp 26)],(some (23,true))⟩,⟨some 28,.call 13 [(.tmp 25),(.tmp 27)],(some (23,true))⟩,⟨some 29,.pick (.tmp 23) (.tmp 28) (.const (.bool false)),none⟩,⟨some 30,.move (.tmp 29),none⟩,⟨some 31,.call 8 [],(some (30,true))⟩,⟨some 32,.pick (.tmp 30) (.tmp 31) (.const (.bool false)),none⟩,⟨some 4,.move (.tmp 32),none⟩] [(1,2),(8,9),(16,17)]) (.ret)))⟩
def x15:XFun:=⟨10,[.tmp 4],.seq (.region [⟨some 3,.box 28 (.tmp 1),none⟩,⟨some 4,.move (.const (.bool false)),none⟩]) (.seq (.region [⟨some 5,.loadN 8 (.tmp 3),none⟩,⟨some 6,.move (.tmp 0),none⟩,⟨some 7,.call 29 [(.tmp 5),(.const (.int .i64 0)),(.tmp 6)],none⟩,⟨some 8,.move (.tmp 0),none⟩,⟨some 9,.bin .leq (.tmp 7) (.tmp 8),none⟩,⟨some 4,.move (.tmp 9),none⟩]) (.ret))⟩
def x1009:XFun:=⟨30,[.tmp 2],.seq (.region [⟨some 1,.box 28 (.tmp 0),none⟩,⟨some 2,.move (.const (.bool false)),none⟩]) (.seq (.seq (.region [⟨some 3,.addr 0 (.tmp 1),none⟩,⟨some 4,.load1 (.tmp 3),none⟩]) (.block 0 (.seq (.seq (.region [⟨some 6,.bin .eql (.tmp 4) (.const (.int .i64 3)),none⟩,⟨some 5,.move (.tmp 6),none⟩]) (.cond (.tmp 5) (.skip) (.seq (.region [⟨some 7,.bin .eql (.tmp 4) (.const (.int .i64 10)),none⟩,⟨some 5,.move (.tmp 7),none⟩]) (.cond (.tmp 5) (.skip) (.region [⟨some 8,.bin .eql (.tmp 4) (.const (.int .i64 4)),none⟩,⟨some 5,.move (.tmp 8),none⟩]))))) (.cond (.tmp 5) (.seq (.region [⟨some 2,.move (.const (.bool false)),none⟩]) (.ret)) (.seq (.region [⟨some 10,.bin .eql (.tmp 4) (.const (.int .i64 5)),none⟩,⟨some 9,.move (.tmp 10),none⟩]) (.cond (.tmp 9) (.seq (.region [⟨some 11,.addr 7 (.tmp 1),none⟩,⟨some 12,.load1 (.tmp 11),none⟩,⟨some 13,.lenSlice (.tmp 12),none⟩,⟨some 14,.bin .eql (.tmp 13) (.const (.int .i64 0)),none⟩,⟨some 2,.move (.tmp 14),none⟩]) (.ret)) (.seq (.region [⟨some 16,.bin .eql (.tmp 4) (.const (.int .i64 11)),none⟩,⟨some 15,.move (.tmp 16),none⟩]) (.cond (.tmp 15) (.seq (.region [⟨some 17,.loadN 8 (.tmp 1),none⟩,⟨some 18,.call 31 [(.tmp 17)],none⟩,⟨some 19,.un .not (.tmp 18),none⟩]) (.cond (.tmp 19) (.seq (.region [⟨some 2,.move (.const (.bool false)),none⟩]) (.ret)) (.skip))) (.seq (.region [⟨some 21,.bin .eql (.tmp 4) (.const (.int .i64 6)),none⟩,⟨some 20,.move (.tmp 21),none⟩]) (.cond (.tmp 20) (.seq (.region [⟨some 22,.buildSlice 3 1 [(.int .i64 0)] 7 [(0,1,(.const (.int .i64 1))),(1,1,(.const (.int .i64 2))),(2,1,(.const (.int .i64 3))),(3,1,(.const (.int .i64 4))),(4,1,(.const (.int .i64 5))),(5,1,(.const (.int .i64 13))),(6,1,(.const (.int .i64 9)))],none⟩,⟨some 23,.addr 1 (.tmp 1),none⟩,⟨some 24,.load1 (.tmp 23),none⟩,⟨some 25,.call 32 [(.tmp 22),(.tmp 24)],none⟩]) (.cond (.tmp 25) (.seq (.region [⟨some 2,.move (.const (.bool false)),none⟩]) (.ret)) (.skip))) (.skip))))))))))) (.seq (.region [⟨some 26,.addr 7 (.tmp 1),none⟩,⟨some 27,.load1 (.tmp 26),none⟩,⟨some 28,.call 33 [(.tmp 27),(.func 34)],none⟩,⟨some 29,.un .not (.tmp 28),none⟩,⟨some 2,.move (.tmp 29),none⟩]) (.ret)))⟩
def x1010:XFun:=⟨48,[.tmp 2],.seq (.region [⟨some 1,.box 28 (.tmp 0),none⟩,⟨some 2,.move (.const (.bool false)),none⟩]) (.seq (.seq (.region [⟨some 4,.addr 0 (.tmp 1),none⟩,⟨some 5,.load1 (.tmp 4),none⟩]) (.block 0 (.seq (.seq (.region [⟨some 7,.bin .eql (.tmp 5) (.const (.int .i64 3)),none⟩,⟨some 6,.move (.tmp 7),none⟩]) (.cond (.tmp 6) (.skip) (.seq (.region [⟨some 8,.bin .eql (.tmp 5) (.const (.int .i64 10)),none⟩,⟨some 6,.move (.tmp 8),none⟩]) (.cond (.tmp 6) (.skip) (.region [⟨some 9,.bin .eql (.tmp 5) (.const (.int .i64 4)),none⟩,⟨some 6,.move (.tmp 9),none⟩]))))) (.cond (.tmp 6) (.seq (.region [⟨some 2,.move (.const (.bool false)),none⟩]) (.ret)) (.seq (.region [⟨some 11,.bin .eql (.tmp 5) (.const (.int .i64 5)),none⟩,⟨some 10,.move (.tmp 11),none⟩]) (.cond (.tmp 10) (.seq (.region [⟨some 12,.addr 7 (.tmp 1),none⟩,⟨some 13,.load1 (.tmp 12),none⟩,⟨some 14,.lenSlice (.tmp 13),none⟩,⟨some 15,.bin .gtr (.tmp 14) (.const (.int .i64 0)),none⟩]) (.cond (.tmp 15) (.seq (.region [⟨some 2,.move (.const (.bool false)),none⟩]) (.ret)) (.skip))) (.seq (.region [⟨some 17,.bin .eql (.tmp 5) (.const (.int .i64 11)),none⟩,⟨some 16,.move (.tmp 17),none⟩]) (.cond (.tmp 16) (.seq (.region [⟨some 18,.addr 6 (.tmp 1),none⟩,⟨some 19,.load1 (.tmp 18),none⟩,⟨some 20,.call 35 [(.tmp 19)],none⟩,⟨some 21,.un .not (.tmp 20),none⟩]) (.cond (.tmp 21) (.seq (.region [⟨some 2,.move (.const (.bool false)),none⟩]) (.ret)) (.skip))) (.seq (.region [⟨some 23,.bin .eql (.tmp 5) (.const (.int .i64 6)),none⟩,⟨some 22,.move (.tmp 23),none⟩]) (.cond (.tmp 22) (.seq (.region [⟨some 24,.addr 1 (.tmp 1),none⟩,⟨some 25,.load1 (.tmp 24),none⟩]) (.block 1 (.seq (.seq (.region [⟨some 27,.bin .eql (.tmp 25) (.const (.int .i64 1)),none⟩,⟨some 26,.move (.tmp 27),none⟩]) (.cond (.tmp 26) (.skip) (.seq (.region [⟨some 28,.bin .eql (.tmp 25) (.const (.int .i64 2)),none⟩,⟨some 26,.move (.tmp 28),none⟩]) (.cond (.tmp 26) (.skip) (.seq (.region [⟨some 29,.bin .eql (.tmp 25) (.const (.int .i64 3)),none⟩,⟨some 26,.move (.tmp 29),none⟩]) (.cond (.tmp 26) (.skip) (.seq (.region [⟨some 30,.bin .eql (.tmp 25) (.const (.int .i64 4)),none⟩,⟨some 26,.move (.tmp 30),none⟩]) (.cond (.tmp 26) (.skip) (.seq (.region [⟨some 31,.bin .eql (.tmp 25) (.const (.int .i64 5)),none⟩,⟨some 26,.move (.tmp 31),none⟩]) (.cond (.tmp 26) (.skip) (.seq (.region [⟨some 32,.bin .eql (.tmp 25) (.const (.int .i64 13)),none⟩,⟨some 26,.move (.tmp 32),none⟩]) (.cond (.tmp 26) (.skip) (.region [⟨some 33,.bin .eql (.tmp 25) (.const (.int .i64 9)),none⟩,⟨some 26,.move (.tmp 33),none⟩]))))))))))))) (.cond (.tmp 26) (.seq (.region [⟨some 2,.move (.const (.bool false)),none⟩]) (.ret)) (.skip))))) (.skip))))))))))) (.seq (.seq (.region [⟨some 3,.move (.const (.int .i64 0)),none⟩]) (.block 2 (.loop (.seq (.seq (.region [⟨some 34,.move (.tmp 3),none⟩,⟨some 35,.addr 7 (.tmp 1),none⟩,⟨some 36,.load1 (.tmp 35),none⟩,⟨some 37,.lenSlice (.tmp 36),none⟩,⟨some 38,.bin .lss (.tmp 34) (.tmp 37),none⟩]) (.cond (.tmp 38) (.skip) (.exit 2))) (.seq (.block 3 (.seq (.region [⟨some 41,.addr 7 (.tmp 1),none⟩,⟨some 42,.load1 (.tmp 41),none⟩,⟨some 43,.move (.tmp 3),none⟩,⟨some 44,.indexAddr 8 (.tmp 42) (.tmp 43),none⟩,⟨some 45,.loadN 8 (.tmp 44),none⟩,⟨some 46,.call 10 [(.tmp 45)],none⟩,⟨some 47,.un .not (.tmp 46),none⟩]) (.cond (.tmp 47) (.seq (.region [⟨some 2,.move (.const (.bool false)),none⟩]) (.ret)) (.skip)))) (.region [⟨some 39,.move (.tmp 3),none⟩,⟨some 40,.bin .add (.tmp 39) (.const (.int .i64 1)),none⟩,⟨some 3,.move (.tmp 40),none⟩])))))) (.seq (.region [⟨some 2,.move (.const (.bool true)),none⟩]) (.ret))))⟩
def x1011:XFun:=⟨9,[.tmp 4],.seq (.region [⟨some 2,.box 28 (.tmp 0),none⟩,⟨some 4,.move (.const (.bool false)),none⟩]) (.seq (.region [⟨some 5,.loadN 8 (.tmp 2),none⟩,⟨some 6,.call 36 [(.tmp 5)],none⟩,⟨some 7,.move (.tmp 1),none⟩,⟨some 8,.call 32 [(.tmp 6),(.tmp 7)],none⟩,⟨some 4,.move (.tmp 8),none⟩]) (.ret))⟩
def x1012:XFun:=⟨21,[.tmp 4],.seq (.region [⟨some 2,.box 28 (.tmp 0),none⟩,⟨some 4,.move (.const (.bool false)),none⟩]) (.seq (.region [⟨some 7,.loadN 8 (.tmp 2),none⟩,⟨some 8,.call 37 [(.tmp 7)],none⟩,⟨some 5,.move (.tmp 8),none⟩]) (.seq (.seq (.region [⟨some 6,.move (.const (.int .i64 0)),none⟩]) (.block 0 (.loop (.seq (.seq (.region [⟨some 9,.move (.tmp 6),none⟩,⟨some 10,.move (.tmp 5),none⟩,⟨some 11,.lenSlice (.tmp 10),none⟩,⟨some 12,.bin .lss (.tmp 9) (.tmp 11),none⟩]) (.cond (.tmp 12) (.skip) (.exit 0))) (.seq (.block 1 (.seq (.region [⟨some 15,.move (.tmp 5),none⟩,⟨some 16,.move (.tmp 6),none⟩,⟨some 17,.indexAddr 1 (.tmp 15) (.tmp 16),none⟩,⟨some 18,.load1 (.tmp 17),none⟩,⟨some 19,.move (.tmp 1),none⟩,⟨some 20,.bin .eql (.tmp 18) (.tmp 19),none⟩]) (.cond (.tmp 20) (.seq (.region [⟨some 4,.move (.const (.bool true)),none⟩]) (.ret)) (.skip)))) (.region [⟨some 13,.move (.tmp 6),none⟩,⟨some 14,.bin .add (.tmp 13) (.const (.int .i64 1)),none⟩,⟨some 6,.move (.tmp 14),none⟩])))))) (.seq (.region [⟨some 4,.move (.const (.bool false)),none⟩]) (.ret))))⟩
def x1013:XFun:=⟨69,[.tmp 4],.seq (.region [⟨some 2,.box 28 (.tmp 0),none⟩,⟨some 3,.box 28 (.tmp 1),none⟩,⟨some 4,.move (.const (.bool false)),none⟩]) (.seq (.seq (.region [⟨some 6,.addr 0 (.tmp 2),none⟩,⟨some 7,.load1 (.tmp 6),none⟩,⟨some 8,.addr 0 (.tmp 3),none⟩,⟨some 9,.load1 (.tmp 8),none⟩,⟨some 10,.bin .neq (.tmp 7) (.tmp 9),none⟩,⟨some 11,.move (.tmp 10),none⟩,⟨some 12,.addr 1 (.tmp 2),(some (11,false))⟩,⟨some 13,.load1 (.tmp 12),(some (11,false))⟩,⟨some 14,.addr 1 (.tmp 3),(some (11,false))⟩,⟨some 15,.load1 (.tmp 14),(some (11,false))⟩,⟨some 16,.bin .neq (.tmp 13) (.tmp 15),(some (11,false))⟩,⟨some 17,.pick (.tmp 11) (.const (.bool true)) (.tmp 16),none⟩,⟨some 18,.move (.tmp 17),none⟩,⟨some 19,.addr 2 (.tmp 2),(some (18,false))⟩,⟨some 20,.load1 (.tmp 19),(some (18,false))⟩,⟨some 21,.addr 2 (.tmp 3),(some (18,false))⟩,⟨some 22,.load1 (.tmp 21),(some (18,false))⟩,⟨some 23,.bin .neq (.tmp 20) (.tmp 22),(some (18,false))⟩,⟨some 24,.pick (.tmp 18) (.const (.bool true)) (.tmp 23),none⟩,⟨some 25,.move (.tmp 24),none⟩,⟨some 26,.addr 3 (.tmp 2),(some (25,false))⟩,⟨some 27,.loadN 3 (.tmp 26),(some (25,false))⟩,⟨some 28,.addr 3 (.tmp 3),(some (25,false))⟩,⟨some 29,.loadN 3 (.tmp 28),(some (25,false))⟩,⟨some 30,.call 38 [(.tmp 27),(.tmp 29)],(some (25,false))⟩,⟨some 31,.un .not (.tmp 30),(some (25,false))⟩,⟨some 32,.pick (.tmp 25) (.const (.bool true)) (.tmp 31),none⟩,⟨some 33,.move (.tmp 32),none⟩,⟨some 34,.addr 6 (.tmp 2),(some (33,false))⟩,⟨some 35,.load1 (.tmp 34),(some (33,false))⟩,⟨some 36,.addr 6 (.tmp 3),(some (33,false))⟩,⟨some 37,.load1 (.tmp 36),(some (33,false))⟩,⟨some 38,.call 39 [(.tmp 35),(.tmp 37)],(some (33,false))⟩,⟨some 39,.un .not (.tmp 38),(some (33,false))⟩,⟨some 40,.pick (.tmp 33) (.const (.bool true)) (.tmp 39),none⟩,⟨some 41,.move (.tmp 40),none⟩,⟨some 42,.addr 7 (.tmp 2),(some (41,false))⟩,⟨some 43,.load1 (.tmp 42),(some (41,false))⟩,⟨some 44,.lenSlice (.tmp 43),(some (41,false))⟩,⟨some 45,.addr 7 (.tmp 3),(some (41,false))⟩,⟨some 46,.load1 (.tmp 45),(some (41,false))⟩,⟨some 47,.lenSlice (.tmp 46),(some (41,false))⟩,⟨some 48,.bin .neq (.tmp 44) (.tmp 47),(some (41,false))⟩,⟨some 49,.pick (.tmp 41) (.const (.bool true)) (.tmp 48),none⟩]) (.cond (.tmp 49) (.seq (.region [⟨some 4,.move (.const (.bool false)),none⟩]) (.ret)) (.skip))) (.seq (.seq (.region [⟨some 5,.move (.const (.int .i64 0)),none⟩]) (.block 0 (.loop (.seq (.seq (.region [⟨some 50,.move (.tmp 5),none⟩,⟨some 51,.addr 7 (.tmp 2),none⟩,⟨some 52,.load1 (.tmp 51),none⟩,⟨some 53,.lenSlice (.tmp 52),none⟩,⟨some 54,.bin .lss (.tmp 50) (.tmp 53),none⟩]) (.cond (.tmp 54) (.skip) (.exit 0))) (.seq (.block 1 (.seq (.regionD [⟨some 57,.addr 7 (.tmp 2),none⟩,⟨some 58,.load1 (.tmp 57),none⟩,⟨some 59,.move (.tmp 5),none⟩,⟨some 60,.indexAddr 8 (.tmp 58) (.tmp 59),none⟩,⟨some 61,.loadN 8 (.tmp 60),none⟩,⟨some 62,.addr 7 (.tmp 3),none⟩,⟨some 63,.load1 (.tmp 62),none⟩,⟨some 64,.move (.tmp 5),none⟩,⟨some 65,.indexAddr 8 (.tmp 63) (.tmp 64),none⟩,⟨some 66,.loadN 8 (.tmp 65),none⟩,⟨some 67,.call 13 [(.tmp 61),(.tmp 66)],none⟩,⟨some 68,.un .not (.tmp 67),none⟩] []) (.cond (.tmp 68) (.seq (.region [⟨some 4,.move (.const (.bool false)),none⟩]) (.ret)) (.skip)))) (.region [⟨some 55,.move (.tmp 5),none⟩,⟨some 56,.bin .add (.tmp 55) (.const (.int .i64 1)),none⟩,⟨some 5,.move (.tmp 56),none⟩])))))) (.seq (.region [⟨some 4,.move (.const (.bool true)),none⟩]) (.ret))))⟩
def x1014:XFun:=⟨6,[.cellN 2 8],.seq (.region [⟨some 1,.box 28 (.tmp 0),none⟩,⟨some 2,.alloc 28 [(.int .i64 0),(.int .i64 0),(.int .i64 0),(.int .i64 0),(.int .i64 0),(.slice none 0 0),(.slice none 0 0),(.slice none 0 0)],none⟩]) (.seq (.region [⟨some 3,.loadN 8 (.tmp 1),none⟩,⟨some 4,.call 41 [(.tmp 3)],none⟩,⟨some 5,.call 40 [(.tmp 4)],none⟩,⟨none,.store 8 (.tmp 2) (.tmp 5),none⟩]) (.ret))⟩
def x1015:XFun:=⟨145,[.cellN 2 8],.seq (.region [⟨some 1,.box 28 (.tmp 0),none⟩,⟨some 2,.alloc 28 [(.int .i64 0),(.int .i64 0),(.int .i64 0),(.int .i64 0),(.int .i64 0),(.slice none 0 0),(.slice none 0 0),(.slice none 0 0)],none⟩]) (.seq (.region [⟨some 3,.move (.const (.slice none 0 0)),none⟩]) (.seq (.seq (.region [⟨some 4,.move (.const (.int .i64 0)),none⟩]) (.block 0 (.loop (.seq (.seq (.region [⟨some 5,.move (.tmp 4),none⟩,⟨some 6,.addr 7 (.tmp 1),none⟩,⟨some 7,.load1 (.tmp 6),none⟩,⟨some 8,.lenSlice (.tmp 7),none⟩,⟨some 9,.bin .lss (.tmp 5) (.tmp 8),none⟩]) (.cond (.tmp 9) (.skip) (.exit 0))) (.seq (.block 1 (.region [⟨some 12,.move (.tmp 3),none⟩,⟨some 13,.addr 7 (.tmp 1),none⟩,⟨some 14,.load1 (.tmp 13),none⟩,⟨some 15,.move (.tmp 4),none⟩,⟨some 16,.indexAddr 8 (.tmp 14) (.tmp 15),none⟩,⟨some 17,.loadN 8 (.tmp 16),none⟩,⟨some 18,.call 15 [(.tmp 17)],none⟩,⟨some 19,.buildSlice 28 8 [(.int .i64 0),(.int .i64 0),(.int .i64 0),(.int .i64 0),(.int .i64 0),(.slice none 0 0),(.slice none 0 0),(.slice none 0 0)] 1 [(0,8,(.tmp 18))],none⟩,⟨some 20,.append 28 8 112 (.tmp 12) (.tmp 19),none⟩,⟨some 3,.move (.tmp 20),none⟩])) (.region [⟨some 10,.move (.tmp 4),none⟩,⟨some 11,.bin .add (.tmp 10) (.const (.int .i64 1)),none⟩,⟨some 4,.move (.tmp 11),none⟩])))))) (.seq (.region [⟨some 21,.move (.tmp 3),none⟩,⟨some 22,.addr 7 (.tmp 1),none⟩,⟨none,.store 1 (.tmp 22) (.tmp 21),none⟩]) (.seq (.region [⟨some 23,.addr 6 (.tmp 1),none⟩,⟨some 24,.load1 (.tmp 23),none⟩,⟨some 25,.append 3 1 8 (.const (.slice none 0 0)) (.tmp 24),none⟩,⟨some 26,.addr 6 (.tmp 1),none⟩,⟨none,.store 1 (.tmp 26) (.tmp 25),none⟩]) (.seq (.block 2 (.seq (.region [⟨some 28,.addr 0 (.tmp 1),none⟩,⟨some 29,.load1 (.tmp 28),none⟩,⟨some 30,.bin .eql (.tmp 29) (.const (.int .i64 7)),none⟩,⟨some 31,.move (.tmp 30),none⟩,⟨some 32,.move (.tmp 3),(some (31,true))⟩,⟨some 33,.lenSlice (.tmp 32),(some (31,true))⟩,⟨some 34,.bin .eql (.tmp 33) (.const (.int .i64 2)),(some (31,true))⟩,⟨some 35,.pick (.tmp 31) (.tmp 34) (.const (.bool false)),none⟩,⟨some 36,.move (.tmp 35),none⟩,⟨some 37,.move (.tmp 3),(some (36,true))⟩,⟨some 38,.indexAddr 8 (.tmp 37) (.const (.int .i64 0)),(some (36,true))⟩,⟨some 39,.loadN 8 (.tmp 38),(some (36,true))⟩,⟨some 40,.call 10 [(.tmp 39)],(some (36,true))⟩,⟨some 41,.pick (.tmp 36) (.tmp 40) (.const (.bool false)),none⟩,⟨some 42,.move (.tmp 41),none⟩,⟨some 43,.loadN 8 (.tmp 1),(some (42,true))⟩,⟨some 44,.call 42 [(.tmp 43)],(some (42,true))⟩,⟨some 45,.pick (.tmp 42) (.tmp 44) (.const (.bool false)),none⟩,⟨some 27,.move (.tmp 45),none⟩]) (.cond (.tmp 27) (.seq (.region [⟨some 46,.move (.tmp 3),none⟩,⟨some 47,.indexAddr 8 (.tmp 46) (.const (.int .i64 1)),none⟩,⟨some 48,.loadN 8 (.tmp 47),none⟩,⟨none,.store 8 (.tmp 2) (.tmp 48),none⟩]) (.ret)) (.seq (.region [⟨some 50,.addr 0 (.tmp 1),none⟩,⟨some 51,.load1 (.tmp 50),none⟩,⟨some 52,.bin .eql (.tmp 51) (.const (.int .i64 10)),none⟩,⟨some 53,.move (.tmp 52),none⟩,⟨some 54,.move (.tmp 3),(some (53,true))⟩,⟨some 55,.lenSlice (.tmp 54),(some (53,true))⟩,⟨some 56,.bin .eql (.tmp 55) (.const (.int .i64 2)),(some (53,true))⟩,⟨some 57,.pick (.tmp 53) (.tmp 56) (.const (.bool false)),none⟩,⟨some 58,.move (.tmp 57),none⟩,⟨some 59,.move (.tmp 3),(some (58,true))⟩,⟨some 60,.indexAddr 8 (.tmp 59) (.const (.int .i64 0)),(some (58,true))⟩,⟨some 61,.addr 0 (.tmp 60),(some (58,true))⟩,⟨some 62,.load1 (.tmp 61),(some (58,true))⟩,⟨some 63,.bin .eql (.tmp 62) (.const (.int .i64 1)),(some (58,true))⟩,⟨some 64,.pick (.tmp 58) (.tmp 63) (.const (.bool false)),none⟩,⟨some 65,.move (.tmp 64),none⟩,⟨some 66,.move (.tmp 3),(some (65,true))⟩,⟨some 67,.indexAddr 8 (.tmp 66) (.const (.int .i64 0)),(some (65,true))⟩,⟨some 68,.addr 3 (.tmp 67),(some (65,true))⟩,⟨some 69,.loadN 3 (.tmp 68),(some (65,true))⟩,⟨some 70,.call 43 [(.tmp 69)],(some (65,true))⟩,⟨some 71,.pick (.tmp 65) (.tmp 70) (.const (.bool false)),none⟩,⟨some 49,.move (.tmp 71),none⟩]) (.cond (.tmp 49) (.seq (.region [⟨some 72,.move (.tmp 3),none⟩,⟨some 73,.indexAddr 8 (.tmp 72) (.const (.int .i64 1)),none⟩,⟨some 74,.loadN 8 (.tmp 73),none⟩,⟨none,.store 8 (.tmp 2) (.tmp 74),none⟩]) (.ret)) (.seq (.region [⟨some 76,.addr 0 (.tmp 1),none⟩,⟨some 77,.load1 (.tmp 76),none⟩,⟨some 78,.bin .eql (.tmp 77) (.const (.int .i64 11)),none⟩,⟨some 79,.move (.tmp 78),none⟩,⟨some 80,.move (.tmp 3),(some (79,true))⟩,⟨some 81,.lenSlice (.tmp 80),(some (79,true))⟩,⟨some 82,.bin .eql (.tmp 81) (.const (.int .i64 1)),(some (79,true))⟩,⟨some 83,.pick (.tmp 79) (.tmp 82) (.const (.bool false)),none⟩,⟨some 84,.move (.tmp 83),none⟩,⟨some 85,.addr 6 (.tmp 1),(some (84,true))⟩,⟨some 86,.load1 (.tmp 85),(some (84,true))⟩,⟨some 87,.call 35 [(.tmp 86)],(some (84,true))⟩,⟨some 88,.pick (.tmp 84) (.tmp 87) (.const (.bool false)),none⟩,⟨some 75,.move (.tmp 88),none⟩]) (.cond (.tmp 75) (.seq (.region [⟨some 89,.move (.tmp 3),none⟩,⟨some 90,.indexAddr 8 (.tmp 89) (.const (.int .i64 0)),none⟩,⟨some 91,.loadN 8 (.tmp 90),none⟩,⟨none,.store 8 (.tmp 2) (.tmp 91),none⟩]) (.ret)) (.seq (.region [⟨some 93,.addr 0 (.tmp 1),none⟩,⟨some 94,.load1 (.tmp 93),none⟩,⟨some 95,.bin .eql (.tmp 94) (.const (.int .i64 12)),none⟩,⟨some 96,.move (.tmp 95),none⟩,⟨some 97,.move (.tmp 3),(some (96,true))⟩,⟨some 98,.call 44 [(.tmp 97)],(some (96,true))⟩,⟨some 99,.pick (.tmp 96) (.tmp 98) (.const (.bool false)),none⟩,⟨some 92,.move (.tmp 99),none⟩]) (.cond (.tmp 92) (.seq (.region [⟨some 100,.move (.tmp 3),none⟩,⟨some 101,.indexAddr 8 (.tmp 100) (.const (.int .i64 0)),none⟩,⟨some 102,.loadN 8 (.tmp 101),none⟩,⟨none,.store 8 (.tmp 2) (.tmp 102),none⟩]) (.ret)) (.seq (.region [⟨some 104,.addr 0 (.tmp 1),none⟩,⟨some 105,.load1 (.tmp 104),none⟩,⟨some 106,.bin .eql (.tmp 105) (.const (.int .i64 8)),none⟩,⟨some 107,.move (.tmp 106),none⟩,⟨some 108,.move (.tmp 3),(some (107,true))⟩,⟨some 109,.lenSlice (.tmp 108),(some (107,true))⟩,⟨some 110,.bin .eql (.tmp 109) (.const (.int .i64 3)),(some (107,true))⟩,⟨some 111,.pick (.tmp 107) (.tmp 110) (.const (.bool false)),none⟩,⟨some 103,.move (.tmp 111),none⟩]) (.cond (.tmp 103) (.seq (.seq (.region [⟨some 112,.move (.tmp 3),none⟩,⟨some 113,.indexAddr 8 (.tmp 112) (.const (.int .i64 0)),none⟩,⟨some 114,.addr 0 (.tmp 113),none⟩,⟨some 115,.load1 (.tmp 114),none⟩,⟨some 116,.bin .eql (.tmp 115) (.const (.int .i64 1)),none⟩]) (.cond (.tmp 116) (.seq (.seq (.region [⟨some 117,.move (.tmp 3),none⟩,⟨some 118,.indexAddr 8 (.tmp 117) (.const (.int .i64 0)),none⟩,⟨some 119,.addr 3 (.tmp 118),none⟩,⟨some 120,.loadN 3 (.tmp 119),none⟩,⟨some 121,.call 43 [(.tmp 120)],none⟩]) (.cond (.tmp 121) (.seq (.region [⟨some 122,.move (.tmp 3),none⟩,⟨some 123,.indexAddr 8 (.tmp 122) (.const (.int .i64 1)),none⟩,⟨some 124,.loadN 8 (.tmp 123),none⟩,⟨none,.store 8 (.tmp 2) (.tmp 124),none⟩]) (.ret)) (.skip))) (.seq (.region [⟨some 125,.move (.tmp 3),none⟩,⟨some 126,.indexAddr 8 (.tmp 125) (.const (.int .i64 2)),none⟩,⟨some 127,.loadN 8 (.tmp 126),none⟩,⟨none,.store 8 (.tmp 2) (.tmp 127),none⟩]) (.ret))) (.skip))) (.seq (.regionD [⟨some 128,.move (.tmp 3),none⟩,⟨some 129,.indexAddr 8 (.tmp 128) (.const (.int .i64 0)),none⟩,⟨some 130,.loadN 8 (.tmp 129),none⟩,⟨some 131,.call 10 [(.tmp 130)],none⟩,⟨some 132,.move (.tmp 131),none⟩,⟨some 133,.move (.tmp 3),(some (132,true))⟩,⟨some 134,.indexAddr 8 (.tmp 133) (.const (.int .i64 1)),(some (132,true))⟩,⟨some 135,.loadN 8 (.tmp 134),(some (132,true))⟩,⟨some 136,.move (.tmp 3),(some (132,true))⟩,⟨some 137,.indexAddr 8 (.tmp 136) (.const (.int .i64 2)),(some (132,true))⟩,⟨some 138,.loadN 8 (.tmp 137),(some (132,true))⟩,⟨some 139,.call 45 [(.tmp 135),(.tmp 138)],(some (132,true))⟩,⟨some 140,.pick (.tmp 132) (.tmp 139) (.const (.bool false)),none⟩] []) (.cond (.tmp 140) (.seq (.region [⟨some 141,.move (.tmp 3),none⟩,⟨some 142,.indexAddr 8 (.tmp 141) (.const (.int .i64 1)),none⟩,⟨some 143,.loadN 8 (.tmp 142),none⟩,⟨none,.store 8 (.tmp 2) (.tmp 143),none⟩]) (.ret)) (.skip)))) (.skip)))))))))))) (.seq (.region [⟨some 144,.loadN 8 (.tmp 1),none⟩,⟨none,.store 8 (.tmp 2) (.tmp 144),none⟩]) (.ret)))))))⟩
def x24:XFun:=⟨43,[.tmp 6],.seq (.region [⟨some 3,.box 28 (.tmp 0),none⟩,⟨some 6,.move (.const (.int .i64 0)),none⟩]) (.seq (.region [⟨some 8,.move (.tmp 1),none⟩,⟨some 9,.bin .add (.tmp 8) (.const (.int .i64 1)),none⟩,⟨some 10,.addr 6 (.tmp 3),none⟩,⟨some 11,.load1 (.tmp 10),none⟩,⟨some 12,.lenSlice (.tmp 11),none⟩,⟨some 13,.bin .add (.tmp 9) (.tmp 12),none⟩,⟨some 1,.move (.tmp 13),none⟩]) (.seq (.seq (.region [⟨some 14,.move (.tmp 2),none⟩,⟨some 15,.addr 3 (.tmp 3),none⟩,⟨some 16,.loadN 3 (.tmp 15),none⟩,⟨some 17,.buildSlice 24 3 [(.int .i64 0),(.int .i64 0),(.slice none 0 0)] 1 [(0,3,(.tmp 16))],none⟩,⟨some 18,.call 69 [(.tmp 14),(.tmp 17)],none⟩,⟨some 19,.un .not (.tmp 18),none⟩]) (.cond (.tmp 19) (.seq (.region [⟨some 20,.move (.tmp 2),none⟩,⟨some 21,.bin .add (.tmp 20) (.const (.int .i64 1)),none⟩,⟨some 6,.move (.tmp 21),none⟩]) (.ret)) (.skip))) (.seq (.seq (.region [⟨some 7,.move (.const (.int .i64 0)),none⟩]) (.block 0 (.loop (.seq (.seq (.region [⟨some 22,.move (.tmp 7),none⟩,⟨some 23,.addr 7 (.tmp 3),none⟩,⟨some 24,.load1 (.tmp 23),none⟩,⟨some 25,.lenSlice (.tmp 24),none⟩,⟨some 26,.bin .lss (.tmp 22) (.tmp 25),none⟩,⟨some 27,.move (.tmp 26),none⟩,⟨some 28,.move (.tmp 1),(some (27,true))⟩,⟨some 29,.move (.tmp 2),(some (27,true))⟩,⟨some 30,.bin .leq (.tmp 28) (.tmp 29),(some (27,true))⟩,⟨some 31,.pick (.tmp 27) (.tmp 30) (.const (.bool false)),none⟩]) (.cond (.tmp 31) (.skip) (.exit 0))) (.seq (.block 1 (.region [⟨some 34,.addr 7 (.tmp 3),none⟩,⟨some 35,.load1 (.tmp 34),none⟩,⟨some 36,.move (.tmp 7),none⟩,⟨some 37,.indexAddr 8 (.tmp 35) (.tmp 36),none⟩,⟨some 38,.loadN 8 (.tmp 37),none⟩,⟨some 39,.move (.tmp 1),none⟩,⟨some 40,.move (.tmp 2),none⟩,⟨some 41,.call 29 [(.tmp 38),(.tmp 39),(.tmp 40)],none⟩,⟨some 1,.move (.tmp 41),none⟩])) (.region [⟨some 32,.move (.tmp 7),none⟩,⟨some 33,.bin .add (.tmp 32) (.const (.int .i64 1)),none⟩,⟨some 7,.move (.tmp 33),none⟩])))))) (.seq (.region [⟨some 42,.move (.tmp 1),none⟩,⟨some 6,.move (.tmp 42),none⟩]) (.ret)))))⟩
def x1031:XFun:=⟨25,[.tmp 2],.seq (.region [⟨some 1,.box 28 (.tmp 0),none⟩,⟨some 2,.move (.const (.bool false)),none⟩]) (.seq (.regionD [⟨some 3,.addr 6 (.tmp 1),none⟩,⟨some 4,.load1 (.tmp 3),none⟩,⟨some 5,.lenSlice (.tmp 4),none⟩,⟨some 6,.bin .eql (.tmp 5) (.const (.int .i64 2)),none⟩,⟨some 7,.move (.tmp 6),none⟩,⟨some 8,.addr 6 (.tmp 1),(some (7,true))⟩,⟨some 9,.load1 (.tmp 8),(some (7,true))⟩,⟨some 10,.indexAddr 1 (.tmp 9) (.const (.int .i64 0)),(some (7,true))⟩,⟨some 11,.load1 (.tmp 10),(some (7,true))⟩,⟨some 12,.addr 6 (.tmp 1),(some (7,true))⟩,⟨some 13,.load1 (.tmp 12),(some (7,true))⟩,⟨some 14,.indexAddr 1 (.tmp 13) (.const (.int .i64 1)),(some (7,true))⟩,⟨some 15,.load1 (.tmp 14),(some (7,true))⟩,⟨some 16,.bin .eql (.tmp 11) (.tmp 15),(some (7,true))⟩,⟨some 17,.pick (.tmp 7) (.tmp 16) (.const (.bool false)),none⟩,⟨some 18,.move (.tmp 17),none⟩,⟨some 19,.addr 6 (.tmp 1),(some (18,true))⟩,⟨some 20,.load1 (.tmp 19),(some (18,true))⟩,⟨some 21,.indexAddr 1 (.tmp 20) (.const (.int .i64 0)),(some (18,true))⟩,⟨some 22,.load1 (.tmp 21),(some (18,true))⟩,⟨some 23,.bin .gtr (.tmp 22) (.const (.int .i64 0)),(some (18,true))⟩,⟨some 24,.pick (.tmp 18) (.tmp 23) (.const (.bool false)),none⟩,⟨some 2,.move (.tmp 24),none⟩] []) (.ret))⟩
def x66:XFun:=⟨9,[.tmp 4],.seq (.region [⟨some 4,.move (.const (.bool false)),none⟩]) (.seq (.region [⟨some 5,.move (.tmp 0),none⟩,⟨some 6,.move (.tmp 1),none⟩,⟨some 7,.call 72 [(.tmp 5),(.tmp 6)],none⟩,⟨some 8,.bin .geq (.tmp 7) (.const (.int .i64 0)),none⟩,⟨some 4,.move (.tmp 8),none⟩]) (.ret))⟩
def x1033:XFun:=⟨9,[.tmp 4],.seq (.region [⟨some 4,.move (.const (.bool false)),none⟩]) (.seq (.region [⟨some 5,.move (.tmp 0),none⟩,⟨some 6,.move (.tmp 1),none⟩,⟨some 7,.call 73 [(.tmp 5),(.tmp 6)],none⟩,⟨some 8,.bin .geq (.tmp 7) (.const (.int .i64 0)),none⟩,⟨some 4,.move (.tmp 8),none⟩]) (.ret))⟩
def x1034:XFun:=⟨6,[.tmp 2],.seq (.region [⟨some 1,.box 28 (.tmp 0),none⟩,⟨some 2,.move (.const (.bool false)),none⟩]) (.seq (.region [⟨some 3,.loadN 8 (.tmp 1),none⟩,⟨some 4,.call 9 [(.tmp 3)],none⟩,⟨some 5,.un .not (.tmp 4),none⟩,⟨some 2,.move (.tmp 5),none⟩]) (.ret))⟩
def x1035:XFun:=⟨21,[.tmp 2],.seq (.region [⟨some 2,.move (.const (.bool false)),none⟩]) (.seq (.regionD [⟨some 3,.move (.tmp 0),none⟩,⟨some 4,.lenSlice (.tmp 3),none⟩,⟨some 5,.bin .eql (.tmp 4) (.const (.int .i64 2)),none⟩,⟨some 6,.move (.tmp 5),none⟩,⟨some 7,.move (.tmp 0),(some (6,true))⟩,⟨some 8,.indexAddr 1 (.tmp 7) (.const (.int .i64 0)),(some (6,true))⟩,⟨some 9,.load1 (.tmp 8),(some (6,true))⟩,⟨some 10,.move (.tmp 0),(some (6,true))⟩,⟨some 11,.indexAddr 1 (.tmp 10) (.const (.int .i64 1)),(some (6,true))⟩,⟨some 12,.load1 (.tmp 11),(some (6,true))⟩,⟨some 13,.bin .eql (.tmp 9) (.tmp 12),(some (6,true))⟩,⟨some 14,.pick (.tmp 6) (.tmp 13) (.const (.bool false)),none⟩,⟨some 15,.move (.tmp 14),none⟩,⟨some 16,.move (.tmp 0),(some (15,true))⟩,⟨some 17,.indexAddr 1 (.tmp 16) (.const (.int .i64 0)),(some (15,true))⟩,⟨some 18,.load1 (.tmp 17),(some (15,true))⟩,⟨some 19,.bin .gtr (.tmp 18) (.const (.int .i64 0)),(some (15,true))⟩,⟨some 20,.pick (.tmp 15) (.tmp 19) (.const (.bool false)),none⟩,⟨some 2,.move (.tmp 20),none⟩] []) (.ret))⟩
def x19:XFun:=⟨10,[.tmp 2],.seq (.region [⟨some 1,.box 28 (.tmp 0),none⟩,⟨some 2,.move (.const (.slice none 0 0)),none⟩]) (.seq (.region [⟨some 3,.alloc 25 [(.slice none 0 0)],none⟩]) (.seq (.region [⟨some 4,.loadN 8 (.tmp 1),none⟩,⟨some 5,.call 74 [(.tmp 4),(.const (.slice none 0 0)),(.tmp 3)],none⟩]) (.seq (.region [⟨some 6,.load1 (.tmp 3),none⟩,⟨some 7,.call 75 [(.tmp 6)],none⟩]) (.seq (.region [⟨some 8,.load1 (.tmp 3),none⟩,⟨some 9,.call 76 [(.tmp 8)],none⟩,⟨some 2,.move (.tmp 9),none⟩]) (.ret)))))⟩
def x20:XFun:=⟨58,[.tmp 2],.seq (.region [⟨some 1,.box 28 (.tmp 0),none⟩,⟨some 2,.move (.const (.slice none 0 0)),none⟩]) (.seq (.region [⟨some 3,.move (.const (.slice none 0 0)),none⟩]) (.seq (.seq (.region [⟨some 8,.addr 0 (.tmp 1),none⟩,⟨some 9,.load1 (.tmp 8),none⟩,⟨some 10,.bin .eql (.tmp 9) (.const (.int .i64 2)),none⟩]) (.cond (.tmp 10) (.region [⟨some 11,.move (.tmp 3),none⟩,⟨some 12,.addr 1 (.tmp 1),none⟩,⟨some 13,.load1 (.tmp 12),none⟩,⟨some 14,.call 77 [(.tmp 11),(.tmp 13)],none⟩,⟨some 3,.move (.tmp 14),none⟩]) (.skip))) (.seq (.seq (.region [⟨some 4,.move (.const (.int .i64 0)),none⟩]) (.block 0 (.loop (.seq (.seq (.region [⟨some 15,.move (.tmp 4),none⟩,⟨some 16,.addr 7 (.tmp 1),none⟩,⟨some 17,.load1 (.tmp 16),none⟩,⟨some 18,.lenSlice (.tmp 17),none⟩,⟨some 19,.bin .lss (.tmp 15) (.tmp 18),none⟩]) (.cond (.tmp 19) (.skip) (.exit 0))) (.seq (.block 1 (.seq (.region [⟨some 5,.move (.const (.int .i64 0)),none⟩]) (.seq (.seq (.region [⟨some 22,.move (.tmp 4),none⟩,⟨some 23,.addr 7 (.tmp 1),none⟩,⟨some 24,.load1 (.tmp 23),none⟩,⟨some 25,.lenSlice (.tmp 24),none⟩,⟨some 26,.bin .sub (.tmp 25) (.const (.int .i64 1)),none⟩,⟨some 27,.bin .eql (.tmp 22) (.tmp 26),none⟩]) (.cond (.tmp 27) (.region [⟨some 28,.loadN 8 (.tmp 1),none⟩,⟨some 29,.call 78 [(.tmp 28)],none⟩,⟨some 5,.move (.tmp 29),none⟩]) (.skip))) (.seq (.region [⟨some 30,.addr 7 (.tmp 1),none⟩,⟨some 31,.load1 (.tmp 30),none⟩,⟨some 32,.move (.tmp 4),none⟩,⟨some 33,.indexAddr 8 (.tmp 31) (.tmp 32),none⟩,⟨some 34,.loadN 8 (.tmp 33),none⟩,⟨some 35,.call 37 [(.tmp 34)],none⟩,⟨some 6,.move (.tmp 35),none⟩]) (.seq (.region [⟨some 7,.move (.const (.int .i64 0)),none⟩]) (.block 2 (.loop (.seq (.seq (.region [⟨some 36,.move (.tmp 7),none⟩,⟨some 37,.move (.tmp 6),none⟩,⟨some 38,.lenSlice (.tmp 37),none⟩,⟨some 39,.bin .lss (.tmp 36) (.tmp 38),none⟩]) (.cond (.tmp 39) (.skip) (.exit 2))) (.seq (.block 3 (.seq (.regionD [⟨some 42,.move (.tmp 6),none⟩,⟨some 43,.move (.tmp 7),none⟩,⟨some 44,.indexAddr 1 (.tmp 42) (.tmp 43),none⟩,⟨some 45,.load1 (.tmp 44),none⟩,⟨some 46,.addr 1 (.tmp 1),none⟩,⟨some 47,.load1 (.tmp 46),none⟩,⟨some 48,.move (.tmp 5),none⟩,⟨some 49,.call 79 [(.tmp 45),(.tmp 47),(.tmp 48)],none⟩,⟨some 50,.un .not (.tmp 49),none⟩] []) (.cond (.tmp 50) (.region [⟨some 51,.move (.tmp 3),none⟩,⟨some 52,.move (.tmp 6),none⟩,⟨some 53,.move (.tmp 7),none⟩,⟨some 54,.indexAddr 1 (.tmp 52) (.tmp 53),none⟩,⟨some 55,.load1 (.tmp 54),none⟩,⟨some 56,.call 77 [(.tmp 51),(.tmp 55)],none⟩,⟨some 3,.move (.tmp 56),none⟩]) (.skip)))) (.region [⟨some 40,.move (.tmp 7),none⟩,⟨some 41,.bin .add (.tmp 40) (.const (.int .i64 1)),none⟩,⟨some 7,.move (.tmp 41),none⟩])))))))))) (.region [⟨some 20,.move (.tmp 4),none⟩,⟨some 21,.bin .add (.tmp 20) (.const (.int .i64 1)),none⟩,⟨some 4,.move (.tmp 21),none⟩])))))) (.seq (.region [⟨some 57,.move (.tmp 3),none⟩,⟨some 2,.move (.tmp 57),none⟩]) (.ret)))))⟩
def x1038:XFun:=⟨46,[.tmp 4],.seq (.region [⟨some 2,.box 24 (.tmp 0),none⟩,⟨some 3,.box 24 (.tmp 1),none⟩,⟨some 4,.move (.const (.bool false)),none⟩]) (.seq (.seq (.region [⟨some 6,.addr 0 (.tmp 2),none⟩,⟨some 7,.load1 (.tmp 6),none⟩,⟨some 8,.addr 0 (.tmp 3),none⟩,⟨some 9,.load1 (.tmp 8),none⟩,⟨some 10,.bin .neq (.tmp 7) (.tmp 9),none⟩,⟨some 11,.move (.tmp 10),none⟩,⟨some 12,.addr 1 (.tmp 2),(some (11,false))⟩,⟨some 13,.load1 (.tmp 12),(some (11,false))⟩,⟨some 14,.addr 1 (.tmp 3),(some (11,false))⟩,⟨some 15,.load1 (.tmp 14),(some (11,false))⟩,⟨some 16,.bin .neq (.tmp 13) (.tmp 15),(some (11,false))⟩,⟨some 17,.pick (.tmp 11) (.const (.bool true)) (.tmp 16),none⟩,⟨some 18,.move (.tmp 17),none⟩,⟨some 19,.addr 2 (.tmp 2),(some (18,false))⟩,⟨some 20,.load1 (.tmp 19),(some (18,false))⟩,⟨some 21,.lenSlice (.tmp 20),(some (18,false))⟩,⟨some 22,.addr 2 (.tmp 3),(some (18,false))⟩,⟨some 23,.load1 (.tmp 22),(some (18,false))⟩,⟨some 24,.lenSlice (.tmp 23),(some (18,false))⟩,⟨some 25,.bin .neq (.tmp 21) (.tmp 24),(some (18,false))⟩,⟨some 26,.pick (.tmp 18) (.const (.bool true)) (.tmp 25),none⟩]) (.cond (.tmp 26) (.seq (.region [⟨some 4,.move (.const (.bool false)),none⟩]) (.ret)) (.skip))) (.seq (.seq (.region [⟨some 5,.move (.const (.int .i64 0)),none⟩]) (.block 0 (.loop (.seq (.seq (.region [⟨some 27,.move (.tmp 5),none⟩,⟨some 28,.addr 2 (.tmp 2),none⟩,⟨some 29,.load1 (.tmp 28),none⟩,⟨some 30,.lenSlice (.tmp 29),none⟩,⟨some 31,.bin .lss (.tmp 27) (.tmp 30),none⟩]) (.cond (.tmp 31) (.skip) (.exit 0))) (.seq (.block 1 (.seq (.regionD [⟨some 34,.addr 2 (.tmp 2),none⟩,⟨some 35,.load1 (.tmp 34),none⟩,⟨some 36,.move (.tmp 5),none⟩,⟨some 37,.indexAddr 3 (.tmp 35) (.tmp 36),none⟩,⟨some 38,.loadN 3 (.tmp 37),none⟩,⟨some 39,.addr 2 (.tmp 3),none⟩,⟨some 40,.load1 (.tmp 39),none⟩,⟨some 41,.move (.tmp 5),none⟩,⟨some 42,.indexAddr 3 (.tmp 40) (.tmp 41),none⟩,⟨some 43,.loadN 3 (.tmp 42),none⟩,⟨some 44,.call 38 [(.tmp 38),(.tmp 43)],none⟩,⟨some 45,.un .not (.tmp 44),none⟩] []) (.cond (.tmp 45) (.seq (.region [⟨some 4,.move (.const (.bool false)),none⟩]) (.ret)) (.skip)))) (.region [⟨some 32,.move (.tmp 5),none⟩,⟨some 33,.bin .add (.tmp 32) (.const (.int .i64 1)),none⟩,⟨some 5,.move (.tmp 33),none⟩])))))) (.seq (.region [⟨some 4,.move (.const (.bool true)),none⟩]) (.ret))))⟩
def x16:XFun:=⟨26,[.tmp 4],.seq (.region [⟨some 4,.move (.const (.bool false)),none⟩]) (.seq (.seq (.region [⟨some 6,.move (.tmp 0),none⟩,⟨some 7,.lenSlice (.tmp 6),none⟩,⟨some 8,.move (.tmp 1),none⟩,⟨some 9,.lenSlice (.tmp 8),none⟩,⟨some 10,.bin .neq (.tmp 7) (.tmp 9),none⟩]) (.cond (.tmp 10) (.seq (.region [⟨some 4,.move (.const (.bool false)),none⟩]) (.ret)) (.skip))) (.seq (.seq (.region [⟨some 5,.move (.const (.int .i64 0)),none⟩]) (.block 0 (.loop (.seq (.seq (.region [⟨some 11,.move (.tmp 5),none⟩,⟨some 12,.move (.tmp 0),none⟩,⟨some 13,.lenSlice (.tmp 12),none⟩,⟨some 14,.bin .lss (.tmp 11) (.tmp 13),none⟩]) (.cond (.tmp 14) (.skip) (.exit 0))) (.seq (.block 1 (.seq (.regionD [⟨some 17,.move (.tmp 0),none⟩,⟨some 18,.move (.tmp 5),none⟩,⟨some 19,.indexAddr 1 (.tmp 17) (.tmp 18),none⟩,⟨some 20,.load1 (.tmp 19),none⟩,⟨some 21,.move (.tmp 1),none⟩,⟨some 22,.move (.tmp 5),none⟩,⟨some 23,.indexAddr 1 (.tmp 21) (.tmp 22),none⟩,⟨some 24,.load1 (.tmp 23),none⟩,⟨some 25,.bin .neq (.tmp 20) (.tmp 24),none⟩] []) (.cond (.tmp 25) (.seq (.region [⟨some 4,.move (.const (.bool false)),none⟩]) (.ret)) (.skip)))) (.region [⟨some 15,.move (.tmp 5),none⟩,⟨some 16,.bin .add (.tmp 15) (.const (.int .i64 1)),none⟩,⟨some 5,.move (.tmp 16),none⟩])))))) (.seq (.region [⟨some 4,.move (.const (.bool true)),none⟩]) (.ret))))⟩
def x1040:XFun:=⟨30,[.cellN 2 8],.seq (.region [⟨some 1,.box 28 (.tmp 0),none⟩,⟨some 2,.alloc 28 [(.int .i64 0),(.int .i64 0),(.int .i64 0),(.int .i64 0),(.int .i64 0),(.slice none 0 0),(.slice none 0 0),(.slice none 0 0)],none⟩]) (.seq (.regionD [⟨some 6,.addr 3 (.tmp 1),none⟩,⟨some 7,.loadN 3 (.tmp 6),none⟩,⟨some 8,.call 80 [(.tmp 7)],none⟩,⟨some 9,.addr 6 (.tmp 1),none⟩,⟨some 10,.load1 (.tmp 9),none⟩,⟨some 11,.call 81 [(.tmp 10)],none⟩,⟨some 12,.addr 3 (.tmp 1),none⟩,⟨none,.store 3 (.tmp 12) (.tmp 8),none⟩,⟨some 13,.addr 6 (.tmp 1),none⟩,⟨none,.store 1 (.tmp 13) (.tmp 11),none⟩] [(2,4)]) (.seq (.region [⟨some 3,.move (.const (.slice none 0 0)),none⟩]) (.seq (.seq (.region [⟨some 14,.addr 7 (.tmp 1),none⟩,⟨some 15,.load1 (.tmp 14),none⟩,⟨some 16,.lenSlice (.tmp 15),none⟩,⟨some 17,.move (.const (.int .i64 0)),none⟩]) (.block 0 (.loop (.seq (.region [⟨some 18,.bin .lss (.tmp 17) (.tmp 16),none⟩]) (.seq (.cond (.tmp 18) (.skip) (.exit 0)) (.seq (.block 1 (.seq (.region [⟨some 19,.indexAddr 8 (.tmp 15) (.tmp 17),none⟩,⟨some 20,.loadN 8 (.tmp 19),none⟩,⟨some 5,.alloc 28 [(.int .i64 0),(.int .i64 0),(.int .i64 0),(.int .i64 0),(.int .i64 0),(.slice none 0 0),(.slice none 0 0),(.slice none 0 0)],none⟩,⟨none,.store 8 (.tmp 5) (.tmp 20),none⟩]) (.region [⟨some 21,.move (.tmp 3),none⟩,⟨some 22,.loadN 8 (.tmp 5),none⟩,⟨some 23,.call 40 [(.tmp 22)],none⟩,⟨some 24,.buildSlice 28 8 [(.int .i64 0),(.int .i64 0),(.int .i64 0),(.int .i64 0),(.int .i64 0),(.slice none 0 0),(.slice none 0 0),(.slice none 0 0)] 1 [(0,8,(.tmp 23))],none⟩,⟨some 25,.append 28 8 112 (.tmp 21) (.tmp 24),none⟩,⟨some 3,.move (.tmp 25),none⟩]))) (.region [⟨some 26,.bin .add (.tmp 17) (.const (.int .i64 1)),none⟩,⟨some 17,.move (.tmp 26),none⟩]))))))) (.seq (.region [⟨some 27,.move (.tmp 3),none⟩,⟨some 28,.addr 7 (.tmp 1),none⟩,⟨none,.store 1 (.tmp 28) (.tmp 27),none⟩]) (.seq (.region [⟨some 29,.loadN 8 (.tmp 1),none⟩,⟨none,.store 8 (.tmp 2) (.tmp 29),none⟩]) (.ret))))))⟩
def x1041:XFun:=⟨173,[.cellN 2 8],.seq (.region [⟨some 1,.box 28 (.tmp 0),none⟩,⟨some 2,.alloc 28 [(.int .i64 0),(.int .i64 0),(.int .i64 0),(.int .i64 0),(.int .i64 0),(.slice none 0 0),(.slice none 0 0),(.slice none 0 0)],none⟩]) (.seq (.region [⟨some 3,.alloc 26 [(.slice none 0 0)],none⟩]) (.seq (.seq (.region [⟨some 12,.addr 7 (.tmp 1),none⟩,⟨some 13,.load1 (.tmp 12),none⟩,⟨some 14,.lenSlice (.tmp 13),none⟩,⟨some 15,.move (.const (.int .i64 0)),none⟩]) (.block 0 (.loop (.seq (.region [⟨some 16,.bin .lss (.tmp 15) (.tmp 14),none⟩]) (.seq (.cond (.tmp 16) (.skip) (.exit 0)) (.seq (.block 1 (.seq (.region [⟨some 17,.indexAddr 8 (.tmp 13) (.tmp 15),none⟩,⟨some 18,.loadN 8 (.tmp 17),none⟩,⟨some 5,.alloc 28 [(.int .i64 0),(.int .i64 0),(.int .i64 0),(.int .i64 0),(.int .i64 0),(.slice none 0 0),(.slice none 0 0),(.slice none 0 0)],none⟩,⟨none,.store 8 (.tmp 5) (.tmp 18),none⟩]) (.regionD [⟨some 19,.load1 (.tmp 3),none⟩,⟨some 20,.loadN 8 (.tmp 5),none⟩,⟨some 21,.call 41 [(.tmp 20)],none⟩,⟨some 22,.lenSlice (.tmp 19),none⟩,⟨some 23,.buildSlice 28 8 [(.int .i64 0),(.int .i64 0),(.int .i64 0),(.int .i64 0),(.int .i64 0),(.slice none 0 0),(.slice none 0 0),(.slice none 0 0)] 1 [(0,8,(.const (.agg #[(.int .i64 0),(.int .i64 0),(.int .i64 0),(.int .i64 0),(.int .i64 0),(.slice none 0 0),(.slice none 0 0),(.slice none 0 0)])))],none⟩,⟨some 24,.append 28 8 112 (.tmp 19) (.tmp 23),none⟩,⟨some 25,.indexAddr 8 (.tmp 24) (.tmp 22),none⟩,⟨none,.store 8 (.tmp 25) (.tmp 21),none⟩,⟨none,.store 1 (.tmp 3) (.tmp 24),none⟩] [(0,2),(0,4),(1,4),(7,8)]))) (.region [⟨some 26,.bin .add (.tmp 15) (.const (.int .i64 1)),none⟩,⟨some 15,.move (.tmp 26),none⟩]))))))) (.seq (.region [⟨some 27,.load1 (.tmp 3),none⟩,⟨some 28,.addr 7 (.tmp 1),none⟩,⟨none,.store 1 (.tmp 28) (.tmp 27),none⟩]) (.seq (.block 2 (.seq (.region [⟨some 30,.addr 0 (.tmp 1),none⟩,⟨some 31,.load1 (.tmp 30),none⟩,⟨some 32,.bin .eql (.tmp 31) (.const (.int .i64 7)),none⟩,⟨some 33,.move (.tmp 32),none⟩,⟨some 34,.load1 (.tmp 3),(some (33,true))⟩,⟨some 35,.lenSlice (.tmp 34),(some (33,true))⟩,⟨some 36,.bin .eql (.tmp 35) (.const (.int .i64 2)),(some (33,true))⟩,⟨some 37,.pick (.tmp 33) (.tmp 36) (.const (.bool false)),none⟩,⟨some 29,.move (.tmp 37),none⟩]) (.cond (.tmp 29) (.seq (.region [⟨some 6,.move (.const (.bool false)),none⟩]) (.seq (.seq (.region [⟨some 38,.addr 2 (.tmp 1),none⟩,⟨some 39,.load1 (.tmp 38),none⟩,⟨some 40,.maxI [(.tmp 39),(.const (.int .i64 0))],none⟩,⟨some 41,.minI [(.tmp 40),(.const (.int .i64 4))],none⟩,⟨some 42,.move (.const (.int .i64 0)),none⟩]) (.block 3 (.loop (.seq (.region [⟨some 43,.bin .lss (.tmp 42) (.tmp 41),none⟩]) (.seq (.cond (.tmp 43) (.skip) (.exit 3)) (.seq (.block 4 (.seq (.region [⟨some 44,.move (.tmp 42),none⟩,⟨some 7,.move (.tmp 44),none⟩]) (.regionD [⟨some 45,.move (.tmp 6),none⟩,⟨some 46,.move (.tmp 45),none⟩,⟨some 47,.addr 1 (.tmp 1),(some (46,false))⟩,⟨some 48,.load1 (.tmp 47),(some (46,false))⟩,⟨some 49,.move (.tmp 7),(some (46,false))⟩,⟨some 50,.bin .add (.tmp 48) (.tmp 49),(some (46,false))⟩,⟨some 51,.addr 1 (.tmp 1),(some (46,false))⟩,⟨some 52,.load1 (.tmp 51),(some (46,false))⟩,⟨some 53,.bin .geq (.tmp 50) (.tmp 52),(some (46,false))⟩,⟨some 54,.move (.tmp 53),(some (46,false))⟩,⟨some 55,.load1 (.tmp 3),(some (54,true))⟩,⟨some 56,.indexAddr 8 (.tmp 55) (.const (.int .i64 1)),(some (54,true))⟩,⟨some 57,.loadN 8 (.tmp 56),(some (54,true))⟩,⟨some 58,.addr 1 (.tmp 1),(some (54,true))⟩,⟨some 59,.load1 (.tmp 58),(some (54,true))⟩,⟨some 60,.move (.tmp 7),(some (54,true))⟩,⟨some 61,.bin .add (.tmp 59) (.tmp 60),(some (54,true))⟩,⟨some 62,.call 11 [(.tmp 57),(.tmp 61)],(some (54,true))⟩,⟨some 63,.pick (.tmp 54) (.tmp 62) (.const (.bool false)),(some (46,false))⟩,⟨some 64,.pick (.tmp 46) (.const (.bool true)) (.tmp 63),none⟩,⟨some 6,.move (.tmp 64),none⟩] []))) (.region [⟨some 65,.bin .add (.tmp 42) (.const (.int .i64 1)),none⟩,⟨some 42,.move (.tmp 65),none⟩]))))))) (.seq (.region [⟨some 66,.move (.tmp 6),none⟩,⟨some 67,.un .not (.tmp 66),none⟩,⟨some 68,.move (.tmp 67),none⟩,⟨some 69,.load1 (.tmp 3),(some (68,true))⟩,⟨some 70,.indexAddr 8 (.tmp 69) (.const (.int .i64 0)),(some (68,true))⟩,⟨some 71,.loadN 8 (.tmp 70),(some (68,true))⟩,⟨some 72,.call 9 [(.tmp 71)],(some (68,true))⟩,⟨some 73,.pick (.tmp 68) (.tmp 72) (.const (.bool false)),none⟩]) (.cond (.tmp 73) (.seq (.region [⟨some 74,.load1 (.tmp 3),none⟩,⟨some 75,.indexAddr 8 (.tmp 74) (.const (.int .i64 1)),none⟩,⟨some 76,.loadN 8 (.tmp 75),none⟩,⟨none,.store 8 (.tmp 2) (.tmp 76),none⟩]) (.ret)) (.skip))))) (.seq (.region [⟨some 78,.addr 0 (.tmp 1),none⟩,⟨some 79,.load1 (.tmp 78),none⟩,⟨some 80,.bin .eql (.tmp 79) (.const (.int .i64 10)),none⟩,⟨some 81,.move (.tmp 80),none⟩,⟨some 82,.load1 (.tmp 3),(some (81,true))⟩,⟨some 83,.lenSlice (.tmp 82),(some (81,true))⟩,⟨some 84,.bin .eql (.tmp 83) (.const (.int .i64 2)),(some (81,true))⟩,⟨some 85,.pick (.tmp 81) (.tmp 84) (.const (.bool false)),none⟩,⟨some 77,.move (.tmp 85),none⟩]) (.cond (.tmp 77) (.seq (.region [⟨some 87,.load1 (.tmp 3),none⟩,⟨some 88,.indexAddr 8 (.tmp 87) (.const (.int .i64 0)),none⟩,⟨some 89,.loadN 8 (.tmp 88),none⟩,⟨some 90,.call 82 [(.tmp 89)],none⟩,⟨some 86,.move (.tmp 90),none⟩,⟨some 91,.extract (.tmp 86) 0,none⟩,⟨some 92,.extract (.tmp 86) 1,none⟩,⟨some 8,.move (.tmp 91),none⟩,⟨some 9,.move (.tmp 92),none⟩]) (.seq (.region [⟨some 93,.move (.tmp 9),none⟩,⟨some 94,.move (.tmp 93),none⟩,⟨some 95,.move (.tmp 8),(some (94,true))⟩,⟨some 96,.pick (.tmp 94) (.tmp 95) (.const (.bool false)),none⟩]) (.cond (.tmp 96) (.seq (.region [⟨some 97,.load1 (.tmp 3),none⟩,⟨some 98,.indexAddr 8 (.tmp 97) (.const (.int .i64 1)),none⟩,⟨some 99,.loadN 8 (.tmp 98),none⟩,⟨none,.store 8 (.tmp 2) (.tmp 99),none⟩]) (.ret)) (.skip)))) (.seq (.region [⟨some 101,.addr 0 (.tmp 1),none⟩,⟨some 102,.load1 (.tmp 101),none⟩,⟨some 103,.bin .eql (.tmp 102) (.const (.int .i64 11)),none⟩,⟨some 104,.move (.tmp 103),none⟩,⟨some 105,.load1 (.tmp 3),(some (104,true))⟩,⟨some 106,.lenSlice (.tmp 105),(some (104,true))⟩,⟨some 107,.bin .eql (.tmp 106) (.const (.int .i64 1)),(some (104,true))⟩,⟨some 108,.pick (.tmp 104) (.tmp 107) (.const (.bool false)),none⟩,⟨some 109,.move (.tmp 108),none⟩,⟨some 110,.loadN 8 (.tmp 1),(some (109,true))⟩,⟨some 111,.call 31 [(.tmp 110)],(some (109,true))⟩,⟨some 112,.pick (.tmp 109) (.tmp 111) (.const (.bool false)),none⟩,⟨some 100,.move (.tmp 112),none⟩]) (.cond (.tmp 100) (.seq (.region [⟨some 113,.load1 (.tmp 3),none⟩,⟨some 114,.indexAddr 8 (.tmp 113) (.const (.int .i64 0)),none⟩,⟨some 115,.loadN 8 (.tmp 114),none⟩,⟨none,.store 8 (.tmp 2) (.tmp 115),none⟩]) (.ret)) (.seq (.region [⟨some 117,.addr 0 (.tmp 1),none⟩,⟨some 118,.load1 (.tmp 117),none⟩,⟨some 119,.bin .eql (.tmp 118) (.const (.int .i64 12)),none⟩,⟨some 120,.move (.tmp 119),none⟩,⟨some 121,.load1 (.tmp 3),(some (120,true))⟩,⟨some 122,.lenSlice (.tmp 121),(some (120,true))⟩,⟨some 123,.bin .gtr (.tmp 122) (.const (.int .i64 0)),(some (120,true))⟩,⟨some 124,.pick (.tmp 120) (.tmp 123) (.const (.bool false)),none⟩,⟨some 116,.move (.tmp 124),none⟩]) (.cond (.tmp 116) (.seq (.region [⟨some 125,.load1 (.tmp 3),none⟩,⟨some 126,.mkFunc (.func 83) [] [(.tmp 3)],none⟩,⟨some 127,.call 33 [(.tmp 125),(.tmp 126)],none⟩,⟨some 128,.un .not (.tmp 127),none⟩]) (.cond (.tmp 128) (.seq (.region [⟨some 129,.load1 (.tmp 3),none⟩,⟨some 130,.indexAddr 8 (.tmp 129) (.const (.int .i64 0)),none⟩,⟨some 131,.loadN 8 (.tmp 130),none⟩,⟨none,.store 8 (.tmp 2) (.tmp 131),none⟩]) (.ret)) (.skip))) (.seq (.region [⟨some 133,.addr 0 (.tmp 1),none⟩,⟨some 134,.load1 (.tmp 133),none⟩,⟨some 135,.bin .eql (.tmp 134) (.const (.int .i64 8)),none⟩,⟨some 136,.move (.tmp 135),none⟩,⟨some 137,.load1 (.tmp 3),(some (136,true))⟩,⟨some 138,.lenSlice (.tmp 137),(some (136,true))⟩,⟨some 139,.bin .eql (.tmp 138) (.const (.int .i64 3)),(some (136,true))⟩,⟨some 140,.pick (.tmp 136) (.tmp 139) (.const (.bool false)),none⟩,⟨some 132,.move (.tmp 140),none⟩]) (.cond (.tmp 132) (.seq (.seq (.region [⟨some 142,.load1 (.tmp 3),none⟩,⟨some 143,.indexAddr 8 (.tmp 142) (.const (.int .i64 0)),none⟩,⟨some 144,.loadN 8 (.tmp 143),none⟩,⟨some 145,.call 82 [(.tmp 144)],none⟩,⟨some 141,.move (.tmp 145),none⟩,⟨some 146,.extract (.tmp 141) 0,none⟩,⟨some 147,.extract (.tmp 141) 1,none⟩,⟨some 10,.move (.tmp 146),none⟩,⟨some 11,.move (.tmp 147),none⟩]) (.seq (.region [⟨some 148,.move (.tmp 11),none⟩]) (.cond (.tmp 148) (.seq (.seq (.region [⟨some 149,.move (.tmp 10),none⟩]) (.cond (.tmp 149) (.seq (.region [⟨some 150,.load1 (.tmp 3),none⟩,⟨some 151,.indexAddr 8 (.tmp 150) (.const (.int .i64 1)),none⟩,⟨some 152,.loadN 8 (.tmp 151),none⟩,⟨none,.store 8 (.tmp 2) (.tmp 152),none⟩]) (.ret)) (.skip))) (.seq (.region [⟨some 153,.load1 (.tmp 3),none⟩,⟨some 154,.indexAddr 8 (.tmp 153) (.const (.int .i64 2)),none⟩,⟨some 155,.loadN 8 (.tmp 154),none⟩,⟨none,.store 8 (.tmp 2) (.tmp 155),none⟩]) (.ret))) (.skip)))) (.seq (.regionD [⟨some 156,.load1 (.tmp 3),none⟩,⟨some 157,.indexAddr 8 (.tmp 156) (.const (.int .i64 0)),none⟩,⟨some 158,.loadN 8 (.tmp 157),none⟩,⟨some 159,.call 9 [(.tmp 158)],none⟩,⟨some 160,.move (.tmp 159),none⟩,⟨some 161,.load1 (.tmp 3),(some (160,true))⟩,⟨some 162,.indexAddr 8 (.tmp 161) (.const (.int .i64 1)),(some (160,true))⟩,⟨some 163,.loadN 8 (.tmp 162),(some (160,true))⟩,⟨some 164,.load1 (.tmp 3),(some (160,true))⟩,⟨some 165,.indexAddr 8 (.tmp 164) (.const (.int .i64 2)),(some (160,true))⟩,⟨some 166,.loadN 8 (.tmp 165),(some (160,true))⟩,⟨some 167,.call 84 [(.tmp 163),(.tmp 166)],(some (160,true))⟩,⟨some 168,.pick (.tmp 160) (.tmp 167) (.const (.bool false)),none⟩] []) (.cond (.tmp 168) (.seq (.region [⟨some 169,.load1 (.tmp 3),none⟩,⟨some 170,.indexAddr 8 (.tmp 169) (.const (.int .i64 1)),none⟩,⟨some 171,.loadN 8 (.tmp 170),none⟩,⟨none,.store 8 (.tmp 2) (.tmp 171),none⟩]) (.ret)) (.skip)))) (.skip)))))))))))) (.seq (.region [⟨some 172,.loadN 8 (.tmp 1),none⟩,⟨none,.store 8 (.tmp 2) (.tmp 172),none⟩]) (.ret))))))⟩
def x1042:XFun:=⟨30,[.tmp 2],.seq (.region [⟨some 1,.box 28 (.tmp 0),none⟩,⟨some 2,.move (.const (.bool false)),none⟩]) (.seq (.seq (.region [⟨some 3,.move (.const (.int .i64 0)),none⟩]) (.block 0 (.loop (.seq (.seq (.region [⟨some 4,.move (.tmp 3),none⟩,⟨some 5,.addr 2 (.tmp 1),none⟩,⟨some 6,.load1 (.tmp 5),none⟩,⟨some 7,.bin .lss (.tmp 4) (.tmp 6),none⟩,⟨some 8,.move (.tmp 7),none⟩,⟨some 9,.move (.tmp 3),(some (8,true))⟩,⟨some 10,.bin .lss (.tmp 9) (.const (.int .i64 4)),(some (8,true))⟩,⟨some 11,.pick (.tmp 8) (.tmp 10) (.const (.bool false)),none⟩,⟨some 12,.move (.tmp 11),none⟩,⟨some 13,.addr 1 (.tmp 1),(some (12,true))⟩,⟨some 14,.load1 (.tmp 13),(some (12,true))⟩,⟨some 15,.move (.tmp 3),(some (12,true))⟩,⟨some 16,.bin .sub (.const (.int .i64 9223372036854775807)) (.tmp 15),(some (12,true))⟩,⟨some 17,.bin .leq (.tmp 14) (.tmp 16),(some (12,true))⟩,⟨some 18,.pick (.tmp 12) (.tmp 17) (.const (.bool false)),none⟩]) (.cond (.tmp 18) (.skip) (.exit 0))) (.seq (.block 1 (.seq (.regionD [⟨some 21,.addr 7 (.tmp 1),none⟩,⟨some 22,.load1 (.tmp 21),none⟩,⟨some 23,.indexAddr 8 (.tmp 22) (.const (.int .i64 1)),none⟩,⟨some 24,.loadN 8 (.tmp 23),none⟩,⟨some 25,.addr 1 (.tmp 1),none⟩,⟨some 26,.load1 (.tmp 25),none⟩,⟨some 27,.move (.tmp 3),none⟩,⟨some 28,.bin .add (.tmp 26) (.tmp 27),none⟩,⟨some 29,.call 12 [(.tmp 24),(.tmp 28)],none⟩] []) (.cond (.tmp 29) (.seq (.region [⟨some 2,.move (.const (.bool false)),none⟩]) (.ret)) (.skip)))) (.region [⟨some 19,.move (.tmp 3),none⟩,⟨some 20,.bin .add (.tmp 19) (.const (.int .i64 1)),none⟩,⟨some 3,.move (.tmp 20),none⟩])))))) (.seq (.region [⟨some 2,.move (.const (.bool true)),none⟩]) (.ret)))⟩
def x1043:XFun:=⟨6,[.tmp 2],.seq (.region [⟨some 1,.box 24 (.tmp 0),none⟩,⟨some 2,.move (.const (.bool false)),none⟩]) (.seq (.region [⟨some 3,.addr 1 (.tmp 1),none⟩,⟨some 4,.load1 (.tmp 3),none⟩,⟨some 5,.bin .neq (.tmp 4) (.const (.int .i64 0)),none⟩,⟨some 2,.move (.tmp 5),none⟩]) (.ret))⟩
def x1044:XFun:=⟨22,[.tmp 2],.seq (.region [⟨some 2,.move (.const (.bool false)),none⟩]) (.seq (.seq (.region [⟨some 3,.move (.const (.int .i64 1)),none⟩]) (.block 0 (.loop (.seq (.seq (.region [⟨some 4,.move (.tmp 3),none⟩,⟨some 5,.move (.tmp 0),none⟩,⟨some 6,.lenSlice (.tmp 5),none⟩,⟨some 7,.bin .lss (.tmp 4) (.tmp 6),none⟩]) (.cond (.tmp 7) (.skip) (.exit 0))) (.seq (.block 1 (.seq (.regionD [⟨some 10,.move (.tmp 0),none⟩,⟨some 11,.indexAddr 8 (.tmp 10) (.const (.int .i64 0)),none⟩,⟨some 12,.loadN 8 (.tmp 11),none⟩,⟨some 13,.move (.tmp 0),none⟩,⟨some 14,.move (.tmp 3),none⟩,⟨some 15,.indexAddr 8 (.tmp 13) (.tmp 14),none⟩,⟨some 16,.loadN 8 (.tmp 15),none⟩,⟨some 17,.call 45 [(.tmp 12),(.tmp 16)],none⟩,⟨some 18,.un .not (.tmp 17),none⟩] []) (.cond (.tmp 18) (.seq (.region [⟨some 2,.move (.const (.bool false)),none⟩]) (.ret)) (.skip)))) (.region [⟨some 8,.move (.tmp 3),none⟩,⟨some 9,.bin .add (.tmp 8) (.const (.int .i64 1)),none⟩,⟨some 3,.move (.tmp 9),none⟩])))))) (.seq (.region [⟨some 19,.move (.tmp 0),none⟩,⟨some 20,.lenSlice (.tmp 19),none⟩,⟨some 21,.bin .gtr (.tmp 20) (.const (.int .i64 0)),none⟩,⟨some 2,.move (.tmp 21),none⟩]) (.ret)))⟩
def x65:XFun:=⟨69,[.tmp 4],.seq (.region [⟨some 2,.box 28 (.tmp 0),none⟩,⟨some 3,.box 28 (.tmp 1),none⟩,⟨some 4,.move (.const (.bool false)),none⟩]) (.seq (.seq (.region [⟨some 6,.addr 0 (.tmp 2),none⟩,⟨some 7,.load1 (.tmp 6),none⟩,⟨some 8,.addr 0 (.tmp 3),none⟩,⟨some 9,.load1 (.tmp 8),none⟩,⟨some 10,.bin .neq (.tmp 7) (.tmp 9),none⟩,⟨some 11,.move (.tmp 10),none⟩,⟨some 12,.addr 1 (.tmp 2),(some (11,false))⟩,⟨some 13,.load1 (.tmp 12),(some (11,false))⟩,⟨some 14,.addr 1 (.tmp 3),(some (11,false))⟩,⟨some 15,.load1 (.tmp 14),(some (11,false))⟩,⟨some 16,.bin .neq (.tmp 13) (.tmp 15),(some (11,false))⟩,⟨some 17,.pick (.tmp 11) (.const (.bool true)) (.tmp 16),none⟩,⟨some 18,.move (.tmp 17),none⟩,⟨some 19,.addr 2 (.tmp 2),(some (18,false))⟩,⟨some 20,.load1 (.tmp 19),(some (18,false))⟩,⟨some 21,.addr 2 (.tmp 3),(some (18,false))⟩,⟨some 22,.load1 (.tmp 21),(some (18,false))⟩,⟨some 23,.bin .neq (.tmp 20) (.tmp 22),(some (18,false))⟩,⟨some 24,.pick (.tmp 18) (.const (.bool true)) (.tmp 23),none⟩,⟨some 25,.move (.tmp 24),none⟩,⟨some 26,.addr 3 (.tmp 2),(some (25,false))⟩,⟨some 27,.loadN 3 (.tmp 26),(some (25,false))⟩,⟨some 28,.addr 3 (.tmp 3),(some (25,false))⟩,⟨some 29,.loadN 3 (.tmp 28),(some (25,false))⟩,⟨some 30,.call 85 [(.tmp 27),(.tmp 29)],(some (25,false))⟩,⟨some 31,.un .not (.tmp 30),(some (25,false))⟩,⟨some 32,.pick (.tmp 25) (.const (.bool true)) (.tmp 31),none⟩,⟨some 33,.move (.tmp 32),none⟩,⟨some 34,.addr 6 (.tmp 2),(some (33,false))⟩,⟨some 35,.load1 (.tmp 34),(some (33,false))⟩,⟨some 36,.addr 6 (.tmp 3),(some (33,false))⟩,⟨some 37,.load1 (.tmp 36),(some (33,false))⟩,⟨some 38,.call 86 [(.tmp 35),(.tmp 37)],(some (33,false))⟩,⟨some 39,.un .not (.tmp 38),(some (33,false))⟩,⟨some 40,.pick (.tmp 33) (.const (.bool true)) (.tmp 39),none⟩,⟨some 41,.move (.tmp 40),none⟩,⟨some 42,.addr 7 (.tmp 2),(some (41,false))⟩,⟨some 43,.load1 (.tmp 42),(some (41,false))⟩,⟨some 44,.lenSlice (.tmp 43),(some (41,false))⟩,⟨some 45,.addr 7 (.tmp 3),(some (41,false))⟩,⟨some 46,.load1 (.tmp 45),(some (41,false))⟩,⟨some 47,.lenSlice (.tmp 46),(some (41,false))⟩,⟨some 48,.bin .neq (.tmp 44) (.tmp 47),(some (41,false))⟩,⟨some 49,.pick (.tmp 41) (.const (.bool true)) (.tmp 48),none⟩]) (.cond (.tmp 49) (.seq (.region [⟨some 4,.move (.const (.bool false)),none⟩]) (.ret)) (.skip))) (.seq (.seq (.region [⟨some 5,.move (.const (.int .i64 0)),none⟩]) (.block 0 (.loop (.seq (.seq (.region [⟨some 50,.move (.tmp 5),none⟩,⟨some 51,.addr 7 (.tmp 2),none⟩,⟨some 52,.load1 (.tmp 51),none⟩,⟨some 53,.lenSlice (.tmp 52),none⟩,⟨some 54,.bin .lss (.tmp 50) (.tmp 53),none⟩]) (.cond (.tmp 54) (.skip) (.exit 0))) (.seq (.block 1 (.seq (.regionD [⟨some 57,.addr 7 (.tmp 2),none⟩,⟨some 58,.load1 (.tmp 57),none⟩,⟨some 59,.move (.tmp 5),none⟩,⟨some 60,.indexAddr 8 (.tmp 58) (.tmp 59),none⟩,⟨some 61,.loadN 8 (.tmp 60),none⟩,⟨some 62,.addr 7 (.tmp 3),none⟩,⟨some 63,.load1 (.tmp 62),none⟩,⟨some 64,.move (.tmp 5),none⟩,⟨some 65,.indexAddr 8 (.tmp 63) (.tmp 64),none⟩,⟨some 66,.loadN 8 (.tmp 65),none⟩,⟨some 67,.call 45 [(.tmp 61),(.tmp 66)],none⟩,⟨some 68,.un .not (.tmp 67),none⟩] []) (.cond (.tmp 68) (.seq (.region [⟨some 4,.move (.const (.bool false)),none⟩]) (.ret)) (.skip)))) (.region [⟨some 55,.move (.tmp 5),none⟩,⟨some 56,.bin .add (.tmp 55) (.const (.int .i64 1)),none⟩,⟨some 5,.move (.tmp 56),none⟩])))))) (.seq (.region [⟨some 4,.move (.const (.bool true)),none⟩]) (.ret))))⟩
def x7:XFun:=⟨23,[.tmp 4],.seq (.region [⟨some 4,.move (.const (.bool false)),none⟩]) (.seq (.region [⟨some 5,.move (.const (.int .i64 0)),none⟩]) (.seq (.seq (.region [⟨some 6,.move (.const (.int .i64 0)),none⟩]) (.block 0 (.loop (.seq (.seq (.region [⟨some 7,.move (.tmp 6),none⟩,⟨some 8,.move (.tmp 1),none⟩,⟨some 9,.lenSlice (.tmp 8),none⟩,⟨some 10,.bin .lss (.tmp 7) (.tmp 9),none⟩]) (.cond (.tmp 10) (.skip) (.exit 0))) (.seq (.block 1 (.region [⟨some 13,.move (.tmp 1),none⟩,⟨some 14,.move (.tmp 6),none⟩,⟨some 15,.indexAddr 3 (.tmp 13) (.tmp 14),none⟩,⟨some 16,.loadN 3 (.tmp 15),none⟩,⟨some 17,.move (.tmp 5),none⟩,⟨some 18,.move (.tmp 0),none⟩,⟨some 19,.call 100 [(.tmp 16),(.tmp 17),(.tmp 18)],none⟩,⟨some 5,.move (.tmp 19),none⟩])) (.region [⟨some 11,.move (.tmp 6),none⟩,⟨some 12,.bin .add (.tmp 11) (.const (.int .i64 1)),none⟩,⟨some 6,.move (.tmp 12),none⟩])))))) (.seq (.region [⟨some 20,.move (.tmp 5),none⟩,⟨some 21,.move (.tmp 0),none⟩,⟨some 22,.bin .leq (.tmp 20) (.tmp 21),none⟩,⟨some 4,.move (.tmp 22),none⟩]) (.ret))))⟩
def x111:XFun:=⟨19,[.tmp 4],.seq (.region [⟨some 4,.move (.const (.int .i64 0)),none⟩]) (.seq (.seq (.region [⟨some 6,.move (.tmp 0),none⟩,⟨some 7,.lenSlice (.tmp 6),none⟩,⟨some 8,.move (.const (.int .i64 0)),none⟩]) (.block 0 (.loop (.seq (.region [⟨some 9,.bin .lss (.tmp 8) (.tmp 7),none⟩]) (.seq (.cond (.tmp 9) (.skip) (.exit 0)) (.seq (.block 1 (.seq (.region [⟨some 10,.move (.tmp 8),none⟩,⟨some 5,.move (.tmp 10),none⟩]) (.seq (.region [⟨some 11,.move (.tmp 1),none⟩,⟨some 12,.move (.tmp 0),none⟩,⟨some 13,.move (.tmp 5),none⟩,⟨some 14,.indexAddr 1 (.tmp 12) (.tmp 13),none⟩,⟨some 15,.load1 (.tmp 14),none⟩,⟨some 16,.bin .eql (.tmp 11) (.tmp 15),none⟩]) (.cond (.tmp 16) (.seq (.region [⟨some 17,.move (.tmp 5),none⟩,⟨some 4,.move (.tmp 17),none⟩]) (.ret)) (.skip))))) (.region [⟨some 18,.bin .add (.tmp 8) (.const (.int .i64 1)),none⟩,⟨some 8,.move (.tmp 18),none⟩]))))))) (.seq (.region [⟨some 4,.move (.const (.int .i64 (-1))),none⟩]) (.ret)))⟩
def x1073:XFun:=⟨19,[.tmp 4],.seq (.region [⟨some 4,.move (.const (.int .i64 0)),none⟩]) (.seq (.seq (.region [⟨some 6,.move (.tmp 0),none⟩,⟨some 7,.lenSlice (.tmp 6),none⟩,⟨some 8,.move (.const (.int .i64 0)),none⟩]) (.block 0 (.loop (.seq (.region [⟨some 9,.bin .lss (.tmp 8) (.tmp 7),none⟩]) (.seq (.cond (.tmp 9) (.skip) (.exit 0)) (.seq (.block 1 (.seq (.region [⟨some 10,.move (.tmp 8),none⟩,⟨some 5,.move (.tmp 10),none⟩]) (.seq (.region [⟨some 11,.move (.tmp 1),none⟩,⟨some 12,.move (.tmp 0),none⟩,⟨some 13,.move (.tmp 5),none⟩,⟨some 14,.indexAddr 8 (.tmp 12) (.tmp 13),none⟩,⟨some 15,.loadN 8 (.tmp 14),none⟩,⟨some 16,.callV (.tmp 11) [(.tmp 15)],none⟩]) (.cond (.tmp 16) (.seq (.region [⟨some 17,.move (.tmp 5),none⟩,⟨some 4,.move (.tmp 17),none⟩]) (.ret)) (.skip))))) (.region [⟨some 18,.bin .add (.tmp 8) (.const (.int .i64 1)),none⟩,⟨some 8,.move (.tmp 18),none⟩]))))))) (.seq (.region [⟨some 4,.move (.const (.int .i64 (-1))),none⟩]) (.ret)))⟩
def x41:XFun:=⟨85,[],.seq (.region [⟨some 3,.box 28 (.tmp 0),none⟩]) (.seq (.seq (.region [⟨some 11,.addr 0 (.tmp 3),none⟩,⟨some 12,.load1 (.tmp 11),none⟩,⟨some 13,.bin .eql (.tmp 12) (.const (.int .i64 2)),none⟩,⟨some 14,.move (.tmp 13),none⟩,⟨some 15,.move (.tmp 1),(some (14,true))⟩,⟨some 16,.addr 1 (.tmp 3),(some (14,true))⟩,⟨some 17,.load1 (.tmp 16),(some (14,true))⟩,⟨some 18,.call 32 [(.tmp 15),(.tmp 17)],(some (14,true))⟩,⟨some 19,.un .not (.tmp 18),(some (14,true))⟩,⟨some 20,.pick (.tmp 14) (.tmp 19) (.const (.bool false)),none⟩]) (.cond (.tmp 20) (.regionD [⟨some 21,.move (.tmp 2),none⟩,⟨some 22,.move (.tmp 2),none⟩,⟨some 23,.nilCheck (.tmp 22),none⟩,⟨some 24,.load1 (.tmp 23),none⟩,⟨some 25,.addr 1 (.tmp 3),none⟩,⟨some 26,.load1 (.tmp 25),none⟩,⟨some 27,.buildSlice 3 1 [(.int .i64 0)] 1 [(0,1,(.tmp 26))],none⟩,⟨some 28,.append 3 1 8 (.tmp 24) (.tmp 27),none⟩,⟨some 29,.nilCheck (.tmp 21),none⟩,⟨none,.store 1 (.tmp 29) (.tmp 28),none⟩] [(3,6)]) (.skip))) (.seq (.region [⟨some 6,.move (.const (.int .i64 0)),none⟩]) (.seq (.seq (.region [⟨some 30,.addr 0 (.tmp 3),none⟩,⟨some 31,.load1 (.tmp 30),none⟩]) (.block 0 (.seq (.region [⟨some 33,.bin .eql (.tmp 31) (.const (.int .i64 7)),none⟩,⟨some 32,.move (.tmp 33),none⟩]) (.cond (.tmp 32) (.region [⟨some 34,.addr 2 (.tmp 3),none⟩,⟨some 35,.load1 (.tmp 34),none⟩,⟨some 36,.maxI [(.tmp 35),(.const (.int .i64 0))],none⟩,⟨some 37,.minI [(.tmp 36),(.const (.int .i64 4))],none⟩,⟨some 6,.move (.tmp 37),none⟩]) (.seq (.region [⟨some 39,.bin .eql (.tmp 31) (.const (.int .i64 9)),none⟩,⟨some 38,.move (.tmp 39),none⟩]) (.cond (.tmp 38) (.region [⟨some 6,.move (.const (.int .i64 2)),none⟩]) (.skip))))))) (.seq (.region [⟨some 40,.addr 7 (.tmp 3),none⟩,⟨some 41,.load1 (.tmp 40),none⟩,⟨some 42,.lenSlice (.tmp 41),none⟩,⟨some 43,.move (.const (.int .i64 0)),none⟩]) (.block 1 (.loop (.seq (.region [⟨some 44,.bin .lss (.tmp 43) (.tmp 42),none⟩]) (.seq (.cond (.tmp 44) (.skip) (.exit 1)) (.seq (.block 2 (.seq (.region [⟨some 45,.move (.tmp 43),none⟩,⟨some 46,.indexAddr 8 (.tmp 41) (.tmp 43),none⟩,⟨some 47,.loadN 8 (.tmp 46),none⟩,⟨some 8,.alloc 28 [(.int .i64 0),(.int .i64 0),(.int .i64 0),(.int .i64 0),(.int .i64 0),(.slice none 0 0),(.slice none 0 0),(.slice none 0 0)],none⟩,⟨some 7,.move (.tmp 45),none⟩,⟨none,.store 8 (.tmp 8) (.tmp 47),none⟩]) (.seq (.region [⟨some 48,.move (.tmp 1),none⟩,⟨some 9,.move (.tmp 48),none⟩]) (.seq (.seq (.region [⟨some 49,.move (.tmp 6),none⟩,⟨some 50,.bin .gtr (.tmp 49) (.const (.int .i64 0)),none⟩,⟨some 51,.move (.tmp 50),none⟩,⟨some 52,.move (.tmp 7),(some (51,true))⟩,⟨some 53,.addr 7 (.tmp 3),(some (51,true))⟩,⟨some 54,.load1 (.tmp 53),(some (51,true))⟩,⟨some 55,.lenSlice (.tmp 54),(some (51,true))⟩,⟨some 56,.bin .sub (.tmp 55) (.const (.int .i64 1)),(some (51,true))⟩,⟨some 57,.bin .eql (.tmp 52) (.tmp 56),(some (51,true))⟩,⟨some 58,.pick (.tmp 51) (.tmp 57) (.const (.bool false)),none⟩]) (.cond (.tmp 58) (.seq (.region [⟨some 59,.move (.tmp 1),none⟩,⟨some 60,.call 81 [(.tmp 59)],none⟩,⟨some 9,.move (.tmp 60),none⟩]) (.seq (.region [⟨some 61,.move (.tmp 6),none⟩,⟨some 62,.move (.const (.int .i64 0)),none⟩]) (.block 3 (.loop (.seq (.region [⟨some 63,.bin .lss (.tmp 62) (.tmp 61),none⟩]) (.seq (.cond (.tmp 63) (.skip) (.exit 3)) (.seq (.block 4 (.seq (.region [⟨some 64,.move (.tmp 62),none⟩,⟨some 10,.move (.tmp 64),none⟩]) (.seq (.region [⟨some 65,.addr 1 (.tmp 3),none⟩,⟨some 66,.load1 (.tmp 65),none⟩,⟨some 67,.move (.tmp 10),none⟩,⟨some 68,.bin .add (.tmp 66) (.tmp 67),none⟩,⟨some 69,.addr 1 (.tmp 3),none⟩,⟨some 70,.load1 (.tmp 69),none⟩,⟨some 71,.bin .geq (.tmp 68) (.tmp 70),none⟩]) (.cond (.tmp 71) (.region [⟨some 72,.move (.tmp 9),none⟩,⟨some 73,.addr 1 (.tmp 3),none⟩,⟨some 74,.load1 (.tmp 73),none⟩,⟨some 75,.move (.tmp 10),none⟩,⟨some 76,.bin .add (.tmp 74) (.tmp 75),none⟩,⟨some 77,.buildSlice 3 1 [(.int .i64 0)] 1 [(0,1,(.tmp 76))],none⟩,⟨some 78,.append 3 1 8 (.tmp 72) (.tmp 77),none⟩,⟨some 9,.move (.tmp 78),none⟩]) (.skip))))) (.region [⟨some 79,.bin .add (.tmp 62) (.const (.int .i64 1)),none⟩,⟨some 62,.move (.tmp 79),none⟩])))))))) (.skip))) (.region [⟨some 80,.loadN 8 (.tmp 8),none⟩,⟨some 81,.move (.tmp 9),none⟩,⟨some 82,.move (.tmp 2),none⟩,⟨some 83,.call 74 [(.tmp 80),(.tmp 81),(.tmp 82)],none⟩]))))) (.region [⟨some 84,.bin .add (.tmp 43) (.const (.int .i64 1)),none⟩,⟨some 43,.move (.tmp 84),none⟩]))))))))))⟩
def x44:XFun:=⟨48,[.tmp 4],.seq (.region [⟨some 4,.move (.const (.slice none 0 0)),none⟩]) (.seq (.region [⟨some 5,.move (.const (.slice none 0 0)),none⟩]) (.seq (.region [⟨some 6,.move (.const (.bool false)),none⟩]) (.seq (.seq (.region [⟨some 7,.move (.const (.int .i64 0)),none⟩]) (.block 0 (.loop (.seq (.seq (.region [⟨some 8,.move (.tmp 7),none⟩,⟨some 9,.move (.tmp 0),none⟩,⟨some 10,.lenSlice (.tmp 9),none⟩,⟨some 11,.bin .lss (.tmp 8) (.tmp 10),none⟩]) (.cond (.tmp 11) (.skip) (.exit 0))) (.seq (.block 1 (.seq (.seq (.region [⟨some 14,.move (.tmp 6),none⟩,⟨some 15,.un .not (.tmp 14),none⟩,⟨some 16,.move (.tmp 15),none⟩,⟨some 17,.move (.tmp 1),(some (16,true))⟩,⟨some 18,.move (.tmp 0),(some (16,true))⟩,⟨some 19,.move (.tmp 7),(some (16,true))⟩,⟨some 20,.indexAddr 1 (.tmp 18) (.tmp 19),(some (16,true))⟩,⟨some 21,.load1 (.tmp 20),(some (16,true))⟩,⟨some 22,.bin .leq (.tmp 17) (.tmp 21),(some (16,true))⟩,⟨some 23,.pick (.tmp 16) (.tmp 22) (.const (.bool false)),none⟩]) (.cond (.tmp 23) (.seq (.seq (.region [⟨some 24,.move (.tmp 1),none⟩,⟨some 25,.move (.tmp 0),none⟩,⟨some 26,.move (.tmp 7),none⟩,⟨some 27,.indexAddr 1 (.tmp 25) (.tmp 26),none⟩,⟨some 28,.load1 (.tmp 27),none⟩,⟨some 29,.bin .lss (.tmp 24) (.tmp 28),none⟩]) (.cond (.tmp 29) (.region [⟨some 30,.move (.tmp 5),none⟩,⟨some 31,.move (.tmp 1),none⟩,⟨some 32,.buildSlice 3 1 [(.int .i64 0)] 1 [(0,1,(.tmp 31))],none⟩,⟨some 33,.append 3 1 8 (.tmp 30) (.tmp 32),none⟩,⟨some 5,.move (.tmp 33),none⟩]) (.skip))) (.region [⟨some 6,.move (.const (.bool true)),none⟩])) (.skip))) (.region [⟨some 34,.move (.tmp 5),none⟩,⟨some 35,.move (.tmp 0),none⟩,⟨some 36,.move (.tmp 7),none⟩,⟨some 37,.indexAddr 1 (.tmp 35) (.tmp 36),none⟩,⟨some 38,.load1 (.tmp 37),none⟩,⟨some 39,.buildSlice 3 1 [(.int .i64 0)] 1 [(0,1,(.tmp 38))],none⟩,⟨some 40,.append 3 1 8 (.tmp 34) (.tmp 39),none⟩,⟨some 5,.move (.tmp 40),none⟩]))) (.region [⟨some 12,.move (.tmp 7),none⟩,⟨some 13,.bin .add (.tmp 12) (.const (.int .i64 1)),none⟩,⟨some 7,.move (.tmp 13),none⟩])))))) (.seq (.seq (.region [⟨some 41,.move (.tmp 6),none⟩,⟨some 42,.un .not (.tmp 41),none⟩]) (.cond (.tmp 42) (.region [⟨some 43,.move (.tmp 5),none⟩,⟨some 44,.move (.tmp 1),none⟩,⟨some 45,.buildSlice 3 1 [(.int .i64 0)] 1 [(0,1,(.tmp 44))],none⟩,⟨some 46,.append 3 1 8 (.tmp 43) (.tmp 45),none⟩,⟨some 5,.move (.tmp 46),none⟩]) (.skip))) (.seq (.region [⟨some 47,.move (.tmp 5),none⟩,⟨some 4,.move (.tmp 47),none⟩]) (.ret))))))⟩
def x45:XFun:=⟨22,[.tmp 2],.seq (.region [⟨some 1,.box 28 (.tmp 0),none⟩,⟨some 2,.move (.const (.int .i64 0)),none⟩]) (.seq (.block 0 (.seq (.region [⟨some 4,.addr 0 (.tmp 1),none⟩,⟨some 5,.load1 (.tmp 4),none⟩,⟨some 6,.bin .eql (.tmp 5) (.const (.int .i64 9)),none⟩,⟨some 3,.move (.tmp 6),none⟩]) (.cond (.tmp 3) (.seq (.region [⟨some 2,.move (.const (.int .i64 2)),none⟩]) (.ret)) (.seq (.region [⟨some 8,.addr 0 (.tmp 1),none⟩,⟨some 9,.load1 (.tmp 8),none⟩,⟨some 10,.bin .neq (.tmp 9) (.const (.int .i64 7)),none⟩,⟨some 11,.move (.tmp 10),none⟩,⟨some 12,.addr 2 (.tmp 1),(some (11,false))⟩,⟨some 13,.load1 (.tmp 12),(some (11,false))⟩,⟨some 14,.bin .lss (.tmp 13) (.const (.int .i64 0)),(some (11,false))⟩,⟨some 15,.pick (.tmp 11) (.const (.bool true)) (.tmp 14),none⟩,⟨some 7,.move (.tmp 15),none⟩]) (.cond (.tmp 7) (.seq (.region [⟨some 2,.move (.const (.int .i64 0)),none⟩]) (.ret)) (.seq (.region [⟨some 17,.addr 2 (.tmp 1),none⟩,⟨some 18,.load1 (.tmp 17),none⟩,⟨some 19,.bin .gtr (.tmp 18) (.const (.int .i64 4)),none⟩,⟨some 16,.move (.tmp 19),none⟩]) (.cond (.tmp 16) (.seq (.region [⟨some 2,.move (.const (.int .i64 4)),none⟩]) (.ret)) (.skip)))))))) (.seq (.region [⟨some 20,.addr 2 (.tmp 1),none⟩,⟨some 21,.load1 (.tmp 20),none⟩,⟨some 2,.move (.tmp 21),none⟩]) (.ret)))⟩
def x46:XFun:=⟨22,[.tmp 6],.seq (.region [⟨some 6,.move (.const (.bool false)),none⟩]) (.seq (.seq (.region [⟨some 7,.move (.const (.int .i64 0)),none⟩]) (.block 0 (.loop (.seq (.seq (.region [⟨some 8,.move (.tmp 7),none⟩,⟨some 9,.move (.tmp 2),none⟩,⟨some 10,.bin .lss (.tmp 8) (.tmp 9),none⟩]) (.cond (.tmp 10) (.skip) (.exit 0))) (.seq (.block 1 (.seq (.seq (.region [⟨some 13,.move (.tmp 1),none⟩,⟨some 14,.move (.tmp 7),none⟩,⟨some 15,.bin .sub (.const (.int .i64 9223372036854775807)) (.tmp 14),none⟩,⟨some 16,.bin .gtr (.tmp 13) (.tmp 15),none⟩]) (.cond (.tmp 16) (.seq (.region [⟨some 6,.move (.const (.bool false)),none⟩]) (.ret)) (.skip))) (.seq (.region [⟨some 17,.move (.tmp 1),none⟩,⟨some 18,.move (.tmp 7),none⟩,⟨some 19,.bin .add (.tmp 17) (.tmp 18),none⟩,⟨some 20,.move (.tmp 0),none⟩,⟨some 21,.bin .eql (.tmp 19) (.tmp 20),none⟩]) (.cond (.tmp 21) (.seq (.region [⟨some 6,.move (.const (.bool true)),none⟩]) (.ret)) (.skip))))) (.region [⟨some 11,.move (.tmp 7),none⟩,⟨some 12,.bin .add (.tmp 11) (.const (.int .i64 1)),none⟩,⟨some 7,.move (.tmp 12),none⟩])))))) (.seq (.region [⟨some 6,.move (.const (.bool false)),none⟩]) (.ret)))⟩
def x1080:XFun:=⟨8,[.cellN 2 3],.seq (.region [⟨some 1,.box 24 (.tmp 0),none⟩,⟨some 2,.alloc 24 [(.int .i64 0),(.int .i64 0),(.slice none 0 0)],none⟩]) (.seq (.region [⟨some 3,.addr 2 (.tmp 1),none⟩,⟨some 4,.load1 (.tmp 3),none⟩,⟨some 5,.call 111 [(.tmp 4)],none⟩,⟨some 6,.addr 2 (.tmp 1),none⟩,⟨none,.store 1 (.tmp 6) (.tmp 5),none⟩]) (.seq (.region [⟨some 7,.loadN 3 (.tmp 1),none⟩,⟨none,.store 3 (.tmp 2) (.tmp 7),none⟩]) (.ret)))⟩
def x67:XFun:=⟨8,[.tmp 2],.seq (.region [⟨some 2,.move (.const (.slice none 0 0)),none⟩]) (.seq (.seq (.region [⟨some 3,.move (.tmp 0),none⟩,⟨some 4,.eq .sliceNil false (.tmp 3) (.const (.slice none 0 0)),none⟩]) (.cond (.tmp 4) (.seq (.region [⟨some 2,.move (.const (.slice none 0 0)),none⟩]) (.ret)) (.skip))) (.seq (.region [⟨some 5,.buildSlice 3 1 [(.int .i64 0)] 0 [],none⟩,⟨some 6,.move (.tmp 0),none⟩,⟨some 7,.append 3 1 8 (.tmp 5) (.tmp 6),none⟩,⟨some 2,.move (.tmp 7),none⟩]) (.ret)))⟩
def x1082:XFun:=⟨11,[.tmp 2,.tmp 3],.seq (.region [⟨some 1,.box 28 (.tmp 0),none⟩,⟨some 2,.move (.const (.bool false)),none⟩,⟨some 3,.move (.const (.bool false)),none⟩]) (.seq (.regionD [⟨some 4,.addr 3 (.tmp 1),none⟩,⟨some 5,.addr 1 (.tmp 4),none⟩,⟨some 6,.load1 (.tmp 5),none⟩,⟨some 7,.bin .neq (.tmp 6) (.const (.int .i64 0)),none⟩,⟨some 8,.addr 0 (.tmp 1),none⟩,⟨some 9,.load1 (.tmp 8),none⟩,⟨some 10,.bin .eql (.tmp 9) (.const (.int .i64 1)),none⟩,⟨some 2,.move (.tmp 7),none⟩,⟨some 3,.move (.tmp 10),none⟩] []) (.ret))⟩
def x1083:XFun:=⟨10,[.tmp 3],.seq (.region [⟨some 2,.box 28 (.tmp 0),none⟩,⟨some 3,.move (.const (.bool false)),none⟩]) (.seq (.regionD [⟨some 4,.loadN 8 (.tmp 2),none⟩,⟨some 5,.load1 (.tmp 1),none⟩,⟨some 6,.indexAddr 8 (.tmp 5) (.const (.int .i64 0)),none⟩,⟨some 7,.loadN 8 (.tmp 6),none⟩,⟨some 8,.call 84 [(.tmp 4),(.tmp 7)],none⟩,⟨some 9,.un .not (.tmp 8),none⟩,⟨some 3,.move (.tmp 9),none⟩] []) (.ret))⟩
end Go.Xe.YtlgknghehgmodaaGreatDoor
end
section
namespace Go.Xe.YtlgknghehgmodaaGreatDoor
open Go Go.Xe
def x1084:XFun:=⟨45,[.tmp 4],.seq (.region [⟨some 2,.box 28 (.tmp 0),none⟩,⟨some 3,.box 28 (.tmp 1),none⟩,⟨some 4,.move (.const (.bool false)),none⟩]) (.seq (.region [⟨some 5,.addr 0 (.tmp 2),none⟩,⟨some 6,.load1 (.tmp 5),none⟩,⟨some 7,.addr 0 (.tmp 3),none⟩,⟨some 8,.load1 (.tmp 7),none⟩,⟨some 9,.bin .eql (.tmp 6) (.tmp 8),none⟩,⟨some 10,.move (.tmp 9),none⟩,⟨some 11,.addr 1 (.tmp 2),(some (10,true))⟩,⟨some 12,.load1 (.tmp 11),(some (10,true))⟩,⟨some 13,.addr 1 (.tmp 3),(some (10,true))⟩,⟨some 14,.load1 (.tmp 13),(some (10,true))⟩,⟨some 15,.bin .eql (.tmp 12) (.tmp 14),(some (10,true))⟩,⟨some 16,.pick (.tmp 10) (.tmp 15) (.const (.bool false)),none⟩,⟨some 17,.move (.tmp 16),none⟩,⟨some 18,.addr 2 (.tmp 2),(some (17,true))⟩,⟨some 19,.load1 (.tmp 18),(some (17,true))⟩,⟨some 20,.addr 2 (.tmp 3),(some (17,true))⟩,⟨some 21,.load1 (.tmp 20),(some (17,true))⟩,⟨some 22,.bin .eql (.tmp 19) (.tmp 21),(some (17,true))⟩,⟨some 23,.pick (.tmp 17) (.tmp 22) (.const (.bool false)),none⟩,⟨some 24,.move (.tmp 23),none⟩,⟨some 25,.addr 3 (.tmp 2),(some (24,true))⟩,⟨some 26,.loadN 3 (.tmp 25),(some (24,true))⟩,⟨some 27,.addr 3 (.tmp 3),(some (24,true))⟩,⟨some 28,.loadN 3 (.tmp 27),(some (24,true))⟩,⟨some 29,.call 112 [(.tmp 26),(.tmp 28)],(some (24,true))⟩,⟨some 30,.pick (.tmp 24) (.tmp 29) (.const (.bool false)),none⟩,⟨some 31,.move (.tmp 30),none⟩,⟨some 32,.addr 6 (.tmp 2),(some (31,true))⟩,⟨some 33,.load1 (.tmp 32),(some (31,true))⟩,⟨some 34,.addr 6 (.tmp 3),(some (31,true))⟩,⟨some 35,.load1 (.tmp 34),(some (31,true))⟩,⟨some 36,.call 113 [(.tmp 33),(.tmp 35)],(some (31,true))⟩,⟨some 37,.pick (.tmp 31) (.tmp 36) (.const (.bool false)),none⟩,⟨some 38,.move (.tmp 37),none⟩,⟨some 39,.addr 7 (.tmp 2),(some (38,true))⟩,⟨some 40,.load1 (.tmp 39),(some (38,true))⟩,⟨some 41,.addr 7 (.tmp 3),(some (38,true))⟩,⟨some 42,.load1 (.tmp 41),(some (38,true))⟩,⟨some 43,.call 114 [(.tmp 40),(.tmp 42),(.func 84)],(some (38,true))⟩,⟨some 44,.pick (.tmp 38) (.tmp 43) (.const (.bool false)),none⟩,⟨some 4,.move (.tmp 44),none⟩]) (.ret))⟩
def x109:XFun:=⟨9,[.tmp 4],.seq (.region [⟨some 2,.box 24 (.tmp 0),none⟩,⟨some 3,.box 24 (.tmp 1),none⟩,⟨some 4,.move (.const (.bool false)),none⟩]) (.seq (.region [⟨some 5,.loadN 3 (.tmp 2),none⟩,⟨some 6,.loadN 3 (.tmp 3),none⟩,⟨some 7,.call 115 [(.tmp 5),(.tmp 6)],none⟩,⟨some 8,.bin .eql (.tmp 7) (.const (.int .i64 0)),none⟩,⟨some 4,.move (.tmp 8),none⟩]) (.ret))⟩
def x110:XFun:=⟨26,[.tmp 4],.seq (.region [⟨some 4,.move (.const (.bool false)),none⟩]) (.seq (.seq (.region [⟨some 6,.move (.tmp 0),none⟩,⟨some 7,.lenSlice (.tmp 6),none⟩,⟨some 8,.move (.tmp 1),none⟩,⟨some 9,.lenSlice (.tmp 8),none⟩,⟨some 10,.bin .neq (.tmp 7) (.tmp 9),none⟩]) (.cond (.tmp 10) (.seq (.region [⟨some 4,.move (.const (.bool false)),none⟩]) (.ret)) (.skip))) (.seq (.seq (.region [⟨some 5,.move (.const (.int .i64 0)),none⟩]) (.block 0 (.loop (.seq (.seq (.region [⟨some 11,.move (.tmp 5),none⟩,⟨some 12,.move (.tmp 0),none⟩,⟨some 13,.lenSlice (.tmp 12),none⟩,⟨some 14,.bin .lss (.tmp 11) (.tmp 13),none⟩]) (.cond (.tmp 14) (.skip) (.exit 0))) (.seq (.block 1 (.seq (.regionD [⟨some 17,.move (.tmp 0),none⟩,⟨some 18,.move (.tmp 5),none⟩,⟨some 19,.indexAddr 1 (.tmp 17) (.tmp 18),none⟩,⟨some 20,.load1 (.tmp 19),none⟩,⟨some 21,.move (.tmp 1),none⟩,⟨some 22,.move (.tmp 5),none⟩,⟨some 23,.indexAddr 1 (.tmp 21) (.tmp 22),none⟩,⟨some 24,.load1 (.tmp 23),none⟩,⟨some 25,.bin .neq (.tmp 20) (.tmp 24),none⟩] []) (.cond (.tmp 25) (.seq (.region [⟨some 4,.move (.const (.bool false)),none⟩]) (.ret)) (.skip)))) (.region [⟨some 15,.move (.tmp 5),none⟩,⟨some 16,.bin .add (.tmp 15) (.const (.int .i64 1)),none⟩,⟨some 5,.move (.tmp 16),none⟩])))))) (.seq (.region [⟨some 4,.move (.const (.bool true)),none⟩]) (.ret))))⟩
def x25:XFun:=⟨31,[.tmp 6],.seq (.region [⟨some 3,.box 24 (.tmp 0),none⟩,⟨some 6,.move (.const (.int .i64 0)),none⟩]) (.seq (.region [⟨some 8,.move (.tmp 1),none⟩,⟨some 9,.bin .add (.tmp 8) (.const (.int .i64 1)),none⟩,⟨some 1,.move (.tmp 9),none⟩]) (.seq (.seq (.region [⟨some 7,.move (.const (.int .i64 0)),none⟩]) (.block 0 (.loop (.seq (.seq (.region [⟨some 10,.move (.tmp 7),none⟩,⟨some 11,.addr 2 (.tmp 3),none⟩,⟨some 12,.load1 (.tmp 11),none⟩,⟨some 13,.lenSlice (.tmp 12),none⟩,⟨some 14,.bin .lss (.tmp 10) (.tmp 13),none⟩,⟨some 15,.move (.tmp 14),none⟩,⟨some 16,.move (.tmp 1),(some (15,true))⟩,⟨some 17,.move (.tmp 2),(some (15,true))⟩,⟨some 18,.bin .leq (.tmp 16) (.tmp 17),(some (15,true))⟩,⟨some 19,.pick (.tmp 15) (.tmp 18) (.const (.bool false)),none⟩]) (.cond (.tmp 19) (.skip) (.exit 0))) (.seq (.block 1 (.region [⟨some 22,.addr 2 (.tmp 3),none⟩,⟨some 23,.load1 (.tmp 22),none⟩,⟨some 24,.move (.tmp 7),none⟩,⟨some 25,.indexAddr 3 (.tmp 23) (.tmp 24),none⟩,⟨some 26,.loadN 3 (.tmp 25),none⟩,⟨some 27,.move (.tmp 1),none⟩,⟨some 28,.move (.tmp 2),none⟩,⟨some 29,.call 100 [(.tmp 26),(.tmp 27),(.tmp 28)],none⟩,⟨some 1,.move (.tmp 29),none⟩])) (.region [⟨some 20,.move (.tmp 7),none⟩,⟨some 21,.bin .add (.tmp 20) (.const (.int .i64 1)),none⟩,⟨some 7,.move (.tmp 21),none⟩])))))) (.seq (.region [⟨some 30,.move (.tmp 1),none⟩,⟨some 6,.move (.tmp 30),none⟩]) (.ret))))⟩
def x1111:XFun:=⟨19,[.tmp 2],.seq (.region [⟨some 2,.move (.const (.slice none 0 0)),none⟩]) (.seq (.region [⟨some 3,.move (.const (.slice none 0 0)),none⟩]) (.seq (.seq (.region [⟨some 6,.move (.tmp 0),none⟩,⟨some 7,.lenSlice (.tmp 6),none⟩,⟨some 8,.move (.const (.int .i64 0)),none⟩]) (.block 0 (.loop (.seq (.region [⟨some 9,.bin .lss (.tmp 8) (.tmp 7),none⟩]) (.seq (.cond (.tmp 9) (.skip) (.exit 0)) (.seq (.block 1 (.seq (.region [⟨some 10,.indexAddr 3 (.tmp 6) (.tmp 8),none⟩,⟨some 11,.loadN 3 (.tmp 10),none⟩,⟨some 5,.alloc 24 [(.int .i64 0),(.int .i64 0),(.slice none 0 0)],none⟩,⟨none,.store 3 (.tmp 5) (.tmp 11),none⟩]) (.region [⟨some 12,.move (.tmp 3),none⟩,⟨some 13,.loadN 3 (.tmp 5),none⟩,⟨some 14,.call 80 [(.tmp 13)],none⟩,⟨some 15,.buildSlice 24 3 [(.int .i64 0),(.int .i64 0),(.slice none 0 0)] 1 [(0,3,(.tmp 14))],none⟩,⟨some 16,.append 24 3 40 (.tmp 12) (.tmp 15),none⟩,⟨some 3,.move (.tmp 16),none⟩]))) (.region [⟨some 17,.bin .add (.tmp 8) (.const (.int .i64 1)),none⟩,⟨some 8,.move (.tmp 17),none⟩]))))))) (.seq (.region [⟨some 18,.move (.tmp 3),none⟩,⟨some 2,.move (.tmp 18),none⟩]) (.ret))))⟩
def x106:XFun:=⟨9,[.tmp 4],.seq (.region [⟨some 2,.box 24 (.tmp 0),none⟩,⟨some 3,.box 24 (.tmp 1),none⟩,⟨some 4,.move (.const (.bool false)),none⟩]) (.seq (.region [⟨some 5,.loadN 3 (.tmp 2),none⟩,⟨some 6,.loadN 3 (.tmp 3),none⟩,⟨some 7,.call 162 [(.tmp 5),(.tmp 6)],none⟩,⟨some 8,.bin .eql (.tmp 7) (.const (.int .i64 0)),none⟩,⟨some 4,.move (.tmp 8),none⟩]) (.ret))⟩
def x107:XFun:=⟨26,[.tmp 4],.seq (.region [⟨some 4,.move (.const (.bool false)),none⟩]) (.seq (.seq (.region [⟨some 6,.move (.tmp 0),none⟩,⟨some 7,.lenSlice (.tmp 6),none⟩,⟨some 8,.move (.tmp 1),none⟩,⟨some 9,.lenSlice (.tmp 8),none⟩,⟨some 10,.bin .neq (.tmp 7) (.tmp 9),none⟩]) (.cond (.tmp 10) (.seq (.region [⟨some 4,.move (.const (.bool false)),none⟩]) (.ret)) (.skip))) (.seq (.seq (.region [⟨some 11,.move (.tmp 0),none⟩,⟨some 12,.lenSlice (.tmp 11),none⟩,⟨some 13,.move (.const (.int .i64 0)),none⟩]) (.block 0 (.loop (.seq (.region [⟨some 14,.bin .lss (.tmp 13) (.tmp 12),none⟩]) (.seq (.cond (.tmp 14) (.skip) (.exit 0)) (.seq (.block 1 (.seq (.region [⟨some 15,.move (.tmp 13),none⟩,⟨some 5,.move (.tmp 15),none⟩]) (.seq (.regionD [⟨some 16,.move (.tmp 0),none⟩,⟨some 17,.move (.tmp 5),none⟩,⟨some 18,.indexAddr 1 (.tmp 16) (.tmp 17),none⟩,⟨some 19,.load1 (.tmp 18),none⟩,⟨some 20,.move (.tmp 1),none⟩,⟨some 21,.move (.tmp 5),none⟩,⟨some 22,.indexAddr 1 (.tmp 20) (.tmp 21),none⟩,⟨some 23,.load1 (.tmp 22),none⟩,⟨some 24,.bin .neq (.tmp 19) (.tmp 23),none⟩] []) (.cond (.tmp 24) (.seq (.region [⟨some 4,.move (.const (.bool false)),none⟩]) (.ret)) (.skip))))) (.region [⟨some 25,.bin .add (.tmp 13) (.const (.int .i64 1)),none⟩,⟨some 13,.move (.tmp 25),none⟩]))))))) (.seq (.region [⟨some 4,.move (.const (.bool true)),none⟩]) (.ret))))⟩
def x108:XFun:=⟨32,[.tmp 6],.seq (.region [⟨some 6,.move (.const (.bool false)),none⟩]) (.seq (.seq (.region [⟨some 10,.move (.tmp 0),none⟩,⟨some 11,.lenSlice (.tmp 10),none⟩,⟨some 12,.move (.tmp 1),none⟩,⟨some 13,.lenSlice (.tmp 12),none⟩,⟨some 14,.bin .neq (.tmp 11) (.tmp 13),none⟩]) (.cond (.tmp 14) (.seq (.region [⟨some 6,.move (.const (.bool false)),none⟩]) (.ret)) (.skip))) (.seq (.seq (.region [⟨some 15,.move (.tmp 0),none⟩,⟨some 16,.lenSlice (.tmp 15),none⟩,⟨some 17,.move (.const (.int .i64 0)),none⟩]) (.block 0 (.loop (.seq (.region [⟨some 18,.bin .lss (.tmp 17) (.tmp 16),none⟩]) (.seq (.cond (.tmp 18) (.skip) (.exit 0)) (.seq (.block 1 (.seq (.region [⟨some 19,.move (.tmp 17),none⟩,⟨some 20,.indexAddr 8 (.tmp 15) (.tmp 17),none⟩,⟨some 21,.loadN 8 (.tmp 20),none⟩,⟨some 8,.alloc 28 [(.int .i64 0),(.int .i64 0),(.int .i64 0),(.int .i64 0),(.int .i64 0),(.slice none 0 0),(.slice none 0 0),(.slice none 0 0)],none⟩,⟨some 7,.move (.tmp 19),none⟩,⟨none,.store 8 (.tmp 8) (.tmp 21),none⟩]) (.seq (.region [⟨some 22,.move (.tmp 1),none⟩,⟨some 23,.move (.tmp 7),none⟩,⟨some 24,.indexAddr 8 (.tmp 22) (.tmp 23),none⟩,⟨some 25,.loadN 8 (.tmp 24),none⟩,⟨some 9,.alloc 28 [(.int .i64 0),(.int .i64 0),(.int .i64 0),(.int .i64 0),(.int .i64 0),(.slice none 0 0),(.slice none 0 0),(.slice none 0 0)],none⟩,⟨none,.store 8 (.tmp 9) (.tmp 25),none⟩]) (.seq (.region [⟨some 26,.move (.tmp 2),none⟩,⟨some 27,.loadN 8 (.tmp 8),none⟩,⟨some 28,.loadN 8 (.tmp 9),none⟩,⟨some 29,.callV (.tmp 26) [(.tmp 27),(.tmp 28)],none⟩,⟨some 30,.un .not (.tmp 29),none⟩]) (.cond (.tmp 30) (.seq (.region [⟨some 6,.move (.const (.bool false)),none⟩]) (.ret)) (.skip)))))) (.region [⟨some 31,.bin .add (.tmp 17) (.const (.int .i64 1)),none⟩,⟨some 17,.move (.tmp 31),none⟩]))))))) (.seq (.region [⟨some 6,.move (.const (.bool true)),none⟩]) (.ret))))⟩
def x159:XFun:=⟨58,[.tmp 4],.seq (.region [⟨some 2,.box 24 (.tmp 0),none⟩,⟨some 3,.box 24 (.tmp 1),none⟩,⟨some 4,.move (.const (.int .i64 0)),none⟩]) (.seq (.region [⟨some 7,.addr 0 (.tmp 2),none⟩,⟨some 8,.load1 (.tmp 7),none⟩,⟨some 9,.addr 0 (.tmp 3),none⟩,⟨some 10,.load1 (.tmp 9),none⟩,⟨some 11,.call 163 [(.tmp 8),(.tmp 10)],none⟩,⟨some 5,.move (.tmp 11),none⟩]) (.seq (.seq (.region [⟨some 12,.move (.tmp 5),none⟩,⟨some 13,.bin .eql (.tmp 12) (.const (.int .i64 0)),none⟩]) (.cond (.tmp 13) (.region [⟨some 14,.addr 1 (.tmp 2),none⟩,⟨some 15,.load1 (.tmp 14),none⟩,⟨some 16,.addr 1 (.tmp 3),none⟩,⟨some 17,.load1 (.tmp 16),none⟩,⟨some 18,.call 163 [(.tmp 15),(.tmp 17)],none⟩,⟨some 5,.move (.tmp 18),none⟩]) (.skip))) (.seq (.seq (.region [⟨some 6,.move (.const (.int .i64 0)),none⟩]) (.block 0 (.loop (.seq (.seq (.region [⟨some 19,.move (.tmp 5),none⟩,⟨some 20,.bin .eql (.tmp 19) (.const (.int .i64 0)),none⟩,⟨some 21,.move (.tmp 20),none⟩,⟨some 22,.move (.tmp 6),(some (21,true))⟩,⟨some 23,.addr 2 (.tmp 2),(some (21,true))⟩,⟨some 24,.load1 (.tmp 23),(some (21,true))⟩,⟨some 25,.lenSlice (.tmp 24),(some (21,true))⟩,⟨some 26,.bin .lss (.tmp 22) (.tmp 25),(some (21,true))⟩,⟨some 27,.pick (.tmp 21) (.tmp 26) (.const (.bool false)),none⟩,⟨some 28,.move (.tmp 27),none⟩,⟨some 29,.move (.tmp 6),(some (28,true))⟩,⟨some 30,.addr 2 (.tmp 3),(some (28,true))⟩,⟨some 31,.load1 (.tmp 30),(some (28,true))⟩,⟨some 32,.lenSlice (.tmp 31),(some (28,true))⟩,⟨some 33,.bin .lss (.tmp 29) (.tmp 32),(some (28,true))⟩,⟨some 34,.pick (.tmp 28) (.tmp 33) (.const (.bool false)),none⟩]) (.cond (.tmp 34) (.skip) (.exit 0))) (.seq (.block 1 (.regionD [⟨some 37,.addr 2 (.tmp 2),none⟩,⟨some 38,.load1 (.tmp 37),none⟩,⟨some 39,.move (.tmp 6),none⟩,⟨some 40,.indexAddr 3 (.tmp 38) (.tmp 39),none⟩,⟨some 41,.loadN 3 (.tmp 40),none⟩,⟨some 42,.addr 2 (.tmp 3),none⟩,⟨some 43,.load1 (.tmp 42),none⟩,⟨some 44,.move (.tmp 6),none⟩,⟨some 45,.indexAddr 3 (.tmp 43) (.tmp 44),none⟩,⟨some 46,.loadN 3 (.tmp 45),none⟩,⟨some 47,.call 115 [(.tmp 41),(.tmp 46)],none⟩,⟨some 5,.move (.tmp 47),none⟩] [])) (.region [⟨some 35,.move (.tmp 6),none⟩,⟨some 36,.bin .add (.tmp 35) (.const (.int .i64 1)),none⟩,⟨some 6,.move (.tmp 36),none⟩])))))) (.seq (.seq (.region [⟨some 48,.move (.tmp 5),none⟩,⟨some 49,.bin .eql (.tmp 48) (.const (.int .i64 0)),none⟩]) (.cond (.tmp 49) (.region [⟨some 50,.addr 2 (.tmp 2),none⟩,⟨some 51,.load1 (.tmp 50),none⟩,⟨some 52,.lenSlice (.tmp 51),none⟩,⟨some 53,.addr 2 (.tmp 3),none⟩,⟨some 54,.load1 (.tmp 53),none⟩,⟨some 55,.lenSlice (.tmp 54),none⟩,⟨some 56,.call 163 [(.tmp 52),(.tmp 55)],none⟩,⟨some 5,.move (.tmp 56),none⟩]) (.skip))) (.seq (.region [⟨some 57,.move (.tmp 5),none⟩,⟨some 4,.move (.tmp 57),none⟩]) (.ret))))))⟩
def x158:XFun:=⟨26,[.tmp 4],.seq (.region [⟨some 2,.box 24 (.tmp 0),none⟩,⟨some 3,.box 24 (.tmp 1),none⟩,⟨some 4,.move (.const (.int .i64 0)),none⟩]) (.seq (.region [⟨some 6,.addr 0 (.tmp 2),none⟩,⟨some 7,.load1 (.tmp 6),none⟩,⟨some 8,.addr 0 (.tmp 3),none⟩,⟨some 9,.load1 (.tmp 8),none⟩,⟨some 10,.call 202 [(.tmp 7),(.tmp 9)],none⟩,⟨some 5,.move (.tmp 10),none⟩]) (.seq (.seq (.region [⟨some 11,.move (.tmp 5),none⟩,⟨some 12,.bin .eql (.tmp 11) (.const (.int .i64 0)),none⟩]) (.cond (.tmp 12) (.region [⟨some 13,.addr 1 (.tmp 2),none⟩,⟨some 14,.load1 (.tmp 13),none⟩,⟨some 15,.addr 1 (.tmp 3),none⟩,⟨some 16,.load1 (.tmp 15),none⟩,⟨some 17,.call 202 [(.tmp 14),(.tmp 16)],none⟩,⟨some 5,.move (.tmp 17),none⟩]) (.skip))) (.seq (.seq (.region [⟨some 18,.move (.tmp 5),none⟩,⟨some 19,.bin .eql (.tmp 18) (.const (.int .i64 0)),none⟩]) (.cond (.tmp 19) (.region [⟨some 20,.addr 2 (.tmp 2),none⟩,⟨some 21,.load1 (.tmp 20),none⟩,⟨some 22,.addr 2 (.tmp 3),none⟩,⟨some 23,.load1 (.tmp 22),none⟩,⟨some 24,.call 203 [(.tmp 21),(.tmp 23),(.func 162)],none⟩,⟨some 5,.move (.tmp 24),none⟩]) (.skip))) (.seq (.region [⟨some 25,.move (.tmp 5),none⟩,⟨some 4,.move (.tmp 25),none⟩]) (.ret)))))⟩
def x182:XFun:=⟨13,[.tmp 4],.seq (.region [⟨some 4,.move (.const (.int .i64 0)),none⟩]) (.seq (.block 0 (.seq (.region [⟨some 6,.move (.tmp 0),none⟩,⟨some 7,.move (.tmp 1),none⟩,⟨some 8,.bin .lss (.tmp 6) (.tmp 7),none⟩,⟨some 5,.move (.tmp 8),none⟩]) (.cond (.tmp 5) (.seq (.region [⟨some 4,.move (.const (.int .i64 (-1))),none⟩]) (.ret)) (.seq (.region [⟨some 10,.move (.tmp 0),none⟩,⟨some 11,.move (.tmp 1),none⟩,⟨some 12,.bin .gtr (.tmp 10) (.tmp 11),none⟩,⟨some 9,.move (.tmp 12),none⟩]) (.cond (.tmp 9) (.seq (.region [⟨some 4,.move (.const (.int .i64 1)),none⟩]) (.ret)) (.skip)))))) (.seq (.region [⟨some 4,.move (.const (.int .i64 0)),none⟩]) (.ret)))⟩
def x165:XFun:=⟨6,[.tmp 2],.seq (.region [⟨some 2,.move (.const (.bool false)),none⟩]) (.seq (.region [⟨some 3,.move (.tmp 0),none⟩,⟨some 4,.move (.tmp 0),none⟩,⟨some 5,.bin .neq (.tmp 3) (.tmp 4),none⟩,⟨some 2,.move (.tmp 5),none⟩]) (.ret))⟩
def x180:XFun:=⟨20,[.tmp 4],.seq (.region [⟨some 4,.move (.const (.int .i64 0)),none⟩]) (.seq (.region [⟨some 7,.move (.tmp 0),none⟩,⟨some 8,.call 201 [(.tmp 7)],none⟩,⟨some 5,.move (.tmp 8),none⟩]) (.seq (.region [⟨some 9,.move (.tmp 1),none⟩,⟨some 10,.call 201 [(.tmp 9)],none⟩,⟨some 6,.move (.tmp 10),none⟩]) (.seq (.seq (.region [⟨some 11,.move (.tmp 5),none⟩]) (.cond (.tmp 11) (.seq (.seq (.region [⟨some 12,.move (.tmp 6),none⟩]) (.cond (.tmp 12) (.seq (.region [⟨some 4,.move (.const (.int .i64 0)),none⟩]) (.ret)) (.skip))) (.seq (.region [⟨some 4,.move (.const (.int .i64 (-1))),none⟩]) (.ret))) (.skip))) (.seq (.seq (.region [⟨some 13,.move (.tmp 6),none⟩]) (.cond (.tmp 13) (.seq (.region [⟨some 4,.move (.const (.int .i64 1)),none⟩]) (.ret)) (.skip))) (.seq (.seq (.region [⟨some 14,.move (.tmp 0),none⟩,⟨some 15,.move (.tmp 1),none⟩,⟨some 16,.bin .lss (.tmp 14) (.tmp 15),none⟩]) (.cond (.tmp 16) (.seq (.region [⟨some 4,.move (.const (.int .i64 (-1))),none⟩]) (.ret)) (.skip))) (.seq (.seq (.region [⟨some 17,.move (.tmp 0),none⟩,⟨some 18,.move (.tmp 1),none⟩,⟨some 19,.bin .gtr (.tmp 17) (.tmp 18),none⟩]) (.cond (.tmp 19) (.seq (.region [⟨some 4,.move (.const (.int .i64 1)),none⟩]) (.ret)) (.skip))) (.seq (.region [⟨some 4,.move (.const (.int .i64 0)),none⟩]) (.ret))))))))⟩
def x181:XFun:=⟨39,[.tmp 6],.seq (.region [⟨some 6,.move (.const (.int .i64 0)),none⟩]) (.seq (.seq (.region [⟨some 11,.move (.tmp 0),none⟩,⟨some 12,.lenSlice (.tmp 11),none⟩,⟨some 13,.move (.const (.int .i64 0)),none⟩]) (.block 0 (.loop (.seq (.region [⟨some 14,.bin .lss (.tmp 13) (.tmp 12),none⟩]) (.seq (.cond (.tmp 14) (.skip) (.exit 0)) (.seq (.block 1 (.seq (.region [⟨some 15,.move (.tmp 13),none⟩,⟨some 16,.indexAddr 3 (.tmp 11) (.tmp 13),none⟩,⟨some 17,.loadN 3 (.tmp 16),none⟩,⟨some 8,.alloc 24 [(.int .i64 0),(.int .i64 0),(.slice none 0 0)],none⟩,⟨some 7,.move (.tmp 15),none⟩,⟨none,.store 3 (.tmp 8) (.tmp 17),none⟩]) (.seq (.seq (.region [⟨some 18,.move (.tmp 7),none⟩,⟨some 19,.move (.tmp 1),none⟩,⟨some 20,.lenSlice (.tmp 19),none⟩,⟨some 21,.bin .geq (.tmp 18) (.tmp 20),none⟩]) (.cond (.tmp 21) (.seq (.region [⟨some 6,.move (.const (.int .i64 1)),none⟩]) (.ret)) (.skip))) (.seq (.region [⟨some 22,.move (.tmp 1),none⟩,⟨some 23,.move (.tmp 7),none⟩,⟨some 24,.indexAddr 3 (.tmp 22) (.tmp 23),none⟩,⟨some 25,.loadN 3 (.tmp 24),none⟩,⟨some 9,.alloc 24 [(.int .i64 0),(.int .i64 0),(.slice none 0 0)],none⟩,⟨none,.store 3 (.tmp 9) (.tmp 25),none⟩]) (.seq (.region [⟨some 26,.move (.tmp 2),none⟩,⟨some 27,.loadN 3 (.tmp 8),none⟩,⟨some 28,.loadN 3 (.tmp 9),none⟩,⟨some 29,.callV (.tmp 26) [(.tmp 27),(.tmp 28)],none⟩,⟨some 10,.move (.tmp 29),none⟩]) (.seq (.region [⟨some 30,.move (.tmp 10),none⟩,⟨some 31,.bin .neq (.tmp 30) (.const (.int .i64 0)),none⟩]) (.cond (.tmp 31) (.seq (.region [⟨some 32,.move (.tmp 10),none⟩,⟨some 6,.move (.tmp 32),none⟩]) (.ret)) (.skip)))))))) (.region [⟨some 33,.bin .add (.tmp 13) (.const (.int .i64 1)),none⟩,⟨some 13,.move (.tmp 33),none⟩]))))))) (.seq (.seq (.region [⟨some 34,.move (.tmp 0),none⟩,⟨some 35,.lenSlice (.tmp 34),none⟩,⟨some 36,.move (.tmp 1),none⟩,⟨some 37,.lenSlice (.tmp 36),none⟩,⟨some 38,.bin .lss (.tmp 35) (.tmp 37),none⟩]) (.cond (.tmp 38) (.seq (.region [⟨some 6,.move (.const (.int .i64 (-1))),none⟩]) (.ret)) (.skip))) (.seq (.region [⟨some 6,.move (.const (.int .i64 0)),none⟩]) (.ret))))⟩
end Go.Xe.YtlgknghehgmodaaGreatDoor
end
section
namespace Go.Xe.YtlgknghehgmodaaGreatDoor
open Go Go.Xe Go.Proofs
def opsL:LaidG:=[(0,229,[.string ⟨#[]⟩,.string ⟨#[43]⟩,.string ⟨#[45]⟩,.string ⟨#[42]⟩,.string ⟨#[47]⟩,.string ⟨#[37]⟩,.string ⟨#[61,61]⟩,.string ⟨#[60]⟩,.string ⟨#[60,61]⟩,.string ⟨#[58,58]⟩,.string ⟨#[97,110,100]⟩,.string ⟨#[111,114]⟩,.string ⟨#[110,111,116]⟩,.string ⟨#[110,101,103]⟩])]
def glb:Glb:=⟨fun i=>Nat.blt i 2,goodL Tryz.prog opsL⟩
def glo:Glb:=⟨fun _=>false,goodL Tryz.prog opsL⟩
theorem d1003:compFun Tryz.prog glo Tryz.f3=some x1003:=by kernel_rfl
theorem d15:compFun Tryz.prog glo Tryz.f7=some x15:=by kernel_rfl
theorem d1009:compFun Tryz.prog glo Tryz.f9=some x1009:=by kernel_rfl
theorem d1010:compFun Tryz.prog glo Tryz.f10=some x1010:=by kernel_rfl
theorem d1011:compFun Tryz.prog glo Tryz.f11=some x1011:=by kernel_rfl
theorem d1012:compFun Tryz.prog glo Tryz.f12=some x1012:=by kernel_rfl
theorem d1013:compFun Tryz.prog glo Tryz.f13=some x1013:=by kernel_rfl
theorem d1014:compFun Tryz.prog glo Tryz.f14=some x1014:=by kernel_rfl
theorem d1015:compFun Tryz.prog glo Tryz.f15=some x1015:=by kernel_rfl
theorem d24:compFun Tryz.prog glo Tryz.f29=some x24:=by kernel_rfl
theorem d1031:compFun Tryz.prog glo Tryz.f31=some x1031:=by kernel_rfl
theorem d66:compFun Tryz.prog glo Tryz.f32=some x66:=by kernel_rfl
theorem d1033:compFun Tryz.prog glo Tryz.f33=some x1033:=by kernel_rfl
theorem d1034:compFun Tryz.prog glo Tryz.f34=some x1034:=by kernel_rfl
theorem d1035:compFun Tryz.prog glo Tryz.f35=some x1035:=by kernel_rfl
theorem d19:compFun Tryz.prog glo Tryz.f36=some x19:=by kernel_rfl
theorem d20:compFun Tryz.prog glo Tryz.f37=some x20:=by kernel_rfl
theorem d1038:compFun Tryz.prog glo Tryz.f38=some x1038:=by kernel_rfl
theorem d16:compFun Tryz.prog glo Tryz.f39=some x16:=by kernel_rfl
theorem d1040:compFun Tryz.prog glo Tryz.f40=some x1040:=by kernel_rfl
theorem d1041:compFun Tryz.prog glo Tryz.f41=some x1041:=by kernel_rfl
theorem d1042:compFun Tryz.prog glo Tryz.f42=some x1042:=by kernel_rfl
theorem d1043:compFun Tryz.prog glo Tryz.f43=some x1043:=by kernel_rfl
theorem d1044:compFun Tryz.prog glo Tryz.f44=some x1044:=by kernel_rfl
theorem d65:compFun Tryz.prog glo Tryz.f45=some x65:=by kernel_rfl
theorem d7:compFun Tryz.prog glo Tryz.f69=some x7:=by kernel_rfl
theorem d111:compFun Tryz.prog glo Tryz.f72=some x111:=by kernel_rfl
theorem d1073:compFun Tryz.prog glo Tryz.f73=some x1073:=by kernel_rfl
theorem d41:compFun Tryz.prog glo Tryz.f74=some x41:=by kernel_rfl
theorem d44:compFun Tryz.prog glo Tryz.f77=some x44:=by kernel_rfl
theorem d45:compFun Tryz.prog glo Tryz.f78=some x45:=by kernel_rfl
theorem d46:compFun Tryz.prog glo Tryz.f79=some x46:=by kernel_rfl
theorem d1080:compFun Tryz.prog glo Tryz.f80=some x1080:=by kernel_rfl
theorem d67:compFun Tryz.prog glo Tryz.f81=some x67:=by kernel_rfl
theorem d1082:compFun Tryz.prog glo Tryz.f82=some x1082:=by kernel_rfl
theorem d1083:compFun Tryz.prog glo Tryz.f83=some x1083:=by kernel_rfl
theorem d1084:compFun Tryz.prog glo Tryz.f84=some x1084:=by kernel_rfl
theorem d109:compFun Tryz.prog glo Tryz.f85=some x109:=by kernel_rfl
theorem d110:compFun Tryz.prog glo Tryz.f86=some x110:=by kernel_rfl
theorem d25:compFun Tryz.prog glo Tryz.f100=some x25:=by kernel_rfl
theorem d1111:compFun Tryz.prog glo Tryz.f111=some x1111:=by kernel_rfl
theorem d106:compFun Tryz.prog glo Tryz.f112=some x106:=by kernel_rfl
theorem d107:compFun Tryz.prog glo Tryz.f113=some x107:=by kernel_rfl
theorem d108:compFun Tryz.prog glo Tryz.f114=some x108:=by kernel_rfl
theorem d159:compFun Tryz.prog glo Tryz.f115=some x159:=by kernel_rfl
theorem d158:compFun Tryz.prog glo Tryz.f162=some x158:=by kernel_rfl
theorem d182:compFun Tryz.prog glo Tryz.f163=some x182:=by kernel_rfl
theorem d165:compFun Tryz.prog glo Tryz.f201=some x165:=by kernel_rfl
theorem d180:compFun Tryz.prog glo Tryz.f202=some x180:=by kernel_rfl
theorem d181:compFun Tryz.prog glo Tryz.f203=some x181:=by kernel_rfl
end Go.Xe.YtlgknghehgmodaaGreatDoor
end
section
namespace Go.Xe
open Go
inductive Rdx (P:Program) (g:Hp) {H:Type}:TypeId→List Value→DataW H→Prop
 |bool {t:TypeId} (b:Bool):P.underlying t=some .bool→Rdx P g t [.bool b] (.lit (.bool b))
 |int {t:TypeId} {k:IntKind} (n:Int):P.underlying t=some (.int k)→(Lit.int k n).wf=true→Rdx P g t [.int k n] (.lit (.int k n))
 |str {t:TypeId} (s:ByteArray):P.underlying t=some .string→s.size≤maxLen→Rdx P g t [.string s] (.lit (.string s.data.toList))
 |nil {t e:TypeId}:P.underlying t=some (.slice e)→Rdx P g t [.slice none 0 0] .nil
 |slice {t e:TypeId} (id len cap:Nat) (ds sp:List (DataW H)) (C:Nat→List Value):P.underlying t=some (.slice e)→ds.length=len→len≤cap→cap≤maxLen→
  (∀(i:Nat) (d:DataW H),ds[i]? =some d→loadList g ⟨id,i*P.cellsOf e,none⟩ (P.cellsOf e)=some (C i))→(∀(i:Nat) (d:DataW H),ds[i]? =some d→Rdx P g e (C i) d)→Rdx P g t [.slice (some ⟨id,0,none⟩) len cap] (.slice ds sp)
 |struct {t:TypeId} {fs:Array Field} (cs:List Value) (ds:List (DataW H)):P.underlying t=some (.struct fs)→cs.length=P.cellsOf t→ds.length=fs.size→
  (∀(i:Nat) (f:Field) (d:DataW H),fs[i]? =some f→ds[i]? =some d→Rdx P g f.type ((cs.drop f.offset).take (P.cellsOf f.type)) d)→Rdx P g t cs (.agg ds)
theorem loadList_mono {g g':Hp} (h:∀k o,g k=some o→g' k=some o) {a:Addr} {n:Nat} {l:List Value} (hl:loadList g a n=some l):loadList g' a n=some l:=by
 obtain ⟨i,o,ver,vs,e,ro,rfl,hg,hle,rfl⟩:=loadList_some hl
 simp only [loadList,h _ _ hg]
 have:Nat.ble (o+n) vs.length=true:=Nat.ble_eq_true_of_le hle
 rw [this]
theorem Rdx.mono {P:Program} {g g':Hp} {H:Type} (h:∀k o,g k=some o→g' k=some o) {t:TypeId} {cs:List Value} {d:DataW H} (r:Rdx P g t cs d):Rdx P g' t cs d:=by
 induction r with
 |bool b ht=>exact .bool b ht
 |int n ht hw=>exact .int n ht hw
 |str s ht hs=>exact .str s ht hs
 |nil ht=>exact .nil ht
 |slice id len cap ds sp C ht hl hc hm h1 h2 ih=>exact .slice id len cap ds sp C ht hl hc hm (fun i d hd=>loadList_mono h (h1 i d hd)) ih
 |struct cs ds ht hl hn h2 ih=>exact .struct cs ds ht hl hn ih
abbrev Lst:=List (AObj×(Nat×Nat×Nat))
def gL (L:Lst):Hp:=fun k=>(L[k]?).map (·.1)
def φL (L:Lst):Loc:=fun k=>(L[k]?).map (·.2)
def ExtL (L L':Lst):Prop:=∃M,L'=L++M
theorem ExtL.refl (L:Lst):ExtL L L:=⟨[],by simp⟩
theorem ExtL.trans {L L' L'':Lst} (a:ExtL L L') (b:ExtL L' L''):ExtL L L'':=by
 obtain ⟨M,rfl⟩:=a;obtain ⟨N,rfl⟩:=b;exact ⟨M++N,by simp⟩
theorem ExtL.get {L L':Lst} (h:ExtL L L') {k:Nat} {x:AObj×(Nat×Nat×Nat)} (hk:L[k]? =some x):L'[k]? =some x:=by
 obtain ⟨M,rfl⟩:=h
 rw [List.getElem?_append_left (List.getElem?_eq_some_iff.1 hk).1];exact hk
theorem ExtL.g {L L':Lst} (h:ExtL L L'):∀k o,gL L k=some o→gL L' k=some o:=fun k o e=>by
 unfold gL at e ⊢
 cases hk:L[k]? with
 |none=>rw [hk] at e;cases e
 |some x=>rw [hk] at e;rw [h.get hk];exact e
theorem ExtL.φ {L L':Lst} (h:ExtL L L'):(φL L).le (φL L'):=fun k o e=>by
 unfold φL at e ⊢
 cases hk:L[k]? with
 |none=>rw [hk] at e;cases e
 |some x=>rw [hk] at e;rw [h.get hk];exact e
def LOk (w:World) (L:Lst):Prop:=∀(k:Nat) (o:AObj) (b d t:Nat),L[k]? =some (o,(b,d,t))→o.body.isRo=true∧∃ob,w.heap[b]? =some ob∧ORel (φL L) d t o.body ob
theorem LOk.nil (w:World):LOk w []:=fun k o b d t h=>by simp at h
section
variable {H:Type} {enc:TypeId×Value→H} {P:Program} {w:World}
def Lay (P:Program) (w:World) (t:TypeId) (cs:List Value) (d:DataW H):Prop:=
 ∀L,LOk w L→∃L':Lst,∃cs':List Value,ExtL L L'∧LOk w L'∧VRels (φL L') cs' cs∧ones cs'=true∧Rdx P (gL L') t cs' d
theorem lay_many (t:TypeId) {n:Nat} {cs:Nat→List Value} {D:Nat→DataW H} (h:∀i,i<n→Lay P w t (cs i) (D i)):∀L,LOk w L→
  ∃L':Lst,∃C:Nat→List Value,ExtL L L'∧LOk w L'∧∀i,i<n→VRels (φL L') (C i) (cs i)∧ones (C i)=true∧Rdx P (gL L') t (C i) (D i):=by
 induction n with
 |zero=>intro L hL;exact ⟨L,fun _=>[],ExtL.refl L,hL,fun i hi=>by omega⟩
 |succ n ih=>
  intro L hL
  obtain ⟨L1,C,h1,h2,h3⟩:=ih (fun i hi=>h i (by omega)) L hL
  obtain ⟨L2,c,k1,k2,k3,k4,k5⟩:=h n (by omega) L1 h2
  refine ⟨L2,fun i=>if i=n then c else C i,h1.trans k1,k2,fun i hi=> ?_⟩
  by_cases e:i=n
  ·subst e;simp only [if_true];exact ⟨k3,k4,k5⟩
  ·simp only [if_neg e]
   obtain ⟨q1,q2,q3⟩:=h3 i (by omega)
   exact ⟨q1.mono k1.φ,q2,q3.mono k1.g⟩
def rowOfCells (C:Nat→List Value):Nat→List Value
 |0=>[]
 |n+1=>rowOfCells C n++C n
theorem rowOfCells_len {C:Nat→List Value} {c:Nat}:∀n,(∀i,i<n→(C i).length=c)→(rowOfCells C n).length=n*c
 |0,_=>by simp [rowOfCells]
 |n+1,h=>by rw [rowOfCells,List.length_append,rowOfCells_len n (fun i hi=>h i (by omega)),h n (by omega),Nat.succ_mul]
theorem rowOfCells_chunk {C:Nat→List Value} {c:Nat}:∀n,(∀i,i<n→(C i).length=c)→∀i,i<n→((rowOfCells C n).drop (i*c)).take c=C i
 |0,_,i,h=>by omega
 |n+1,hl,i,hi=>by
  have hn:=rowOfCells_len n (fun i hi=>hl i (by omega))
  rw [rowOfCells]
  by_cases e:i=n
  ·subst e
   rw [List.drop_append_of_le_length (by omega),List.drop_of_length_le (by omega),List.nil_append,List.take_of_length_le (by rw [hl i (by omega)];exact Nat.le_refl _)]
  ·have hle:i*c+c≤n*c:=by have:=Nat.mul_le_mul_right c (show i+1≤n by omega);rw [Nat.succ_mul] at this;exact this
   rw [List.drop_append_of_le_length (by omega),List.take_append_of_le_length (by simp;omega)]
   exact rowOfCells_chunk n (fun i hi=>hl i (by omega)) i (by omega)
theorem rowOfCells_rel {φ:Loc} {C D:Nat→List Value}:∀n,(∀i,i<n→VRels φ (C i) (D i))→VRels φ (rowOfCells C n) (rowOfCells D n)
 |0,_=>.nil
 |n+1,h=>(rowOfCells_rel n (fun i hi=>h i (by omega))).append (h n (by omega))
theorem rowOfCells_ones {C:Nat→List Value}:∀n,(∀i,i<n→ones (C i)=true)→ones (rowOfCells C n)=true
 |0,_=>rfl
 |n+1,h=>ones_append (rowOfCells_ones n (fun i hi=>h i (by omega))) (h n (by omega))
def tiles (P:Program):Nat→List Field→Option Nat
 |o,[]=>some o
 |o,f::r=>match Nat.beq f.offset o with
  |true=>tiles P (o+P.cellsOf f.type) r
  |false=>none
def plainT (P:Program) (T:List TypeId) (t:TypeId):Bool:=
 match P.underlying t with
 |some .bool|some (.int _)|some .string=>true
 |some (.slice e)=>T.contains e&&Nat.blt 0 (P.cellsOf e)
 |some (.struct fs)=>(fs.toList.all fun f=>T.contains f.type)&&(match tiles P 0 fs.toList with|some n=>Nat.beq n (P.cellsOf t)|none=>false)
 |_=>false
theorem lay_one {t:TypeId} {v:Value} {d:DataW H} (hv:∀φ,VRel φ v v) (ho:ones [v]=true) (hr:∀g,Rdx P g t [v] d):Lay P w t [v] d:=
 fun L hL=>⟨L,[v],ExtL.refl L,hL,.cons (hv _) .nil,ho,hr _⟩
theorem LOk.push {L:Lst} (hL:LOk w L) {o:AObj} {b d t:Nat} (hro:o.body.isRo=true) {ob:Obj} (hb:w.heap[b]? =some ob) (h:ORel (φL (L++[(o,(b,d,t))])) d t o.body ob):LOk w (L++[(o,(b,d,t))]):=by
 intro k o' b' d' t' hk
 by_cases hlt:k<L.length
 ·rw [List.getElem?_append_left hlt] at hk
  obtain ⟨h1,ob',h2,h3⟩:=hL k o' b' d' t' hk
  exact ⟨h1,ob',h2,h3.mono (ExtL.φ ⟨[_],rfl⟩)⟩
 ·have hke:k=L.length:=by
   have:=(List.getElem?_eq_some_iff.1 hk).1
   simp at this;omega
  subst hke
  simp at hk
  obtain ⟨rfl,rfl,rfl,rfl⟩:=hk
  exact ⟨hro,ob,hb,h⟩
theorem addr_add_spot {a:Addr} {v:Value} {n:Nat} (h:w.cell? (a.add n)=some v) (hn:n=0):a.spot=none:=by
 subst hn
 have:a.add 0=a:=by unfold Addr.add;simp
 rw [this] at h
 exact World.cell?_spot h
theorem lay_slice {t e:TypeId} (ht:P.underlying t=some (.slice e)) (hc:0<P.cellsOf e) {a:Addr} {len cap:Nat} (hlc:len≤cap) (hcm:cap≤maxLen) {cs:Nat→List Value} {D:Nat→DataW H} {sp:List (DataW H)}
  (hcells:∀i,i<cap→w.cells? 0 (a.add (i*P.cellsOf e)) (P.cellsOf e)=some (cs i)) (hlay:∀i,i<cap→Lay P w e (cs i) (D i)):
  Lay P w t [.slice (some a) len cap] (.slice ((List.range len).map D) sp):=by
 intro L hL
 by_cases h0:cap=0
 ·obtain rfl:cap=0:=h0
  obtain rfl:len=0:=by omega
  refine ⟨L,[.slice (some ⟨0,0,none⟩) 0 0],ExtL.refl L,hL,.cons (.slice0 _ _ _) .nil,rfl,?_⟩
  exact .slice 0 0 0 [] sp (fun _=>[]) ht rfl (Nat.le_refl _) (Nat.zero_le _) (fun i d h=>by simp at h) (fun i d h=>by simp at h)
 ·obtain ⟨L1,C,h1,h2,h3⟩:=lay_many e (n:=cap) hlay L hL
  obtain ⟨c,hcdef⟩:∃c,c=P.cellsOf e:=⟨_,rfl⟩
  rw [←hcdef] at hcells hc
  have hcell:=fun i hi=>World.cells?_some (hcells i hi)
  have hlenC:∀i,i<cap→(C i).length=c:=fun i hi=>by rw [←(h3 i hi).1.length];exact (hcell i hi).2.1
  have hlenD:∀i,i<cap→(cs i).length=c:=fun i hi=>(hcell i hi).2.1
  have hfirst:∃v,w.cell? (a.add 0)=some v:=by
   have:=(hcell 0 (by omega)).2.2 0 hc
   rw [Nat.zero_mul,Deep.add_add,List.getElem?_eq_getElem (by rw [hlenD 0 (by omega)];exact hc)] at this
   exact ⟨_,this⟩
  obtain ⟨v0,hv0⟩:=hfirst
  have hspot:=addr_add_spot hv0 rfl
  obtain ⟨b,off,spot⟩:=a
  simp only at hspot
  subst hspot
  have hblk:∃cc e' fr,w.heap[b]? =some (.cells cc e' fr):=by
   rw [add_none] at hv0
   unfold World.cell? at hv0
   simp only at hv0
   split at hv0
   ·rename_i hb;exact ⟨_,_,_,hb⟩
   ·cases hv0
  obtain ⟨cc,e',fr,hb⟩:=hblk
  have hrow:∀i,i<cap→∀j,j<c→cc[off+(i*c+j)]? =(cs i)[j]? :=fun i hi j hj=>by
   have:=(hcell i hi).2.2 j hj
   rw [Deep.add_add,add_none,cell_of_blk hb] at this
   exact this
  have hpiece:∀m,m≤cap→(cc.toList.drop off).take (m*c)=rowOfCells cs m:=by
   intro m
   induction m with
   |zero=>intro _;simp [rowOfCells]
   |succ m ih=>
    intro hm
    rw [rowOfCells,←ih (by omega),Nat.succ_mul,List.take_add]
    congr 1
    apply List.ext_getElem?
    intro j
    by_cases hj:j<c
    ·rw [List.getElem?_take,if_pos hj,List.getElem?_drop,List.getElem?_drop,Array.getElem?_toList,←hrow m (by omega) j hj]
    ·rw [List.getElem?_take,if_neg hj,List.getElem?_eq_none (by rw [hlenD m (by omega)];omega)]
  have hrl:=rowOfCells_len (C:=C) cap hlenC
  let ob:AObj:=⟨0,.cells (rowOfCells C cap) e' true⟩
  have hext:ExtL L1 (L1++[(ob,(b,off,cc.size))]):=⟨_,rfl⟩
  have hφ:φL (L1++[(ob,(b,off,cc.size))]) L1.length=some (b,off,cc.size):=by simp [φL]
  have hg:gL (L1++[(ob,(b,off,cc.size))]) L1.length=some ob:=by simp [gL]
  refine ⟨L1++[(ob,(b,off,cc.size))],[.slice (some ⟨L1.length,0,none⟩) len cap],h1.trans hext,?_,?_,rfl,?_⟩
  ·refine h2.push rfl hb ⟨rfl,rfl,(fun h=>by cases h),rowOfCells_ones cap (fun i hi=>(h3 i hi).2.1),?_⟩
   rw [hrl,hpiece cap (Nat.le_refl _)]
   exact (rowOfCells_rel cap fun i hi=>(h3 i hi).1).mono hext.φ
  ·refine .cons ?_ .nil
   have:=VRel.slice (o:=0) len cap hφ hlc (by unfold capU;unfold maxLen at hcm;omega)
   exact this
  ·refine .slice L1.length len cap _ sp C ht (by simp) hlc hcm (fun i d hd=> ?_) (fun i d hd=> ?_)
   ·have hi:i<len:=by
     have:=(List.getElem?_eq_some_iff.1 hd).1;simpa using this
    rw [←hcdef]
    simp only [loadList,hg,ob]
    have hle:i*c+c≤(rowOfCells C cap).length:=by
     rw [hrl]
     have:=Nat.mul_le_mul_right c (show i+1≤cap by omega);rw [Nat.succ_mul] at this;exact this
    have hbl:Nat.ble (i*c+c) (rowOfCells C cap).length=true:=Nat.ble_eq_true_of_le hle
    rw [hbl]
    simp only
    rw [rowOfCells_chunk cap hlenC i (by omega)]
   ·have hi:i<len:=by
     have:=(List.getElem?_eq_some_iff.1 hd).1;simpa using this
    have hdi:d=D i:=by
     rw [List.getElem?_map,List.getElem?_range hi] at hd
     simpa using hd.symm
    rw [hdi]
    exact (h3 i (by omega)).2.2.mono hext.g
end
end Go.Xe
end
section
namespace Go.Xe
open Go
section
variable {H:Type} {enc:TypeId×Value→H} {P:Program} {w:World}
theorem lay_fields (cs:List Value):∀(fs:List Field) (o e:Nat) (ds:List (DataW H)),tiles P o fs=some e→e≤cs.length→ds.length=fs.length→
  (∀(i:Nat) (f:Field) (d:DataW H),fs[i]? =some f→ds[i]? =some d→Lay P w f.type ((cs.drop f.offset).take (P.cellsOf f.type)) d)→
  ∀L,LOk w L→∃L':Lst,∃C:List Value,ExtL L L'∧LOk w L'∧VRels (φL L') C ((cs.drop o).take (e - o))∧o≤e∧ones C=true∧C.length=e - o∧
   ∀(i:Nat) (f:Field) (d:DataW H),fs[i]? =some f→ds[i]? =some d→o≤f.offset∧Rdx P (gL L') f.type ((C.drop (f.offset - o)).take (P.cellsOf f.type)) d
 |[],o,e,ds,ht,he,hl,h,L,hL=>by
  simp only [tiles] at ht;cases ht
  refine ⟨L,[],ExtL.refl L,hL,by simp;exact .nil,Nat.le_refl _,rfl,by simp,fun i f d hf=>by simp at hf⟩
 |f::fs,o,e,ds,ht,he,hl,h,L,hL=>by
  cases ds with
  |nil=>simp at hl
  |cons d ds=>
   simp only [tiles] at ht
   split at ht
   ·rename_i hb
    rw [beqNat] at hb
    have ho:=of_decide_eq_true hb
    obtain ⟨L1,c,k1,k2,k3,k4,k5⟩:=h 0 f d rfl rfl L hL
    obtain ⟨L2,C,q1,q2,q3,q4,q5,q6,q7⟩:=lay_fields cs fs (o+P.cellsOf f.type) e ds ht he (by simpa using hl) (fun i f' d' hf hd=>h (i+1) f' d' (by simpa using hf) (by simpa using hd)) L1 k2
    have hclen:c.length=P.cellsOf f.type:=by
     rw [←k3.length,List.length_take,List.length_drop];omega
    have hsplit:(cs.drop o).take (e - o)=(cs.drop f.offset).take (P.cellsOf f.type)++(cs.drop (o+P.cellsOf f.type)).take (e - (o+P.cellsOf f.type)):=by
     rw [ho,show e - o=P.cellsOf f.type+(e - (o+P.cellsOf f.type)) by omega,List.take_add,List.drop_drop]
    refine ⟨L2,c++C,k1.trans q1,q2,?_,by omega,ones_append k4 q5,by rw [List.length_append,hclen,q6];omega,fun i f' d' hf hd=> ?_⟩
    ·rw [hsplit];exact (k3.mono q1.φ).append q3
    ·cases i with
     |zero=>
      simp at hf hd;subst hf;subst hd
      refine ⟨by omega,?_⟩
      rw [ho,Nat.sub_self,List.drop_zero,List.take_append_of_le_length (by omega),List.take_of_length_le (by omega)]
      exact k5.mono q1.g
     |succ i=>
      obtain ⟨p1,p2⟩:=q7 i f' d' (by simpa using hf) (by simpa using hd)
      refine ⟨by omega,?_⟩
      have:f'.offset - o=P.cellsOf f.type+(f'.offset - (o+P.cellsOf f.type)):=by omega
      rw [this,←hclen,List.drop_append]
      rw [show c.length+(f'.offset - (o+c.length)) - c.length=f'.offset - (o+c.length) by omega]
      have hd0:c.drop (c.length+(f'.offset - (o+c.length)))=[]:=List.drop_of_length_le (by omega)
      rw [hd0,List.nil_append,hclen]
      exact p2
   ·cases ht
theorem lay_struct {t:TypeId} {fs:Array Field} (ht:P.underlying t=some (.struct fs)) (htl:tiles P 0 fs.toList=some (P.cellsOf t)) {cs:List Value} (hl:cs.length=P.cellsOf t) {ds:List (DataW H)} (hn:ds.length=fs.size)
  (h:∀(i:Nat) (f:Field) (d:DataW H),fs[i]? =some f→ds[i]? =some d→Lay P w f.type ((cs.drop f.offset).take (P.cellsOf f.type)) d):Lay P w t cs (.agg ds):=by
 intro L hL
 obtain ⟨L',C,h1,h2,h3,_,h4,h5,h6⟩:=lay_fields (P:=P) (w:=w) cs fs.toList 0 (P.cellsOf t) ds htl (by omega) (by simpa using hn) (fun i f d hf hd=>h i f d (by simpa using hf) hd) L hL
 rw [List.drop_zero,Nat.sub_zero,List.take_of_length_le (by omega)] at h3
 refine ⟨L',C,h1,h2,h3,h4,.struct C ds ht (by omega) hn fun i f d hf hd=> ?_⟩
 have:=(h6 i f d (by simpa using hf) hd).2
 rwa [Nat.sub_zero] at this
theorem lay_all (T:List TypeId) (hT:T.all (plainT P T)=true):∀(fuel:Nat) (t:TypeId),T.contains t=true→∀(cs:List Value) (x:DataW H×List MemPlace),DataW.trod enc P w 0 (fun _=>true) true fuel t cs=some x→Lay P w t cs x.1:=by
 intro fuel
 induction fuel using Nat.strongRecOn with
 |_ fuel ih=>
  intro t htT cs x h
  have hp:=List.all_eq_true.1 hT t (by simpa using htT)
  unfold plainT at hp
  split at hp
  ·rename_i hu
   obtain ⟨b,rfl,rfl⟩:=DataW.trod_bool hu h
   exact lay_one (fun φ=>.bool b) rfl (fun g=>.bool b hu)
  ·rename_i k hu
   obtain ⟨n,rfl,rfl,hw⟩:=DataW.trod_int hu h
   exact lay_one (fun φ=>.int k n) rfl (fun g=>.int n hu hw)
  ·rename_i hu
   obtain ⟨s,rfl,rfl,hs⟩:=DataW.trod_string hu h
   exact lay_one (fun φ=>.string s) rfl (fun g=>.str s hu hs)
  ·rename_i e hu
   simp only [Bool.and_eq_true,bltNat,decide_eq_true_eq] at hp
   rcases DataW.trod_slice hu h with ⟨rfl,rfl⟩|⟨a,len,cap,elems,rest,n,hfu,rfl,rfl,hb,hlc,hm,hlen,hel,hsp,hns⟩
   ·exact fun L hL=>⟨L,[.slice none 0 0],ExtL.refl L,hL,.cons .sliceN .nil,rfl,.nil hu⟩
   ·obtain ⟨hrl,hrest⟩:=hsp rfl
    have key:∀i,i<cap→(w.cells? 0 (a.add (i*P.cellsOf e)) (P.cellsOf e)).bind (DataW.trod enc P w 0 (fun _=>true) true n e)=(elems++rest)[i]? :=by
     intro i hi
     by_cases hil:i<len
     ·rw [hel i hil,List.getElem?_append_left (by omega)]
     ·have:=hrest (i - len) (by omega)
      rw [show len+(i - len)=i by omega] at this
      rw [this,List.getElem?_append_right (by omega),hlen]
    have hall:(elems++rest).length=cap:=by rw [List.length_append,hlen,hrl];omega
    have hD:∀i,i<cap→∃cs',w.cells? 0 (a.add (i*P.cellsOf e)) (P.cellsOf e)=some cs'∧DataW.trod enc P w 0 (fun _=>true) true n e cs'=some ((elems++rest).getD i (.nil,[])):=fun i hi=>by
     have:=key i hi
     rw [List.getElem?_eq_getElem (by omega)] at this
     obtain ⟨cs',h1,h2⟩:=Option.bind_eq_some_iff.1 this
     refine ⟨cs',h1,?_⟩
     rw [h2]
     simp [List.getD,List.getElem?_eq_getElem (show i<(elems++rest).length by omega)]
    obtain ⟨cs,hcs⟩:=Deep.choose_lt (α:=List Value) hD
    have hl2:=lay_slice (P:=P) (w:=w) hu hp.2 (a:=a) (len:=len) (cap:=cap) hlc hm (cs:=cs) (D:=fun i=>((elems++rest).getD i (.nil,[])).1) (sp:=rest.map (·.1)) (fun i hi=>(hcs i hi).1)
     (fun i hi=>ih n (by omega) e hp.1 _ _ (hcs i hi).2)
    have he:elems.map (·.1)=(List.range len).map fun i=>((elems++rest).getD i (.nil,[])).1:=by
     apply List.ext_getElem?
     intro i
     by_cases hi:i<len
     ·rw [List.getElem?_map,List.getElem?_map,List.getElem?_range hi,List.getElem?_eq_getElem (by omega)]
      simp [List.getD,List.getElem?_append_left (show i<elems.length by omega),List.getElem?_eq_getElem (show i<elems.length by omega)]
     ·rw [List.getElem?_eq_none (by simp;omega),List.getElem?_eq_none (by simp;omega)]
    rw [he]
    exact hl2
  ·rename_i fs hu
   simp only [Bool.and_eq_true,List.all_eq_true] at hp
   obtain ⟨xs,n,rfl,rfl,hl,hn,hf⟩:=DataW.trod_struct hu h
   have htl:tiles P 0 fs.toList=some (P.cellsOf t):=by
    have h2:=hp.2
    split at h2
    ·rename_i m hm;rw [beqNat] at h2;rw [hm,of_decide_eq_true h2]
    ·cases h2
   refine lay_struct hu htl hl (by simpa using hn) fun i f d hfi hd=> ?_
   have hx:=hf i f hfi
   rw [List.getElem?_map] at hd
   cases hxi:xs[i]? with
   |none=>rw [hxi] at hd;cases hd
   |some y=>
    rw [hxi] at hd hx
    cases hd
    have hmem:f∈fs.toList:=by rw [←Array.getElem?_toList] at hfi;exact List.mem_of_getElem? hfi
    exact ih n (Nat.lt_succ_self n) f.type (hp.1 f hmem) _ _ hx
  ·cases hp
end
end Go.Xe
end
section
namespace Go.Xe
open Go Go.RowKit
theorem laid_inv {gl:Glb} (hgl:∀i,gl.is i=false) {w:World} (hg:gl.good w w.heap.size) {L:Lst} (hL:LOk w L):Inv gl w w.heap.size (φL L) ⟨gL L,.nil,L.length⟩ w:=by
 have hget:(AS.mk (gL L) .nil L.length).get=gL L:=by
  funext k
  simp only [AS.get,Tri.get_nil]
 refine ⟨⟨Nat.le_refl _,fun _ _=>rfl,rfl,rfl,rfl,fun i o h=> ?_,fun i j b d d' t t' hi hj hib hjb=> ?_⟩,fun i hi=> ?_,fun i h=> ?_,hg⟩
 ·rw [hget] at h
  unfold gL at h
  cases hk:L[i]? with
  |none=>rw [hk] at h;cases h
  |some x=>
   rw [hk] at h;cases h
   obtain ⟨o,b,d,t⟩:=x
   obtain ⟨h1,ob,h2,h3⟩:=hL i o b d t hk
   exact ⟨b,d,t,ob,by simp [φL,hk],h2,h3,fun _=>h1⟩
 ·left
  rw [hget] at hi
  unfold gL at hi
  cases hk:L[i]? with
  |none=>rw [hk] at hi;exact absurd rfl hi
  |some x=>
   obtain ⟨o,b',d2,t2⟩:=x
   obtain ⟨h1,ob,h2,h3⟩:=hL i o b' d2 t2 hk
   simp [φL,hk] at hib
   obtain ⟨rfl,_,_⟩:=hib
   exact (Array.getElem?_eq_some_iff.1 h2).1
 ·rw [hget]
  unfold gL
  rw [List.getElem?_eq_none (by exact hi)]
  rfl
 ·rw [hgl] at h;cases h
theorem laid_true {P:Program} {gl:Glb} {F:FuncId→Option XFun} {O:FuncId→List Value→Option Value} (hE:Env P gl F O) (hgl:∀i,gl.is i=false) {n:Nat} {f:FuncId} {args args':List Value} {L:Lst} {w:World} (hg:gl.good w w.heap.size)
  (hL:LOk w L) (ha:VRels (φL L) args args') {s':AS} (h:xcall F O n f args ⟨gL L,.nil,L.length⟩=some (.ret (.bool true),s')):Calls P f args'.toArray w fun E w'=>E=.returned (.bool true)∧Below w.heap.size w w':=by
 obtain ⟨_,hc⟩:=xcall_sound hE n f args _ _ _ h
 refine Calls.mono (hc w w.heap.size (φL L) w args' (laid_inv hgl hg hL) (fun i h1 h2=> ?_) ha) ?_
 ·unfold φL
  rw [List.getElem?_eq_none (by exact h1)]
  rfl
 ·rintro E w' ⟨ψ,hE',hi,hs⟩
  obtain ⟨v',rfl,hv⟩:=hE'
  cases hv
  exact ⟨rfl,hi.rel.below rfl⟩
structure Ex1 (s s':AS):Prop where
 next:s.next≤s'.next
 same:∀k,k<s.next→s'.get k=s.get k
 dm:Dm s'
theorem Ex1.refl {s:AS} (h:Dm s):Ex1 s s:=⟨Nat.le_refl _,fun _ _=>rfl,h⟩
theorem Ex1.trans {a b c:AS} (h:Ex1 a b) (k:Ex1 b c):Ex1 a c:=⟨Nat.le_trans h.next k.next,fun i hi=>by rw [k.same i (Nat.lt_of_lt_of_le hi h.next),h.same i hi],k.dm⟩
theorem Ex1.load {a b:AS} (h:Ex1 a b) (hd:Dm a) {ad:Addr} {n:Nat} {l:List Value} (hl:loadList a.get ad n=some l):loadList b.get ad n=some l:=by
 refine loadList_mono (fun k o hk=> ?_) hl
 rw [h.same k ?_]
 ·exact hk
 ·by_cases hlt:k<a.next
  ·exact hlt
  ·rw [hd k (by omega)] at hk;cases hk
end Go.Xe
end
section
namespace Go.Xe
open Go
theorem upd_nil (s:AS):s.upd [] s.next=s:=rfl
theorem wrap_small (n:Int) (h0:-9223372036854775808≤n) (h1:n≤9223372036854775807):IntKind.i64.wrap n=n:=by
 rw [IntKind.wrap_i64];omega
theorem load_one {g:Hp} {b o:Nat} {ver:Nat} {vs:List Value} {e:TypeId} {ro:Bool} (hg:g b=some ⟨ver,.cells vs e ro⟩) {v:Value} (h:vs[o]? =some v):loadList g ⟨b,o,none⟩ 1=some [v]:=by
 have hlt:=(List.getElem?_eq_some_iff.1 h).1
 simp only [loadList,hg]
 have:Nat.ble (o+1) vs.length=true:=Nat.ble_eq_true_of_le hlt
 rw [this]
 simp only [Option.some.injEq]
 apply List.ext_getElem?
 intro j
 cases j with
 |zero=>rw [List.getElem?_take,if_pos (by omega),List.getElem?_drop,Nat.add_zero,h];rfl
 |succ j=>rw [List.getElem?_take,if_neg (by omega)];rfl
theorem add_lit (b o n:Nat):(⟨b,o,none⟩:Addr).add n=⟨b,o+n,none⟩:=add_none b o n
end Go.Xe
end
section
namespace Go.Xt
open Go Go.Xe
inductive Md where
 |fz
 |own (e s:Nat)
 |nl
inductive Pl where
 |tmp (t:Nat)
 |tcell (t o ser:Nat)
 |cell (k o:Nat)
inductive TV where
 |int (k:IntKind) (n:Int)
 |bool (b:Bool)
 |str (s:ByteArray)
 |nilp
 |ptr (k o:Nat)
 |elt (ch:List TV) (o:Nat)
 |via (p:Pl) (c:Nat)
 |vel (p:Pl) (c j o:Nat)
 |bx (ser:Nat) (cells:List TV) (e:TypeId)
 |vpt (t o ser:Nat)
 |sl (m:Md) (chs:List (List TV))
 |ref (k o size n c:Nat)
 |nilm
 |map (k:Nat)
 |nilf
 |func (f:FuncId) (first cap:List TV)
 |nili
 |iface (t:TypeId) (v:TV)
 |agg (l:List TV)
 |tuple (l:List TV)
 |dead
inductive TBody where
 |cells (vs:List TV) (e:TypeId)
 |map (es:List (TV×TV×Nat)) (clock:Nat)
 |iter (s:ByteArray) (pos:Nat)
structure TObj where
 ver:Nat
 body:TBody
abbrev Sto:=List (Option TObj)
def Sto.at (σ:Sto) (k:Nat):Option TObj:=
 match σ[k]? with
 |some (some o)=>some o
 |_=>none
def ofV:Value→TV
 |.int k n=>.int k n
 |.bool b=>.bool b
 |.string s=>.str s
 |.pointer none=>.nilp
 |.slice none 0 0=>.sl .nl []
 |.map none=>.nilm
 |.nilFunc=>.nilf
 |.nilIface=>.nili
 |.agg ⟨l⟩=>.agg (ofVs l)
 |.tuple ⟨l⟩=>.tuple (ofVs l)
 |_=>.dead
where
 ofVs:List Value→List TV
  |[]=>[]
  |v::l=>ofV v::ofVs l
def give:TV→Option TV
 |.sl (.own _ _) c=>some (.sl .fz c)
 |.via _ _=>none
 |.vel _ _ _ _=>none
 |.bx _ _ _=>none
 |.vpt _ _ _=>none
 |.dead=>none
 |v=>some v
def gives:List TV→Option (List TV)
 |[]=>some []
 |v::l=>match give v,gives l with
  |some v,some l=>some (v::l)
  |_,_=>none
def isOwn:TV→Bool
 |.sl (.own _ _) _=>true
 |_=>false
def frz:TV→TV
 |.sl (.own _ _) c=>.sl .fz c
 |v=>v
def below (b:Nat):TV→Bool
 |.ptr k _=>Nat.blt k b
 |.ref k _ _ _ _=>Nat.blt k b
 |.map k=>Nat.blt k b
 |.elt ch _=>belows ch
 |.sl _ chs=>belowss chs
 |.func _ x y=>belows x&&belows y
 |.iface _ v=>below b v
 |.agg l=>belows l
 |.tuple l=>belows l
 |_=>true
where
 belows:List TV→Bool
  |[]=>true
  |v::l=>below b v&&belows l
 belowss:List (List TV)→Bool
  |[]=>true
  |v::l=>belows v&&belowss l
def canon:TV→TV
 |.sl (.own _ _) c=>.sl .fz c
 |.sl .nl c=>.sl .fz c
 |.agg l=>.agg (canons l)
 |.tuple l=>.tuple (canons l)
 |v=>v
where
 canons:List TV→List TV
  |[]=>[]
  |v::l=>canon v::canons l
def TV.cells:TV→List TV
 |.agg l=>l
 |v=>[v]
def onesT:List TV→Bool
 |[]=>true
 |.agg _::_=>false
 |.tuple _::_=>false
 |.dead::_=>false
 |.bx _ _ _::_=>false
 |.vpt _ _ _::_=>false
 |_::r=>onesT r
def tint (op:BinOp) (k:IntKind) (a b:Int):Option TV:=
 match op with
 |.add=>some (.int k (k.wrap (a+b)))
 |.sub=>some (.int k (k.wrap (a - b)))
 |.mul=>some (.int k (k.wrap (a*b)))
 |.quo=>if beqInt b 0 then none else some (.int k (k.wrap (a.tdiv b)))
 |.rem=>if beqInt b 0 then none else some (.int k (a.tmod b))
 |.and=>some (.int k (k.wrap (BitVec.ofInt k.bits a &&& BitVec.ofInt k.bits b).toNat))
 |.or=>some (.int k (k.wrap (BitVec.ofInt k.bits a ||| BitVec.ofInt k.bits b).toNat))
 |.xor=>some (.int k (k.wrap (BitVec.ofInt k.bits a ^^^ BitVec.ofInt k.bits b).toNat))
 |.andNot=>some (.int k (k.wrap (BitVec.ofInt k.bits a &&& ~~~(BitVec.ofInt k.bits b)).toNat))
 |.eql=>some (.bool (beqInt a b))
 |.neq=>some (.bool (!(beqInt a b)))
 |.lss=>some (.bool (ltInt a b))
 |.leq=>some (.bool (leInt a b))
 |.gtr=>some (.bool (ltInt b a))
 |.geq=>some (.bool (leInt b a))
 |_=>none
def tstr (op:BinOp) (x y:ByteArray):Option TV:=
 match op with
 |.add=>if Nat.ble (x.data.toList.length+y.data.toList.length) 9223372036854775807 then some (.str ⟨(x.data.toList++y.data.toList).toArray⟩) else none
 |.eql=>some (.bool (beqBytes x.data.toList y.data.toList))
 |.neq=>some (.bool (!(beqBytes x.data.toList y.data.toList)))
 |.lss=>some (.bool (ltBytes x.data.toList y.data.toList))
 |.leq=>some (.bool (ltBytes x.data.toList y.data.toList||beqBytes x.data.toList y.data.toList))
 |.gtr=>some (.bool (!(ltBytes x.data.toList y.data.toList||beqBytes x.data.toList y.data.toList)))
 |.geq=>some (.bool (!(ltBytes x.data.toList y.data.toList)))
 |_=>none
def tbin (op:BinOp) (x y:TV):Option TV:=
 match op,x,y with
 |.shl,.int k a,.int _ b=>match ltInt b 0 with
  |true=>none
  |false=>some (.int k (k.wrap (a*2^(min b.toNat k.bits))))
 |.shr,.int k a,.int _ b=>match ltInt b 0 with
  |true=>none
  |false=>some (.int k (a.fdiv (2^(min b.toNat k.bits))))
 |op,.int k a,.int k' b=>match beqKind k k' with
  |true=>tint op k a b
  |false=>none
 |op,.str a,.str b=>tstr op a b
 |_,_,_=>none
def tun (op:UnOp) (x:TV):Option TV:=
 match op,x with
 |.neg,.int k n=>some (.int k (k.wrap (0 - n)))
 |.xor,.int k n=>tint .xor k (if k.signed then -1 else k.max) n
 |.not,.bool b=>some (.bool !b)
 |_,_=>none
def plainT (σ:Sto) (k o:Nat):Bool:=
 match σ.at k with
 |some ⟨_,.cells vs _⟩=>Nat.blt o vs.length
 |_=>false
mutual
def teq (σ:Sto):EqK→TV→TV→Option Bool
 |.int,.int k a,.int k' b=>match beqKind k k' with
  |true=>some (beqInt a b)
  |false=>none
 |.bool,.bool a,.bool b=>some (a==b)
 |.str,.str a,.str b=>some (beqBytes a.data.toList b.data.toList)
 |.ptr,.nilp,.nilp=>some true
 |.ptr,.nilp,.ptr _ _=>some false
 |.ptr,.ptr _ _,.nilp=>some false
 |.ptr,.ptr b o,.ptr b' o'=>
  match plainT σ b o&&plainT σ b' o' with
  |true=>some (Nat.beq b b'&&Nat.beq o o')
  |false=>none
 |.ifaceNil,.nili,.nili=>some true
 |.ifaceNil,.nili,.iface _ _=>some false
 |.ifaceNil,.iface _ _,.nili=>some false
 |.sliceNil,.sl .nl _,.sl .nl _=>some true
 |.sliceNil,.sl .fz (_::_),.sl .nl _=>some false
 |.sliceNil,.sl .nl _,.sl .fz (_::_)=>some false
 |.sliceNil,.ref _ _ _ _ _,.sl .nl _=>some false
 |.mapNil,.nilm,.nilm=>some true
 |.mapNil,.nilm,.map _=>some false
 |.mapNil,.map _,.nilm=>some false
 |.funcNil,.nilf,.nilf=>some true
 |.funcNil,.nilf,.func _ _ _=>some false
 |.funcNil,.func _ _ _,.nilf=>some false
 |.agg ps,.agg xs,.agg ys=>teqs σ ps xs ys
 |_,_,_=>none
def teqs (σ:Sto):List (Nat×EqK)→List TV→List TV→Option Bool
 |[],_,_=>some true
 |(i,k)::r,xs,ys=>
  match xs[i]?,ys[i]? with
  |some x,some y=>match teq σ k x y with
   |some true=>teqs σ r xs ys
   |some false=>some false
   |none=>none
  |_,_=>none
end
def findT (σ:Sto) (k:EqK) (x:TV):List (TV×TV×Nat)→Nat→Option (Option (Nat×TV))
 |[],_=>some none
 |e::es,i=>match teq σ k x e.1 with
  |some true=>some (some (i,e.2.1))
  |some false=>findT σ k x es (i+1)
  |none=>none
def putAt (vs:List TV) (o:Nat) (l:List TV):List TV:=vs.take o++l++vs.drop (o+l.length)
def fillT (cells:List TV):List (Nat×Nat×TV)→Option (List TV)
 |[]=>some cells
 |(off,size,v)::r=>
  match give v with
  |some v=>match Nat.beq v.cells.length size&&Nat.ble (off+size) cells.length with
   |true=>fillT (putAt cells off v.cells) r
   |false=>none
  |none=>none
def chop (s:Nat):Nat→List TV→List (List TV)
 |0,_=>[]
 |n+1,l=>l.take s::chop s n (l.drop s)
def repT (z:List TV):Nat→List TV
 |0=>[]
 |n+1=>z++repT z n
def boundT (x:TV) (y:Nat):Option Nat:=
 match x with
 |.int _ (.ofNat i)=>match Nat.ble i y with
  |true=>some i
  |false=>none
 |_=>none
def optB (x:Option TV) (y d:Nat):Option Nat:=
 match x with
 |some v=>boundT v y
 |none=>some d
def hiB (hi mx:Option TV) (m len:Nat):Option Nat:=
 match hi with
 |some v=>boundT v m
 |none=>match mx with
  |none=>some len
  |some _=>none
def boundsT (len cap:Nat) (lo hi mx:Option TV):Option (Nat×Nat×Nat):=
 match optB mx cap cap with
 |none=>none
 |some m=>match hiB hi mx m len with
  |none=>none
  |some h=>match optB lo h 0 with
   |none=>none
   |some l=>some (l,h,m)
def okSz (s:Nat) (chs:List (List TV)):Bool:=chs.all fun c=>Nat.beq c.length s
def intsT:List TV→Option (List (IntKind×Int))
 |[]=>some []
 |.int k n::r=>match intsT r with
  |some l=>some ((k,n)::l)
  |none=>none
 |_=>none
def bytesT:List (List TV)→Option (List UInt8)
 |[]=>some []
 |[.int .u8 (.ofNat n)]::r=>match bytesT r with
  |some l=>some (UInt8.ofNat n::l)
  |none=>none
 |_=>none
def Md.app (e s:Nat):Md→Bool
 |.own e' s'=>Nat.beq e' e&&Nat.beq s' s
 |.nl=>true
 |.fz=>false
end Go.Xt
end
