/-
  A part of the proof: it is imported by YtlgknghehgmodaaGreatDoorTop. Nothing here is a claim of its own.
-/
import Derived.Test.YtlgknghehgmodaaGreatDoorK4
import Derived.Shelf.Small.Strs
import Derived.Shelf.Strings.Search1
import Derived.Shelf.Strings.Search2
import Derived.Shelf.Strings.Search3
import Derived.Shelf.LaysM
import Derived.Shelf.Strings.Shaped
import Derived.Shelf.Sort.Plain
import Derived.Ground.Names2Prog
import Derived.Shelf.Slices.CompactI
import Derived.Shelf.Slices.In.SortNone
import Derived.Test.YtlgknghehgmodaaGreatDoorProg
import Derived.MakeChecks
set_option linter.unusedVariables false
set_option linter.unusedSimpArgs false
set_option linter.unusedSectionVars false
section
namespace Go.Xe.YtlgknghehgmodaaGreatDoor
open Go Go.Xe Go.Xt
variable {F:FuncId→Option TFun} {O:FuncId→List TV→Option TV}
theorem used12_t (U:WFits F O) (N:Nat) (e:PTerm) (s:Int) (b:Nat) (σ:Sto) (hN:szTm e+20012≤N) (he:OkTm e) (hc:cntT e≤3000):
  tcall F O (N+1) b 12 [.agg (encTm e),.int .i64 s] σ=some (.ret (.bool (usedT e s)),σ):=by
 refine tcall_pure U.h12 ?_
 have h1:=free20_t (O:=O) U.h37 U.h77 U.h78 U.h79 (szTm e) N e σ.length σ (Nat.le_refl _) (by omega) he hc
 have hlen:=refF_len e
 rw [encTm_def] at h1
 unfold usedT
 generalize refF e=L at h1 hlen
 simp [x1012,encTm_def,h1]
 obtain ⟨I,hI⟩:∃I:Nat→TAct→Sto→Prop,I=(fun j a σ'=>a.df=[]∧σ'=σ∧decide (s∈L.drop j)=decide (s∈L)∧a.tm.get 1=some (.int .i64 s)∧a.tm.get 5=some (.sl .fz (L.map encI))∧a.tm.get 6=some (.int .i64 j)):=⟨_,rfl⟩
 obtain ⟨R,hR⟩:∃R:TEx→TAct→Sto→Prop,R=(fun ex a σ'=>a.df=[]∧σ'=σ∧(ex=.exit 0∧decide (s∈L)=false∨ex=.ret∧decide (s∈L)=true∧a.tm.get 4=some (.bool true))):=⟨_,rfl⟩
 refine tw_loop I L.length R ?_ (by omega) ?_ ?_ ?_
 ·rw [hI]
  exact ⟨rfl,rfl,by rw [List.drop_zero],by simp,by simp,by simp⟩
 ·rw [hI]
  rintro j ⟨tm,df,clk⟩ σ' hj ⟨rfl,rfl,ha,h1,h5,h6⟩
  rw [←hI]
  have hw:=wrapJ hj (by unfold maxLen;omega)
  rw [mem_drop hj] at ha
  by_cases hs:L[j]=s
  ·have hs':s=L[j]:=hs.symm
   rw [decide_eq_true hs',Bool.true_or] at ha
   simp [h1,h5,h6,hj,hw,hs,encI]
   rw [hR]
   exact ⟨rfl,rfl,.inr ⟨rfl,ha.symm,by simp⟩⟩
  ·have hs':¬s=L[j]:=fun h=>hs h.symm
   rw [decide_eq_false hs',Bool.false_or] at ha
   simp [h1,h5,h6,hj,hw,hs,encI]
   rw [hI]
   exact ⟨rfl,rfl,ha,by simp [h1],by simp [h5],by simp⟩
 ·rw [hI]
  rintro ⟨tm,df,clk⟩ σ' ⟨rfl,rfl,ha,h1,h5,h6⟩
  rw [List.drop_of_length_le (Nat.le_refl _)] at ha
  simp [h1,h5,h6]
  rw [hR]
  exact ⟨rfl,rfl,.inl ⟨rfl,by rw [←ha];rfl⟩⟩
 ·rw [hR]
  rintro ex ⟨tm,df,clk⟩ σ' ⟨rfl,rfl,⟨rfl,h⟩|⟨rfl,h,h6⟩⟩
  ·have h:=of_decide_eq_false h
   simp [h]
  ·have h:=of_decide_eq_true h
   simp [h,h6]
def limB (m:Int):Nat:=(min (max m 0) 4).toNat
theorem limB_le (m:Int):limB m≤4:=by unfold limB;omega
def noneB (n:Int) (k:Nat) (c:PTerm):Bool:=decide (∀s∈slotsB n k,s∉refF c)
theorem unused42_t (U:WFits F O) (h42:F 42=some f1042) (N:Nat) (e:PTerm) (b:Nat) (σ:Sto) (h2:1<e.kids.length) (he:OkTm e) (hc:∀x∈e.kids,szTm x+20013≤N∧cntT x≤3000):
  tcall F O (N+1) b 42 [.agg (encTm e)] σ=some (.ret (.bool (noneB e.n (limB e.m) e.kids[1])),σ):=by
 have hm:=List.getElem_mem h2
 have hcc:=hc _ hm
 obtain ⟨N,rfl⟩:∃n,N=n+1:=⟨N - 1,by omega⟩
 refine tcall_pure h42 ?_
 have hu:=fun s=>used12_t U N e.kids[1] s σ.length σ (by omega) (he.sub _ hm) hcc.2
 have hn:=he.n
 unfold I64 at hn
 have hmI:=he.m
 unfold I64 at hmI
 have hkk:=limB_le e.m
 obtain ⟨c,hcE⟩:∃c,c=e.kids[1]:=⟨_,rfl⟩
 simp only [←hcE] at hu ⊢
 have hkid:∀j (hj:j<e.kids.length),j=1→e.kids[j]=c:=fun j hj h=>by subst h;exact hcE.symm
 simp [x1042,encTm_def]
 obtain ⟨I,hI⟩:∃I:Nat→TAct→Sto→Prop,I=(fun j a σ'=>a.df=[]∧σ'=σ∧(∀s∈slotsB e.n j,s∉refF c)∧a.tm.get 1=some (.bx 0 (encTm e) 28)∧a.tm.get 3=some (.int .i64 j)):=⟨_,rfl⟩
 obtain ⟨R,hR⟩:∃R:TEx→TAct→Sto→Prop,R=(fun ex a σ'=>a.df=[]∧σ'=σ∧(ex=.exit 0∧noneB e.n (limB e.m) c=true∨ex=.ret∧noneB e.n (limB e.m) c=false∧a.tm.get 2=some (.bool false))):=⟨_,rfl⟩
 refine tw_loop I (limB e.m) R ?_ (by omega) ?_ ?_ ?_
 ·rw [hI]
  exact ⟨rfl,rfl,by simp [slotsB],by simp [encTm_def],by simp⟩
 ·rw [hI]
  rintro j ⟨tm,df,clk⟩ σ' hj ⟨rfl,rfl,ha,h1,h3⟩
  rw [←hI]
  have hw:=wrapJ (n:=5) (j:=j) (by omega) (by unfold maxLen;omega)
  have hjm:(j:Int)<e.m:=by unfold limB at hj;omega
  have hj4:(j:Int)<4:=by omega
  have hwm:IntKind.i64.wrap (9223372036854775807 - (j:Int))=9223372036854775807 - (j:Int):=by rw [wrap_in]<;>omega
  have h1':=h1
  rw [encTm_def] at h1
  by_cases hov:e.n≤9223372036854775807 - (j:Int)
  case neg=>
   simp [h1,h3,hjm,hj4,hwm,hov]
   rw [hR]
   refine ⟨rfl,rfl,.inl ⟨rfl,decide_eq_true ?_⟩⟩
   rw [slots_stop (j:=j) (by omega) (limB e.m) (by omega)]
   exact ha
  have hwn:IntKind.i64.wrap (e.n+(j:Int))=e.n+(j:Int):=by rw [wrap_in]<;>omega
  have hq:=hu (e.n+(j:Int))
  have hsl:slotsB e.n (j+1)=slotsB e.n j++[e.n+(j:Int)]:=by simp only [slotsB];rw [if_pos (by omega)]
  rw [encTm_def] at hq
  cases hs:usedT c (e.n+(j:Int)) with
  |true=>
   rw [hs] at hq
   simp [h1,h3,hjm,hj4,hwm,hov,h2,hkid,encTm_def c,hwn,hq]
   rw [hR]
   refine ⟨rfl,rfl,.inr ⟨rfl,decide_eq_false fun h=> ?_,by simp⟩⟩
   exact h _ (slots_mono (j:=j+1) (by rw [hsl];simp) (by omega)) (of_decide_eq_true hs)
  |false=>
   rw [hs] at hq
   simp [h1,h3,hjm,hj4,hwm,hov,h2,hkid,encTm_def c,hwn,hq,hw]
   rw [hI]
   refine ⟨rfl,rfl,fun s h=> ?_,by simp [h1'],by simp⟩
   rw [hsl,List.mem_append] at h
   rcases h with h|h
   ·exact ha s h
   ·cases List.mem_singleton.1 h
    exact of_decide_eq_false hs
 ·rw [hI]
  rintro ⟨tm,df,clk⟩ σ' ⟨rfl,rfl,ha,h1,h3⟩
  rw [encTm_def] at h1
  by_cases hjm:((limB e.m:Nat):Int)<e.m
  ·have hj4:¬((limB e.m:Nat):Int)<4:=by unfold limB at hjm ⊢;omega
   simp [h1,h3,hjm,hj4]
   rw [hR]
   exact ⟨rfl,rfl,.inl ⟨rfl,decide_eq_true ha⟩⟩
  ·simp [h1,h3,hjm]
   rw [hR]
   exact ⟨rfl,rfl,.inl ⟨rfl,decide_eq_true ha⟩⟩
 ·rw [hR]
  rintro ex ⟨tm,df,clk⟩ σ' ⟨rfl,rfl,⟨rfl,h⟩|⟨rfl,h,h6⟩⟩
  ·simp [h]
  ·simp [h,h6]
theorem holds43_t (h43:F 43=some f1043) (N:Nat) (v:PVal) (b:Nat) (σ:Sto):tcall F O (N+1) b 43 [.agg (encV v)] σ=some (.ret (.bool (decide (v.n≠0))),σ):=by
 refine tcall_pure h43 ?_
 simp [x1043,encV_def]
theorem holds82_t (h82:F 82=some f1082) (N:Nat) (e:PTerm) (b:Nat) (σ:Sto):tcall F O (N+1) b 82 [.agg (encTm e)] σ=some (.ret (.tuple [.bool (decide (e.val.n≠0)),.bool (decide (e.kind=1))]),σ):=by
 refine tcall_pure h82 ?_
 simp [x1082,encTm_def]
theorem same84_t (V:VFits F) (h84:F 84=some f1084) (h108:F 114=some f108):∀(N:Nat) (a c:PTerm) (b:Nat) (σ:Sto),szTm a≤N→OkTm a→OkTm c→
  tcall F O N b 84 [.agg (encTm a),.agg (encTm c)] σ=some (.ret (.bool (sameTm a c)),σ)
 |0,a,c,b,σ,h,_,_=>by rw [szTm_def] at h;omega
 |1,a,c,b,σ,h,_,_=>by rw [szTm_def] at h;omega
 |N+2,a,c,b,σ,h,ha,hc=>by
  have ih:=same84_t V h84 h108 N
  have hs:=szTm_def a
  have hk:=szTms_len a.kids
  have hV:=same_t (O:=O) V.h106 V.h158 V.h180 V.h165 V.h181 N a.val c.val σ.length σ (by omega) ha.val hc.val
  have hI:=eqInts_t (O:=O) V.h107 N σ.length σ a.odds c.odds ha.olen hc.olen (by omega)
  have hK:=eqTerms (O:=O) h108 84 N sameTm σ.length σ a.kids c.kids ha.len hc.len (by omega) (fun x hx y hy b=>ih x y b σ (by have:=szTms_mem _ _ hx;omega) (ha.sub x hx) (hc.sub y hy))
  rw [encV_def,encV_def c.val] at hV
  refine tcall_pure h84 ?_
  by_cases hk:a.kind=c.kind
  case neg=>simp [x1084,encTm_def,sameTm_def',hk]
  by_cases hn:a.n=c.n
  case neg=>simp [x1084,encTm_def,sameTm_def',hk,hn]
  by_cases hm:a.m=c.m
  case neg=>simp [x1084,encTm_def,sameTm_def',hk,hn,hm]
  cases hv:sameV a.val c.val with
  |false=>
   rw [hv] at hV
   simp [x1084,encTm_def,sameTm_def',hk,hn,hm,hV,hv]
  |true=>
   rw [hv] at hV
   cases hi:all2 sameI a.odds c.odds with
   |false=>
    rw [hi] at hI
    simp [x1084,encTm_def,sameTm_def',hk,hn,hm,hV,hv,hI,hi]
   |true=>
    rw [hi] at hI
    simp [x1084,encTm_def,sameTm_def',hk,hn,hm,hV,hv,hI,hi,hK]
end Go.Xe.YtlgknghehgmodaaGreatDoor
end
section
namespace Go.Xe.YtlgknghehgmodaaGreatDoor
open Go Go.Xe Go.Xt
variable {F:FuncId→Option TFun} {O:FuncId→List TV→Option TV}
mutual
def cntV:PVal→Nat
 |.mk _ _ l=>cntVs l+1
def cntVs:List PVal→Nat
 |[]=>0
 |t::l=>cntV t+cntVs l
end
theorem cntV_def (t:PVal):cntV t=cntVs t.list+1:=by cases t;simp only [cntV,PVal.list]
theorem cntVs_drop {l:List PVal} {j:Nat} (hj:j<l.length):cntVs (l.drop j)=cntV l[j]+cntVs (l.drop (j+1)):=by
 rw [List.drop_eq_getElem_cons hj];rfl
theorem cntVs_mem:∀(l:List PVal) (t:PVal),t∈l→cntV t≤cntVs l
 |x::l,t,h=>by
  simp only [cntVs]
  rcases List.mem_cons.1 h with rfl|h
  ·omega
  ·have:=cntVs_mem l t h;omega
theorem cntVs_len:∀l,l.length≤cntVs l
 |[]=>Nat.le_refl _
 |t::l=>by have:=cntVs_len l;have:=cntV_def t;simp only [cntVs,List.length_cons];omega
inductive Lt (B:Nat):PTerm→Prop
 |mk {k n m:Int} {v:PVal} {o:List Int} {l:List PTerm}:cntV v≤B→o.length≤B→(∀t∈l,Lt B t)→Lt B (.mk k n m v o l)
theorem Lt.val {B:Nat} {t:PTerm} (h:Lt B t):cntV t.val≤B:=by cases h;assumption
theorem Lt.odds {B:Nat} {t:PTerm} (h:Lt B t):t.odds.length≤B:=by cases h;assumption
theorem Lt.sub {B:Nat} {t:PTerm} (h:Lt B t):∀x∈t.kids,Lt B x:=by cases h;assumption
theorem Lt.of {B:Nat} {t:PTerm} (h1:cntV t.val≤B) (h2:t.odds.length≤B) (h3:∀x∈t.kids,Lt B x):Lt B t:=by cases t;exact .mk h1 h2 h3
theorem valCnt_t (hF:F 100=some f25) (B:Nat) (hB:B≤1000000):∀(N:Nat) (e:PVal) (b:Nat) (σ:Sto) (m:Int),szV e≤N→OkV e→0≤m→m≤B→
  ∃r:Int,tcall F O N b 100 [.agg (encV e),.int .i64 m,.int .i64 B] σ=some (.ret (.int .i64 r),σ)∧0≤r∧(r≤B→m+(cntV e:Int)≤r)
 |0,e,b,σ,m,h,_,_,_=>by rw [szV_def] at h;omega
 |N+1,e,b,σ,m,h,hb,hm0,hm1=>by
  have ih:=valCnt_t hF B hB N
  have hk:=szVs_len e.list
  have hs:=szV_def e
  have hw0:IntKind.i64.wrap (m+1)=m+1:=by rw [wrap_in]<;>omega
  suffices hh:∃e' σ',tcall F O (N+1) b 100 [.agg (encV e),.int .i64 m,.int .i64 B] σ=some (e',σ')∧∃r:Int,e'=.ret (.int .i64 r)∧σ'=σ∧0≤r∧(r≤B→m+(cntV e:Int)≤r) by
   obtain ⟨e',σ',h1,r,rfl,rfl,h2⟩:=hh
   exact ⟨r,h1,h2⟩
  refine tcall_of hF ?_
  simp [x25,encV_def,hw0]
  obtain ⟨I,hI⟩:∃I:Nat→TAct→Sto→Prop,I=(fun j a σ'=>a.df=[]∧σ'=σ∧∃acc:Int,0≤acc∧(acc≤B→m+(cntV e:Int)≤acc+(cntVs (e.list.drop j):Int))∧a.tm.get 1=some (.int .i64 acc)∧a.tm.get 2=some (.int .i64 B)∧a.tm.get 3=some (.bx 0 (encV e) 24)∧a.tm.get 7=some (.int .i64 j)):=⟨_,rfl⟩
  obtain ⟨R,hR⟩:∃R:TEx→TAct→Sto→Prop,R=(fun ex a σ'=>ex=.exit 0∧a.df=[]∧σ'=σ∧∃acc:Int,0≤acc∧(acc≤B→m+(cntV e:Int)≤acc)∧a.tm.get 1=some (.int .i64 acc)):=⟨_,rfl⟩
  refine tw_loop I e.list.length R ?_ (by omega) ?_ ?_ ?_
  ·rw [hI]
   exact ⟨rfl,rfl,m+1,by omega,fun _=>by rw [cntV_def,List.drop_zero];omega,by simp,by simp,by simp [encV_def],by simp⟩
  ·rw [hI]
   rintro j ⟨tm,df,clk⟩ σ' hj ⟨rfl,rfl,acc,ha0,hac,h1,h2,h3,h7⟩
   rw [←hI]
   have hm:=szVs_mem e.list e.list[j] (List.getElem_mem hj)
   have hw:=wrapJ hj hb.len
   have h3':=h3
   rw [encV_def] at h3
   by_cases ha:acc≤B
   ·obtain ⟨r,hc,hr0,hr1⟩:=ih e.list[j] σ'.length σ' acc (by omega) (hb.sub _ (List.getElem_mem hj)) ha0 ha
    rw [encV_def] at hc
    rw [cntVs_drop hj] at hac
    simp [h1,h2,h3,h7,hj,ha,hc,hw,encV_def]
    rw [hI]
    exact ⟨rfl,rfl,r,hr0,fun h=>by have:=hr1 h;have:=hac ha;omega,by simp,by simp [h2],by simp [h3'],by simp⟩
   ·simp [h1,h2,h3,h7,hj,ha]
    rw [hR]
    exact ⟨rfl,rfl,rfl,acc,ha0,fun h=>absurd h ha,by simp [h1]⟩
  ·rw [hI]
   rintro ⟨tm,df,clk⟩ σ' ⟨rfl,rfl,acc,ha0,hac,h1,h2,h3,h7⟩
   rw [List.drop_of_length_le (Nat.le_refl _)] at hac
   rw [encV_def] at h3
   simp [h1,h2,h3,h7,undT]
   rw [hR]
   exact ⟨rfl,rfl,rfl,acc,ha0,fun h=>by have:=hac h;simp only [cntVs] at this;omega,by simp [h1]⟩
  ·rw [hR]
   rintro ex ⟨tm,df,clk⟩ σ' ⟨rfl,rfl,rfl,acc,ha0,hac,h1⟩
   simp [h1]
   exact ⟨ha0,hac⟩
theorem fewV_t (hF:F 69=some f7) (hS:F 100=some f25) (B:Nat) (hB:B≤1000000) (N:Nat) (v:PVal) (b:Nat) (σ:Sto) (h:szV v+1<N) (hok:OkV v):
  ∃r:Bool,tcall F O (N+1) b 69 [.int .i64 B,.sl .fz [encV v]] σ=some (.ret (.bool r),σ)∧(r=true→cntV v≤B):=by
 suffices hh:∃e σ',tcall F O (N+1) b 69 [.int .i64 B,.sl .fz [encV v]] σ=some (e,σ')∧∃r:Bool,e=.ret (.bool r)∧σ'=σ∧(r=true→cntV v≤B) by
  obtain ⟨e,σ',h1,r,rfl,rfl,h2⟩:=hh
  exact ⟨r,h1,h2⟩
 refine tcall_of hF ?_
 obtain ⟨r,hc,hr0,hr1⟩:=valCnt_t (O:=O) hS B hB N v σ.length σ 0 (by omega) hok (by omega) (by omega)
 rw [encV_def] at hc
 simp [x7,encV_def]
 refine tw_loop (fun j a σ'=>a.df=[]∧σ'=σ∧a.tm.get 0=some (.int .i64 B)∧a.tm.get 1=some (.sl .fz [encV v])∧a.tm.get 5=some (.int .i64 (if j=0 then 0 else r))∧a.tm.get 6=some (.int .i64 j)) 1
  (fun ex a σ'=>ex=.exit 0∧a.df=[]∧σ'=σ∧a.tm.get 0=some (.int .i64 B)∧a.tm.get 5=some (.int .i64 r)) ?_ (by omega) ?_ ?_ ?_
 ·simp [encV_def]
 ·rintro j ⟨tm,df,clk⟩ σ' hj ⟨rfl,rfl,h0,h1,h5,h6⟩
  obtain rfl:j=0:=by omega
  rw [encV_def] at h1
  have hw:IntKind.i64.wrap 1=1:=by rw [wrap_in]<;>omega
  simp at h5 h6
  simp [h0,h1,h5,h6,hc,encV_def,hw]
 ·rintro ⟨tm,df,clk⟩ σ' ⟨rfl,rfl,h0,h1,h5,h6⟩
  simp at h5 h6
  rw [encV_def] at h1
  simp [h0,h1,h5,h6]
 ·rintro ex ⟨tm,df,clk⟩ σ' ⟨rfl,rfl,rfl,h0,h5⟩
  simp [h0,h5]
  by_cases hh:r≤B
  ·have:=hr1 hh
   omega
  ·omega
theorem termBig_t (hF:F 29=some f24) (h7:F 69=some f7) (h25:F 100=some f25) (B:Nat) (hB:B≤1000000):∀(N:Nat) (e:PTerm) (b:Nat) (σ:Sto) (m:Int),szTm e≤N→OkTm e→Sm reachBytes (encTm e)→0≤m→m≤B→
  ∃r:Int,tcall F O N b 29 [.agg (encTm e),.int .i64 m,.int .i64 B] σ=some (.ret (.int .i64 r),σ)∧0≤r∧(r≤B→m+(cntT e:Int)≤r∧Lt B e)
 |0,e,b,σ,m,h,_,_,_,_=>by rw [szTm_def] at h;omega
 |N+1,e,b,σ,m,h,hb,hsm,hm0,hm1=>by
  have ih:=termBig_t hF h7 h25 B hB N
  have hk:=szTms_len e.kids
  have hs:=szTm_def e
  have hv:=szV_def e.val
  have hol:=sm_odds hsm
  have hrb:reachBytes=140737488351232:=rfl
  have hw0:IntKind.i64.wrap (IntKind.i64.wrap (m+1)+(e.odds.length:Int))=m+1+(e.odds.length:Int):=by
   rw [wrap_in (m+1)]<;>first|omega|(rw [wrap_in]<;>omega)
  obtain ⟨M,rfl⟩:∃M,N=M+1:=⟨N - 1,by omega⟩
  obtain ⟨rf,hf,hfv⟩:=fewV_t (O:=O) h7 h25 B hB M e.val σ.length σ (by omega) hb.val
  suffices hh:∃e' σ',tcall F O (M+1+1) b 29 [.agg (encTm e),.int .i64 m,.int .i64 B] σ=some (e',σ')∧∃r:Int,e'=.ret (.int .i64 r)∧σ'=σ∧0≤r∧(r≤B→m+(cntT e:Int)≤r∧Lt B e) by
   obtain ⟨e',σ',h1,r,rfl,rfl,h2⟩:=hh
   exact ⟨r,h1,h2⟩
  refine tcall_of hF ?_
  simp [encV_def] at hf
  have hw1:IntKind.i64.wrap ((B:Int)+1)=(B:Int)+1:=by rw [wrap_in]<;>omega
  cases rf with
  |false=>
   simp [x24,encTm_def,hf,hw0,hw1]
   exact ⟨by omega,fun h=>by omega⟩
  |true=>
   have hvv:=hfv rfl
   simp [x24,encTm_def,hf,hw0,hw1]
   obtain ⟨I,hI⟩:∃I:Nat→TAct→Sto→Prop,I=(fun j a σ'=>a.df=[]∧σ'=σ∧∃acc:Int,0≤acc∧(acc≤B→m+(cntT e:Int)+(e.odds.length:Int)≤acc+(cntTs (e.kids.drop j):Int)∧∀i,(hi:i<e.kids.length)→i<j→Lt B e.kids[i])∧a.tm.get 1=some (.int .i64 acc)∧a.tm.get 2=some (.int .i64 B)∧a.tm.get 3=some (.bx 0 (encTm e) 28)∧a.tm.get 7=some (.int .i64 j)):=⟨_,rfl⟩
   obtain ⟨R,hR⟩:∃R:TEx→TAct→Sto→Prop,R=(fun ex a σ'=>ex=.exit 0∧a.df=[]∧σ'=σ∧∃acc:Int,0≤acc∧(acc≤B→m+(cntT e:Int)≤acc∧Lt B e)∧a.tm.get 1=some (.int .i64 acc)):=⟨_,rfl⟩
   refine tw_loop I e.kids.length R ?_ (by omega) ?_ ?_ ?_
   ·rw [hI]
    exact ⟨rfl,rfl,m+1+(e.odds.length:Int),by omega,fun _=>⟨by rw [cntT_def,List.drop_zero];omega,fun i _ hi=>by omega⟩,by simp,by simp,by simp [encTm_def],by simp⟩
   ·rw [hI]
    rintro j ⟨tm,df,clk⟩ σ' hj ⟨rfl,rfl,acc,ha0,hac,h1,h2,h3,h7'⟩
    rw [←hI]
    have hm:=szTms_mem e.kids e.kids[j] (List.getElem_mem hj)
    have hw:=wrapJ hj hb.len
    have h3':=h3
    rw [encTm_def] at h3
    by_cases ha:acc≤B
    ·obtain ⟨r,hc,hr0,hr1⟩:=ih e.kids[j] σ'.length σ' acc (by omega) (hb.sub _ (List.getElem_mem hj)) (sm_kid hsm (List.getElem_mem hj)) ha0 ha
     rw [encTm_def] at hc
     rw [cntTs_drop hj] at hac
     simp [h1,h2,h3,h7',hj,ha,hc,hw,encTm_def]
     rw [hI]
     refine ⟨rfl,rfl,r,hr0,fun h=> ?_,by simp,by simp [h2],by simp [h3'],by simp⟩
     obtain ⟨q1,q2⟩:=hr1 h
     obtain ⟨q3,q4⟩:=hac ha
     refine ⟨by omega,fun i hi hij=> ?_⟩
     by_cases hh:i=j
     ·subst hh;exact q2
     ·exact q4 i hi (by omega)
    ·simp [h1,h2,h3,h7',hj,ha]
     rw [hR]
     exact ⟨rfl,rfl,rfl,acc,ha0,fun h=>absurd h ha,by simp [h1]⟩
   ·rw [hI]
    rintro ⟨tm,df,clk⟩ σ' ⟨rfl,rfl,acc,ha0,hac,h1,h2,h3,h7'⟩
    rw [List.drop_of_length_le (Nat.le_refl _)] at hac
    rw [encTm_def] at h3
    simp [h1,h2,h3,h7',undT]
    rw [hR]
    refine ⟨rfl,rfl,rfl,acc,ha0,fun h=> ?_,by simp [h1]⟩
    obtain ⟨q1,q2⟩:=hac h
    simp only [cntTs] at q1
    refine ⟨by omega,.of hvv (by omega) fun x hx=> ?_⟩
    obtain ⟨i,hi,rfl⟩:=List.getElem_of_mem hx
    exact q2 i hi hi
   ·rw [hR]
    rintro ex ⟨tm,df,clk⟩ σ' ⟨rfl,rfl,rfl,acc,ha0,hac,h1⟩
    simp [h1]
    exact ⟨ha0,hac⟩
theorem fewTm_t (h15:F 7=some f15) (hF:F 29=some f24) (h7:F 69=some f7) (h25:F 100=some f25) (B:Nat) (hB:B≤1000000) (N:Nat) (e:PTerm) (b:Nat) (σ:Sto) (h:szTm e≤N) (hb:OkTm e) (hsm:Sm reachBytes (encTm e)):
  ∃r:Bool,tcall F O (N+1) b 7 [.int .i64 B,.agg (encTm e)] σ=some (.ret (.bool r),σ)∧(r=true→cntT e≤B∧Lt B e):=by
 obtain ⟨r,hc,h0,h1⟩:=termBig_t (O:=O) hF h7 h25 B hB N e σ.length σ 0 h hb hsm (by omega) (by omega)
 refine ⟨decide (r≤B),tcall_pure h15 ?_,fun h=>by have h2:=of_decide_eq_true h;have:=h1 h2;exact ⟨by omega,this.2⟩⟩
 rw [encTm_def] at hc
 simp [x15,encTm_def,hc]
end Go.Xe.YtlgknghehgmodaaGreatDoor
end
section
namespace Go.Xe.YtlgknghehgmodaaGreatDoor
open Go Go.Xe Go.Xt
variable {F:FuncId→Option TFun} {O:FuncId→List TV→Option TV}
inductive Bld {α:Type} (e s:Nat) (f:α→List TV):List α→TV→Prop
 |nl:Bld e s f [] (.sl .nl [])
 |own (l:List α):Bld e s f l (.sl (.own e s) (l.map f))
theorem below_V (b:Nat):∀(n:Nat) (v:PVal),szV v≤n→below.belows b (encV v)=true
 |0,v,h=>by rw [szV_def] at h;omega
 |n+1,v,h=>by
  rw [szV_def] at h
  have h2:∀l:List PVal,(∀x∈l,szV x≤n)→below.belowss b (l.map encV)=true:=by
   intro l
   induction l with
   |nil=>intro _;rfl
   |cons x l ih=>
    intro hx
    simp only [List.map_cons,below.belowss,Bool.and_eq_true]
    exact ⟨below_V b n x (hx x (by simp)),ih fun y hy=>hx y (by simp [hy])⟩
  have h3:=h2 v.list fun x hx=>by have:=szVs_mem _ _ hx;omega
  rw [encV_def]
  simp [below.belows,below,h3]
theorem belowss_V (b:Nat) (l:List PVal):below.belowss b (l.map encV)=true:=below_map b encV (fun v=>below_V b _ v (Nat.le_refl _)) l
theorem below_Tm (b:Nat):∀(n:Nat) (t:PTerm),szTm t≤n→below.belows b (encTm t)=true
 |0,v,h=>by rw [szTm_def] at h;omega
 |n+1,t,h=>by
  rw [szTm_def] at h
  have h2:∀l:List PTerm,(∀x∈l,szTm x≤n)→below.belowss b (l.map encTm)=true:=by
   intro l
   induction l with
   |nil=>intro _;rfl
   |cons x l ih=>
    intro hx
    simp only [List.map_cons,below.belowss,Bool.and_eq_true]
    exact ⟨below_Tm b n x (hx x (by simp)),ih fun y hy=>hx y (by simp [hy])⟩
  have h3:=h2 t.kids fun x hx=>by have:=szTms_mem _ _ hx;omega
  rw [encTm_def]
  simp [below.belows,below,h3,belowss_V]
theorem belowss_Tm (b:Nat) (l:List PTerm):below.belowss b (l.map encTm)=true:=below_map b encTm (fun v=>below_Tm b _ v (Nat.le_refl _)) l
theorem encV_len (v:PVal):(encV v).length=3:=by rw [encV_def];rfl
theorem encTm_len (v:PTerm):(encTm v).length=8:=by rw [encTm_def];rfl
attribute [simp] encV_len encTm_len belowss_V belowss_Tm
theorem take_step {α:Type} {l:List α} {j:Nat} (hj:j<l.length):l.take (j+1)=l.take j++[l[j]]:=by
 rw [List.take_add_one,List.getElem?_eq_getElem hj];rfl
theorem ownVs_t (h111:F 111=some f1111) (N:Nat) (l:List PVal) (b:Nat) (σ:Sto) (hl:l.length≤1000000) (hn:l.length<N) (hc:∀x∈l,∀b,tcall F O N b 80 [.agg (encV x)] σ=some (.ret (.agg (encV x)),σ)):
  tcall F O (N+1) b 111 [.sl .fz (l.map encV)] σ=some (.ret (.sl .fz (l.map encV)),σ):=by
 refine tcall_pure h111 ?_
 simp [x1111]
 obtain ⟨I,hI⟩:∃I:Nat→TAct→Sto→Prop,I=(fun j a σ'=>a.df=[]∧σ'=σ∧∃v,Bld 24 3 encV (l.take j) v∧a.tm.get 3=some v∧a.tm.get 6=some (.sl .fz (l.map encV))∧a.tm.get 7=some (.int .i64 (l.length:Int))∧a.tm.get 8=some (.int .i64 j)):=⟨_,rfl⟩
 obtain ⟨R,hR⟩:∃R:TEx→TAct→Sto→Prop,R=(fun ex a σ'=>ex=.exit 0∧a.df=[]∧σ'=σ∧∃v,Bld 24 3 encV l v∧a.tm.get 3=some v):=⟨_,rfl⟩
 refine tw_loop I l.length R ?_ (by omega) ?_ ?_ ?_
 ·rw [hI]
  exact ⟨rfl,rfl,_,.nl,by simp,by simp,by simp,by simp⟩
 ·rw [hI]
  rintro j ⟨tm,df,clk⟩ σ' hj ⟨rfl,rfl,v,hB,h3,h6,h7,h8⟩
  rw [←hI]
  have hw:=wrapJ hj (by unfold maxLen;omega)
  have hcc:=hc l[j] (List.getElem_mem hj) σ'.length
  have hts:=take_step hj
  have hlt:(l.take j).length≤1000000:=by rw [List.length_take];omega
  have hE:encV l[j]=[.int .i64 l[j].kind,.int .i64 l[j].n,.sl .fz (l[j].list.map encV)]:=encV_def _
  rw [hE] at hcc
  generalize l.take j=L at hB hts hlt
  rcases hB with _|_
  ·simp [h3,h6,h7,h8,hj,hcc,hw,hE]
   rw [hI]
   exact ⟨rfl,rfl,_,by rw [hts];exact .own _,by simp [hE],by simp [h6],by simp [h7],by simp⟩
  ·have hlen3:L.length≤1073741823:=by omega
   simp [h3,h6,h7,h8,hj,hcc,hw,hE,hlen3]
   rw [hI]
   exact ⟨rfl,rfl,_,by rw [hts];exact .own _,by simp [hE],by simp [h6],by simp [h7],by simp⟩
 ·rw [hI]
  rintro ⟨tm,df,clk⟩ σ' ⟨rfl,rfl,v,hB,h3,h6,h7,h8⟩
  rw [List.take_of_length_le (Nat.le_refl _)] at hB
  simp [h3,h6,h7,h8]
  rw [hR]
  exact ⟨rfl,rfl,rfl,v,hB,by simp [h3]⟩
 ·rw [hR]
  rintro ex ⟨tm,df,clk⟩ σ' ⟨rfl,rfl,rfl,v,hB,h3⟩
  rcases hB with _|_
  ·simp [h3]
  ·simp [h3]
theorem ownV_t (h80:F 80=some f1080) (h111:F 111=some f1111):∀(N:Nat) (v:PVal) (b:Nat) (σ:Sto),szV v≤N→cntV v≤1000000→tcall F O N b 80 [.agg (encV v)] σ=some (.ret (.agg (encV v)),σ)
 |0,v,b,σ,h,_=>by rw [szV_def] at h;omega
 |1,v,b,σ,h,_=>by rw [szV_def] at h;omega
 |N+2,v,b,σ,h,hc=>by
  have ih:=ownV_t h80 h111 N
  rw [szV_def] at h
  rw [cntV_def] at hc
  have hcl:=cntVs_len v.list
  have hsl:=szVs_len v.list
  have hvs:=ownVs_t (O:=O) h111 N v.list σ.length σ (by omega) (by omega) (fun x hx b=>ih x b σ (by have:=szVs_mem _ _ hx;omega) (by have:=cntVs_mem _ _ hx;omega))
  refine tcall_pure h80 ?_
  simp [x1080,encV_def,hvs]
end Go.Xe.YtlgknghehgmodaaGreatDoor
end
section
namespace Go.Xe.YtlgknghehgmodaaGreatDoor
open Go Go.Xe Go.Xt
variable {F:FuncId→Option TFun} {O:FuncId→List TV→Option TV}
theorem thaw_ints {σ2:Sto} {k0 j ver e:Nat} (n c:Nat) (l:List Int) (hj:k0≤j) (hk:σ2.at j=some ⟨ver,.cells (encZT l) e⟩) (hc:c=capU+1):thaw σ2 k0 (n+1) (.ref j 0 1 l.length c)=.sl .fz (l.map encI):=by
 have h1:=chop_encZT l []
 rw [List.append_nil] at h1
 have h2:((encZT l).take l.length).any isOwn=false:=by rw [List.take_of_length_le (by rw [encZT_len];omega)];exact owned_encZT l
 have h3:∀l:List Int,(l.map encI).map (fun ch=>ch.map (thaw σ2 k0 n))=l.map encI:=fun l=>by
  rw [List.map_map]
  apply List.map_congr_left
  intro x _
  cases n<;>rfl
 have hb:Nat.ble k0 j=true:=by rw [bleNat];exact decide_eq_true hj
 unfold thaw
 rw [hb,hk]
 have hle:(Nat.ble (0+l.length*1) (encZT l).length&& !(((encZT l).drop 0).take (l.length*1)).any isOwn&&(Nat.blt c capU||Nat.beq c (capU+1)))=true:=by
  rw [List.drop_zero,Nat.mul_one,h2,hc]
  simp [encZT_len]
 dsimp only
 rw [hle]
 simp only [List.drop_zero,h1,h3]
theorem thaw_agg (σ:Sto) (k n:Nat) (l:List TV):thaw σ k (n+1) (.agg l)=.agg (l.map (thaw σ k n)):=rfl
theorem thaw_int (σ:Sto) (k n:Nat) (kk:IntKind) (x:Int):thaw σ k n (.int kk x)=.int kk x:=by cases n<;>rfl
theorem thaw_sl (σ:Sto) (k n:Nat) (m:Md) (c:List (List TV)):thaw σ k n (.sl m c)=.sl m c:=by cases n<;>rfl
theorem own40_t (h40:F 40=some f1040) (h80:F 80=some f1080) (h111:F 111=some f1111) (h81:F 81=some f67):∀(N:Nat) (e:PTerm) (b:Nat) (σ:Sto),szTm e≤N→OkTm e→cntT e≤1000000→Lt 1000000 e→
  tcall F O N b 40 [.agg (encTm e)] σ=some (.ret (.agg (encTm e)),σ)
 |0,e,b,σ,h,_,_,_=>by rw [szTm_def] at h;omega
 |N+1,e,b,σ,h,he,hc,hL=>by
  have ih:=own40_t h40 h80 h111 h81 N
  have hk:=szTms_len e.kids
  have hs:=szTm_def e
  have hcd:=cntT_def e
  have hkl:e.kids.length≤cntTs e.kids:=by
   generalize e.kids=l
   induction l with
   |nil=>exact Nat.le_refl _
   |cons x l ihl=>simp only [cntTs,List.length_cons];have:=cntT_def x;omega
  have hol:=hL.odds
  have hval:=ownV_t (O:=O) h80 h111 N e.val σ.length σ (by omega) hL.val
  rw [encV_def] at hval
  obtain ⟨M,rfl⟩:∃M,N=M+1:=⟨N - 1,by omega⟩
  refine tcall_pure h40 ?_
  by_cases ho:e.odds=[]
  ·have hcl:=clone0_t (O:=O) h81 M σ.length σ
   simp [x1040,encTm_def,hval,ho,hcl]
   obtain ⟨C1,hC1⟩:∃C1:List TV,[TV.int .i64 e.kind,.int .i64 e.n,.int .i64 e.m,.int .i64 e.val.kind,.int .i64 e.val.n,.sl .fz (e.val.list.map encV),.sl .fz [],.sl .fz (e.kids.map encTm)]=C1:=⟨_,rfl⟩
   obtain ⟨C2,hC2⟩:∃C2:List TV,[TV.int .i64 0,.int .i64 0,.int .i64 0,.int .i64 0,.int .i64 0,.sl .nl [],.sl .nl [],.sl .nl []]=C2:=⟨_,rfl⟩
   obtain ⟨S,hS⟩:∃S,σ=S:=⟨_,rfl⟩
   simp only [hS]
   obtain ⟨I,hI⟩:∃I:Nat→TAct→Sto→Prop,I=(fun j a σ'=>a.df=[]∧σ'=S∧∃v,Bld 28 8 encTm (e.kids.take j) v∧a.tm.get 1=some (.bx 0 C1 28)∧(∃ser,a.tm.get 2=some (.bx ser C2 28))∧a.tm.get 3=some v∧a.tm.get 15=some (.sl .fz (e.kids.map encTm))∧a.tm.get 16=some (.int .i64 (e.kids.length:Int))∧a.tm.get 17=some (.int .i64 j)):=⟨_,rfl⟩
   obtain ⟨R,hR⟩:∃R:TEx→TAct→Sto→Prop,R=(fun ex a σ'=>ex=.exit 0∧a.df=[]∧σ'=S∧∃v,Bld 28 8 encTm e.kids v∧a.tm.get 1=some (.bx 0 C1 28)∧(∃ser,a.tm.get 2=some (.bx ser C2 28))∧a.tm.get 3=some v):=⟨_,rfl⟩
   refine tw_loop I e.kids.length R ?_ (by omega) ?_ ?_ ?_
   ·rw [hI]
    exact ⟨rfl,rfl,_,.nl,by simp [hC1],⟨_,by simp [hC2];rfl⟩,by simp,by simp,by simp,by simp⟩
   ·rw [hI]
    rintro j ⟨tm,df,clk⟩ σ' hj ⟨rfl,rfl,v,hB,h1,⟨ser,h2⟩,h3,h15,h16,h17⟩
    rw [←hI]
    have hw:=wrapJ hj he.len
    have hmem:=List.getElem_mem hj
    have hcc:=fun b=>ih e.kids[j] b σ' (by have:=szTms_mem _ _ hmem;omega) (he.sub _ hmem) (by have:=cntTs_mem _ _ hmem;omega) (hL.sub _ hmem)
    have hts:=take_step hj
    have hlt:(e.kids.take j).length≤1000000:=by rw [List.length_take];omega
    have hE:=encTm_def e.kids[j]
    rw [hE] at hcc
    generalize e.kids.take j=L at hB hts hlt
    rcases hB with _|_
    ·simp [h1,h2,h3,h15,h16,h17,hj,hcc,hw,hE]
     rw [hI]
     exact ⟨rfl,rfl,_,by rw [hts];exact .own _,by simp [h1],⟨_,by simp [h2];rfl⟩,by simp [hE],by simp [h15],by simp [h16],by simp⟩
    ·have hlen3:L.length≤1073741823:=by omega
     simp [h1,h2,h3,h15,h16,h17,hj,hcc,hw,hE,hlen3]
     rw [hI]
     exact ⟨rfl,rfl,_,by rw [hts];exact .own _,by simp [h1],⟨_,by simp [h2];rfl⟩,by simp [hE],by simp [h15],by simp [h16],by simp⟩
   ·rw [hI]
    rintro ⟨tm,df,clk⟩ σ' ⟨rfl,rfl,v,hB,h1,⟨ser,h2⟩,h3,h15,h16,h17⟩
    rw [List.take_of_length_le (Nat.le_refl _)] at hB
    simp [h1,h2,h3,h15,h16,h17]
    rw [hR]
    exact ⟨rfl,rfl,rfl,v,hB,by simp [h1],⟨_,by simp [h2];rfl⟩,by simp [h3]⟩
   ·rw [hR]
    rintro ex ⟨tm,df,clk⟩ σ' ⟨rfl,rfl,rfl,v,hB,h1,⟨ser,h2⟩,h3⟩
    rw [←hC1] at h1
    rw [←hC2] at h2
    generalize hks:e.kids=ks at hB ⊢
    rcases hB with _|_
    ·simp [h1,h2,h3]
    ·simp [h1,h2,h3]
  ·have hcl:=clone_t (O:=O) h81 M σ.length (.sl .fz (e.odds.map encI)) e.odds σ (.fz _) ho (by omega)
   have hat:Sto.at (σ++[some (⟨0,.cells [] 3⟩:TObj)]++[some (⟨0,.cells (encZT e.odds) 3⟩:TObj)]) (σ.length+1)=some ⟨0,.cells (encZT e.odds) 3⟩:=by
    have:=at_new (σ++[some (⟨0,.cells [] 3⟩:TObj)]) ⟨0,.cells (encZT e.odds) 3⟩
    rwa [List.length_append] at this
   have htk:(σ++[some (⟨0,.cells [] 3⟩:TObj)]++[some (⟨0,.cells (encZT e.odds) 3⟩:TObj)]).take σ.length=σ:=by rw [List.append_assoc];simp
   obtain ⟨S,hS⟩:∃S,σ++[some (⟨0,.cells [] 3⟩:TObj)]++[some (⟨0,.cells (encZT e.odds) 3⟩:TObj)]=S:=⟨_,rfl⟩
   rw [hS] at hcl hat htk
   have hth:thaw S σ.length 3 (.ref (σ.length+1) 0 1 e.odds.length (capU+1))=.sl .fz (e.odds.map encI):=thaw_ints (σ2:=S) (k0:=σ.length) 2 (capU+1) e.odds (by omega) hat rfl
   simp [x1040,encTm_def,hval,hcl]
   obtain ⟨C1,hC1⟩:∃C1:List TV,[TV.int .i64 e.kind,.int .i64 e.n,.int .i64 e.m,.int .i64 e.val.kind,.int .i64 e.val.n,.sl .fz (e.val.list.map encV),.ref (σ.length+1) 0 1 e.odds.length (capU+1),.sl .fz (e.kids.map encTm)]=C1:=⟨_,rfl⟩
   obtain ⟨C2,hC2⟩:∃C2:List TV,[TV.int .i64 0,.int .i64 0,.int .i64 0,.int .i64 0,.int .i64 0,.sl .nl [],.sl .nl [],.sl .nl []]=C2:=⟨_,rfl⟩
   obtain ⟨I,hI⟩:∃I:Nat→TAct→Sto→Prop,I=(fun j a σ'=>a.df=[]∧σ'=S∧∃v,Bld 28 8 encTm (e.kids.take j) v∧a.tm.get 1=some (.bx 0 C1 28)∧(∃ser,a.tm.get 2=some (.bx ser C2 28))∧a.tm.get 3=some v∧a.tm.get 15=some (.sl .fz (e.kids.map encTm))∧a.tm.get 16=some (.int .i64 (e.kids.length:Int))∧a.tm.get 17=some (.int .i64 j)):=⟨_,rfl⟩
   obtain ⟨R,hR⟩:∃R:TEx→TAct→Sto→Prop,R=(fun ex a σ'=>ex=.exit 0∧a.df=[]∧σ'=S∧∃v,Bld 28 8 encTm e.kids v∧a.tm.get 1=some (.bx 0 C1 28)∧(∃ser,a.tm.get 2=some (.bx ser C2 28))∧a.tm.get 3=some v):=⟨_,rfl⟩
   refine tw_loop I e.kids.length R ?_ (by omega) ?_ ?_ ?_
   ·rw [hI]
    exact ⟨rfl,rfl,_,.nl,by simp [hC1],⟨_,by simp [hC2];rfl⟩,by simp,by simp,by simp,by simp⟩
   ·rw [hI]
    rintro j ⟨tm,df,clk⟩ σ' hj ⟨rfl,rfl,v,hB,h1,⟨ser,h2⟩,h3,h15,h16,h17⟩
    rw [←hI]
    have hw:=wrapJ hj he.len
    have hmem:=List.getElem_mem hj
    have hcc:=fun b=>ih e.kids[j] b σ' (by have:=szTms_mem _ _ hmem;omega) (he.sub _ hmem) (by have:=cntTs_mem _ _ hmem;omega) (hL.sub _ hmem)
    have hts:=take_step hj
    have hlt:(e.kids.take j).length≤1000000:=by rw [List.length_take];omega
    have hE:=encTm_def e.kids[j]
    rw [hE] at hcc
    generalize e.kids.take j=L at hB hts hlt
    rcases hB with _|_
    ·simp [h1,h2,h3,h15,h16,h17,hj,hcc,hw,hE]
     rw [hI]
     exact ⟨rfl,rfl,_,by rw [hts];exact .own _,by simp [h1],⟨_,by simp [h2];rfl⟩,by simp [hE],by simp [h15],by simp [h16],by simp⟩
    ·have hlen3:L.length≤1073741823:=by omega
     simp [h1,h2,h3,h15,h16,h17,hj,hcc,hw,hE,hlen3]
     rw [hI]
     exact ⟨rfl,rfl,_,by rw [hts];exact .own _,by simp [h1],⟨_,by simp [h2];rfl⟩,by simp [hE],by simp [h15],by simp [h16],by simp⟩
   ·rw [hI]
    rintro ⟨tm,df,clk⟩ σ' ⟨rfl,rfl,v,hB,h1,⟨ser,h2⟩,h3,h15,h16,h17⟩
    rw [List.take_of_length_le (Nat.le_refl _)] at hB
    simp [h1,h2,h3,h15,h16,h17]
    rw [hR]
    exact ⟨rfl,rfl,rfl,v,hB,by simp [h1],⟨_,by simp [h2];rfl⟩,by simp [h3]⟩
   ·rw [hR]
    rintro ex ⟨tm,df,clk⟩ σ' ⟨rfl,rfl,rfl,v,hB,h1,⟨ser,h2⟩,h3⟩
    rw [←hC1] at h1
    rw [←hC2] at h2
    generalize hks:e.kids=ks at hB ⊢
    rcases hB with _|_
    ·simp [-thaw,thaw_agg,thaw_int,thaw_sl,h1,h2,h3,hth,htk]
    ·simp [-thaw,thaw_agg,thaw_int,thaw_sl,h1,h2,h3,hth,htk]
end Go.Xe.YtlgknghehgmodaaGreatDoor
end
section
namespace Go.Xe.YtlgknghehgmodaaGreatDoor
open Go Go.Xe Go.Xt
variable {F:FuncId→Option TFun} {O:FuncId→List TV→Option TV}
theorem alikeV_t (h38:F 38=some f1038):∀(N:Nat) (e:PVal) (b:Nat) (σ:Sto),szV e≤N→OkV e→tcall F O N b 38 [.agg (encV e),.agg (encV e)] σ=some (.ret (.bool true),σ)
 |0,e,b,σ,h,_=>by rw [szV_def] at h;omega
 |N+1,e,b,σ,h,he=>by
  have ih:=alikeV_t h38 N
  have hs:=szV_def e
  have hk:=szVs_len e.list
  refine tcall_pure h38 ?_
  simp [x1038,encV_def]
  obtain ⟨I,hI⟩:∃I:Nat→TAct→Sto→Prop,I=(fun j a σ'=>a.df=[]∧σ'=σ∧(∃s2,a.tm.get 2=some (.bx s2 (encV e) 24))∧(∃s3,a.tm.get 3=some (.bx s3 (encV e) 24))∧a.tm.get 5=some (.int .i64 j)):=⟨_,rfl⟩
  obtain ⟨R,hR⟩:∃R:TEx→TAct→Sto→Prop,R=(fun ex a σ'=>ex=.exit 0∧a.df=[]∧σ'=σ):=⟨_,rfl⟩
  refine tw_loop I e.list.length R ?_ (by omega) ?_ ?_ ?_
  ·rw [hI]
   exact ⟨rfl,rfl,⟨_,by simp [encV_def];rfl⟩,⟨_,by simp [encV_def];rfl⟩,by simp⟩
  ·rw [hI]
   rintro j ⟨tm,df,clk⟩ σ' hj ⟨rfl,rfl,⟨s2,h2⟩,⟨s3,h3⟩,h5⟩
   rw [←hI]
   have hw:=wrapJ hj he.len
   have hmem:=List.getElem_mem hj
   have hcc:=ih e.list[j] σ'.length σ' (by have:=szVs_mem _ _ hmem;omega) (he.sub _ hmem)
   have h2':=h2
   have h3':=h3
   rw [encV_def] at hcc h2 h3
   simp [h2,h3,h5,hj,hcc,hw,encV_def]
   rw [hI]
   exact ⟨rfl,rfl,⟨_,by simp [h2'];rfl⟩,⟨_,by simp [h3'];rfl⟩,by simp⟩
  ·rw [hI]
   rintro ⟨tm,df,clk⟩ σ' ⟨rfl,rfl,⟨s2,h2⟩,⟨s3,h3⟩,h5⟩
   rw [encV_def] at h2 h3
   simp [h2,h3,h5]
   rw [hR]
   exact ⟨rfl,rfl,rfl⟩
  ·rw [hR]
   rintro ex ⟨tm,df,clk⟩ σ' ⟨rfl,rfl,rfl⟩
   simp
theorem alikeTm_t (h13:F 13=some f1013) (h38:F 38=some f1038) (h39:F 39=some f16):∀(N:Nat) (e:PTerm) (b:Nat) (σ:Sto),szTm e≤N→OkTm e→tcall F O N b 13 [.agg (encTm e),.agg (encTm e)] σ=some (.ret (.bool true),σ)
 |0,e,b,σ,h,_=>by rw [szTm_def] at h;omega
 |N+1,e,b,σ,h,he=>by
  have ih:=alikeTm_t h13 h38 h39 N
  have hs:=szTm_def e
  have hk:=szTms_len e.kids
  have hv:=szV_def e.val
  obtain ⟨M,rfl⟩:∃M,N=M+1:=⟨N - 1,by omega⟩
  have hV:=alikeV_t (O:=O) h38 (M+1) e.val σ.length σ (by omega) he.val
  have hO:=ints_t (O:=O) h39 M (.sl .fz (e.odds.map encI)) e.odds σ.length σ (.fz _) he.olen (by omega)
  rw [encV_def] at hV
  refine tcall_pure h13 ?_
  simp [x1013,encTm_def,hV,hO]
  obtain ⟨I,hI⟩:∃I:Nat→TAct→Sto→Prop,I=(fun j a σ'=>a.df=[]∧σ'=σ∧(∃s2,a.tm.get 2=some (.bx s2 (encTm e) 28))∧(∃s3,a.tm.get 3=some (.bx s3 (encTm e) 28))∧a.tm.get 5=some (.int .i64 j)):=⟨_,rfl⟩
  obtain ⟨R,hR⟩:∃R:TEx→TAct→Sto→Prop,R=(fun ex a σ'=>ex=.exit 0∧a.df=[]∧σ'=σ):=⟨_,rfl⟩
  refine tw_loop I e.kids.length R ?_ (by omega) ?_ ?_ ?_
  ·rw [hI]
   exact ⟨rfl,rfl,⟨_,by simp [encTm_def];rfl⟩,⟨_,by simp [encTm_def];rfl⟩,by simp⟩
  ·rw [hI]
   rintro j ⟨tm,df,clk⟩ σ' hj ⟨rfl,rfl,⟨s2,h2⟩,⟨s3,h3⟩,h5⟩
   rw [←hI]
   have hw:=wrapJ hj he.len
   have hmem:=List.getElem_mem hj
   have hcc:=ih e.kids[j] σ'.length σ' (by have:=szTms_mem _ _ hmem;omega) (he.sub _ hmem)
   have h2':=h2
   have h3':=h3
   rw [encTm_def] at hcc h2 h3
   simp [h2,h3,h5,hj,hcc,hw,encTm_def]
   rw [hI]
   exact ⟨rfl,rfl,⟨_,by simp [h2'];rfl⟩,⟨_,by simp [h3'];rfl⟩,by simp⟩
  ·rw [hI]
   rintro ⟨tm,df,clk⟩ σ' ⟨rfl,rfl,⟨s2,h2⟩,⟨s3,h3⟩,h5⟩
   rw [encTm_def] at h2 h3
   simp [h2,h3,h5]
   rw [hR]
   exact ⟨rfl,rfl,rfl⟩
  ·rw [hR]
   rintro ex ⟨tm,df,clk⟩ σ' ⟨rfl,rfl,rfl⟩
   simp
theorem all2_sym {α:Type} {f:α→α→Bool} (hf:∀a b,f a b=f b a):∀l m:List α,all2 f l m=all2 f m l
 |[],[]=>rfl
 |[],_::_=>rfl
 |_::_,[]=>rfl
 |a::l,b::m=>by simp only [all2];rw [hf a b,all2_sym hf l m]
theorem all2_sym' {α:Type} {f:α→α→Bool}:∀l m:List α,(∀a∈l,∀b,f a b=f b a)→all2 f l m=all2 f m l
 |[],[],_=>rfl
 |[],_::_,_=>rfl
 |_::_,[],_=>rfl
 |a::l,b::m,h=>by simp only [all2];rw [h a (by simp) b,all2_sym' l m (fun x hx=>h x (by simp [hx]))]
theorem dec_sym (a b:Int):decide (a=b)=decide (b=a):=by
 by_cases h:a=b
 ·rw [decide_eq_true h,decide_eq_true h.symm]
 ·rw [decide_eq_false h,decide_eq_false (fun e=>h e.symm)]
theorem sameV_sym:∀(n:Nat) (a b:PVal),szV a≤n→sameV a b=sameV b a
 |0,a,b,h=>by rw [szV_def] at h;omega
 |n+1,a,b,h=>by
  rw [szV_def] at h
  rw [sameV_def,sameV_def b,dec_sym a.kind,dec_sym a.n,all2_sym' a.list b.list fun x hx y=>sameV_sym n x y (by have:=szVs_mem _ _ hx;omega)]
theorem sameTm_sym:∀(n:Nat) (a b:PTerm),szTm a≤n→sameTm a b=sameTm b a
 |0,a,b,h=>by rw [szTm_def] at h;omega
 |n+1,a,b,h=>by
  rw [szTm_def] at h
  rw [sameTm_def,sameTm_def b,dec_sym a.kind,dec_sym a.n,dec_sym a.m,sameV_sym _ a.val b.val (Nat.le_refl _),all2_sym (fun x y=>dec_sym x y) a.odds b.odds,all2_sym' a.kids b.kids fun x hx y=>sameTm_sym n x y (by have:=szTms_mem _ _ hx;omega)]
def alikeB:List PTerm→Bool
 |[]=>false
 |a::r=>r.all fun x=>sameTm a x
theorem alikeB_any (a:PTerm) (r:List PTerm):(!((a::r).any fun k=> !sameTm k a))=alikeB (a::r):=by
 have h1:sameTm a a=true:=sameTm_refl _ a (Nat.le_refl _)
 rw [List.any_cons,h1]
 simp only [Bool.not_true,Bool.false_or,alikeB]
 induction r with
 |nil=>rfl
 |cons x l ih=>rw [List.any_cons,List.all_cons,Bool.not_or,Bool.not_not,ih,sameTm_sym _ x a (Nat.le_refl _)]
theorem all_step {α:Type} {S:α→Bool} {l:List α} {j:Nat} (h:j<l.length):(l.drop j).all S=(S l[j]&&(l.drop (j+1)).all S):=by
 rw [List.drop_eq_getElem_cons h,List.all_cons]
theorem alike44_t (V:VFits F) (h44:F 44=some f1044) (h45:F 45=some f65) (N:Nat) (l:List PTerm) (b:Nat) (σ:Sto) (hl:l.length≤maxLen) (hn:l.length+1<N) (hok:∀x∈l,OkTm x∧szTm x≤N):
  tcall F O (N+1) b 44 [.sl .fz (l.map encTm)] σ=some (.ret (.bool (alikeB l)),σ):=by
 refine tcall_pure h44 ?_
 cases l with
 |nil=>
  simp [x1044]
  refine tw_loop (fun j a σ'=>j=0∧a.df=[]∧σ'=σ∧a.tm.get 0=some (.sl .fz [])∧a.tm.get 3=some (.int .i64 1)) 0 (fun ex a σ'=>ex=.exit 0∧a.df=[]∧σ'=σ∧a.tm.get 0=some (.sl .fz [])) ?_ (by omega) ?_ ?_ ?_
  ·exact ⟨rfl,rfl,rfl,by simp,by simp⟩
  ·intro j a σ' hj;omega
  ·rintro ⟨tm,df,clk⟩ σ' ⟨_,rfl,rfl,h0,h3⟩
   simp [h0,h3]
  ·rintro ex ⟨tm,df,clk⟩ σ' ⟨rfl,rfl,rfl,h0⟩
   simp [h0,alikeB]
 |cons x r=>
  obtain ⟨l,hl0⟩:∃l,l=x::r:=⟨_,rfl⟩
  have h1:0<l.length:=by rw [hl0];simp
  have hx0:l[0]=x:=by subst hl0;rfl
  have hal:alikeB (x::r)=(l.drop 1).all (fun y=>sameTm l[0] y):=by rw [hx0,hl0];rfl
  rw [←hl0] at hl hn hok ⊢
  rw [←hl0] at hal
  generalize alikeB l=A at hal ⊢
  have hx:=hok l[0] (List.getElem_mem h1)
  simp [x1044]
  obtain ⟨I,hI⟩:∃I:Nat→TAct→Sto→Prop,I=(fun j a σ'=>a.df=[]∧σ'=σ∧∃i,i=j+1∧(l.drop i).all (fun y=>sameTm l[0] y)=A∧a.tm.get 0=some (.sl .fz (l.map encTm))∧a.tm.get 3=some (.int .i64 (i:Int))):=⟨_,rfl⟩
  obtain ⟨R,hR⟩:∃R:TEx→TAct→Sto→Prop,R=(fun ex a σ'=>a.df=[]∧σ'=σ∧(ex=.exit 0∧A=true∧a.tm.get 0=some (.sl .fz (l.map encTm))∨ex=.ret∧A=false∧a.tm.get 2=some (.bool false))):=⟨_,rfl⟩
  refine tw_loop I (l.length - 1) R ?_ (by omega) ?_ ?_ ?_
  ·rw [hI]
   exact ⟨rfl,rfl,1,rfl,hal.symm,by simp,by simp⟩
  ·rw [hI]
   rintro j ⟨tm,df,clk⟩ σ' hj ⟨rfl,rfl,i,hi,ha,h0,h3⟩
   rw [←hI]
   have hil:i<l.length:=by omega
   have hmem:=List.getElem_mem hil
   have hw:=wrapJ hil hl
   have hcc:=refSameTerm_t (O:=O) V h45 N l[0] l[i] σ'.length σ' hx.2 hx.1 (hok _ hmem).1
   rw [all_step hil] at ha
   rw [encTm_def,encTm_def l[i]] at hcc
   cases hs:sameTm l[0] l[i] with
   |true=>
    rw [hs] at ha hcc
    simp [h0,h3,h1,hil,hcc,hw,encTm_def]
    rw [hI]
    exact ⟨rfl,rfl,i+1,by omega,by simpa using ha,by simp [h0],by simp⟩
   |false=>
    rw [hs] at ha hcc
    simp [h0,h3,h1,hil,hcc,hw,encTm_def]
    rw [hR]
    exact ⟨rfl,rfl,.inr ⟨rfl,by simpa using ha.symm,by simp⟩⟩
  ·rw [hI]
   rintro ⟨tm,df,clk⟩ σ' ⟨rfl,rfl,i,hi,ha,h0,h3⟩
   have hil:i=l.length:=by omega
   rw [List.drop_of_length_le (by omega)] at ha
   simp [h0,h3,hil]
   rw [hR]
   exact ⟨rfl,rfl,.inl ⟨rfl,by rw [←ha];rfl,by simp [h0]⟩⟩
  ·rw [hR]
   rintro ex ⟨tm,df,clk⟩ σ' ⟨rfl,rfl,⟨rfl,h,h0⟩|⟨rfl,h,h6⟩⟩
   ·simp [h,h0,h1]
   ·simp [h,h6]
end Go.Xe.YtlgknghehgmodaaGreatDoor
end
section
namespace Go.Xe.YtlgknghehgmodaaGreatDoor
open Go Go.Xe Go.Xt
variable {F:FuncId→Option TFun} {O:FuncId→List TV→Option TV}
def us1041:XCode:=.seq (.region [⟨some 38,.addr 2 (.tmp 1),none⟩,⟨some 39,.load1 (.tmp 38),none⟩,⟨some 40,.maxI [(.tmp 39),(.const (.int .i64 0))],none⟩,⟨some 41,.minI [(.tmp 40),(.const (.int .i64 4))],none⟩,⟨some 42,.move (.const (.int .i64 0)),none⟩]) (.block 3 (.loop (.seq (.region [⟨some 43,.bin .lss (.tmp 42) (.tmp 41),none⟩]) (.seq (.cond (.tmp 43) .skip (.exit 3)) (.seq (.block 4 (.seq (.region [⟨some 44,.move (.tmp 42),none⟩,⟨some 7,.move (.tmp 44),none⟩]) (.regionD [⟨some 45,.move (.tmp 6),none⟩,⟨some 46,.move (.tmp 45),none⟩,⟨some 47,.addr 1 (.tmp 1),(some (46,false))⟩,⟨some 48,.load1 (.tmp 47),(some (46,false))⟩,⟨some 49,.move (.tmp 7),(some (46,false))⟩,⟨some 50,.bin .add (.tmp 48) (.tmp 49),(some (46,false))⟩,⟨some 51,.addr 1 (.tmp 1),(some (46,false))⟩,⟨some 52,.load1 (.tmp 51),(some (46,false))⟩,⟨some 53,.bin .geq (.tmp 50) (.tmp 52),(some (46,false))⟩,⟨some 54,.move (.tmp 53),(some (46,false))⟩,⟨some 55,.load1 (.tmp 3),(some (54,true))⟩,⟨some 56,.indexAddr 8 (.tmp 55) (.const (.int .i64 1)),(some (54,true))⟩,⟨some 57,.loadN 8 (.tmp 56),(some (54,true))⟩,⟨some 58,.addr 1 (.tmp 1),(some (54,true))⟩,⟨some 59,.load1 (.tmp 58),(some (54,true))⟩,⟨some 60,.move (.tmp 7),(some (54,true))⟩,⟨some 61,.bin .add (.tmp 59) (.tmp 60),(some (54,true))⟩,⟨some 62,.call 11 [(.tmp 57),(.tmp 61)],(some (54,true))⟩,⟨some 63,.pick (.tmp 54) (.tmp 62) (.const (.bool false)),(some (46,false))⟩,⟨some 64,.pick (.tmp 46) (.const (.bool true)) (.tmp 63),none⟩,⟨some 6,.move (.tmp 64),none⟩] []))) (.region [⟨some 65,.bin .add (.tmp 42) (.const (.int .i64 1)),none⟩,⟨some 42,.move (.tmp 65),none⟩]))))))
def bl1041:XCode:=.seq (.region [⟨some 30,.addr 0 (.tmp 1),none⟩,⟨some 31,.load1 (.tmp 30),none⟩,⟨some 32,.bin .eql (.tmp 31) (.const (.int .i64 7)),none⟩,⟨some 33,.move (.tmp 32),none⟩,⟨some 34,.load1 (.tmp 3),(some (33,true))⟩,⟨some 35,.lenSlice (.tmp 34),(some (33,true))⟩,⟨some 36,.bin .eql (.tmp 35) (.const (.int .i64 2)),(some (33,true))⟩,⟨some 37,.pick (.tmp 33) (.tmp 36) (.const (.bool false)),none⟩,⟨some 29,.move (.tmp 37),none⟩]) (.cond (.tmp 29) (.seq (.region [⟨some 6,.move (.const (.bool false)),none⟩]) (.seq us1041 (.seq (.region [⟨some 66,.move (.tmp 6),none⟩,⟨some 67,.un .not (.tmp 66),none⟩,⟨some 68,.move (.tmp 67),none⟩,⟨some 69,.load1 (.tmp 3),(some (68,true))⟩,⟨some 70,.indexAddr 8 (.tmp 69) (.const (.int .i64 0)),(some (68,true))⟩,⟨some 71,.loadN 8 (.tmp 70),(some (68,true))⟩,⟨some 72,.call 9 [(.tmp 71)],(some (68,true))⟩,⟨some 73,.pick (.tmp 68) (.tmp 72) (.const (.bool false)),none⟩]) (.cond (.tmp 73) (.seq (.region [⟨some 74,.load1 (.tmp 3),none⟩,⟨some 75,.indexAddr 8 (.tmp 74) (.const (.int .i64 1)),none⟩,⟨some 76,.loadN 8 (.tmp 75),none⟩,⟨none,.store 8 (.tmp 2) (.tmp 76),none⟩]) .ret) .skip)))) (.seq (.region [⟨some 78,.addr 0 (.tmp 1),none⟩,⟨some 79,.load1 (.tmp 78),none⟩,⟨some 80,.bin .eql (.tmp 79) (.const (.int .i64 10)),none⟩,⟨some 81,.move (.tmp 80),none⟩,⟨some 82,.load1 (.tmp 3),(some (81,true))⟩,⟨some 83,.lenSlice (.tmp 82),(some (81,true))⟩,⟨some 84,.bin .eql (.tmp 83) (.const (.int .i64 2)),(some (81,true))⟩,⟨some 85,.pick (.tmp 81) (.tmp 84) (.const (.bool false)),none⟩,⟨some 77,.move (.tmp 85),none⟩]) (.cond (.tmp 77) (.seq (.region [⟨some 87,.load1 (.tmp 3),none⟩,⟨some 88,.indexAddr 8 (.tmp 87) (.const (.int .i64 0)),none⟩,⟨some 89,.loadN 8 (.tmp 88),none⟩,⟨some 90,.call 82 [(.tmp 89)],none⟩,⟨some 86,.move (.tmp 90),none⟩,⟨some 91,.extract (.tmp 86) 0,none⟩,⟨some 92,.extract (.tmp 86) 1,none⟩,⟨some 8,.move (.tmp 91),none⟩,⟨some 9,.move (.tmp 92),none⟩]) (.seq (.region [⟨some 93,.move (.tmp 9),none⟩,⟨some 94,.move (.tmp 93),none⟩,⟨some 95,.move (.tmp 8),(some (94,true))⟩,⟨some 96,.pick (.tmp 94) (.tmp 95) (.const (.bool false)),none⟩]) (.cond (.tmp 96) (.seq (.region [⟨some 97,.load1 (.tmp 3),none⟩,⟨some 98,.indexAddr 8 (.tmp 97) (.const (.int .i64 1)),none⟩,⟨some 99,.loadN 8 (.tmp 98),none⟩,⟨none,.store 8 (.tmp 2) (.tmp 99),none⟩]) .ret) .skip))) (.seq (.region [⟨some 101,.addr 0 (.tmp 1),none⟩,⟨some 102,.load1 (.tmp 101),none⟩,⟨some 103,.bin .eql (.tmp 102) (.const (.int .i64 11)),none⟩,⟨some 104,.move (.tmp 103),none⟩,⟨some 105,.load1 (.tmp 3),(some (104,true))⟩,⟨some 106,.lenSlice (.tmp 105),(some (104,true))⟩,⟨some 107,.bin .eql (.tmp 106) (.const (.int .i64 1)),(some (104,true))⟩,⟨some 108,.pick (.tmp 104) (.tmp 107) (.const (.bool false)),none⟩,⟨some 109,.move (.tmp 108),none⟩,⟨some 110,.loadN 8 (.tmp 1),(some (109,true))⟩,⟨some 111,.call 31 [(.tmp 110)],(some (109,true))⟩,⟨some 112,.pick (.tmp 109) (.tmp 111) (.const (.bool false)),none⟩,⟨some 100,.move (.tmp 112),none⟩]) (.cond (.tmp 100) (.seq (.region [⟨some 113,.load1 (.tmp 3),none⟩,⟨some 114,.indexAddr 8 (.tmp 113) (.const (.int .i64 0)),none⟩,⟨some 115,.loadN 8 (.tmp 114),none⟩,⟨none,.store 8 (.tmp 2) (.tmp 115),none⟩]) .ret) (.seq (.region [⟨some 117,.addr 0 (.tmp 1),none⟩,⟨some 118,.load1 (.tmp 117),none⟩,⟨some 119,.bin .eql (.tmp 118) (.const (.int .i64 12)),none⟩,⟨some 120,.move (.tmp 119),none⟩,⟨some 121,.load1 (.tmp 3),(some (120,true))⟩,⟨some 122,.lenSlice (.tmp 121),(some (120,true))⟩,⟨some 123,.bin .gtr (.tmp 122) (.const (.int .i64 0)),(some (120,true))⟩,⟨some 124,.pick (.tmp 120) (.tmp 123) (.const (.bool false)),none⟩,⟨some 116,.move (.tmp 124),none⟩]) (.cond (.tmp 116) (.seq (.region [⟨some 125,.load1 (.tmp 3),none⟩,⟨some 126,.mkFunc (Go.Fn.func 83) [] [(.tmp 3)],none⟩,⟨some 127,.call 33 [(.tmp 125),(.tmp 126)],none⟩,⟨some 128,.un .not (.tmp 127),none⟩]) (.cond (.tmp 128) (.seq (.region [⟨some 129,.load1 (.tmp 3),none⟩,⟨some 130,.indexAddr 8 (.tmp 129) (.const (.int .i64 0)),none⟩,⟨some 131,.loadN 8 (.tmp 130),none⟩,⟨none,.store 8 (.tmp 2) (.tmp 131),none⟩]) .ret) .skip)) (.seq (.region [⟨some 133,.addr 0 (.tmp 1),none⟩,⟨some 134,.load1 (.tmp 133),none⟩,⟨some 135,.bin .eql (.tmp 134) (.const (.int .i64 8)),none⟩,⟨some 136,.move (.tmp 135),none⟩,⟨some 137,.load1 (.tmp 3),(some (136,true))⟩,⟨some 138,.lenSlice (.tmp 137),(some (136,true))⟩,⟨some 139,.bin .eql (.tmp 138) (.const (.int .i64 3)),(some (136,true))⟩,⟨some 140,.pick (.tmp 136) (.tmp 139) (.const (.bool false)),none⟩,⟨some 132,.move (.tmp 140),none⟩]) (.cond (.tmp 132) (.seq (.seq (.region [⟨some 142,.load1 (.tmp 3),none⟩,⟨some 143,.indexAddr 8 (.tmp 142) (.const (.int .i64 0)),none⟩,⟨some 144,.loadN 8 (.tmp 143),none⟩,⟨some 145,.call 82 [(.tmp 144)],none⟩,⟨some 141,.move (.tmp 145),none⟩,⟨some 146,.extract (.tmp 141) 0,none⟩,⟨some 147,.extract (.tmp 141) 1,none⟩,⟨some 10,.move (.tmp 146),none⟩,⟨some 11,.move (.tmp 147),none⟩]) (.seq (.region [⟨some 148,.move (.tmp 11),none⟩]) (.cond (.tmp 148) (.seq (.seq (.region [⟨some 149,.move (.tmp 10),none⟩]) (.cond (.tmp 149) (.seq (.region [⟨some 150,.load1 (.tmp 3),none⟩,⟨some 151,.indexAddr 8 (.tmp 150) (.const (.int .i64 1)),none⟩,⟨some 152,.loadN 8 (.tmp 151),none⟩,⟨none,.store 8 (.tmp 2) (.tmp 152),none⟩]) .ret) .skip)) (.seq (.region [⟨some 153,.load1 (.tmp 3),none⟩,⟨some 154,.indexAddr 8 (.tmp 153) (.const (.int .i64 2)),none⟩,⟨some 155,.loadN 8 (.tmp 154),none⟩,⟨none,.store 8 (.tmp 2) (.tmp 155),none⟩]) .ret)) .skip))) (.seq (.regionD [⟨some 156,.load1 (.tmp 3),none⟩,⟨some 157,.indexAddr 8 (.tmp 156) (.const (.int .i64 0)),none⟩,⟨some 158,.loadN 8 (.tmp 157),none⟩,⟨some 159,.call 9 [(.tmp 158)],none⟩,⟨some 160,.move (.tmp 159),none⟩,⟨some 161,.load1 (.tmp 3),(some (160,true))⟩,⟨some 162,.indexAddr 8 (.tmp 161) (.const (.int .i64 1)),(some (160,true))⟩,⟨some 163,.loadN 8 (.tmp 162),(some (160,true))⟩,⟨some 164,.load1 (.tmp 3),(some (160,true))⟩,⟨some 165,.indexAddr 8 (.tmp 164) (.const (.int .i64 2)),(some (160,true))⟩,⟨some 166,.loadN 8 (.tmp 165),(some (160,true))⟩,⟨some 167,.call 84 [(.tmp 163),(.tmp 166)],(some (160,true))⟩,⟨some 168,.pick (.tmp 160) (.tmp 167) (.const (.bool false)),none⟩] []) (.cond (.tmp 168) (.seq (.region [⟨some 169,.load1 (.tmp 3),none⟩,⟨some 170,.indexAddr 8 (.tmp 169) (.const (.int .i64 1)),none⟩,⟨some 171,.loadN 8 (.tmp 170),none⟩,⟨none,.store 8 (.tmp 2) (.tmp 171),none⟩]) .ret) .skip))) .skip)))))))))
def lp1041:XCode:=.seq (.region [⟨some 12,.addr 7 (.tmp 1),none⟩,⟨some 13,.load1 (.tmp 12),none⟩,⟨some 14,.lenSlice (.tmp 13),none⟩,⟨some 15,.move (.const (.int .i64 0)),none⟩]) (.block 0 (.loop (.seq (.region [⟨some 16,.bin .lss (.tmp 15) (.tmp 14),none⟩]) (.seq (.cond (.tmp 16) .skip (.exit 0)) (.seq (.block 1 (.seq (.region [⟨some 17,.indexAddr 8 (.tmp 13) (.tmp 15),none⟩,⟨some 18,.loadN 8 (.tmp 17),none⟩,⟨some 5,.alloc 28 [(.int .i64 0),(.int .i64 0),(.int .i64 0),(.int .i64 0),(.int .i64 0),(.slice none 0 0),(.slice none 0 0),(.slice none 0 0)],none⟩,⟨none,.store 8 (.tmp 5) (.tmp 18),none⟩]) (.regionD [⟨some 19,.load1 (.tmp 3),none⟩,⟨some 20,.loadN 8 (.tmp 5),none⟩,⟨some 21,.call 41 [(.tmp 20)],none⟩,⟨some 22,.lenSlice (.tmp 19),none⟩,⟨some 23,.buildSlice 28 8 [(.int .i64 0),(.int .i64 0),(.int .i64 0),(.int .i64 0),(.int .i64 0),(.slice none 0 0),(.slice none 0 0),(.slice none 0 0)] 1 [(0,8,(.const (.agg #[(.int .i64 0),(.int .i64 0),(.int .i64 0),(.int .i64 0),(.int .i64 0),(.slice none 0 0),(.slice none 0 0),(.slice none 0 0)])))],none⟩,⟨some 24,.append 28 8 112 (.tmp 19) (.tmp 23),none⟩,⟨some 25,.indexAddr 8 (.tmp 24) (.tmp 22),none⟩,⟨none,.store 8 (.tmp 25) (.tmp 21),none⟩,⟨none,.store 1 (.tmp 3) (.tmp 24),none⟩] [(0,2),(0,4),(1,4),(7,8)]))) (.region [⟨some 26,.bin .add (.tmp 15) (.const (.int .i64 1)),none⟩,⟨some 15,.move (.tmp 26),none⟩]))))))
theorem x1041_cut:x1041=⟨173,[.cellN 2 8],.seq (.region [⟨some 1,.box 28 (.tmp 0),none⟩,⟨some 2,.alloc 28 [(.int .i64 0),(.int .i64 0),(.int .i64 0),(.int .i64 0),(.int .i64 0),(.slice none 0 0),(.slice none 0 0),(.slice none 0 0)],none⟩]) (.seq (.region [⟨some 3,.alloc 26 [(.slice none 0 0)],none⟩]) (.seq lp1041 (.seq (.region [⟨some 27,.load1 (.tmp 3),none⟩,⟨some 28,.addr 7 (.tmp 1),none⟩,⟨none,.store 1 (.tmp 28) (.tmp 27),none⟩]) (.seq (.block 2 bl1041) (.seq (.region [⟨some 172,.loadN 8 (.tmp 1),none⟩,⟨none,.store 8 (.tmp 2) (.tmp 172),none⟩]) .ret)))))⟩:=rfl
def cutT (t:PTerm):PTerm:=
 if t.kind=7 then (match t.kids with|[a,c]=>(if noneB t.n (limB t.m) c&&sureT a then c else t)|_=>t)
 else if t.kind=10 then (match t.kids with|[a,c]=>(if a.kind=1∧a.val.n≠0 then c else t)|_=>t)
 else if t.kind=11 then (match t.kids with|[a]=>(if evenB t.odds then a else t)|_=>t)
 else if t.kind=12 then (match t.kids with|a::r=>(if alikeB (a::r) then a else t)|[]=>t)
 else if t.kind=8 then (match t.kids with|[a,c,d]=>(if a.kind=1 then (if a.val.n≠0 then c else d) else if sureT a&&sameTm c d then c else t)|_=>t)
 else t
mutual
def lessT:PTerm→PTerm
 |.mk k n m v o ks=>cutT (.mk k n m v o (lessTs ks))
def lessTs:List PTerm→List PTerm
 |[]=>[]
 |t::l=>lessT t::lessTs l
end
theorem lessTs_eq:∀l,lessTs l=l.map lessT
 |[]=>rfl
 |t::l=>by simp only [lessTs,List.map_cons,lessTs_eq l]
theorem lessT_def (t:PTerm):lessT t=cutT (.mk t.kind t.n t.m t.val t.odds (t.kids.map lessT)):=by
 cases t;simp only [lessT,lessTs_eq,PTerm.kind,PTerm.n,PTerm.m,PTerm.val,PTerm.odds,PTerm.kids]
theorem lp1041_t {N b:Nat} (e:PTerm) (he:OkTm e) (hkl:e.kids.length≤1000000) (hN:e.kids.length<N) (a:TAct) (σ:Sto) (C1 C2:List TV) (s2 po:Nat) (hbp:b≤po) (hC1:C1=encTm e)
  (hc:∀x∈e.kids,∀b σ,tcall F O N b 41 [.agg (encTm x)] σ=some (.ret (.agg (encTm (lessT x))),σ))
  (hdf:a.df=[]) (h1:a.tm.get 1=some (.bx 0 C1 28)) (h2:a.tm.get 2=some (.bx s2 C2 28)) (h3:a.tm.get 3=some (.ptr po 0)) (hat:∃ver,σ.at po=some ⟨ver,.cells [.sl .nl []] 26⟩):
  Tw a1041 b (tcall F O N) N (fun ex a' σ'=>ex=.normal∧a'.df=[]∧a'.tm.get 1=some (.bx 0 C1 28)∧a'.tm.get 2=some (.bx s2 C2 28)∧a'.tm.get 3=some (.ptr po 0)∧∃ver v,Bld 28 8 encTm (e.kids.map lessT) v∧σ'=σ.set po (some ⟨ver,.cells [v] 26⟩)) [] (tcode a1041 b (tcall F O N) N lp1041 a σ):=by
 obtain ⟨tm,df,clk⟩:=a
 simp only at hdf h1 h2 h3
 subst hdf hC1
 obtain ⟨ver,hat⟩:=hat
 have hpo:=Sto.lt hat
 have h1':=h1
 rw [encTm_def] at h1
 simp [lp1041,h1]
 obtain ⟨I,hI⟩:∃I:Nat→TAct→Sto→Prop,I=(fun j a' σ'=>a'.df=[]∧a'.tm.get 1=some (.bx 0 (encTm e) 28)∧a'.tm.get 2=some (.bx s2 C2 28)∧a'.tm.get 3=some (.ptr po 0)∧(∃ver v,Bld 28 8 encTm ((e.kids.take j).map lessT) v∧σ'=σ.set po (some ⟨ver,.cells [v] 26⟩))∧
   a'.tm.get 13=some (.sl .fz (e.kids.map encTm))∧a'.tm.get 14=some (.int .i64 (e.kids.length:Int))∧a'.tm.get 15=some (.int .i64 j)):=⟨_,rfl⟩
 obtain ⟨R,hR⟩:∃R:TEx→TAct→Sto→Prop,R=(fun ex a' σ'=>ex=.exit 0∧a'.df=[]∧a'.tm.get 1=some (.bx 0 (encTm e) 28)∧a'.tm.get 2=some (.bx s2 C2 28)∧a'.tm.get 3=some (.ptr po 0)∧∃ver v,Bld 28 8 encTm (e.kids.map lessT) v∧σ'=σ.set po (some ⟨ver,.cells [v] 26⟩)):=⟨_,rfl⟩
 refine tw_loop I e.kids.length R ?_ (by omega) ?_ ?_ ?_
 ·rw [hI]
  exact ⟨rfl,by simp [h1'],by simp [h2],by simp [h3],⟨ver,_,.nl,(Sto.set_same hat).symm⟩,by simp,by simp,by simp⟩
 ·rw [hI]
  rintro j ⟨tm,df,clk⟩ σ' hj ⟨rfl,h1,h2,h3,⟨ver,v,hB,rfl⟩,h13,h14,h15⟩
  rw [←hI]
  have hw:=wrapJ hj he.len
  have hmem:=List.getElem_mem hj
  have hcc:=hc e.kids[j] hmem
  have hts:(e.kids.take (j+1)).map lessT=(e.kids.take j).map lessT++[lessT e.kids[j]]:=by rw [take_step hj,List.map_append];rfl
  have hlt:((e.kids.take j).map lessT).length≤1000000:=by rw [List.length_map,List.length_take];omega
  have hE:=encTm_def e.kids[j]
  have hE2:=encTm_def (lessT e.kids[j])
  generalize lessT e.kids[j]=y at hcc hts hE2
  rw [hE,hE2] at hcc
  generalize (e.kids.take j).map lessT=L at hB hts hlt
  have hat1:∀o:TObj,Sto.at (σ.set po (some o)) po=some o:=fun o=>at_set hpo _
  rcases hB with _|_
  ·simp [h1,h2,h3,h13,h14,h15,hj,hcc,hw,hE,hE2,hat1,hbp]
   rw [hI]
   exact ⟨rfl,by simp [h1],by simp [h2],by simp [h3],⟨_,_,by rw [hts];exact .own _,by simp [hE2];rfl⟩,by simp [h13],by simp [h14],by simp⟩
  ·have hlen3:L.length≤1073741823:=by omega
   simp [h1,h2,h3,h13,h14,h15,hj,hcc,hw,hE,hE2,hat1,hbp,hlen3]
   rw [hI]
   exact ⟨rfl,by simp [h1],by simp [h2],by simp [h3],⟨_,_,by rw [hts];exact .own _,by simp [hE2];rfl⟩,by simp [h13],by simp [h14],by simp⟩
 ·rw [hI]
  rintro ⟨tm,df,clk⟩ σ' ⟨rfl,h1,h2,h3,⟨ver,v,hB,rfl⟩,h13,h14,h15⟩
  rw [List.take_of_length_le (Nat.le_refl _)] at hB
  simp [h13,h14,h15]
  rw [hR]
  exact ⟨rfl,rfl,by simp [h1],by simp [h2],by simp [h3],ver,v,hB,rfl⟩
 ·rw [hR]
  rintro ex ⟨tm,df,clk⟩ σ' ⟨rfl,rfl,h1,h2,h3,ver,v,hB,rfl⟩
  simp [h1,h2,h3]
  exact ⟨ver,v,hB,rfl⟩
end Go.Xe.YtlgknghehgmodaaGreatDoor
end
section
namespace Go.Xe.YtlgknghehgmodaaGreatDoor
open Go Go.Xe Go.Xt
variable {F:FuncId→Option TFun} {O:FuncId→List TV→Option TV}
theorem noneB_step {n:Int} {j:Nat} {c:PTerm}:noneB n (j+1) c=(noneB n j c&&(decide (9223372036854775807<n+(j:Int))|| !usedT c (n+(j:Int)))):=by
 unfold noneB usedT
 by_cases hov:n+(j:Int)≤9223372036854775807
 ·have hsl:slotsB n (j+1)=slotsB n j++[n+(j:Int)]:=by simp only [slotsB];rw [if_pos hov]
  rw [hsl,decide_eq_false (by omega:¬9223372036854775807<n+(j:Int)),Bool.false_or]
  by_cases h1:∀s∈slotsB n j,s∉refF c
  ·by_cases h2:n+(j:Int)∈refF c
   ·rw [decide_eq_true h1,decide_eq_true h2,decide_eq_false (fun h=>h _ (by simp) h2)];rfl
   ·rw [decide_eq_true h1,decide_eq_false h2,decide_eq_true fun s hs=> ?_];rfl
    rcases List.mem_append.1 hs with hs|hs
    ·exact h1 s hs
    ·cases List.mem_singleton.1 hs;exact h2
  ·rw [decide_eq_false h1,decide_eq_false fun h=>h1 fun s hs=>h s (List.mem_append_left _ hs)];rfl
 ·have hsl:slotsB n (j+1)=slotsB n j:=by simp only [slotsB];rw [if_neg hov,List.append_nil]
  rw [hsl,decide_eq_true (by omega:9223372036854775807<n+(j:Int)),Bool.true_or,Bool.and_true]
theorem us1041_t {N b:Nat} (U:WFits F O) (e:PTerm) (a0 c0:PTerm) (hks:e.kids=[a0,c0]) (he:OkTm e) (hN:szTm c0+100013≤N) (hc:cntT c0≤3000) (a:TAct) (σ:Sto) (v2:TV) (po ver:Nat)
  (hdf:a.df=[]) (h1:a.tm.get 1=some (.bx 0 (encTm e) 28)) (h2:a.tm.get 2=some v2) (h3:a.tm.get 3=some (.ptr po 0)) (h6:a.tm.get 6=some (.bool false)) (hat:σ.at po=some ⟨ver,.cells [.sl .fz [encTm a0,encTm c0]] 26⟩):
  Tw a1041 b (tcall F O N) N (fun ex a' σ'=>ex=.normal∧σ'=σ∧a'.df=[]∧a'.tm.get 1=some (.bx 0 (encTm e) 28)∧a'.tm.get 2=some v2∧a'.tm.get 3=some (.ptr po 0)∧a'.tm.get 6=some (.bool (!noneB e.n (limB e.m) c0))) [] (tcode a1041 b (tcall F O N) N us1041 a σ):=by
 obtain ⟨tm,df,clk⟩:=a
 simp only at hdf h1 h2 h3 h6
 subst hdf
 have h1':=h1
 rw [encTm_def,hks] at h1
 have hkk:=limB_le e.m
 have hn:=he.n
 unfold I64 at hn
 have okc:OkTm c0:=he.sub c0 (by rw [hks];simp)
 obtain ⟨M,rfl⟩:∃M,N=M+1:=⟨N - 1,by omega⟩
 have hu:=fun s b=>used11_t (O:=O) U M c0 s b σ (by omega) okc hc
 have hmm:∃k:Nat,limB e.m=k∧(k:Int)=min (max e.m 0) 4:=⟨limB e.m,rfl,by unfold limB;omega⟩
 obtain ⟨k,hk1,hk2⟩:=hmm
 rw [hk1]
 by_cases m0:e.m<0
 ·have e1:k=0:=by omega
  simp [us1041,h1,m0,intsT,ltInt_eq]
  obtain ⟨I,hI⟩:∃I:Nat→TAct→Sto→Prop,I=(fun j a' σ'=>a'.df=[]∧σ'=σ∧a'.tm.get 1=some (.bx 0 (encTm e) 28)∧a'.tm.get 2=some v2∧a'.tm.get 3=some (.ptr po 0)∧a'.tm.get 6=some (.bool (!noneB e.n j c0))∧a'.tm.get 41=some (.int .i64 (k:Int))∧a'.tm.get 42=some (.int .i64 (j:Int))):=⟨_,rfl⟩
  obtain ⟨R,hR⟩:∃R:TEx→TAct→Sto→Prop,R=(fun ex a' σ'=>ex=.exit 3∧a'.df=[]∧σ'=σ∧a'.tm.get 1=some (.bx 0 (encTm e) 28)∧a'.tm.get 2=some v2∧a'.tm.get 3=some (.ptr po 0)∧a'.tm.get 6=some (.bool (!noneB e.n k c0))):=⟨_,rfl⟩
  refine tw_loop I k R ?_ (by omega) ?_ ?_ ?_
  ·rw [hI]
   refine ⟨rfl,rfl,by simp [h1'],by simp [h2],by simp [h3],by simp [h6,noneB,slotsB],by simp [e1],by simp⟩
  ·rw [hI]
   rintro j ⟨tm,df,clk⟩ σ' hj ⟨rfl,rfl,h1,h2,h3,h6,h41,h42⟩
   rw [←hI]
   have hw:=wrapJ (n:=5) (j:=j) (by omega) (by unfold maxLen;omega)
   have hst:=noneB_step (n:=e.n) (j:=j) (c:=c0)
   have h1':=h1
   rw [encTm_def,hks] at h1
   cases hB:noneB e.n j c0 with
   |false=>
    rw [hB,Bool.false_and] at hst
    simp only [hB,Bool.not_false] at h6
    simp [h1,h2,h3,h6,h41,h42,hj,hw,undT]
    rw [hI]
    exact ⟨rfl,rfl,by simp [h1'],by simp [h2],by simp [h3],by simp [hst],by simp [h41],by simp⟩
   |true=>
    rw [hB,Bool.true_and] at hst
    simp only [hB,Bool.not_true] at h6
    by_cases hov:9223372036854775807<e.n+(j:Int)
    ·rw [decide_eq_true hov,Bool.true_or] at hst
     have hwn:¬e.n≤IntKind.i64.wrap (e.n+(j:Int)):=by rw [IntKind.wrap_i64];omega
     simp [h1,h2,h3,h6,h41,h42,hj,hw,hwn,undT]
     rw [hI]
     exact ⟨rfl,rfl,by simp [h1'],by simp [h2],by simp [h3],by simp [hst],by simp [h41],by simp⟩
    ·rw [decide_eq_false hov,Bool.false_or] at hst
     have hwn:IntKind.i64.wrap (e.n+(j:Int))=e.n+(j:Int):=by rw [wrap_in]<;>omega
     have hle:e.n≤e.n+(j:Int):=by omega
     have hq:=hu (e.n+(j:Int))
     have hE:=encTm_def c0
     rw [hE] at hq hat
     simp [h1,h2,h3,h6,h41,h42,hj,hw,hwn,hle,hat,hq,undT]
     rw [hI]
     exact ⟨rfl,rfl,by simp [h1'],by simp [h2],by simp [h3],by simp [hst],by simp [h41],by simp⟩
  ·rw [hI]
   rintro ⟨tm,df,clk⟩ σ' ⟨rfl,rfl,h1,h2,h3,h6,h41,h42⟩
   simp [h41,h42]
   rw [hR]
   exact ⟨rfl,rfl,rfl,by simp [h1],by simp [h2],by simp [h3],by simp [h6]⟩
  ·rw [hR]
   rintro ex ⟨tm,df,clk⟩ σ' ⟨rfl,rfl,rfl,h1,h2,h3,h6⟩
   simp [h1,h2,h3,h6]
 ·by_cases m4:4<e.m
  ·have e1:k=4:=by omega
   simp [us1041,h1,m0,m4,intsT,ltInt_eq]
   obtain ⟨I,hI⟩:∃I:Nat→TAct→Sto→Prop,I=(fun j a' σ'=>a'.df=[]∧σ'=σ∧a'.tm.get 1=some (.bx 0 (encTm e) 28)∧a'.tm.get 2=some v2∧a'.tm.get 3=some (.ptr po 0)∧a'.tm.get 6=some (.bool (!noneB e.n j c0))∧a'.tm.get 41=some (.int .i64 (k:Int))∧a'.tm.get 42=some (.int .i64 (j:Int))):=⟨_,rfl⟩
   obtain ⟨R,hR⟩:∃R:TEx→TAct→Sto→Prop,R=(fun ex a' σ'=>ex=.exit 3∧a'.df=[]∧σ'=σ∧a'.tm.get 1=some (.bx 0 (encTm e) 28)∧a'.tm.get 2=some v2∧a'.tm.get 3=some (.ptr po 0)∧a'.tm.get 6=some (.bool (!noneB e.n k c0))):=⟨_,rfl⟩
   refine tw_loop I k R ?_ (by omega) ?_ ?_ ?_
   ·rw [hI]
    refine ⟨rfl,rfl,by simp [h1'],by simp [h2],by simp [h3],by simp [h6,noneB,slotsB],by simp [e1],by simp⟩
   ·rw [hI]
    rintro j ⟨tm,df,clk⟩ σ' hj ⟨rfl,rfl,h1,h2,h3,h6,h41,h42⟩
    rw [←hI]
    have hw:=wrapJ (n:=5) (j:=j) (by omega) (by unfold maxLen;omega)
    have hst:=noneB_step (n:=e.n) (j:=j) (c:=c0)
    have h1':=h1
    rw [encTm_def,hks] at h1
    cases hB:noneB e.n j c0 with
    |false=>
     rw [hB,Bool.false_and] at hst
     simp only [hB,Bool.not_false] at h6
     simp [h1,h2,h3,h6,h41,h42,hj,hw,undT]
     rw [hI]
     exact ⟨rfl,rfl,by simp [h1'],by simp [h2],by simp [h3],by simp [hst],by simp [h41],by simp⟩
    |true=>
     rw [hB,Bool.true_and] at hst
     simp only [hB,Bool.not_true] at h6
     by_cases hov:9223372036854775807<e.n+(j:Int)
     ·rw [decide_eq_true hov,Bool.true_or] at hst
      have hwn:¬e.n≤IntKind.i64.wrap (e.n+(j:Int)):=by rw [IntKind.wrap_i64];omega
      simp [h1,h2,h3,h6,h41,h42,hj,hw,hwn,undT]
      rw [hI]
      exact ⟨rfl,rfl,by simp [h1'],by simp [h2],by simp [h3],by simp [hst],by simp [h41],by simp⟩
     ·rw [decide_eq_false hov,Bool.false_or] at hst
      have hwn:IntKind.i64.wrap (e.n+(j:Int))=e.n+(j:Int):=by rw [wrap_in]<;>omega
      have hle:e.n≤e.n+(j:Int):=by omega
      have hq:=hu (e.n+(j:Int))
      have hE:=encTm_def c0
      rw [hE] at hq hat
      simp [h1,h2,h3,h6,h41,h42,hj,hw,hwn,hle,hat,hq,undT]
      rw [hI]
      exact ⟨rfl,rfl,by simp [h1'],by simp [h2],by simp [h3],by simp [hst],by simp [h41],by simp⟩
   ·rw [hI]
    rintro ⟨tm,df,clk⟩ σ' ⟨rfl,rfl,h1,h2,h3,h6,h41,h42⟩
    simp [h41,h42]
    rw [hR]
    exact ⟨rfl,rfl,rfl,by simp [h1],by simp [h2],by simp [h3],by simp [h6]⟩
   ·rw [hR]
    rintro ex ⟨tm,df,clk⟩ σ' ⟨rfl,rfl,rfl,h1,h2,h3,h6⟩
    simp [h1,h2,h3,h6]
  ·have e1:(k:Int)=e.m:=by omega
   simp [us1041,h1,m0,m4,intsT,ltInt_eq]
   obtain ⟨I,hI⟩:∃I:Nat→TAct→Sto→Prop,I=(fun j a' σ'=>a'.df=[]∧σ'=σ∧a'.tm.get 1=some (.bx 0 (encTm e) 28)∧a'.tm.get 2=some v2∧a'.tm.get 3=some (.ptr po 0)∧a'.tm.get 6=some (.bool (!noneB e.n j c0))∧a'.tm.get 41=some (.int .i64 (k:Int))∧a'.tm.get 42=some (.int .i64 (j:Int))):=⟨_,rfl⟩
   obtain ⟨R,hR⟩:∃R:TEx→TAct→Sto→Prop,R=(fun ex a' σ'=>ex=.exit 3∧a'.df=[]∧σ'=σ∧a'.tm.get 1=some (.bx 0 (encTm e) 28)∧a'.tm.get 2=some v2∧a'.tm.get 3=some (.ptr po 0)∧a'.tm.get 6=some (.bool (!noneB e.n k c0))):=⟨_,rfl⟩
   refine tw_loop I k R ?_ (by omega) ?_ ?_ ?_
   ·rw [hI]
    refine ⟨rfl,rfl,by simp [h1'],by simp [h2],by simp [h3],by simp [h6,noneB,slotsB],by simp [e1],by simp⟩
   ·rw [hI]
    rintro j ⟨tm,df,clk⟩ σ' hj ⟨rfl,rfl,h1,h2,h3,h6,h41,h42⟩
    rw [←hI]
    have hw:=wrapJ (n:=5) (j:=j) (by omega) (by unfold maxLen;omega)
    have hst:=noneB_step (n:=e.n) (j:=j) (c:=c0)
    have h1':=h1
    rw [encTm_def,hks] at h1
    cases hB:noneB e.n j c0 with
    |false=>
     rw [hB,Bool.false_and] at hst
     simp only [hB,Bool.not_false] at h6
     simp [h1,h2,h3,h6,h41,h42,hj,hw,undT]
     rw [hI]
     exact ⟨rfl,rfl,by simp [h1'],by simp [h2],by simp [h3],by simp [hst],by simp [h41],by simp⟩
    |true=>
     rw [hB,Bool.true_and] at hst
     simp only [hB,Bool.not_true] at h6
     by_cases hov:9223372036854775807<e.n+(j:Int)
     ·rw [decide_eq_true hov,Bool.true_or] at hst
      have hwn:¬e.n≤IntKind.i64.wrap (e.n+(j:Int)):=by rw [IntKind.wrap_i64];omega
      simp [h1,h2,h3,h6,h41,h42,hj,hw,hwn,undT]
      rw [hI]
      exact ⟨rfl,rfl,by simp [h1'],by simp [h2],by simp [h3],by simp [hst],by simp [h41],by simp⟩
     ·rw [decide_eq_false hov,Bool.false_or] at hst
      have hwn:IntKind.i64.wrap (e.n+(j:Int))=e.n+(j:Int):=by rw [wrap_in]<;>omega
      have hle:e.n≤e.n+(j:Int):=by omega
      have hq:=hu (e.n+(j:Int))
      have hE:=encTm_def c0
      rw [hE] at hq hat
      simp [h1,h2,h3,h6,h41,h42,hj,hw,hwn,hle,hat,hq,undT]
      rw [hI]
      exact ⟨rfl,rfl,by simp [h1'],by simp [h2],by simp [h3],by simp [hst],by simp [h41],by simp⟩
   ·rw [hI]
    rintro ⟨tm,df,clk⟩ σ' ⟨rfl,rfl,h1,h2,h3,h6,h41,h42⟩
    simp [h41,h42]
    rw [hR]
    exact ⟨rfl,rfl,rfl,by simp [h1],by simp [h2],by simp [h3],by simp [h6]⟩
   ·rw [hR]
    rintro ex ⟨tm,df,clk⟩ σ' ⟨rfl,rfl,rfl,h1,h2,h3,h6⟩
    simp [h1,h2,h3,h6]
end Go.Xe.YtlgknghehgmodaaGreatDoor
end
section
namespace Go.Xe.YtlgknghehgmodaaGreatDoor
open Go Go.Xe Go.Xt
variable {F:FuncId→Option TFun} {O:FuncId→List TV→Option TV}
structure LFits (F:FuncId→Option TFun) (O:FuncId→List TV→Option TV):Prop where
 u:UFits F
 w:WFits F O
 v:VFits F
 h82:F 82=some f1082
 h83:F 83=some f1083
 h84:F 84=some f1084
 h114:F 114=some f108
theorem less83_t (L:LFits F O) (N:Nat) (x y:PTerm) (r:List PTerm) (b:Nat) (σ:Sto) (po ver:Nat) (hat:σ.at po=some ⟨ver,.cells [.sl .fz ((y::r).map encTm)] 26⟩) (hN:szTm x≤N) (hx:OkTm x) (hy:OkTm y):
  tcall F O (N+1) b 83 [.agg (encTm x),.ptr po 0] σ=some (.ret (.bool (!sameTm x y)),σ):=by
 have h:=same84_t (O:=O) L.v L.h84 L.h114 N x y σ.length σ hN hx hy
 have hE:=encTm_def y
 have hE2:=encTm_def x
 rw [hE,hE2] at h
 refine tcall_pure L.h83 ?_
 simp [x1083,hat,hE,hE2,h]
def C28:List TV:=[.int .i64 0,.int .i64 0,.int .i64 0,.int .i64 0,.int .i64 0,.sl .nl [],.sl .nl [],.sl .nl []]
theorem bl1041_t {N b:Nat} (L:LFits F O) (e:PTerm) (he:OkTm e) (hkl:e.kids.length≤1000000) (hN:∀x∈e.kids,4*szTm x+100020≤N∧cntT x≤3000) (hN1:e.kids.length+20≤N) (a:TAct) (σ:Sto) (s2 po ver:Nat)
  (hdf:a.df=[]) (h1:a.tm.get 1=some (.bx 0 (encTm e) 28)) (h2:a.tm.get 2=some (.bx s2 C28 28)) (h3:a.tm.get 3=some (.ptr po 0)) (hat:σ.at po=some ⟨ver,.cells [.sl .fz (e.kids.map encTm)] 26⟩):
  Tw a1041 b (tcall F O N) N (fun ex a' σ'=>a'.df=[]∧σ'=σ∧((ex=.ret∧a'.tm.get 2=some (.bx s2 (encTm (cutT e)) 28))∨(ex=.normal∧cutT e=e∧a'.tm.get 1=some (.bx 0 (encTm e) 28)∧a'.tm.get 2=some (.bx s2 C28 28)))) [] (tcode a1041 b (tcall F O N) N bl1041 a σ):=by
 obtain ⟨tm,df,clk⟩:=a
 simp only at hdf h1 h2 h3
 subst hdf
 obtain ⟨N,rfl⟩:∃n,N=n+4:=⟨N - 4,by omega⟩
 have h1':=h1
 have h2':=h2
 rw [encTm_def] at h1
 unfold C28 at h2
 have ok:=he.sub
 unfold cutT
 by_cases k7:e.kind=7
 ·rw [if_pos k7]
  rcases hks:e.kids with _|⟨x,_|⟨y,_|⟨z,r⟩⟩⟩
  ·rw [hks] at hat h1
   simp [bl1041,h1,h2,h3,hat,k7,encTm_def e,hks,C28,undT]
  ·rw [hks] at hat h1
   simp [bl1041,h1,h2,h3,hat,k7,encTm_def e,hks,C28,undT]
  ·rw [hks] at hat h1
   have hmy:y∈e.kids:=by rw [hks];simp
   have hmx:x∈e.kids:=by rw [hks];simp
   have ny:=hN y hmy
   have nx:=hN x hmx
   have hs:=sure9_t (O:=O) L.u (szTm x) (N+4) x b σ (Nat.le_refl _) (by omega) (ok x hmx)
   have hE:=encTm_def x
   have hE2:=encTm_def y
   rw [hE] at hs
   simp [bl1041,h1,h2,h3,hat,k7,encTm_def e,hks,C28,undT]
   apply tw_bind
   ·apply us1041_t (N:=N+4) (σ:=σ) (po:=po) (ver:=ver) L.w e x y hks he (by omega) ny.2
    ·rfl
    ·simp [encTm_def e,hks,h1,k7]
    ·simp [h2];rfl
    ·simp [h3]
    ·simp
    ·exact hat
   rintro ex ⟨tm,df,clk⟩ σ' ⟨rfl,rfl,hdf,h1,h2,h3,h6⟩
   simp only at hdf h1 h2 h3 h6
   subst hdf
   rw [encTm_def,hks,k7] at h1
   cases hn:noneB e.n (limB e.m) y with
   |false=>
    rw [hn] at h6
    simp [h1,h2,h3,h6,hat,k7,encTm_def e,hks,C28,undT]
   |true=>
    rw [hn] at h6
    cases hsx:sureT x with
    |false=>
     rw [hsx] at hs
     simp [h1,h2,h3,h6,hat,hE,hE2,hs,k7,encTm_def e,hks,C28,undT]
    |true=>
     rw [hsx] at hs
     simp [h1,h2,h3,h6,hat,hE,hE2,hs,k7,encTm_def e,hks,C28,undT]
  ·rw [hks] at hat h1 hkl
   have hl:¬(r.length:Int)+1+1+1=2:=by omega
   simp [bl1041,h1,h2,h3,hat,k7,encTm_def e,hks,C28,undT,hl]
 rw [if_neg k7]
 by_cases k10:e.kind=10
 ·rw [if_pos k10]
  rcases hks:e.kids with _|⟨x,_|⟨y,_|⟨z,r⟩⟩⟩
  ·rw [hks] at hat h1
   simp [bl1041,h1,h2,h3,hat,k10,encTm_def e,hks,C28,undT]
  ·rw [hks] at hat h1
   simp [bl1041,h1,h2,h3,hat,k10,encTm_def e,hks,C28,undT]
  ·have hh:=holds82_t (O:=O) L.h82 (N+3) x b σ
   rw [show N+3+1=N+4 from rfl] at hh
   rw [hks] at hat h1
   have hE:=encTm_def x
   have hE2:=encTm_def y
   rw [hE] at hh
   by_cases q1:x.kind=1
   ·by_cases q2:x.val.n=0
    ·rw [q1,q2] at hh
     simp [bl1041,h1,h2,h3,hat,k10,encTm_def e,hks,C28,undT,hE,hE2,hh,q1,q2]
    ·rw [q1] at hh
     simp [bl1041,h1,h2,h3,hat,k10,encTm_def e,hks,C28,undT,hE,hE2,hh,q1,q2]
   ·simp [bl1041,h1,h2,h3,hat,k10,encTm_def e,hks,C28,undT,hE,hE2,hh,q1]
  ·rw [hks] at hat h1 hkl
   have hl:¬(r.length:Int)+1+1+1=2:=by omega
   simp [bl1041,h1,h2,h3,hat,k10,encTm_def e,hks,C28,undT,hl]
 rw [if_neg k10]
 by_cases k11:e.kind=11
 ·rw [if_pos k11]
  have hev:=even31_t (O:=O) L.u.h31 (N+3) e b σ
  rw [show N+3+1=N+4 from rfl] at hev
  rw [encTm_def] at hev
  rcases hks:e.kids with _|⟨x,_|⟨y,r⟩⟩
  ·rw [hks] at hat h1
   simp [bl1041,h1,h2,h3,hat,k11,encTm_def e,hks,C28,undT]
  ·rw [hks] at hat h1 hev
   have hE:=encTm_def x
   rw [k11] at hev
   simp only [List.map_cons,List.map_nil,hE] at hev
   cases hb:evenB e.odds with
   |false=>
    rw [hb] at hev
    simp [bl1041,h1,h2,h3,hat,hE,hev,k11,encTm_def e,hks,C28,undT]
   |true=>
    rw [hb] at hev
    simp [bl1041,h1,h2,h3,hat,hE,hev,k11,encTm_def e,hks,C28,undT]
  ·rw [hks] at hat h1
   have hl:¬(r.length:Int)+1+1=1:=by omega
   simp [bl1041,h1,h2,h3,hat,k11,encTm_def e,hks,C28,undT,hl]
 rw [if_neg k11]
 by_cases k12:e.kind=12
 ·rw [if_pos k12]
  rcases hks:e.kids with _|⟨x,r⟩
  ·rw [hks] at hat h1
   simp [bl1041,h1,h2,h3,hat,k12,encTm_def e,hks,C28,undT]
  ·have hany:=anyTm (O:=O) L.u.h33 L.u.h73 83 [.ptr po 0] (N+2) (fun k=> !sameTm k x) b σ e.kids he.len (by omega) (fun y hy b=>by
    rw [hks] at hat
    exact less83_t L (N+1) y x r b σ po ver hat (by have:=hN y hy;omega) (ok y hy) (ok x (by rw [hks];simp)))
   rw [show N+2+2=N+4 from rfl] at hany
   rw [hks] at hat h1 hany
   have hE:=encTm_def x
   have hab:=alikeB_any x r
   simp only [List.map_cons,hE] at hany
   cases hb:alikeB (x::r) with
   |false=>
    rw [hb] at hab
    have hab2:((x::r).any fun k=> !sameTm k x)=true:=by
     cases hq:((x::r).any fun k=> !sameTm k x) with
     |true=>rfl
     |false=>rw [hq] at hab;cases hab
    rw [hab2] at hany
    simp [bl1041,h1,h2,h3,hat,hE,hany,k12,encTm_def e,hks,C28,undT,hb]
   |true=>
    rw [hb] at hab
    have hab2:((x::r).any fun k=> !sameTm k x)=false:=by
     cases hq:((x::r).any fun k=> !sameTm k x) with
     |false=>rfl
     |true=>rw [hq] at hab;cases hab
    rw [hab2] at hany
    simp [bl1041,h1,h2,h3,hat,hE,hany,k12,encTm_def e,hks,C28,undT,hb]
 rw [if_neg k12]
 by_cases k8:e.kind=8
 ·rw [if_pos k8]
  rcases hks:e.kids with _|⟨x,_|⟨y,_|⟨z,_|⟨q,r⟩⟩⟩⟩
  ·rw [hks] at hat h1
   simp [bl1041,h1,h2,h3,hat,k8,encTm_def e,hks,C28,undT]
  ·rw [hks] at hat h1
   simp [bl1041,h1,h2,h3,hat,k8,encTm_def e,hks,C28,undT]
  ·rw [hks] at hat h1
   simp [bl1041,h1,h2,h3,hat,k8,encTm_def e,hks,C28,undT]
  ·have hmx:x∈e.kids:=by rw [hks];simp
   have hmy:y∈e.kids:=by rw [hks];simp
   have hmz:z∈e.kids:=by rw [hks];simp
   have nx:=hN x hmx
   have ny:=hN y hmy
   have hh:=holds82_t (O:=O) L.h82 (N+3) x b σ
   rw [show N+3+1=N+4 from rfl] at hh
   have hs:=sure9_t (O:=O) L.u (szTm x) (N+4) x b σ (Nat.le_refl _) (by omega) (ok x hmx)
   have hsm:=same84_t (O:=O) L.v L.h84 L.h114 (N+4) y z b σ (by omega) (ok y hmy) (ok z hmz)
   rw [hks] at hat h1
   have hE:=encTm_def x
   have hE2:=encTm_def y
   have hE3:=encTm_def z
   rw [hE] at hh hs
   rw [hE2,hE3] at hsm
   by_cases q1:x.kind=1
   ·by_cases q2:x.val.n=0
    ·rw [q1,q2] at hh
     simp [bl1041,h1,h2,h3,hat,k8,encTm_def e,hks,C28,undT,hE,hE2,hE3,hh,q1,q2]
    ·rw [q1] at hh
     simp [bl1041,h1,h2,h3,hat,k8,encTm_def e,hks,C28,undT,hE,hE2,hE3,hh,q1,q2]
   ·cases hsx:sureT x with
    |false=>
     rw [hsx] at hs
     simp [bl1041,h1,h2,h3,hat,k8,encTm_def e,hks,C28,undT,hE,hE2,hE3,hh,q1,hs,hsx]
    |true=>
     rw [hsx] at hs
     cases hss:sameTm y z with
     |false=>
      rw [hss] at hsm
      simp [bl1041,h1,h2,h3,hat,k8,encTm_def e,hks,C28,undT,hE,hE2,hE3,hh,q1,hs,hsm,hsx,hss]
     |true=>
      rw [hss] at hsm
      simp [bl1041,h1,h2,h3,hat,k8,encTm_def e,hks,C28,undT,hE,hE2,hE3,hh,q1,hs,hsm,hsx,hss]
  ·rw [hks] at hat h1
   have hl:¬(r.length:Int)+1+1+1+1=3:=by omega
   simp [bl1041,h1,h2,h3,hat,k8,encTm_def e,hks,C28,undT,hl]
 rw [if_neg k8]
 simp [bl1041,h1,h2,h3,hat,k7,k10,k11,k12,k8,encTm_def e,C28,undT]
end Go.Xe.YtlgknghehgmodaaGreatDoor
end
section
namespace Go.Xe.YtlgknghehgmodaaGreatDoor
open Go Go.Xe Go.Xt
variable {F:FuncId→Option TFun} {O:FuncId→List TV→Option TV}
theorem cutT_or (t:PTerm):cutT t=t∨cutT t∈t.kids:=by
 unfold cutT
 repeat' split
 all_goals first|exact .inl rfl|skip
 all_goals rename_i h
 all_goals first|(right;simp_all;done)|simp_all
theorem cutT_prop {P:PTerm→Prop} (t:PTerm) (h:P t) (hk:∀x∈t.kids,P x):P (cutT t):=by
 rcases cutT_or t with h1|h1
 ·rw [h1];exact h
 ·exact hk _ h1
theorem szTms_map {f:PTerm→PTerm}:∀l:List PTerm,(∀x∈l,szTm (f x)≤szTm x)→szTms (l.map f)≤szTms l
 |[],_=>Nat.le_refl _
 |x::l,h=>by
  have:=szTms_map l fun y hy=>h y (by simp [hy])
  have:=h x (by simp)
  simp only [List.map_cons,szTms];omega
theorem cntTs_map {f:PTerm→PTerm}:∀l:List PTerm,(∀x∈l,cntT (f x)≤cntT x)→cntTs (l.map f)≤cntTs l
 |[],_=>Nat.le_refl _
 |x::l,h=>by
  have:=cntTs_map l fun y hy=>h y (by simp [hy])
  have:=h x (by simp)
  simp only [List.map_cons,cntTs];omega
theorem less_keeps:∀(n:Nat) (e:PTerm),szTm e≤n→szTm (lessT e)≤szTm e∧cntT (lessT e)≤cntT e∧(OkTm e→OkTm (lessT e))∧∀B,Lt B e→Lt B (lessT e)
 |0,e,h=>by rw [szTm_def] at h;omega
 |n+1,e,h=>by
  have hs:=szTm_def e
  have ih:∀x∈e.kids,_:=fun x hx=>less_keeps n x (by have:=szTms_mem _ _ hx;omega)
  have h1:=szTms_map (f:=lessT) e.kids fun x hx=>(ih x hx).1
  have h2:=cntTs_map (f:=lessT) e.kids fun x hx=>(ih x hx).2.1
  have hkid:∀{x},x∈e.kids.map lessT→∃y∈e.kids,lessT y=x:=fun hx=>by
   obtain ⟨y,hy,rfl⟩:=List.mem_map.1 hx;exact ⟨y,hy,rfl⟩
  rw [lessT_def]
  refine ⟨?_,?_,fun ok=> ?_,fun B hl=> ?_⟩
  ·refine cutT_prop (P:=fun x=>szTm x≤szTm e) _ ?_ fun x hx=> ?_
   ·show szTm _≤_;rw [szTm_def];simp only [PTerm.kids,PTerm.val,PTerm.odds];simp only [PTerm.kids,PTerm.val,PTerm.odds] at hs h1;omega
   ·have:=szTms_mem (e.kids.map lessT) x hx;show szTm _≤_;omega
  ·refine cutT_prop (P:=fun x=>cntT x≤cntT e) _ ?_ fun x hx=> ?_
   ·show cntT _≤_;rw [cntT_def,cntT_def e];simp only [PTerm.kids] at h2 ⊢;omega
   ·have:=cntTs_mem (e.kids.map lessT) x hx;show cntT _≤_;rw [cntT_def e];omega
  ·refine cutT_prop (P:=OkTm) _ (.mk ok.kind ok.n ok.m ok.val ok.olen ok.odds (by rw [List.length_map];exact ok.len) fun x hx=> ?_) fun x hx=> ?_
   ·obtain ⟨y,hy,rfl⟩:=hkid hx;exact (ih y hy).2.2.1 (ok.sub y hy)
   ·obtain ⟨y,hy,rfl⟩:=hkid hx;exact (ih y hy).2.2.1 (ok.sub y hy)
  ·refine cutT_prop (P:=Lt B) _ (.mk hl.val hl.odds fun x hx=> ?_) fun x hx=> ?_
   ·obtain ⟨y,hy,rfl⟩:=hkid hx;exact (ih y hy).2.2.2 B (hl.sub y hy)
   ·obtain ⟨y,hy,rfl⟩:=hkid hx;exact (ih y hy).2.2.2 B (hl.sub y hy)
theorem bl0_t {N b:Nat} (e:PTerm) (hks:e.kids=[]) (a:TAct) (σ:Sto) (s2 po ver:Nat)
  (hdf:a.df=[]) (h1:a.tm.get 1=some (.bx 0 [.int .i64 e.kind,.int .i64 e.n,.int .i64 e.m,.int .i64 e.val.kind,.int .i64 e.val.n,.sl .fz (e.val.list.map encV),.sl .fz (e.odds.map encI),.sl .nl []] 28)) (h2:a.tm.get 2=some (.bx s2 C28 28)) (h3:a.tm.get 3=some (.ptr po 0)) (hat:σ.at po=some ⟨ver,.cells [.sl .nl []] 26⟩):
  Tw a1041 b (tcall F O N) N (fun ex a' σ'=>a'.df=[]∧σ'=σ∧ex=.normal∧cutT e=e∧a'.tm.get 1=some (.bx 0 [.int .i64 e.kind,.int .i64 e.n,.int .i64 e.m,.int .i64 e.val.kind,.int .i64 e.val.n,.sl .fz (e.val.list.map encV),.sl .fz (e.odds.map encI),.sl .nl []] 28)∧a'.tm.get 2=some (.bx s2 C28 28)) [] (tcode a1041 b (tcall F O N) N bl1041 a σ):=by
 obtain ⟨tm,df,clk⟩:=a
 simp only at hdf h1 h2 h3
 subst hdf
 unfold C28 at*
 unfold cutT
 rw [hks]
 by_cases k7:e.kind=7
 ·simp [bl1041,h1,h2,h3,hat,k7,undT]
 by_cases k10:e.kind=10
 ·simp [bl1041,h1,h2,h3,hat,k10,undT]
 by_cases k11:e.kind=11
 ·simp [bl1041,h1,h2,h3,hat,k11,undT]
 by_cases k12:e.kind=12
 ·simp [bl1041,h1,h2,h3,hat,k12,undT]
 by_cases k8:e.kind=8
 ·simp [bl1041,h1,h2,h3,hat,k8,undT]
 simp [bl1041,h1,h2,h3,hat,k7,k10,k11,k12,k8,undT]
end Go.Xe.YtlgknghehgmodaaGreatDoor
end
section
namespace Go.Xe.YtlgknghehgmodaaGreatDoor
open Go Go.Xe Go.Xt
variable {F:FuncId→Option TFun} {O:FuncId→List TV→Option TV}
theorem less41_t (h41:F 41=some f1041) (L:LFits F O):∀(M N:Nat) (e:PTerm) (b:Nat) (σ:Sto),szTm e≤M→5*M+100100≤N→OkTm e→cntT e≤3000→
  tcall F O N b 41 [.agg (encTm e)] σ=some (.ret (.agg (encTm (lessT e))),σ)
 |0,N,e,b,σ,h,_,_,_=>by rw [szTm_def] at h;omega
 |M+1,N,e,b,σ,h,hN,he,hc=>by
  have ih:=less41_t h41 L M
  have hs:=szTm_def e
  have hcd:=cntT_def e
  have hkl:e.kids.length≤cntTs e.kids:=by
   generalize e.kids=l
   induction l with
   |nil=>exact Nat.le_refl _
   |cons x l ihl=>simp only [cntTs,List.length_cons];have:=cntT_def x;omega
  obtain ⟨N,rfl⟩:∃n,N=n+1:=⟨N - 1,by omega⟩
  obtain ⟨σ0,hσ0⟩:∃σ0,σ0=σ++[some (⟨0,.cells [.sl .nl []] 26⟩:TObj)]:=⟨_,rfl⟩
  have hat0:σ0.at σ.length=some ⟨0,.cells [.sl .nl []] 26⟩:=by rw [hσ0];exact at_new _ _
  have hl0:σ0.length=σ.length+1:=by rw [hσ0];simp
  suffices hh:∃r σ',tcall F O (N+1) b 41 [.agg (encTm e)] σ=some (r,σ')∧r=.ret (.agg (encTm (lessT e)))∧σ'=σ by
   obtain ⟨r,σ',q1,rfl,rfl⟩:=hh
   exact q1
  refine tcall_of h41 ?_
  simp [x1041_cut,encTm_def e,←hσ0]
  apply tw_bind
  ·apply lp1041_t (po:=σ.length) (σ:=σ0) (C1:=encTm e) (C2:=C28) e he (by omega) (by omega)
   ·exact Nat.le_refl _
   ·rfl
   ·exact fun x hx b σ=>ih N x b σ (by have:=szTms_mem _ _ hx;omega) (by omega) (he.sub x hx) (by have:=cntTs_mem _ _ hx;omega)
   ·rfl
   ·simp [encTm_def e]
   ·simp [C28];rfl
   ·simp
   ·exact ⟨0,hat0⟩
  rintro ex ⟨tm,df,clk⟩ σ1 ⟨rfl,hdf,h1,h2,h3,ver,v,hB,rfl⟩
  simp only at hdf h1 h2 h3
  subst hdf
  have hat:∀o:TObj,Sto.at (σ0.set σ.length (some o)) σ.length=some o:=fun o=>at_set (by omega) _
  have htk:∀o:Option TObj,(σ0.set σ.length o).take σ.length=σ:=fun o=>by
   rw [List.take_set_of_le (Nat.le_refl _),hσ0];simp
  have htk2:∀o o':Option TObj,((σ0.set σ.length o).set σ.length o').take σ.length=σ:=fun o o'=>by
   rw [List.take_set_of_le (Nat.le_refl _),htk]
  obtain ⟨e',he'⟩:∃e',e'=PTerm.mk e.kind e.n e.m e.val e.odds (e.kids.map lessT):=⟨_,rfl⟩
  have hle:lessT e=cutT e':=by rw [he'];exact lessT_def e
  rw [hle]
  have hok':OkTm e':=by
   rw [he']
   exact .mk he.kind he.n he.m he.val he.olen he.odds (by rw [List.length_map];exact he.len) fun x hx=>by
    obtain ⟨y,hy,rfl⟩:=List.mem_map.1 hx;exact (less_keeps _ y (Nat.le_refl _)).2.2.1 (he.sub y hy)
  have hks':e'.kids=e.kids.map lessT:=by rw [he'];rfl
  have f1:e'.kind=e.kind:=by rw [he'];rfl
  have f2:e'.n=e.n:=by rw [he'];rfl
  have f3:e'.m=e.m:=by rw [he'];rfl
  have f4:e'.val=e.val:=by rw [he'];rfl
  have f5:e'.odds=e.odds:=by rw [he'];rfl
  have hN':∀x∈e'.kids,4*szTm x+100020≤N∧cntT x≤3000:=fun x hx=>by
   rw [hks'] at hx
   obtain ⟨y,hy,rfl⟩:=List.mem_map.1 hx
   have:=less_keeps _ y (Nat.le_refl _)
   have:=szTms_mem _ _ hy
   have:=cntTs_mem _ _ hy
   omega
  rw [←hks'] at hB
  have hkl':e'.kids.length≤1000000:=by rw [hks',List.length_map];omega
  have hkl2:e'.kids.length+20≤N:=by rw [hks',List.length_map];have:=szTms_len e.kids;omega
  clear hks' hle he'
  rw [encTm_def,←f1,←f2,←f3,←f4,←f5] at h1
  unfold C28 at h2
  generalize hks:e'.kids=ks at hB
  rcases hB with _|_
  ·simp [h1,h2,h3,hat]
   apply tw_bind
   ·apply bl0_t (po:=σ.length) (s2:=_) e' hks
    ·rfl
    ·simp
    ·simp [h2,C28];rfl
    ·simp [h3]
    ·exact hat _
   rintro ex ⟨tm,df,clk⟩ σ2 ⟨hdf,rfl,rfl,hct,h1,h2⟩
   simp only at hdf h1 h2
   subst hdf
   rw [hct]
   unfold C28 at h2
   simp [h1,h2,encTm_def e',hks,htk,htk2]
  ·rw [←hks]
   simp [h1,h2,h3,hat]
   apply tw_bind
   ·apply bl1041_t (po:=σ.length) (s2:=_) L e' hok' hkl' hN' hkl2
    ·rfl
    ·simp [encTm_def e']
    ·simp [h2,C28];rfl
    ·simp [h3]
    ·exact hat _
   rintro ex ⟨tm,df,clk⟩ σ2 ⟨hdf,rfl,hq⟩
   simp only at hdf hq
   subst hdf
   rcases hq with ⟨rfl,h2⟩|⟨rfl,hct,h1,h2⟩
   ·rw [encTm_def] at h2
    simp [h2,encTm_def (cutT e'),htk]
   ·rw [hct]
    rw [encTm_def] at h1
    unfold C28 at h2
    simp [h1,h2,encTm_def e',htk]
end Go.Xe.YtlgknghehgmodaaGreatDoor
end
section
namespace Go.Xe.YtlgknghehgmodaaGreatDoor
open Go Go.Xe Go.Xt
variable {F:FuncId→Option TFun} {O:FuncId→List TV→Option TV}
theorem term14_t (h14:F 14=some f1014) (h40:F 40=some f1040) (h41:F 41=some f1041) (h80:F 80=some f1080) (h111:F 111=some f1111) (L:LFits F O) (N:Nat) (e:PTerm) (b:Nat) (σ:Sto) (hN:5*szTm e+100100≤N) (he:OkTm e) (hc:cntT e≤3000) (hl:Lt 1000000 e):
  tcall F O (N+1) b 14 [.agg (encTm e)] σ=some (.ret (.agg (encTm (lessT e))),σ):=by
 have hk:=less_keeps _ e (Nat.le_refl _)
 have h1:=less41_t h41 L (szTm e) N e σ.length σ (Nat.le_refl _) hN he hc
 have h2:=own40_t (O:=O) h40 h80 h111 L.w.h81 N (lessT e) σ.length σ (by omega) (hk.2.2.1 he) (by omega) (hk.2.2.2 _ hl)
 generalize lessT e=y at h1 h2
 rw [encTm_def e,encTm_def y] at h1
 rw [encTm_def y] at h2
 refine tcall_pure h14 ?_
 simp [x1014,encTm_def,h1,h2]
end Go.Xe.YtlgknghehgmodaaGreatDoor
end
section
namespace Go.Xe.YtlgknghehgmodaaGreatDoor
open Go Go.Xe Go.Xt
variable {F:FuncId→Option TFun} {O:FuncId→List TV→Option TV}
def encTo (t:PTerm) (oc:TV):List TV:=[.int .i64 t.kind,.int .i64 t.n,.int .i64 t.m,.int .i64 t.val.kind,.int .i64 t.val.n,.sl .fz (t.val.list.map encV),oc,.sl .fz (t.kids.map encTm)]
theorem even35n_t (hF:F 35=some f1035) (N:Nat) (b:Nat) (σ:Sto):tcall F O (N+1) b 35 [.sl .nl []] σ=some (.ret (.bool false),σ):=by
 refine tcall_pure hF ?_
 simp [x1035,undT]
theorem alike44n_t (h44:F 44=some f1044) (N:Nat) (b:Nat) (σ:Sto) (hN:1<N):tcall F O (N+1) b 44 [.sl .nl []] σ=some (.ret (.bool false),σ):=by
 refine tcall_pure h44 ?_
 simp [x1044]
 refine tw_loop (fun j a σ'=>j=0∧a.df=[]∧σ'=σ∧a.tm.get 0=some (.sl .nl [])∧a.tm.get 3=some (.int .i64 1)) 0 (fun ex a σ'=>ex=.exit 0∧a.df=[]∧σ'=σ∧a.tm.get 0=some (.sl .nl [])) ?_ (by omega) ?_ ?_ ?_
 ·exact ⟨rfl,rfl,rfl,by simp,by simp⟩
 ·intro j a σ' hj;omega
 ·rintro ⟨tm,df,clk⟩ σ' ⟨_,rfl,rfl,h0,h3⟩
  simp [h0,h3]
 ·rintro ex ⟨tm,df,clk⟩ σ' ⟨rfl,rfl,rfl,h0⟩
  simp [h0]
theorem unused42n_t (U:WFits F O) (h42:F 42=some f1042) (N:Nat) (e:PTerm) (b:Nat) (σ:Sto) (h2:1<e.kids.length) (he:OkTm e) (hc:∀x∈e.kids,szTm x+20013≤N∧cntT x≤3000):
  tcall F O (N+1) b 42 [.agg (encTo e (.sl .nl []))] σ=some (.ret (.bool (noneB e.n (limB e.m) e.kids[1])),σ):=by
 have hm:=List.getElem_mem h2
 have hcc:=hc _ hm
 obtain ⟨N,rfl⟩:∃n,N=n+1:=⟨N - 1,by omega⟩
 refine tcall_pure h42 ?_
 have hu:=fun s=>used12_t U N e.kids[1] s σ.length σ (by omega) (he.sub _ hm) hcc.2
 have hn:=he.n
 unfold I64 at hn
 have hmI:=he.m
 unfold I64 at hmI
 have hkk:=limB_le e.m
 obtain ⟨c,hcE⟩:∃c,c=e.kids[1]:=⟨_,rfl⟩
 simp only [←hcE] at hu ⊢
 have hkid:∀j (hj:j<e.kids.length),j=1→e.kids[j]=c:=fun j hj h=>by subst h;exact hcE.symm
 simp [x1042,encTo]
 obtain ⟨I,hI⟩:∃I:Nat→TAct→Sto→Prop,I=(fun j a σ'=>a.df=[]∧σ'=σ∧(∀s∈slotsB e.n j,s∉refF c)∧a.tm.get 1=some (.bx 0 (encTo e (.sl .nl [])) 28)∧a.tm.get 3=some (.int .i64 j)):=⟨_,rfl⟩
 obtain ⟨R,hR⟩:∃R:TEx→TAct→Sto→Prop,R=(fun ex a σ'=>a.df=[]∧σ'=σ∧(ex=.exit 0∧noneB e.n (limB e.m) c=true∨ex=.ret∧noneB e.n (limB e.m) c=false∧a.tm.get 2=some (.bool false))):=⟨_,rfl⟩
 refine tw_loop I (limB e.m) R ?_ (by omega) ?_ ?_ ?_
 ·rw [hI]
  exact ⟨rfl,rfl,by simp [slotsB],by simp [encTo],by simp⟩
 ·rw [hI]
  rintro j ⟨tm,df,clk⟩ σ' hj ⟨rfl,rfl,ha,h1,h3⟩
  rw [←hI]
  have hw:=wrapJ (n:=5) (j:=j) (by omega) (by unfold maxLen;omega)
  have hjm:(j:Int)<e.m:=by unfold limB at hj;omega
  have hj4:(j:Int)<4:=by omega
  have hwm:IntKind.i64.wrap (9223372036854775807 - (j:Int))=9223372036854775807 - (j:Int):=by rw [wrap_in]<;>omega
  have h1':=h1
  unfold encTo at h1
  by_cases hov:e.n≤9223372036854775807 - (j:Int)
  case neg=>
   simp [h1,h3,hjm,hj4,hwm,hov]
   rw [hR]
   refine ⟨rfl,rfl,.inl ⟨rfl,decide_eq_true ?_⟩⟩
   rw [slots_stop (j:=j) (by omega) (limB e.m) (by omega)]
   exact ha
  have hwn:IntKind.i64.wrap (e.n+(j:Int))=e.n+(j:Int):=by rw [wrap_in]<;>omega
  have hq:=hu (e.n+(j:Int))
  have hsl:slotsB e.n (j+1)=slotsB e.n j++[e.n+(j:Int)]:=by simp only [slotsB];rw [if_pos (by omega)]
  rw [encTm_def] at hq
  cases hs:usedT c (e.n+(j:Int)) with
  |true=>
   rw [hs] at hq
   simp [h1,h3,hjm,hj4,hwm,hov,h2,hkid,encTm_def c,hwn,hq]
   rw [hR]
   refine ⟨rfl,rfl,.inr ⟨rfl,decide_eq_false fun h=> ?_,by simp⟩⟩
   exact h _ (slots_mono (j:=j+1) (by rw [hsl];simp) (by omega)) (of_decide_eq_true hs)
  |false=>
   rw [hs] at hq
   simp [h1,h3,hjm,hj4,hwm,hov,h2,hkid,encTm_def c,hwn,hq,hw]
   rw [hI]
   refine ⟨rfl,rfl,fun s h=> ?_,by simp [h1'],by simp⟩
   rw [hsl,List.mem_append] at h
   rcases h with h|h
   ·exact ha s h
   ·cases List.mem_singleton.1 h
    exact of_decide_eq_false hs
 ·rw [hI]
  rintro ⟨tm,df,clk⟩ σ' ⟨rfl,rfl,ha,h1,h3⟩
  unfold encTo at h1
  by_cases hjm:((limB e.m:Nat):Int)<e.m
  ·have hj4:¬((limB e.m:Nat):Int)<4:=by unfold limB at hjm ⊢;omega
   simp [h1,h3,hjm,hj4]
   rw [hR]
   exact ⟨rfl,rfl,.inl ⟨rfl,decide_eq_true ha⟩⟩
  ·simp [h1,h3,hjm]
   rw [hR]
   exact ⟨rfl,rfl,.inl ⟨rfl,decide_eq_true ha⟩⟩
 ·rw [hR]
  rintro ex ⟨tm,df,clk⟩ σ' ⟨rfl,rfl,⟨rfl,h⟩|⟨rfl,h,h6⟩⟩
  ·simp [h]
  ·simp [h,h6]
end Go.Xe.YtlgknghehgmodaaGreatDoor
end
section
namespace Go.Xe.YtlgknghehgmodaaGreatDoor
open Go Go.Xe Go.Xt
variable {F:FuncId→Option TFun} {O:FuncId→List TV→Option TV}
def bl1015:XCode:=.seq (.region [⟨some 28,.addr 0 (.tmp 1),none⟩,⟨some 29,.load1 (.tmp 28),none⟩,⟨some 30,.bin .eql (.tmp 29) (.const (.int .i64 7)),none⟩,⟨some 31,.move (.tmp 30),none⟩,⟨some 32,.move (.tmp 3),(some (31,true))⟩,⟨some 33,.lenSlice (.tmp 32),(some (31,true))⟩,⟨some 34,.bin .eql (.tmp 33) (.const (.int .i64 2)),(some (31,true))⟩,⟨some 35,.pick (.tmp 31) (.tmp 34) (.const (.bool false)),none⟩,⟨some 36,.move (.tmp 35),none⟩,⟨some 37,.move (.tmp 3),(some (36,true))⟩,⟨some 38,.indexAddr 8 (.tmp 37) (.const (.int .i64 0)),(some (36,true))⟩,⟨some 39,.loadN 8 (.tmp 38),(some (36,true))⟩,⟨some 40,.call 10 [(.tmp 39)],(some (36,true))⟩,⟨some 41,.pick (.tmp 36) (.tmp 40) (.const (.bool false)),none⟩,⟨some 42,.move (.tmp 41),none⟩,⟨some 43,.loadN 8 (.tmp 1),(some (42,true))⟩,⟨some 44,.call 42 [(.tmp 43)],(some (42,true))⟩,⟨some 45,.pick (.tmp 42) (.tmp 44) (.const (.bool false)),none⟩,⟨some 27,.move (.tmp 45),none⟩]) (.cond (.tmp 27) (.seq (.region [⟨some 46,.move (.tmp 3),none⟩,⟨some 47,.indexAddr 8 (.tmp 46) (.const (.int .i64 1)),none⟩,⟨some 48,.loadN 8 (.tmp 47),none⟩,⟨none,.store 8 (.tmp 2) (.tmp 48),none⟩]) .ret) (.seq (.region [⟨some 50,.addr 0 (.tmp 1),none⟩,⟨some 51,.load1 (.tmp 50),none⟩,⟨some 52,.bin .eql (.tmp 51) (.const (.int .i64 10)),none⟩,⟨some 53,.move (.tmp 52),none⟩,⟨some 54,.move (.tmp 3),(some (53,true))⟩,⟨some 55,.lenSlice (.tmp 54),(some (53,true))⟩,⟨some 56,.bin .eql (.tmp 55) (.const (.int .i64 2)),(some (53,true))⟩,⟨some 57,.pick (.tmp 53) (.tmp 56) (.const (.bool false)),none⟩,⟨some 58,.move (.tmp 57),none⟩,⟨some 59,.move (.tmp 3),(some (58,true))⟩,⟨some 60,.indexAddr 8 (.tmp 59) (.const (.int .i64 0)),(some (58,true))⟩,⟨some 61,.addr 0 (.tmp 60),(some (58,true))⟩,⟨some 62,.load1 (.tmp 61),(some (58,true))⟩,⟨some 63,.bin .eql (.tmp 62) (.const (.int .i64 1)),(some (58,true))⟩,⟨some 64,.pick (.tmp 58) (.tmp 63) (.const (.bool false)),none⟩,⟨some 65,.move (.tmp 64),none⟩,⟨some 66,.move (.tmp 3),(some (65,true))⟩,⟨some 67,.indexAddr 8 (.tmp 66) (.const (.int .i64 0)),(some (65,true))⟩,⟨some 68,.addr 3 (.tmp 67),(some (65,true))⟩,⟨some 69,.loadN 3 (.tmp 68),(some (65,true))⟩,⟨some 70,.call 43 [(.tmp 69)],(some (65,true))⟩,⟨some 71,.pick (.tmp 65) (.tmp 70) (.const (.bool false)),none⟩,⟨some 49,.move (.tmp 71),none⟩]) (.cond (.tmp 49) (.seq (.region [⟨some 72,.move (.tmp 3),none⟩,⟨some 73,.indexAddr 8 (.tmp 72) (.const (.int .i64 1)),none⟩,⟨some 74,.loadN 8 (.tmp 73),none⟩,⟨none,.store 8 (.tmp 2) (.tmp 74),none⟩]) .ret) (.seq (.region [⟨some 76,.addr 0 (.tmp 1),none⟩,⟨some 77,.load1 (.tmp 76),none⟩,⟨some 78,.bin .eql (.tmp 77) (.const (.int .i64 11)),none⟩,⟨some 79,.move (.tmp 78),none⟩,⟨some 80,.move (.tmp 3),(some (79,true))⟩,⟨some 81,.lenSlice (.tmp 80),(some (79,true))⟩,⟨some 82,.bin .eql (.tmp 81) (.const (.int .i64 1)),(some (79,true))⟩,⟨some 83,.pick (.tmp 79) (.tmp 82) (.const (.bool false)),none⟩,⟨some 84,.move (.tmp 83),none⟩,⟨some 85,.addr 6 (.tmp 1),(some (84,true))⟩,⟨some 86,.load1 (.tmp 85),(some (84,true))⟩,⟨some 87,.call 35 [(.tmp 86)],(some (84,true))⟩,⟨some 88,.pick (.tmp 84) (.tmp 87) (.const (.bool false)),none⟩,⟨some 75,.move (.tmp 88),none⟩]) (.cond (.tmp 75) (.seq (.region [⟨some 89,.move (.tmp 3),none⟩,⟨some 90,.indexAddr 8 (.tmp 89) (.const (.int .i64 0)),none⟩,⟨some 91,.loadN 8 (.tmp 90),none⟩,⟨none,.store 8 (.tmp 2) (.tmp 91),none⟩]) .ret) (.seq (.region [⟨some 93,.addr 0 (.tmp 1),none⟩,⟨some 94,.load1 (.tmp 93),none⟩,⟨some 95,.bin .eql (.tmp 94) (.const (.int .i64 12)),none⟩,⟨some 96,.move (.tmp 95),none⟩,⟨some 97,.move (.tmp 3),(some (96,true))⟩,⟨some 98,.call 44 [(.tmp 97)],(some (96,true))⟩,⟨some 99,.pick (.tmp 96) (.tmp 98) (.const (.bool false)),none⟩,⟨some 92,.move (.tmp 99),none⟩]) (.cond (.tmp 92) (.seq (.region [⟨some 100,.move (.tmp 3),none⟩,⟨some 101,.indexAddr 8 (.tmp 100) (.const (.int .i64 0)),none⟩,⟨some 102,.loadN 8 (.tmp 101),none⟩,⟨none,.store 8 (.tmp 2) (.tmp 102),none⟩]) .ret) (.seq (.region [⟨some 104,.addr 0 (.tmp 1),none⟩,⟨some 105,.load1 (.tmp 104),none⟩,⟨some 106,.bin .eql (.tmp 105) (.const (.int .i64 8)),none⟩,⟨some 107,.move (.tmp 106),none⟩,⟨some 108,.move (.tmp 3),(some (107,true))⟩,⟨some 109,.lenSlice (.tmp 108),(some (107,true))⟩,⟨some 110,.bin .eql (.tmp 109) (.const (.int .i64 3)),(some (107,true))⟩,⟨some 111,.pick (.tmp 107) (.tmp 110) (.const (.bool false)),none⟩,⟨some 103,.move (.tmp 111),none⟩]) (.cond (.tmp 103) (.seq (.seq (.region [⟨some 112,.move (.tmp 3),none⟩,⟨some 113,.indexAddr 8 (.tmp 112) (.const (.int .i64 0)),none⟩,⟨some 114,.addr 0 (.tmp 113),none⟩,⟨some 115,.load1 (.tmp 114),none⟩,⟨some 116,.bin .eql (.tmp 115) (.const (.int .i64 1)),none⟩]) (.cond (.tmp 116) (.seq (.seq (.region [⟨some 117,.move (.tmp 3),none⟩,⟨some 118,.indexAddr 8 (.tmp 117) (.const (.int .i64 0)),none⟩,⟨some 119,.addr 3 (.tmp 118),none⟩,⟨some 120,.loadN 3 (.tmp 119),none⟩,⟨some 121,.call 43 [(.tmp 120)],none⟩]) (.cond (.tmp 121) (.seq (.region [⟨some 122,.move (.tmp 3),none⟩,⟨some 123,.indexAddr 8 (.tmp 122) (.const (.int .i64 1)),none⟩,⟨some 124,.loadN 8 (.tmp 123),none⟩,⟨none,.store 8 (.tmp 2) (.tmp 124),none⟩]) .ret) .skip)) (.seq (.region [⟨some 125,.move (.tmp 3),none⟩,⟨some 126,.indexAddr 8 (.tmp 125) (.const (.int .i64 2)),none⟩,⟨some 127,.loadN 8 (.tmp 126),none⟩,⟨none,.store 8 (.tmp 2) (.tmp 127),none⟩]) .ret)) .skip)) (.seq (.regionD [⟨some 128,.move (.tmp 3),none⟩,⟨some 129,.indexAddr 8 (.tmp 128) (.const (.int .i64 0)),none⟩,⟨some 130,.loadN 8 (.tmp 129),none⟩,⟨some 131,.call 10 [(.tmp 130)],none⟩,⟨some 132,.move (.tmp 131),none⟩,⟨some 133,.move (.tmp 3),(some (132,true))⟩,⟨some 134,.indexAddr 8 (.tmp 133) (.const (.int .i64 1)),(some (132,true))⟩,⟨some 135,.loadN 8 (.tmp 134),(some (132,true))⟩,⟨some 136,.move (.tmp 3),(some (132,true))⟩,⟨some 137,.indexAddr 8 (.tmp 136) (.const (.int .i64 2)),(some (132,true))⟩,⟨some 138,.loadN 8 (.tmp 137),(some (132,true))⟩,⟨some 139,.call 45 [(.tmp 135),(.tmp 138)],(some (132,true))⟩,⟨some 140,.pick (.tmp 132) (.tmp 139) (.const (.bool false)),none⟩] []) (.cond (.tmp 140) (.seq (.region [⟨some 141,.move (.tmp 3),none⟩,⟨some 142,.indexAddr 8 (.tmp 141) (.const (.int .i64 1)),none⟩,⟨some 143,.loadN 8 (.tmp 142),none⟩,⟨none,.store 8 (.tmp 2) (.tmp 143),none⟩]) .ret) .skip))) .skip)))))))))
def lp1015:XCode:=.seq (.region [⟨some 4,.move (.const (.int .i64 0)),none⟩]) (.block 0 (.loop (.seq (.seq (.region [⟨some 5,.move (.tmp 4),none⟩,⟨some 6,.addr 7 (.tmp 1),none⟩,⟨some 7,.load1 (.tmp 6),none⟩,⟨some 8,.lenSlice (.tmp 7),none⟩,⟨some 9,.bin .lss (.tmp 5) (.tmp 8),none⟩]) (.cond (.tmp 9) .skip (.exit 0))) (.seq (.block 1 (.region [⟨some 12,.move (.tmp 3),none⟩,⟨some 13,.addr 7 (.tmp 1),none⟩,⟨some 14,.load1 (.tmp 13),none⟩,⟨some 15,.move (.tmp 4),none⟩,⟨some 16,.indexAddr 8 (.tmp 14) (.tmp 15),none⟩,⟨some 17,.loadN 8 (.tmp 16),none⟩,⟨some 18,.call 15 [(.tmp 17)],none⟩,⟨some 19,.buildSlice 28 8 [(.int .i64 0),(.int .i64 0),(.int .i64 0),(.int .i64 0),(.int .i64 0),(.slice none 0 0),(.slice none 0 0),(.slice none 0 0)] 1 [(0,8,(.tmp 18))],none⟩,⟨some 20,.append 28 8 112 (.tmp 12) (.tmp 19),none⟩,⟨some 3,.move (.tmp 20),none⟩])) (.region [⟨some 10,.move (.tmp 4),none⟩,⟨some 11,.bin .add (.tmp 10) (.const (.int .i64 1)),none⟩,⟨some 4,.move (.tmp 11),none⟩])))))
theorem x1015_cut:x1015=⟨145,[.cellN 2 8],.seq (.region [⟨some 1,.box 28 (.tmp 0),none⟩,⟨some 2,.alloc 28 [(.int .i64 0),(.int .i64 0),(.int .i64 0),(.int .i64 0),(.int .i64 0),(.slice none 0 0),(.slice none 0 0),(.slice none 0 0)],none⟩]) (.seq (.region [⟨some 3,.move (.const (.slice none 0 0)),none⟩]) (.seq lp1015 (.seq (.region [⟨some 21,.move (.tmp 3),none⟩,⟨some 22,.addr 7 (.tmp 1),none⟩,⟨none,.store 1 (.tmp 22) (.tmp 21),none⟩]) (.seq (.region [⟨some 23,.addr 6 (.tmp 1),none⟩,⟨some 24,.load1 (.tmp 23),none⟩,⟨some 25,.append 3 1 8 (.const (.slice none 0 0)) (.tmp 24),none⟩,⟨some 26,.addr 6 (.tmp 1),none⟩,⟨none,.store 1 (.tmp 26) (.tmp 25),none⟩]) (.seq (.block 2 bl1015) (.seq (.region [⟨some 144,.loadN 8 (.tmp 1),none⟩,⟨none,.store 8 (.tmp 2) (.tmp 144),none⟩]) .ret))))))⟩:=rfl
theorem lp1015_t {N b:Nat} (e:PTerm) (he:OkTm e) (hkl:e.kids.length≤1000000) (hN:e.kids.length<N) (a:TAct) (σ:Sto) (v2:TV)
  (hc:∀x∈e.kids,∀b σ,tcall F O N b 15 [.agg (encTm x)] σ=some (.ret (.agg (encTm (lessT x))),σ))
  (hdf:a.df=[]) (h1:a.tm.get 1=some (.bx 0 (encTm e) 28)) (h2:a.tm.get 2=some v2) (h3:a.tm.get 3=some (.sl .nl [])):
  Tw a1015 b (tcall F O N) N (fun ex a' σ'=>ex=.normal∧σ'=σ∧a'.df=[]∧a'.tm.get 1=some (.bx 0 (encTm e) 28)∧a'.tm.get 2=some v2∧∃v,Bld 28 8 encTm (e.kids.map lessT) v∧a'.tm.get 3=some v) [] (tcode a1015 b (tcall F O N) N lp1015 a σ):=by
 obtain ⟨tm,df,clk⟩:=a
 simp only at hdf h1 h2 h3
 subst hdf
 have h1':=h1
 rw [encTm_def] at h1
 simp [lp1015,h1]
 obtain ⟨I,hI⟩:∃I:Nat→TAct→Sto→Prop,I=(fun j a' σ'=>a'.df=[]∧σ'=σ∧a'.tm.get 1=some (.bx 0 (encTm e) 28)∧a'.tm.get 2=some v2∧(∃v,Bld 28 8 encTm ((e.kids.take j).map lessT) v∧a'.tm.get 3=some v)∧a'.tm.get 4=some (.int .i64 j)):=⟨_,rfl⟩
 obtain ⟨R,hR⟩:∃R:TEx→TAct→Sto→Prop,R=(fun ex a' σ'=>ex=.exit 0∧a'.df=[]∧σ'=σ∧a'.tm.get 1=some (.bx 0 (encTm e) 28)∧a'.tm.get 2=some v2∧∃v,Bld 28 8 encTm (e.kids.map lessT) v∧a'.tm.get 3=some v):=⟨_,rfl⟩
 refine tw_loop I e.kids.length R ?_ (by omega) ?_ ?_ ?_
 ·rw [hI]
  exact ⟨rfl,rfl,by simp [h1'],by simp [h2],⟨_,.nl,by simp [h3]⟩,by simp⟩
 ·rw [hI]
  rintro j ⟨tm,df,clk⟩ σ' hj ⟨rfl,rfl,h1,h2,⟨v,hB,h3⟩,h4⟩
  rw [←hI]
  have hw:=wrapJ hj he.len
  have hmem:=List.getElem_mem hj
  have hcc:=hc e.kids[j] hmem
  have hts:(e.kids.take (j+1)).map lessT=(e.kids.take j).map lessT++[lessT e.kids[j]]:=by rw [take_step hj,List.map_append];rfl
  have hlt:((e.kids.take j).map lessT).length≤1000000:=by rw [List.length_map,List.length_take];omega
  have hE:=encTm_def e.kids[j]
  have hE2:=encTm_def (lessT e.kids[j])
  have h1':=h1
  rw [encTm_def e] at h1
  generalize lessT e.kids[j]=y at hcc hts hE2
  rw [hE,hE2] at hcc
  generalize (e.kids.take j).map lessT=L at hB hts hlt
  rcases hB with _|_
  ·simp [h1,h2,h3,h4,hj,hcc,hw,hE,hE2]
   rw [hI]
   exact ⟨rfl,rfl,by simp [h1'],by simp [h2],⟨_,by rw [hts];exact .own _,by simp [hE2]⟩,by simp⟩
  ·have hlen3:L.length≤1073741823:=by omega
   simp [h1,h2,h3,h4,hj,hcc,hw,hE,hE2,hlen3]
   rw [hI]
   exact ⟨rfl,rfl,by simp [h1'],by simp [h2],⟨_,by rw [hts];exact .own _,by simp [hE2]⟩,by simp⟩
 ·rw [hI]
  rintro ⟨tm,df,clk⟩ σ' ⟨rfl,rfl,h1,h2,⟨v,hB,h3⟩,h4⟩
  rw [List.take_of_length_le (Nat.le_refl _)] at hB
  have h1':=h1
  rw [encTm_def e] at h1
  simp [h1,h4]
  rw [hR]
  exact ⟨rfl,rfl,rfl,by simp [h1'],by simp [h2],v,hB,by simp [h3]⟩
 ·rw [hR]
  rintro ex ⟨tm,df,clk⟩ σ' ⟨rfl,rfl,rfl,h1,h2,v,hB,h3⟩
  simp [h1,h2,h3,hB]
end Go.Xe.YtlgknghehgmodaaGreatDoor
end
section
namespace Go.Xe.YtlgknghehgmodaaGreatDoor
open Go Go.Xe Go.Xt
variable {F:FuncId→Option TFun} {O:FuncId→List TV→Option TV}
structure RFits (F:FuncId→Option TFun) (O:FuncId→List TV→Option TV):Prop where
 w:WFits F O
 v:VFits F
 h10:F 10=some f1010
 h35:F 35=some f1035
 h42:F 42=some f1042
 h43:F 43=some f1043
 h44:F 44=some f1044
 h45:F 45=some f65
set_option maxHeartbeats 4000000 in
theorem bl1015_t {N b:Nat} (L:RFits F O) (e:PTerm) (he:OkTm e) (hkl:e.kids.length≤1000000) (hN:∀x∈e.kids,szTm x+100020≤N∧cntT x≤3000) (hN1:e.kids.length+20≤N) (a:TAct) (σ:Sto) (s2:Nat) (oc:TV) (hoc:(oc=.sl .nl []∧e.odds=[])∨oc=.sl (.own 3 1) (e.odds.map encI))
  (hdf:a.df=[]) (h1:a.tm.get 1=some (.bx 0 (encTo e oc) 28)) (h2:a.tm.get 2=some (.bx s2 C28 28)) (h3:a.tm.get 3=some (.sl .fz (e.kids.map encTm))):
  Tw a1015 b (tcall F O N) N (fun ex a' σ'=>a'.df=[]∧σ'=σ∧((ex=.ret∧a'.tm.get 2=some (.bx s2 (encTm (cutT e)) 28))∨(ex=.normal∧cutT e=e∧(∃oc',(oc'=oc∨oc'=.sl .fz (e.odds.map encI))∧a'.tm.get 1=some (.bx 0 (encTo e oc') 28))∧a'.tm.get 2=some (.bx s2 C28 28)))) [] (tcode a1015 b (tcall F O N) N bl1015 a σ):=by
 obtain ⟨tm,df,clk⟩:=a
 simp only at hdf h1 h2 h3
 subst hdf
 obtain ⟨N,rfl⟩:∃n,N=n+4:=⟨N - 4,by omega⟩
 unfold encTo at h1
 unfold C28 at h2
 have ok:=he.sub
 unfold cutT
 by_cases kk:e.kind=7
 ·rw [if_pos kk]
  rcases hks:e.kids with _|⟨x,_|⟨y,_|⟨z,r⟩⟩⟩
  ·rw [hks] at h1
   rcases hoc with ⟨rfl,ho⟩|rfl
   ·simp [bl1015,h1,h2,h3,kk,hks,encTo,C28,undT]
   ·simp [bl1015,h1,h2,h3,kk,hks,encTo,C28,undT]
  ·rw [hks] at h1
   rcases hoc with ⟨rfl,ho⟩|rfl
   ·simp [bl1015,h1,h2,h3,kk,hks,encTo,C28,undT]
   ·simp [bl1015,h1,h2,h3,kk,hks,encTo,C28,undT]
  ·have hmx:x∈e.kids:=by rw [hks];simp
   have hl2:1<e.kids.length:=by rw [hks];simp
   have hs:=sure10_t (O:=O) L.h10 L.h35 (N+4) x b σ (by have:=hN x hmx;omega) (ok x hmx)
   have hu:=unused42_t (O:=O) L.w L.h42 (N+3) e b σ hl2 he (fun x hx=>by have:=hN x hx;omega)
   have hu2:=unused42n_t (O:=O) L.w L.h42 (N+3) e b σ hl2 he (fun x hx=>by have:=hN x hx;omega)
   have hk1:e.kids[1]=y:=by simp [hks]
   rw [show N+3+1=N+4 from rfl,hk1] at hu hu2
   rw [encTm_def,hks,kk] at hu
   unfold encTo at hu2
   rw [hks,kk] at hu2
   rw [hks] at h1 h3
   have hE:=encTm_def x
   have hE2:=encTm_def y
   simp only [List.map_cons,List.map_nil,hE,hE2] at hu hu2
   rw [hE] at hs
   cases hsx:sureT x with
   |false=>
    rw [hsx] at hs
    rcases hoc with ⟨rfl,ho⟩|rfl
    ·simp [bl1015,h1,h2,h3,kk,hks,encTo,C28,undT,hE,hE2,hs,hsx]
    ·simp [bl1015,h1,h2,h3,kk,hks,encTo,C28,undT,hE,hE2,hs,hsx]
   |true=>
    rw [hsx] at hs
    cases hn:noneB e.n (limB e.m) y with
    |false=>
     rw [hn] at hu hu2
     rcases hoc with ⟨rfl,ho⟩|rfl
     ·simp [bl1015,h1,h2,h3,kk,hks,encTo,C28,undT,hE,hE2,hs,hsx,hn,hu2]
     ·simp [bl1015,h1,h2,h3,kk,hks,encTo,C28,undT,hE,hE2,hs,hsx,hn,hu]
    |true=>
     rw [hn] at hu hu2
     rcases hoc with ⟨rfl,ho⟩|rfl
     ·simp [bl1015,h1,h2,h3,kk,hks,encTo,C28,undT,hE,hE2,hs,hsx,hn,hu2]
     ·simp [bl1015,h1,h2,h3,kk,hks,encTo,C28,undT,hE,hE2,hs,hsx,hn,hu]
  ·rw [hks] at h1
   have hl:¬(r.length:Int)+1+1+1=2:=by omega
   rcases hoc with ⟨rfl,ho⟩|rfl
   ·simp [bl1015,h1,h2,h3,kk,hks,encTo,C28,undT,hl]
   ·simp [bl1015,h1,h2,h3,kk,hks,encTo,C28,undT,hl]
 rw [if_neg kk]
 have k7:=kk
 clear kk
 by_cases kk:e.kind=10
 ·rw [if_pos kk]
  rcases hks:e.kids with _|⟨x,_|⟨y,_|⟨z,r⟩⟩⟩
  ·rw [hks] at h1
   rcases hoc with ⟨rfl,ho⟩|rfl
   ·simp [bl1015,h1,h2,h3,kk,hks,encTo,C28,undT]
   ·simp [bl1015,h1,h2,h3,kk,hks,encTo,C28,undT]
  ·rw [hks] at h1
   rcases hoc with ⟨rfl,ho⟩|rfl
   ·simp [bl1015,h1,h2,h3,kk,hks,encTo,C28,undT]
   ·simp [bl1015,h1,h2,h3,kk,hks,encTo,C28,undT]
  ·have hh:=holds43_t (O:=O) L.h43 (N+3) x.val b σ
   rw [show N+3+1=N+4 from rfl,encV_def] at hh
   rw [hks] at h1 h3
   have hE:=encTm_def x
   have hE2:=encTm_def y
   by_cases q1:x.kind=1
   ·by_cases q2:x.val.n=0
    ·rw [q2] at hh
     rcases hoc with ⟨rfl,ho⟩|rfl
     ·simp [bl1015,h1,h2,h3,kk,hks,encTo,C28,undT,hE,hE2,hh,q1,q2]
     ·simp [bl1015,h1,h2,h3,kk,hks,encTo,C28,undT,hE,hE2,hh,q1,q2]
    ·rcases hoc with ⟨rfl,ho⟩|rfl
     ·simp [bl1015,h1,h2,h3,kk,hks,encTo,C28,undT,hE,hE2,hh,q1,q2]
     ·simp [bl1015,h1,h2,h3,kk,hks,encTo,C28,undT,hE,hE2,hh,q1,q2]
   ·rcases hoc with ⟨rfl,ho⟩|rfl
    ·simp [bl1015,h1,h2,h3,kk,hks,encTo,C28,undT,hE,hE2,q1]
    ·simp [bl1015,h1,h2,h3,kk,hks,encTo,C28,undT,hE,hE2,q1]
  ·rw [hks] at h1
   have hl:¬(r.length:Int)+1+1+1=2:=by omega
   rcases hoc with ⟨rfl,ho⟩|rfl
   ·simp [bl1015,h1,h2,h3,kk,hks,encTo,C28,undT,hl]
   ·simp [bl1015,h1,h2,h3,kk,hks,encTo,C28,undT,hl]
 rw [if_neg kk]
 have k10:=kk
 clear kk
 by_cases kk:e.kind=11
 ·rw [if_pos kk]
  have hv:=even35_t (O:=O) L.h35 (N+3) e.odds b σ
  have hv2:=even35n_t (O:=O) L.h35 (N+3) b σ
  rw [show N+3+1=N+4 from rfl] at hv hv2
  rcases hks:e.kids with _|⟨x,_|⟨y,r⟩⟩
  ·rw [hks] at h1
   rcases hoc with ⟨rfl,ho⟩|rfl
   ·simp [bl1015,h1,h2,h3,kk,hks,encTo,C28,undT]
   ·simp [bl1015,h1,h2,h3,kk,hks,encTo,C28,undT]
  ·rw [hks] at h1 h3
   have hE:=encTm_def x
   cases hb:evenB e.odds with
   |false=>
    rw [hb] at hv
    rcases hoc with ⟨rfl,ho⟩|rfl
    ·simp [bl1015,h1,h2,h3,kk,hks,encTo,C28,undT,hE,hv2]
    ·simp [bl1015,h1,h2,h3,kk,hks,encTo,C28,undT,hE,hv]
   |true=>
    rw [hb] at hv
    rcases hoc with ⟨rfl,ho⟩|rfl
    ·rw [ho] at hb;cases hb
    ·simp [bl1015,h1,h2,h3,kk,hks,encTo,C28,undT,hE,hv]
  ·rw [hks] at h1
   have hl:¬(r.length:Int)+1+1=1:=by omega
   rcases hoc with ⟨rfl,ho⟩|rfl
   ·simp [bl1015,h1,h2,h3,kk,hks,encTo,C28,undT,hl]
   ·simp [bl1015,h1,h2,h3,kk,hks,encTo,C28,undT,hl]
 rw [if_neg kk]
 have k11:=kk
 clear kk
 by_cases kk:e.kind=12
 ·rw [if_pos kk]
  have hal:=alike44_t (O:=O) L.v L.h44 L.h45 (N+3) e.kids b σ he.len (by omega) (fun x hx=>⟨ok x hx,by have:=hN x hx;omega⟩)
  rw [show N+3+1=N+4 from rfl] at hal
  rcases hks:e.kids with _|⟨x,r⟩
  ·rw [hks] at h1 h3 hal
   have hal2:alikeB []=false:=rfl
   rw [hal2] at hal
   simp only [List.map_nil] at hal
   rcases hoc with ⟨rfl,ho⟩|rfl
   ·simp [bl1015,h1,h2,h3,kk,hks,encTo,C28,undT,hal]
   ·simp [bl1015,h1,h2,h3,kk,hks,encTo,C28,undT,hal]
  ·rw [hks] at h1 h3 hal
   have hE:=encTm_def x
   simp only [List.map_cons,hE] at hal
   cases hb:alikeB (x::r) with
   |false=>
    rw [hb] at hal
    rcases hoc with ⟨rfl,ho⟩|rfl
    ·simp [bl1015,h1,h2,h3,kk,hks,encTo,C28,undT,hE,hal,hb]
    ·simp [bl1015,h1,h2,h3,kk,hks,encTo,C28,undT,hE,hal,hb]
   |true=>
    rw [hb] at hal
    rcases hoc with ⟨rfl,ho⟩|rfl
    ·simp [bl1015,h1,h2,h3,kk,hks,encTo,C28,undT,hE,hal,hb]
    ·simp [bl1015,h1,h2,h3,kk,hks,encTo,C28,undT,hE,hal,hb]
 rw [if_neg kk]
 have k12:=kk
 clear kk
 by_cases kk:e.kind=8
 ·rw [if_pos kk]
  rcases hks:e.kids with _|⟨x,_|⟨y,_|⟨z,_|⟨q,r⟩⟩⟩⟩
  ·rw [hks] at h1
   rcases hoc with ⟨rfl,ho⟩|rfl
   ·simp [bl1015,h1,h2,h3,kk,hks,encTo,C28,undT]
   ·simp [bl1015,h1,h2,h3,kk,hks,encTo,C28,undT]
  ·rw [hks] at h1
   rcases hoc with ⟨rfl,ho⟩|rfl
   ·simp [bl1015,h1,h2,h3,kk,hks,encTo,C28,undT]
   ·simp [bl1015,h1,h2,h3,kk,hks,encTo,C28,undT]
  ·rw [hks] at h1
   rcases hoc with ⟨rfl,ho⟩|rfl
   ·simp [bl1015,h1,h2,h3,kk,hks,encTo,C28,undT]
   ·simp [bl1015,h1,h2,h3,kk,hks,encTo,C28,undT]
  ·have hmx:x∈e.kids:=by rw [hks];simp
   have hmy:y∈e.kids:=by rw [hks];simp
   have hmz:z∈e.kids:=by rw [hks];simp
   have hh:=holds43_t (O:=O) L.h43 (N+3) x.val b σ
   rw [show N+3+1=N+4 from rfl,encV_def] at hh
   have hs:=sure10_t (O:=O) L.h10 L.h35 (N+4) x b σ (by have:=hN x hmx;omega) (ok x hmx)
   have hsm:=refSameTerm_t (O:=O) L.v L.h45 (N+4) y z b σ (by have:=hN y hmy;omega) (ok y hmy) (ok z hmz)
   rw [hks] at h1 h3
   have hE:=encTm_def x
   have hE2:=encTm_def y
   have hE3:=encTm_def z
   rw [hE] at hs
   rw [hE2,hE3] at hsm
   by_cases q1:x.kind=1
   ·by_cases q2:x.val.n=0
    ·rw [q2] at hh
     rcases hoc with ⟨rfl,ho⟩|rfl
     ·simp [bl1015,h1,h2,h3,kk,hks,encTo,C28,undT,hE,hE2,hE3,hh,q1,q2]
     ·simp [bl1015,h1,h2,h3,kk,hks,encTo,C28,undT,hE,hE2,hE3,hh,q1,q2]
    ·rcases hoc with ⟨rfl,ho⟩|rfl
     ·simp [bl1015,h1,h2,h3,kk,hks,encTo,C28,undT,hE,hE2,hE3,hh,q1,q2]
     ·simp [bl1015,h1,h2,h3,kk,hks,encTo,C28,undT,hE,hE2,hE3,hh,q1,q2]
   ·cases hsx:sureT x with
    |false=>
     rw [hsx] at hs
     rcases hoc with ⟨rfl,ho⟩|rfl
     ·simp [bl1015,h1,h2,h3,kk,hks,encTo,C28,undT,hE,hE2,hE3,q1,hs,hsx]
     ·simp [bl1015,h1,h2,h3,kk,hks,encTo,C28,undT,hE,hE2,hE3,q1,hs,hsx]
    |true=>
     rw [hsx] at hs
     cases hss:sameTm y z with
     |false=>
      rw [hss] at hsm
      rcases hoc with ⟨rfl,ho⟩|rfl
      ·simp [bl1015,h1,h2,h3,kk,hks,encTo,C28,undT,hE,hE2,hE3,q1,hs,hsx,hsm,hss]
      ·simp [bl1015,h1,h2,h3,kk,hks,encTo,C28,undT,hE,hE2,hE3,q1,hs,hsx,hsm,hss]
     |true=>
      rw [hss] at hsm
      rcases hoc with ⟨rfl,ho⟩|rfl
      ·simp [bl1015,h1,h2,h3,kk,hks,encTo,C28,undT,hE,hE2,hE3,q1,hs,hsx,hsm,hss]
      ·simp [bl1015,h1,h2,h3,kk,hks,encTo,C28,undT,hE,hE2,hE3,q1,hs,hsx,hsm,hss]
  ·rw [hks] at h1
   have hl:¬(r.length:Int)+1+1+1+1=3:=by omega
   rcases hoc with ⟨rfl,ho⟩|rfl
   ·simp [bl1015,h1,h2,h3,kk,hks,encTo,C28,undT,hl]
   ·simp [bl1015,h1,h2,h3,kk,hks,encTo,C28,undT,hl]
 rw [if_neg kk]
 rcases hoc with ⟨rfl,ho⟩|rfl
 ·simp [bl1015,h1,h2,h3,k7,k10,k11,k12,kk,encTo,C28,undT]
 ·simp [bl1015,h1,h2,h3,k7,k10,k11,k12,kk,encTo,C28,undT]
end Go.Xe.YtlgknghehgmodaaGreatDoor
end
section
namespace Go.Xe.YtlgknghehgmodaaGreatDoor
open Go Go.Xe Go.Xt
variable {F:FuncId→Option TFun} {O:FuncId→List TV→Option TV}
def encTn (t:PTerm) (oc:TV):List TV:=[.int .i64 t.kind,.int .i64 t.n,.int .i64 t.m,.int .i64 t.val.kind,.int .i64 t.val.n,.sl .fz (t.val.list.map encV),oc,.sl .nl []]
theorem bl0r_t {N b:Nat} (L:RFits F O) (e:PTerm) (hks:e.kids=[]) (hN:5≤N) (a:TAct) (σ:Sto) (s2:Nat) (oc:TV) (hoc:(oc=.sl .nl []∧e.odds=[])∨oc=.sl (.own 3 1) (e.odds.map encI))
  (hdf:a.df=[]) (h1:a.tm.get 1=some (.bx 0 (encTn e oc) 28)) (h2:a.tm.get 2=some (.bx s2 C28 28)) (h3:a.tm.get 3=some (.sl .nl [])):
  Tw a1015 b (tcall F O N) N (fun ex a' σ'=>a'.df=[]∧σ'=σ∧ex=.normal∧cutT e=e∧a'.tm.get 1=some (.bx 0 (encTn e oc) 28)∧a'.tm.get 2=some (.bx s2 C28 28)) [] (tcode a1015 b (tcall F O N) N bl1015 a σ):=by
 obtain ⟨tm,df,clk⟩:=a
 simp only at hdf h1 h2 h3
 subst hdf
 obtain ⟨N,rfl⟩:∃n,N=n+1:=⟨N - 1,by omega⟩
 have hal:=alike44n_t (O:=O) L.h44 N b σ (by omega)
 unfold encTn at*
 unfold C28 at h2
 unfold cutT
 rw [hks]
 rcases hoc with ⟨rfl,ho⟩|rfl
 ·by_cases k7:e.kind=7
  ·simp [bl1015,h1,h2,h3,k7,C28,undT]
  by_cases k10:e.kind=10
  ·simp [bl1015,h1,h2,h3,k10,C28,undT]
  by_cases k11:e.kind=11
  ·simp [bl1015,h1,h2,h3,k11,C28,undT]
  by_cases k12:e.kind=12
  ·simp [bl1015,h1,h2,h3,k12,C28,undT,hal]
  by_cases k8:e.kind=8
  ·simp [bl1015,h1,h2,h3,k8,C28,undT]
  simp [bl1015,h1,h2,h3,k7,k10,k11,k12,k8,C28,undT]
 ·by_cases k7:e.kind=7
  ·simp [bl1015,h1,h2,h3,k7,C28,undT]
  by_cases k10:e.kind=10
  ·simp [bl1015,h1,h2,h3,k10,C28,undT]
  by_cases k11:e.kind=11
  ·simp [bl1015,h1,h2,h3,k11,C28,undT]
  by_cases k12:e.kind=12
  ·simp [bl1015,h1,h2,h3,k12,C28,undT,hal]
  by_cases k8:e.kind=8
  ·simp [bl1015,h1,h2,h3,k8,C28,undT]
  simp [bl1015,h1,h2,h3,k7,k10,k11,k12,k8,C28,undT]
end Go.Xe.YtlgknghehgmodaaGreatDoor
end
section
namespace Go.Xe.YtlgknghehgmodaaGreatDoor
open Go Go.Xe Go.Xt
variable {F:FuncId→Option TFun} {O:FuncId→List TV→Option TV}
theorem term15_t (h15:F 15=some f1015) (L:RFits F O):∀(M N:Nat) (e:PTerm) (b:Nat) (σ:Sto),szTm e≤M→2*M+100100≤N→OkTm e→cntT e≤3000→Lt 1000000 e→
  tcall F O N b 15 [.agg (encTm e)] σ=some (.ret (.agg (encTm (lessT e))),σ)
 |0,N,e,b,σ,h,_,_,_,_=>by rw [szTm_def] at h;omega
 |M+1,N,e,b,σ,h,hN,he,hc,hl=>by
  have ih:=term15_t h15 L M
  have hs:=szTm_def e
  have hcd:=cntT_def e
  have hkl:e.kids.length≤cntTs e.kids:=by
   generalize e.kids=l
   induction l with
   |nil=>exact Nat.le_refl _
   |cons x l ihl=>simp only [cntTs,List.length_cons];have:=cntT_def x;omega
  have hol:=hl.odds
  obtain ⟨N,rfl⟩:∃n,N=n+1:=⟨N - 1,by omega⟩
  refine tcall_pure h15 ?_
  simp [x1015_cut,encTm_def e]
  apply tw_bind
  ·apply lp1015_t (σ:=σ) e he (by omega) (by omega)
   ·exact fun x hx b σ=>ih N x b σ (by have:=szTms_mem _ _ hx;omega) (by omega) (he.sub x hx) (by have:=cntTs_mem _ _ hx;omega) (hl.sub x hx)
   ·rfl
   ·simp [encTm_def e]
   ·simp;rfl
   ·simp
  rintro ex ⟨tm,df,clk⟩ σ1 ⟨rfl,rfl,hdf,h1,h2,v,hB,h3⟩
  simp only at hdf h1 h2 h3
  subst hdf
  obtain ⟨e',he'⟩:∃e',e'=PTerm.mk e.kind e.n e.m e.val e.odds (e.kids.map lessT):=⟨_,rfl⟩
  have hle:lessT e=cutT e':=by rw [he'];exact lessT_def e
  rw [hle]
  have hok':OkTm e':=by
   rw [he']
   exact .mk he.kind he.n he.m he.val he.olen he.odds (by rw [List.length_map];exact he.len) fun x hx=>by
    obtain ⟨y,hy,rfl⟩:=List.mem_map.1 hx;exact (less_keeps _ y (Nat.le_refl _)).2.2.1 (he.sub y hy)
  have hks':e'.kids=e.kids.map lessT:=by rw [he'];rfl
  have f1:e'.kind=e.kind:=by rw [he'];rfl
  have f2:e'.n=e.n:=by rw [he'];rfl
  have f3:e'.m=e.m:=by rw [he'];rfl
  have f4:e'.val=e.val:=by rw [he'];rfl
  have f5:e'.odds=e.odds:=by rw [he'];rfl
  have hN':∀x∈e'.kids,szTm x+100020≤N∧cntT x≤3000:=fun x hx=>by
   rw [hks'] at hx
   obtain ⟨y,hy,rfl⟩:=List.mem_map.1 hx
   have:=less_keeps _ y (Nat.le_refl _)
   have:=szTms_mem _ _ hy
   have:=cntTs_mem _ _ hy
   omega
  rw [←hks'] at hB
  have hkl':e'.kids.length≤1000000:=by rw [hks',List.length_map];omega
  have hkl2:e'.kids.length+20≤N:=by rw [hks',List.length_map];have:=szTms_len e.kids;omega
  clear hks' hle he'
  rw [encTm_def,←f1,←f2,←f3,←f4,←f5] at h1
  rw [←f5] at hol
  generalize hks:e'.kids=ks at hB
  rcases ho:e'.odds with _|⟨z,zs⟩
  ·have hoc:((.sl .nl []:TV)=.sl .nl []∧e'.odds=[])∨(.sl .nl []:TV)=.sl (.own 3 1) (e'.odds.map encI):=.inl ⟨rfl,ho⟩
   rw [ho] at h1
   rcases hB with _|_
   ·simp [h1,h2,h3,ho,encI]
    apply tw_bind
    ·apply bl0r_t (s2:=_) L e' hks (by omega)
     ·exact hoc
     ·rfl
     ·simp [encTn,ho,encI]
     ·simp [h2,C28];rfl
     ·simp [h3]
    rintro ex ⟨tm,df,clk⟩ σ2 ⟨hdf,rfl,rfl,hct,h1,h2⟩
    simp only at hdf h1 h2
    subst hdf
    rw [hct]
    unfold encTn at h1
    unfold C28 at h2
    simp [h1,h2,encTm_def e',hks,ho,below_encI]
   ·rw [←hks] at h3
    simp [h1,h2,h3,ho,encI]
    apply tw_bind
    ·apply bl1015_t (s2:=_) L e' hok' hkl' hN' hkl2
     ·exact hoc
     ·rfl
     ·simp [encTo,ho,encI]
     ·simp [h2,C28];rfl
     ·simp
    rintro ex ⟨tm,df,clk⟩ σ2 ⟨hdf,rfl,hq⟩
    simp only at hdf hq
    subst hdf
    rcases hq with ⟨rfl,h2⟩|⟨rfl,hct,⟨oc',hoc',h1⟩,h2⟩
    ·rw [encTm_def] at h2
     simp [h2,encTm_def (cutT e')]
    ·rw [hct]
     unfold encTo at h1
     unfold C28 at h2
     rcases hoc' with rfl|rfl
     ·simp [h1,h2,encTm_def e',ho,below_encI]
     ·simp [h1,h2,encTm_def e',ho,below_encI]
  ·have hoc:((.sl (.own 3 1) (e'.odds.map encI):TV)=.sl .nl []∧e'.odds=[])∨(.sl (.own 3 1) (e'.odds.map encI):TV)=.sl (.own 3 1) (e'.odds.map encI):=.inr rfl
   have hz:zs.length≤1073741823:=by rw [ho] at hol;simp at hol;omega
   have hE:encI z=[.int .i64 z]:=rfl
   rw [ho] at h1
   simp only [List.map_cons,hE] at h1
   have hEl:∀x:Int,(encI x).length=1:=fun _=>rfl
   rcases hB with _|_
   ·simp [h1,h2,h3,ho,hE,hz,hEl]
    apply tw_bind
    ·apply bl0r_t (s2:=_) L e' hks (by omega)
     ·exact hoc
     ·rfl
     ·simp [encTn,ho,hE,hz,hEl]
     ·simp [h2,C28];rfl
     ·simp [h3]
    rintro ex ⟨tm,df,clk⟩ σ2 ⟨hdf,rfl,rfl,hct,h1,h2⟩
    simp only at hdf h1 h2
    subst hdf
    rw [hct]
    unfold encTn at h1
    unfold C28 at h2
    simp [h1,h2,encTm_def e',hks,ho,below_encI]
   ·rw [←hks] at h3
    simp [h1,h2,h3,ho,hE,hz,hEl]
    apply tw_bind
    ·apply bl1015_t (s2:=_) L e' hok' hkl' hN' hkl2
     ·exact hoc
     ·rfl
     ·simp [encTo,ho,hE,hz,hEl]
     ·simp [h2,C28];rfl
     ·simp
    rintro ex ⟨tm,df,clk⟩ σ2 ⟨hdf,rfl,hq⟩
    simp only at hdf hq
    subst hdf
    rcases hq with ⟨rfl,h2⟩|⟨rfl,hct,⟨oc',hoc',h1⟩,h2⟩
    ·rw [encTm_def] at h2
     simp [h2,encTm_def (cutT e')]
    ·rw [hct]
     unfold encTo at h1
     unfold C28 at h2
     rcases hoc' with rfl|rfl
     ·simp [h1,h2,encTm_def e',ho,below_encI]
     ·simp [h1,h2,encTm_def e',ho,below_encI]
end Go.Xe.YtlgknghehgmodaaGreatDoor
end
section
namespace Go.Xe.YtlgknghehgmodaaGreatDoor
open Go Go.Xe Go.Xt
def FT (f:FuncId):Option TFun:=
 if f=3 then some f1003 else if f=7 then some f15 else if f=9 then some f1009 else if f=10 then some f1010 else if f=11 then some f1011 else if f=12 then some f1012 else if f=13 then some f1013 else if f=14 then some f1014 else if f=15 then some f1015 else if f=29 then some f24 else if f=31 then some f1031 else if f=32 then some f66 else if f=33 then some f1033 else if f=34 then some f1034 else if f=35 then some f1035 else if f=36 then some f19 else if f=37 then some f20 else if f=38 then some f1038 else if f=39 then some f16 else if f=40 then some f1040 else if f=41 then some f1041 else if f=42 then some f1042 else if f=43 then some f1043 else if f=44 then some f1044 else if f=45 then some f65 else if f=69 then some f7 else if f=72 then some f111 else if f=73 then some f1073 else if f=74 then some f41 else if f=77 then some f44 else if f=78 then some f45 else if f=79 then some f46 else if f=80 then some f1080 else if f=81 then some f67 else if f=82 then some f1082 else if f=83 then some f1083 else if f=84 then some f1084 else if f=85 then some f109 else if f=86 then some f110 else if f=100 then some f25 else if f=111 then some f1111 else if f=112 then some f106 else if f=113 then some f107 else if f=114 then some f108 else if f=115 then some f159 else if f=162 then some f158 else if f=163 then some f182 else if f=201 then some f165 else if f=202 then some f180 else if f=203 then some f181 else none
def OT (f:FuncId) (args:List TV):Option TV:=
 if f=75 then some (.agg []) else if f=76 then some (.agg [.bool true]) else match args with
 |[]=>if f=8 then some (.bool true) else none
 |_=>none
theorem rowO:RowO FT OT:=⟨by decide,by decide,fun args=>rfl,fun args=>rfl⟩
theorem ufits:UFits FT:=⟨rfl,rfl,rfl,rfl,rfl,rfl,rfl⟩
theorem wfits:WFits FT OT:=⟨rfl,rfl,rfl,rfl,rfl,rfl,rfl,rfl,rfl,rfl,rfl,rowO⟩
theorem vfits:VFits FT:=⟨rfl,rfl,rfl,rfl,rfl,rfl,rfl,rfl,rfl,rfl⟩
theorem lfits:LFits FT OT:=⟨ufits,wfits,vfits,rfl,rfl,rfl,rfl⟩
theorem rfits:RFits FT OT:=⟨wfits,vfits,rfl,rfl,rfl,rfl,rfl,rfl⟩
theorem awake_t (N b:Nat) (σ:Sto):tcall FT OT (N+1) b 8 [] σ=some (.ret (.bool true),σ):=by
 have h:FT 8=none:=by decide
 have h2:OT 8 []=some (.bool true):=rfl
 simp only [tcall,h,h2,tEnd,markT,isDeadT]
theorem Lt.mono {B C:Nat} (hBC:B≤C):∀n (e:PTerm),szTm e≤n→Lt B e→Lt C e
 |0,e,hn,_=>by have:=szTm_def e;omega
 |n+1,e,hn,h=>Lt.of (Nat.le_trans h.val hBC) (Nat.le_trans h.odds hBC) fun x hx=>Lt.mono hBC n x (by have:=szTm_def e;have:=szTms_mem _ x hx;omega) (h.sub x hx)
set_option maxHeartbeats 8000000 in
theorem sliceTerms_t (e:PTerm) (s:Int) (he:OkTm e) (hsm:Sm reachBytes (encTm e)) (K:Nat) (hK:5*szTm e+100200≤K):∃σ',tcall FT OT (K+1) 0 3 [.agg (encTm e),.int .i64 s] []=some (.ret (.bool true),σ'):=by
 refine ⟨[],?_⟩
 obtain ⟨K,rfl⟩:∃k,K=k+1:=⟨K - 1,by omega⟩
 obtain ⟨r,hf,hr⟩:=fewTm_t (O:=OT) (F:=FT) rfl rfl rfl rfl 2000 (by omega) K e 0 [] (by omega) he hsm
 have haw:=awake_t K 0 []
 rw [show ((2000:Nat):Int)=2000 from rfl] at hf
 have h3:FT 3=some f1003:=rfl
 refine tcall_pure h3 ?_
 have e1:(encTm e).length=8:=encTm_len e
 have e2:(encTm e).take 8=encTm e:=List.take_of_length_le (by omega)
 have e3:(encTm e).any isOwn=false:=by rw [encTm_def];rfl
 have e4:onesT (encTm e)=true:=by rw [encTm_def];rfl
 cases r with
 |false=>
  generalize encTm e=E at hf e1 e2 e3 e4
  simp [x1003,e1,e2,e3,e4,hf,haw]
 |true=>
  obtain ⟨hc,hlt⟩:=hr rfl
  have hl6:Lt 1000000 e:=hlt.mono (by omega) _ e (Nat.le_refl _)
  have s1:=sure9_t (O:=OT) ufits (szTm e) (K+1) e 0 [] (Nat.le_refl _) (by omega) he
  have s2:=sure10_t (F:=FT) (O:=OT) rfl rfl (K+1) e 0 [] (by omega) he
  have s3:=used11_t wfits K e s 0 [] (by omega) he (by omega)
  have s4:=used12_t wfits K e s 0 [] (by omega) he (by omega)
  have s5:=term14_t (F:=FT) (O:=OT) rfl rfl rfl rfl rfl lfits K e 0 [] (by omega) he (by omega) hl6
  have s6:=term15_t (F:=FT) (O:=OT) rfl rfits (szTm e) (K+1) e 0 [] (Nat.le_refl _) (by omega) he (by omega) hl6
  have hk:=less_keeps _ e (Nat.le_refl _)
  have s7:=alikeTm_t (F:=FT) (O:=OT) rfl rfl rfl (K+1) (lessT e) 0 [] (by omega) (hk.2.2.1 he)
  have y1:=encTm_len (lessT e)
  have y3:(encTm (lessT e)).any isOwn=false:=by rw [encTm_def];rfl
  have y4:onesT (encTm (lessT e))=true:=by rw [encTm_def];rfl
  clear hc hlt hl6 hk hr
  generalize sureT e=b1 at s1 s2
  generalize usedT e s=b2 at s3 s4
  generalize encTm (lessT e)=Y at s5 s6 s7 y1 y3 y4
  generalize encTm e=E at hf e1 e2 e3 e4 s1 s2 s3 s4 s5 s6
  cases b1<;>cases b2<;>simp (maxSteps:=3000000) [x1003,e1,e2,e3,e4,hf,s1,s2,s3,s4,s5,s6,s7,haw]
end Go.Xe.YtlgknghehgmodaaGreatDoor
end
section
namespace Go.Proofs
open Go.Shelf
def Tryz.lays137_ren:Go.Shelf.Ren:=⟨fun|137=>230|217=>240|266=>246|n=>n,fun|9=>9|5=>5|3=>3|n=>n,fun|n=>n⟩
theorem Tryz.lays137:Go.Proofs.Lays.n137 Tryz.prog Tryz.lays137_ren:={
 mixed:=by kernel_rfl
 f137:=Tryz.func230.trans (congrArg some (by kernel_rfl))
 f217:=Tryz.func240.trans (congrArg some (by kernel_rfl))
 f266:=Tryz.func246.trans (congrArg some (by kernel_rfl))
 t3:=Tryz.underlying3
 a3:=Tryz.isAgg3
 z3:=Tryz.sizeOf3
 v3:=Tryz.zeroValue3
 t5:=Tryz.underlying5
 a5:=Tryz.isAgg5
 z5:=Tryz.sizeOf5
 v5:=Tryz.zeroValue5
 t9:=Tryz.underlying9
 a9:=Tryz.isAgg9
 z9:=Tryz.sizeOf9
 v9:=Tryz.zeroValue9 }
open Go.RowKit in
theorem Tryz.strings_IndexByte (s:ByteArray) (c:Int) (w:World):
  Calls Tryz.prog 230 #[.string s,.int .u8 c] w fun e w'=>e=.returned (.int .i64 (Lib.indexByte s.data.toList c.toNat.toUInt8))∧w'=w:=Any.strings_IndexByte Tryz.lays137 s c w
open Go.RowKit Go.Lib in
open Go.RowKit Go.Lib in
open Go.RowKit Go.Lib in
open Go.RowKit Go.Lib in
open Go.RowKit Go.Lib in
open Go.RowKit Go.Lib in
open Go.RowKit Go.Lib in
open Go.RowKit Go.Lib in
open Go.RowKit Go.Lib in
open Go.RowKit Go.Lib in
open Go.RowKit Go.Lib in
open Go.RowKit Go.Lib in
def Tryz.laysM144_ren:Go.Shelf.Ren:=⟨fun|144=>212|143=>228|219=>238|217=>240|225=>243|224=>244|267=>245|266=>246|314=>247|n=>n,fun|9=>9|4=>4|3=>3|5=>5|46=>141|146=>265|51=>196|n=>n,fun|1=>1|n=>n⟩
theorem Tryz.laysM144:Go.Proofs.LaysM.n144 Tryz.prog Tryz.laysM144_ren:={
 mixed:=by kernel_rfl
 f143:=Tryz.func228.trans (congrArg some (by kernel_rfl))
 f144:=Tryz.func212.trans (congrArg some (by kernel_rfl))
 f217:=Tryz.func240.trans (congrArg some (by kernel_rfl))
 f219:=Tryz.func238.trans (congrArg some (by kernel_rfl))
 f224:=Tryz.func244.trans (congrArg some (by kernel_rfl))
 f225:=Tryz.func243.trans (congrArg some (by kernel_rfl))
 f266:=Tryz.func246.trans (congrArg some (by kernel_rfl))
 f267:=Tryz.func245.trans (congrArg some (by kernel_rfl))
 f314:=Tryz.func247.trans (congrArg some (by kernel_rfl))
 t3:=Tryz.underlying3
 a3:=Tryz.isAgg3
 z3:=Tryz.sizeOf3
 v3:=Tryz.zeroValue3
 t4:=Tryz.underlying4
 a4:=Tryz.isAgg4
 z4:=Tryz.sizeOf4
 v4:=Tryz.zeroValue4
 t5:=Tryz.underlying5
 a5:=Tryz.isAgg5
 z5:=Tryz.sizeOf5
 v5:=Tryz.zeroValue5
 t9:=Tryz.underlying9
 a9:=Tryz.isAgg9
 z9:=Tryz.sizeOf9
 v9:=Tryz.zeroValue9
 t46:=Tryz.underlying141
 a46:=Tryz.isAgg141
 z46:=Tryz.sizeOf141
 v46:=Tryz.zeroValue141
 t51:=Tryz.underlying196
 a51:=Tryz.isAgg196
 z51:=Tryz.sizeOf196
 v51:=Tryz.zeroValue196
 t146:=Tryz.underlying265
 a146:=Tryz.isAgg265
 z146:=Tryz.sizeOf265
 v146:=Tryz.zeroValue265
 g1:=by kernel_rfl
 i3:=by kernel_rfl
 i4:=by kernel_rfl
 i5:=by kernel_rfl
 i9:=by kernel_rfl
 i46:=by kernel_rfl
 i51:=by kernel_rfl
 i146:=by kernel_rfl
 m1:=by kernel_rfl
 s1_3:=fun w h=>Go.Proofs.cell_of_shapedOpen_int (zero:=#[.int .i64 0]) (t:=3) h (of_decide_eq_true (by kernel_rfl)) (by kernel_rfl) rfl (by kernel_rfl) (by kernel_rfl) Tryz.underlying3 }
open Go.RowKit Go.Lib in
theorem Tryz.strings_Contains_shaped (s sub:ByteArray) (w:World) (h:w.ShapedOpen Tryz.prog) (hs:s.size<4294967281):
  Calls Tryz.prog 212 #[.string s,.string sub] w fun e w'=>e=.returned (.bool (Lib.contains s.data.toList sub.data.toList))∧w'=w:=Any.strings_Contains_shaped Tryz.laysM144 s sub w h hs
def Tryz.lays189_ren:Go.Shelf.Ren:=⟨fun|189=>75|125=>110|257=>109|128=>160|129=>161|294=>151|295=>152|296=>153|297=>154|298=>155|299=>156|216=>157|300=>158|301=>159|328=>196|329=>197|330=>198|331=>199|332=>200|215=>201|343=>222|n=>n,fun|28=>25|3=>3|46=>141|0=>0|51=>196|53=>198|4=>4|183=>188|182=>187|131=>193|5=>5|9=>9|218=>232|222=>236|228=>250|229=>251|n=>n,fun|n=>n⟩
theorem Tryz.lays189:Go.Proofs.Lays.n189 Tryz.prog Tryz.lays189_ren:={
 mixed:=by kernel_rfl
 f125:=Tryz.func110.trans (congrArg some (by kernel_rfl))
 f128:=Tryz.func160.trans (congrArg some (by kernel_rfl))
 f129:=Tryz.func161.trans (congrArg some (by kernel_rfl))
 f189:=Tryz.func75.trans (congrArg some (by kernel_rfl))
 f215:=Tryz.func201.trans (congrArg some (by kernel_rfl))
 f216:=Tryz.func157.trans (congrArg some (by kernel_rfl))
 f257:=Tryz.func109.trans (congrArg some (by kernel_rfl))
 f294:=Tryz.func151.trans (congrArg some (by kernel_rfl))
 f295:=Tryz.func152.trans (congrArg some (by kernel_rfl))
 f296:=Tryz.func153.trans (congrArg some (by kernel_rfl))
 f297:=Tryz.func154.trans (congrArg some (by kernel_rfl))
 f298:=Tryz.func155.trans (congrArg some (by kernel_rfl))
 f299:=Tryz.func156.trans (congrArg some (by kernel_rfl))
 f300:=Tryz.func158.trans (congrArg some (by kernel_rfl))
 f301:=Tryz.func159.trans (congrArg some (by kernel_rfl))
 f328:=Tryz.func196.trans (congrArg some (by kernel_rfl))
 f329:=Tryz.func197.trans (congrArg some (by kernel_rfl))
 f330:=Tryz.func198.trans (congrArg some (by kernel_rfl))
 f331:=Tryz.func199.trans (congrArg some (by kernel_rfl))
 f332:=Tryz.func200.trans (congrArg some (by kernel_rfl))
 f343:=Tryz.func222.trans (congrArg some (by kernel_rfl))
 t0:=Tryz.underlying0
 a0:=Tryz.isAgg0
 z0:=Tryz.sizeOf0
 v0:=Tryz.zeroValue0
 t3:=Tryz.underlying3
 a3:=Tryz.isAgg3
 z3:=Tryz.sizeOf3
 v3:=Tryz.zeroValue3
 t4:=Tryz.underlying4
 a4:=Tryz.isAgg4
 z4:=Tryz.sizeOf4
 v4:=Tryz.zeroValue4
 t5:=Tryz.underlying5
 a5:=Tryz.isAgg5
 z5:=Tryz.sizeOf5
 v5:=Tryz.zeroValue5
 t9:=Tryz.underlying9
 a9:=Tryz.isAgg9
 z9:=Tryz.sizeOf9
 v9:=Tryz.zeroValue9
 t28:=Tryz.underlying25
 a28:=Tryz.isAgg25
 z28:=Tryz.sizeOf25
 v28:=Tryz.zeroValue25
 t46:=Tryz.underlying141
 a46:=Tryz.isAgg141
 z46:=Tryz.sizeOf141
 v46:=Tryz.zeroValue141
 t51:=Tryz.underlying196
 a51:=Tryz.isAgg196
 z51:=Tryz.sizeOf196
 v51:=Tryz.zeroValue196
 t53:=Tryz.underlying198
 a53:=Tryz.isAgg198
 z53:=Tryz.sizeOf198
 v53:=Tryz.zeroValue198
 t131:=Tryz.underlying193
 a131:=Tryz.isAgg193
 z131:=Tryz.sizeOf193
 v131:=Tryz.zeroValue193
 t182:=Tryz.underlying187
 a182:=Tryz.isAgg187
 z182:=Tryz.sizeOf187
 v182:=Tryz.zeroValue187
 t183:=Tryz.underlying188
 a183:=Tryz.isAgg188
 z183:=Tryz.sizeOf188
 v183:=Tryz.zeroValue188
 t218:=Tryz.underlying232
 a218:=Tryz.isAgg232
 z218:=Tryz.sizeOf232
 v218:=Tryz.zeroValue232
 t222:=Tryz.underlying236
 a222:=Tryz.isAgg236
 z222:=Tryz.sizeOf236
 v222:=Tryz.zeroValue236
 t228:=Tryz.underlying250
 a228:=Tryz.isAgg250
 z228:=Tryz.sizeOf250
 v228:=Tryz.zeroValue250
 t229:=Tryz.underlying251
 a229:=Tryz.isAgg251
 z229:=Tryz.sizeOf251
 v229:=Tryz.zeroValue251 }
open Go.Sort Go.RowKit in
theorem Tryz.slices_Sort_int (blk off cap:Nat) (zs:List Int) (w:World) (hH:Holds (Value.int .i64) w blk off zs.toArray) (hblk:blk<w.heap.size) (hsz:zs.length<4611686018427387904):
  Calls Tryz.prog 75 #[.slice (some ⟨blk,off,none⟩) zs.length cap] w fun e w'=>
   e=.returned (.tuple #[])∧∃n os,w'=grow (putRow (Value.int .i64) (Sort.ahead w n) blk off (zs.mergeSort fun x y=>decide (x≤y)).toArray) os:=Any.slices_Sort_int Tryz.lays189 blk off cap zs w hH hblk hsz
def Tryz.laysNm220_ren:Go.Shelf.Ren:=⟨fun|20=>76|n=>n,fun|22=>25|3=>3|4=>4|0=>0|n=>n,fun|n=>n⟩
theorem Tryz.laysNm220:Go.Proofs.Lays2.n20 Tryz.prog Tryz.laysNm220_ren:={
 mixed:=by kernel_rfl
 f20:=Tryz.func76.trans (congrArg some (by kernel_rfl))
 t0:=Tryz.underlying0
 a0:=Tryz.isAgg0
 z0:=Tryz.sizeOf0
 v0:=Tryz.zeroValue0
 t3:=Tryz.underlying3
 a3:=Tryz.isAgg3
 z3:=Tryz.sizeOf3
 v3:=Tryz.zeroValue3
 t4:=Tryz.underlying4
 a4:=Tryz.isAgg4
 z4:=Tryz.sizeOf4
 v4:=Tryz.zeroValue4
 t22:=Tryz.underlying25
 a22:=Tryz.isAgg25
 z22:=Tryz.sizeOf25
 v22:=Tryz.zeroValue25
 i3:=by kernel_rfl }
open Go.RowKit Go.Lib Go.Sort in
open Go.RowKit Go.Lib Go.Sort in
theorem Tryz.slices_Compact_int (blk off cap:Nat) (zs:List Int) (w:World) (hH:Holds (Value.int .i64) w blk off zs.toArray) (hsz:zs.length≤9223372036854775807) (hcap:zs.length≤cap):
  Calls Tryz.prog 76 #[.slice (some ⟨blk,off,none⟩) zs.length cap] w fun e w'=>e=.returned (.slice (some ⟨blk,off,none⟩) (Lib.compact zs).length cap)∧∃q,w'=putRow (Value.int .i64) (Sort.ahead w q) blk off (Lib.compact zs++List.replicate (zs.length - (Lib.compact zs).length) 0).toArray:=Any.slices_Compact_int Tryz.laysNm220 blk off cap zs w hH hsz hcap
open Go.RowKit Go.Lib Go.Sort in
theorem Tryz.slices_Compact_int_empty (a:Option Addr) (cap:Nat) (w:World):
  Calls Tryz.prog 76 #[.slice a 0 cap] w fun e w'=>e=.returned (.slice a 0 cap)∧w'=w:=Any.slices_Compact_int_empty Tryz.laysNm220 a cap w
open Go.RowKit Go.Sort in
theorem Tryz.slices_Sort_int_none (p:Option Addr) (cap:Nat) (w:World):
  Calls Tryz.prog 75 #[.slice p 0 cap] w fun e w'=>e=.returned (.tuple #[])∧w'=w:=Any.slices_Sort_int_none Tryz.lays189 p cap w
end Go.Proofs
end
section
namespace Go.Xe.YtlgknghehgmodaaGreatDoor
open Go Go.Xe Go.Proofs Go.RowKit
def orc (f:FuncId) (args:List Value):Option Value:=
 match Nat.beq f 212,Nat.beq f 230,args with
 |true,_,[.string s,.string t]=>match Nat.ble s.data.toList.length 4000000000 with
  |true=>some (.bool (containsL t.data.toList s.data.toList))
  |false=>none
 |_,true,[.string s,.int .u8 (.ofNat n)]=>match Nat.blt n 256 with
  |true=>some (.int .i64 (match findB n s.data.toList 0 with|some i=>.ofNat i|none=>.negSucc 0))
  |false=>none
 |_,_,_=>none
noncomputable def F (f:FuncId):Option XFun:=
 match Nat.beq f 212||Nat.beq f 230 with
 |true=>none
 |false=>match Tryz.prog.funcs[f]? with
  |some fn=>compFun Tryz.prog glb fn
  |none=>none
theorem to212:CallTo Tryz.prog 212:=⟨Tryz.f212,Tryz.func212,by decide,rfl⟩
theorem to230:CallTo Tryz.prog 230:=⟨Tryz.f230,Tryz.func230,by decide,rfl⟩
theorem flat2 {u v:Value} (hu:∀φ x,VRel φ u x→x=u) (hv:∀φ x,VRel φ v x→x=v) (φ:Loc) (l:List Value) (h:VRels φ [u,v] l):l=[u,v]:=by
 cases h with
 |cons h1 h=>cases h with
  |cons h2 h=>cases h;rw [hu φ _ h1,hv φ _ h2]
theorem env:Env Tryz.prog glb F orc:=by
 refine ⟨by kernel_rfl,fun f x h=> ?_,fun f args v hF hO=> ?_⟩
 ·unfold F at h
  split at h
  ·cases h
  ·split at h
   ·rename_i fn hfn;exact ⟨fn,hfn,h⟩
   ·cases h
 ·unfold orc at hO
  split at hO
  ·rename_i _ s t hf
   rw [beqNat] at hf
   obtain rfl:=of_decide_eq_true hf
   split at hO
   ·rename_i hle
    rw [bleNat] at hle
    have hle:=of_decide_eq_true hle
    cases hO
    refine OOk.still to212 rfl rfl rfl (fun φ l h=>flat2 (fun φ x h=>by cases h;rfl) (fun φ x h=>by cases h;rfl) φ l h) fun W0 N0 φ g w hg r=> ?_
    have hs:s.size<4294967281:=by
     have:s.size=s.data.toList.length:=by rw [Array.length_toList];rfl
     omega
    have:=Tryz.strings_Contains_shaped s t w (r.shaped hg.1) hs
    rw [←containsL_eq] at this
    exact this
   ·cases hO
  ·rename_i _ s n hf
   rw [beqNat] at hf
   obtain rfl:=of_decide_eq_true hf
   split at hO
   ·rename_i hlt
    rw [bltNat] at hlt
    have hlt:=of_decide_eq_true hlt
    cases hO
    refine OOk.still to230 rfl rfl rfl (fun φ l h=>flat2 (fun φ x h=>by cases h;rfl) (fun φ x h=>by cases h;rfl) φ l h) fun W0 N0 φ g w hg r=> ?_
    have:=Tryz.strings_IndexByte s (Int.ofNat n) w
    have e:(match findB n s.data.toList 0 with|some i=>Int.ofNat i|none=>Int.negSucc 0)=Lib.indexByte s.data.toList (Int.ofNat n).toNat.toUInt8:=by
     have hge:=Lib.indexByte_ge s.data.toList n.toUInt8
     rw [findB_eq n hlt]
     show _=Lib.indexByte s.data.toList n.toUInt8
     by_cases h:Lib.indexByte s.data.toList n.toUInt8=-1
     ·rw [if_pos h,h];rfl
     ·rw [if_neg h]
      show ((0+(Lib.indexByte s.data.toList n.toUInt8).toNat:Nat):Int)=_
      omega
    rw [e]
    exact this
   ·cases hO
  ·cases hO
theorem awake_run:fcall F orc 100000 8 [] (baseG opsL) .nil 2 isTrue=true:=by kernel_rfl
theorem awake (w:World) (h:w.ShapedOpen Tryz.prog) (hl:laidG opsL w):Calls Tryz.prog 8 #[] w fun E w'=>E=.returned (.bool true)∧Below w.heap.size w w':=
 closed_true_laid env (φ:=fun i=>if i<2 then some (i,0,if i=0 then 14 else 0) else none) (nx:=2) opsL (fun i h=>by
   have h:Nat.blt i 2=true:=h
   rw [bltNat] at h
   exact ⟨if i=0 then 14 else 0,if_pos (of_decide_eq_true h)⟩) (fun i h=>if_neg (by omega)) (fun x hx=>by cases List.mem_singleton.1 hx;rfl) (fun x hx=>by cases List.mem_singleton.1 hx;exact ⟨rfl,rfl⟩) awake_run hl ⟨⟨rfl,h⟩,hl⟩
end Go.Xe.YtlgknghehgmodaaGreatDoor
end
section
namespace Go.Xe
open Go Go.Proofs Go.RowKit Go.Sort
theorem setList_get:∀(xs vs:List Value) (o j:Nat),o+xs.length≤vs.length→(setList vs o xs)[j]? =if o≤j∧j<o+xs.length then xs[j - o]? else vs[j]?
 |[],vs,o,j,h=>by
  have h0:¬(o≤j∧j<o+([]:List Value).length):=by simp only [List.length_nil];omega
  simp only [setList];rw [if_neg h0]
 |x::xs,vs,o,j,h=>by
  simp only [List.length_cons] at h
  rw [setList,setList_get xs (vs.set o x) (o+1) j (by simp;omega)]
  simp only [List.length_cons]
  by_cases h1:o+1≤j∧j<o+1+xs.length
  ·rw [if_pos h1,if_pos (by omega)]
   have e:j - o=(j - (o+1))+1:=by omega
   rw [e,List.getElem?_cons_succ]
  ·rw [if_neg h1]
   by_cases h2:j=o
   ·subst h2
    rw [if_pos (by omega),Nat.sub_self,List.getElem?_cons_zero,List.getElem?_set_self (by omega)]
   ·rw [if_neg (by omega),List.getElem?_set_ne (fun e=>h2 e.symm)]
theorem putCells_eq (o:Nat) (zs:List Int) (c:Array Value) (h:o+zs.length≤c.size):putCells (Value.int .i64) o zs.toArray c=(setList c.toList o (encZ zs)).toArray:=by
 apply Array.ext_getElem?
 intro j
 unfold putCells
 rw [Array.getElem?_mapIdx,List.getElem?_toArray (xs:=setList c.toList o (encZ zs)),setList_get _ _ _ _ (by rw [encZ_len];simpa using h),encZ_len]
 by_cases hj:o≤j∧j<o+zs.length
 ·have hjc:j<c.size:=by omega
  have hjz:j - o<zs.length:=by omega
  rw [if_pos hj,Array.getElem?_eq_getElem hjc]
  simp only [Option.map_some,List.size_toArray,if_pos hj]
  rw [encZ,List.getElem?_map,List.getElem?_eq_getElem hjz,Option.map_some]
  congr 2
  rw [getElem!_pos _ _ (by simpa using hjz)]
  simp
 ·rw [if_neg hj]
  simp only [List.size_toArray,if_neg hj]
  rw [Array.getElem?_toList]
  cases c[j]? <;>rfl
theorem row_holds {b o:Nat} {zs:List Int} {c:Array Value} {e:TypeId} {w:World} (hb:w.heap[b]? =some (.cells c e (0,0))) (hc:(c.toList.drop o).take zs.length=encZ zs):Holds (Value.int .i64) w b o zs.toArray:=by
 intro j hj
 have hj:j<zs.length:=by simpa using hj
 have h1:((c.toList.drop o).take zs.length)[j]? =some (.int .i64 zs[j]):=by rw [hc];simp [encZ,hj]
 rw [List.getElem?_take_of_lt hj,List.getElem?_drop,Array.getElem?_toList] at h1
 have h2:(zs.toArray)[j]! =zs[j]:=by rw [getElem!_pos _ _ (by simpa using hj)];simp
 rw [h2]
 constructor
 ·simp [World.cell?,hb,h1]
 ·simp only [World.frozen?,hb];simp
theorem row_fits {o:Nat} {zs:List Int} {c:Array Value} (hc:(c.toList.drop o).take zs.length=encZ zs):zs=[]∨o+zs.length≤c.size:=by
 have:=congrArg List.length hc
 rw [encZ_len,List.length_take,List.length_drop] at this
 have hcl:c.toList.length=c.size:=Array.length_toList
 by_cases h:zs=[]
 ·exact .inl h
 ·have:zs.length≠0:=fun e=>h (List.length_eq_zero_iff.1 e)
  right;omega
theorem row_gr {b o q:Nat} {zs:List Int} {c:Array Value} {e:TypeId} {w:World} {os:Array Obj} (hb:w.heap[b]? =some (.cells c e (0,0))) (h:o+zs.length≤c.size):Gr (putBlk w b (.cells (setList c.toList o (encZ zs)).toArray e (0,0))) (grow (putRow (Value.int .i64) (Sort.ahead w q) b o zs.toArray) os):=by
 have hlt:b<w.heap.size:=(Array.getElem?_eq_some_iff.1 hb).1
 refine ⟨by simp [putBlk,grow,putRow,mapBlock,Sort.ahead],fun k hk=> ?_,rfl,rfl,rfl⟩
 have hk:k<w.heap.size:=by simpa [putBlk] using hk
 have e1:(grow (putRow (Value.int .i64) (Sort.ahead w q) b o zs.toArray) os).heap[k]? =(w.heap.modify b (onCells (putCells (Value.int .i64) o zs.toArray)))[k]? :=by
  simp only [grow,putRow,mapBlock,Sort.ahead]
  rw [Array.getElem?_append_left (by simpa using hk)]
 rw [e1]
 simp only [putBlk]
 rw [Array.getElem?_modify,Array.getElem?_setIfInBounds]
 by_cases hbk:b=k
 ·subst hbk
  rw [if_pos rfl,if_pos rfl,if_pos hlt,hb]
  simp only [Option.map_some,onCells,putCells_eq o zs c h]
 ·rw [if_neg hbk,if_neg hbk]
def goC:Option Int→List Int→List Int
 |_,[]=>[]
 |p,x::l=>if p=some x then goC (some x) l else x::goC (some x) l
theorem compactZ_go:∀(l:List Int) (x:Int),compactZ (x::l)=x::goC (some x) l
 |[],x=>by unfold compactZ;rfl
 |y::l,x=>by
  unfold compactZ goC
  by_cases h:x=y
  ·subst h
   simp only [if_true]
   rw [compactZ_go l x]
  ·simp only [if_neg h,if_neg (fun e=>h (Option.some.inj e):¬some x=some y)]
   rw [compactZ_go l y]
theorem lib_go (zs:List Int):∀(n k:Nat),k+n=zs.length→((List.range' k n).filter (Lib.keeps zs.toArray)).map (zs.toArray[·]!)=goC (if k=0 then none else zs[k - 1]?) (zs.drop k)
 |0,k,h=>by
  rw [List.drop_of_length_le (by omega)]
  simp [goC]
 |n+1,k,h=>by
  have hk:k<zs.length:=by omega
  have ih:=lib_go zs n (k+1) (by omega)
  rw [if_neg (by omega),Nat.add_sub_cancel,List.getElem?_eq_getElem hk] at ih
  rw [List.range'_succ,List.drop_eq_getElem_cons hk]
  have hg:zs.toArray[k]! =zs[k]:=by rw [getElem!_pos _ _ (by simpa using hk)];simp
  unfold goC
  by_cases h0:k=0
  ·subst h0
   have hkeep:Lib.keeps zs.toArray 0=true:=by simp [Lib.keeps]
   rw [List.filter_cons_of_pos hkeep,List.map_cons,ih,hg,if_neg (by simp)]
  ·rw [if_neg h0]
   have hk1:k - 1<zs.length:=by omega
   have hg1:zs.toArray[k - 1]! =zs[k - 1]:=by rw [getElem!_pos _ _ (by simpa using hk1)];simp
   rw [List.getElem?_eq_getElem hk1]
   by_cases he:zs[k - 1]=zs[k]
   ·have hkeep:¬Lib.keeps zs.toArray k=true:=by
     unfold Lib.keeps;rw [hg,hg1];simp [h0,he]
    rw [List.filter_cons_of_neg hkeep,ih,if_pos (by rw [he])]
   ·have hkeep:Lib.keeps zs.toArray k=true:=by
     unfold Lib.keeps;rw [hg,hg1];simp [h0];exact fun e=>he e.symm
    rw [List.filter_cons_of_pos hkeep,List.map_cons,ih,hg,if_neg (fun e=>he (Option.some.inj e))]
theorem lib_compact (zs:List Int):Lib.compact zs=compactZ zs:=by
 unfold Lib.compact Lib.compactUpTo
 rw [List.range_eq_range',lib_go zs zs.length 0 (by omega),if_pos rfl,List.drop_zero]
 cases zs with
 |nil=>rfl
 |cons x l=>rw [compactZ_go,goC,if_neg (by simp)]
theorem sort_ok:RowsOk Tryz.prog 75 .sort:=fun b o cap zs c e w hb hc hz hl hcap=>by
 have hlt:b<w.heap.size:=(Array.getElem?_eq_some_iff.1 hb).1
 have hfit:o+zs.length≤c.size:=(row_fits hc).resolve_left hz
 refine Calls.mono (Tryz.slices_Sort_int b o cap zs w (row_holds hb hc) hlt (by omega)) ?_
 rintro E w' ⟨rfl,n,os,rfl⟩
 exact ⟨rfl,row_gr (zs:=rowH .sort zs) hb (by rw [rowH_len];exact hfit)⟩
theorem sort_nil:RowsNil Tryz.prog 75 .sort:=fun p cap w=>Tryz.slices_Sort_int_none p cap w
theorem compact_ok:RowsOk Tryz.prog 76 .compact:=fun b o cap zs c e w hb hc hz hl hcap=>by
 have hfit:o+zs.length≤c.size:=(row_fits hc).resolve_left hz
 refine Calls.mono (Tryz.slices_Compact_int b o cap zs w (row_holds hb hc) (by omega) hcap) ?_
 rintro E w' ⟨rfl,q,rfl⟩
 rw [lib_compact]
 refine ⟨rfl,?_⟩
 have:=row_gr (q:=q) (os:=#[]) (zs:=rowH .compact zs) hb (by rw [rowH_len];exact hfit)
 rwa [grow_empty] at this
theorem compact_nil:RowsNil Tryz.prog 76 .compact:=fun p cap w=>Tryz.slices_Compact_int_empty p cap w
end Go.Xe
end
section
namespace Go.Xe.YtlgknghehgmodaaGreatDoor
open Go Go.Xe Go.Xt Go.Proofs Go.RowKit
def FX (f:FuncId):Option XFun:=(FT f).map TFun.fn
def OX (f:FuncId) (args:List Value):Option Value:=
 if f=75 then some (.agg ⟨[]⟩) else if f=76 then some (.agg ⟨[.bool true]⟩) else
 match args with
 |[]=>if f=8 then some (.bool true) else none
 |_=>none
theorem clones (f:FuncId) (tf:TFun) (h2:FT f=some tf) (hc:tf.clone=true):∃e sz z bytes,tf.fn=cloneX e sz z bytes:=by
 unfold FT at h2
 by_cases e3:f=3
 ·subst e3;cases h2;cases hc
 rw [if_neg e3] at h2
 by_cases e7:f=7
 ·subst e7;cases h2;cases hc
 rw [if_neg e7] at h2
 by_cases e9:f=9
 ·subst e9;cases h2;cases hc
 rw [if_neg e9] at h2
 by_cases e10:f=10
 ·subst e10;cases h2;cases hc
 rw [if_neg e10] at h2
 by_cases e11:f=11
 ·subst e11;cases h2;cases hc
 rw [if_neg e11] at h2
 by_cases e12:f=12
 ·subst e12;cases h2;cases hc
 rw [if_neg e12] at h2
 by_cases e13:f=13
 ·subst e13;cases h2;cases hc
 rw [if_neg e13] at h2
 by_cases e14:f=14
 ·subst e14;cases h2;cases hc
 rw [if_neg e14] at h2
 by_cases e15:f=15
 ·subst e15;cases h2;cases hc
 rw [if_neg e15] at h2
 by_cases e29:f=29
 ·subst e29;cases h2;cases hc
 rw [if_neg e29] at h2
 by_cases e31:f=31
 ·subst e31;cases h2;cases hc
 rw [if_neg e31] at h2
 by_cases e32:f=32
 ·subst e32;cases h2;cases hc
 rw [if_neg e32] at h2
 by_cases e33:f=33
 ·subst e33;cases h2;cases hc
 rw [if_neg e33] at h2
 by_cases e34:f=34
 ·subst e34;cases h2;cases hc
 rw [if_neg e34] at h2
 by_cases e35:f=35
 ·subst e35;cases h2;cases hc
 rw [if_neg e35] at h2
 by_cases e36:f=36
 ·subst e36;cases h2;cases hc
 rw [if_neg e36] at h2
 by_cases e37:f=37
 ·subst e37;cases h2;cases hc
 rw [if_neg e37] at h2
 by_cases e38:f=38
 ·subst e38;cases h2;cases hc
 rw [if_neg e38] at h2
 by_cases e39:f=39
 ·subst e39;cases h2;cases hc
 rw [if_neg e39] at h2
 by_cases e40:f=40
 ·subst e40;cases h2;cases hc
 rw [if_neg e40] at h2
 by_cases e41:f=41
 ·subst e41;cases h2;cases hc
 rw [if_neg e41] at h2
 by_cases e42:f=42
 ·subst e42;cases h2;cases hc
 rw [if_neg e42] at h2
 by_cases e43:f=43
 ·subst e43;cases h2;cases hc
 rw [if_neg e43] at h2
 by_cases e44:f=44
 ·subst e44;cases h2;cases hc
 rw [if_neg e44] at h2
 by_cases e45:f=45
 ·subst e45;cases h2;cases hc
 rw [if_neg e45] at h2
 by_cases e69:f=69
 ·subst e69;cases h2;cases hc
 rw [if_neg e69] at h2
 by_cases e72:f=72
 ·subst e72;cases h2;cases hc
 rw [if_neg e72] at h2
 by_cases e73:f=73
 ·subst e73;cases h2;cases hc
 rw [if_neg e73] at h2
 by_cases e74:f=74
 ·subst e74;cases h2;cases hc
 rw [if_neg e74] at h2
 by_cases e77:f=77
 ·subst e77;cases h2;cases hc
 rw [if_neg e77] at h2
 by_cases e78:f=78
 ·subst e78;cases h2;cases hc
 rw [if_neg e78] at h2
 by_cases e79:f=79
 ·subst e79;cases h2;cases hc
 rw [if_neg e79] at h2
 by_cases e80:f=80
 ·subst e80;cases h2;cases hc
 rw [if_neg e80] at h2
 by_cases e81:f=81
 ·subst e81;cases h2;exact ⟨_,_,_,_,rfl⟩
 rw [if_neg e81] at h2
 by_cases e82:f=82
 ·subst e82;cases h2;cases hc
 rw [if_neg e82] at h2
 by_cases e83:f=83
 ·subst e83;cases h2;cases hc
 rw [if_neg e83] at h2
 by_cases e84:f=84
 ·subst e84;cases h2;cases hc
 rw [if_neg e84] at h2
 by_cases e85:f=85
 ·subst e85;cases h2;cases hc
 rw [if_neg e85] at h2
 by_cases e86:f=86
 ·subst e86;cases h2;cases hc
 rw [if_neg e86] at h2
 by_cases e100:f=100
 ·subst e100;cases h2;cases hc
 rw [if_neg e100] at h2
 by_cases e111:f=111
 ·subst e111;cases h2;cases hc
 rw [if_neg e111] at h2
 by_cases e112:f=112
 ·subst e112;cases h2;cases hc
 rw [if_neg e112] at h2
 by_cases e113:f=113
 ·subst e113;cases h2;cases hc
 rw [if_neg e113] at h2
 by_cases e114:f=114
 ·subst e114;cases h2;cases hc
 rw [if_neg e114] at h2
 by_cases e115:f=115
 ·subst e115;cases h2;cases hc
 rw [if_neg e115] at h2
 by_cases e162:f=162
 ·subst e162;cases h2;cases hc
 rw [if_neg e162] at h2
 by_cases e163:f=163
 ·subst e163;cases h2;cases hc
 rw [if_neg e163] at h2
 by_cases e201:f=201
 ·subst e201;cases h2;cases hc
 rw [if_neg e201] at h2
 by_cases e202:f=202
 ·subst e202;cases h2;cases hc
 rw [if_neg e202] at h2
 by_cases e203:f=203
 ·subst e203;cases h2;cases hc
 rw [if_neg e203] at h2
 cases h2
theorem fits:Fits FT OT FX OX:=by
 refine ⟨fun f tf h=>by unfold FX;rw [h];rfl,fun f h=>by unfold FX;rw [h];rfl,clones,fun f args v h g μ Z args' ha=> ?_⟩
 unfold OT at h
 unfold OX
 by_cases h75:f=75
 ·rw [if_pos h75] at h ⊢
  cases h
  exact ⟨_,rfl,.agg .nil⟩
 rw [if_neg h75] at h ⊢
 by_cases h76:f=76
 ·rw [if_pos h76] at h ⊢
  cases h
  exact ⟨_,rfl,.agg (.cons (.bool true) .nil)⟩
 rw [if_neg h76] at h ⊢
 split at h
 ·cases ha
  split at h
  ·rename_i h9
   cases h
   exact ⟨.bool true,by simp [h9],.bool true⟩
  ·cases h
 ·cases h
theorem to8:CallTo Tryz.prog 8:=⟨Tryz.f8,Tryz.func8,by decide,rfl⟩
theorem to75:CallTo Tryz.prog 75:=⟨Tryz.f75,Tryz.func75,by decide,rfl⟩
theorem to76:CallTo Tryz.prog 76:=⟨Tryz.f76,Tryz.func76,by decide,rfl⟩
theorem envX:Env Tryz.prog glo FX OX:=by
 refine ⟨by kernel_rfl,fun f x h=> ?_,fun f args v hF hO=> ?_⟩
 ·unfold FX at h
  obtain ⟨tf,h2,rfl⟩:=Option.map_eq_some_iff.1 h
  clear h
  unfold FT at h2
  by_cases e3:f=3
  ·subst e3;cases h2;exact ⟨_,Tryz.func3,d1003⟩
  rw [if_neg e3] at h2
  by_cases e7:f=7
  ·subst e7;cases h2;exact ⟨_,Tryz.func7,d15⟩
  rw [if_neg e7] at h2
  by_cases e9:f=9
  ·subst e9;cases h2;exact ⟨_,Tryz.func9,d1009⟩
  rw [if_neg e9] at h2
  by_cases e10:f=10
  ·subst e10;cases h2;exact ⟨_,Tryz.func10,d1010⟩
  rw [if_neg e10] at h2
  by_cases e11:f=11
  ·subst e11;cases h2;exact ⟨_,Tryz.func11,d1011⟩
  rw [if_neg e11] at h2
  by_cases e12:f=12
  ·subst e12;cases h2;exact ⟨_,Tryz.func12,d1012⟩
  rw [if_neg e12] at h2
  by_cases e13:f=13
  ·subst e13;cases h2;exact ⟨_,Tryz.func13,d1013⟩
  rw [if_neg e13] at h2
  by_cases e14:f=14
  ·subst e14;cases h2;exact ⟨_,Tryz.func14,d1014⟩
  rw [if_neg e14] at h2
  by_cases e15:f=15
  ·subst e15;cases h2;exact ⟨_,Tryz.func15,d1015⟩
  rw [if_neg e15] at h2
  by_cases e29:f=29
  ·subst e29;cases h2;exact ⟨_,Tryz.func29,d24⟩
  rw [if_neg e29] at h2
  by_cases e31:f=31
  ·subst e31;cases h2;exact ⟨_,Tryz.func31,d1031⟩
  rw [if_neg e31] at h2
  by_cases e32:f=32
  ·subst e32;cases h2;exact ⟨_,Tryz.func32,d66⟩
  rw [if_neg e32] at h2
  by_cases e33:f=33
  ·subst e33;cases h2;exact ⟨_,Tryz.func33,d1033⟩
  rw [if_neg e33] at h2
  by_cases e34:f=34
  ·subst e34;cases h2;exact ⟨_,Tryz.func34,d1034⟩
  rw [if_neg e34] at h2
  by_cases e35:f=35
  ·subst e35;cases h2;exact ⟨_,Tryz.func35,d1035⟩
  rw [if_neg e35] at h2
  by_cases e36:f=36
  ·subst e36;cases h2;exact ⟨_,Tryz.func36,d19⟩
  rw [if_neg e36] at h2
  by_cases e37:f=37
  ·subst e37;cases h2;exact ⟨_,Tryz.func37,d20⟩
  rw [if_neg e37] at h2
  by_cases e38:f=38
  ·subst e38;cases h2;exact ⟨_,Tryz.func38,d1038⟩
  rw [if_neg e38] at h2
  by_cases e39:f=39
  ·subst e39;cases h2;exact ⟨_,Tryz.func39,d16⟩
  rw [if_neg e39] at h2
  by_cases e40:f=40
  ·subst e40;cases h2;exact ⟨_,Tryz.func40,d1040⟩
  rw [if_neg e40] at h2
  by_cases e41:f=41
  ·subst e41;cases h2;exact ⟨_,Tryz.func41,d1041⟩
  rw [if_neg e41] at h2
  by_cases e42:f=42
  ·subst e42;cases h2;exact ⟨_,Tryz.func42,d1042⟩
  rw [if_neg e42] at h2
  by_cases e43:f=43
  ·subst e43;cases h2;exact ⟨_,Tryz.func43,d1043⟩
  rw [if_neg e43] at h2
  by_cases e44:f=44
  ·subst e44;cases h2;exact ⟨_,Tryz.func44,d1044⟩
  rw [if_neg e44] at h2
  by_cases e45:f=45
  ·subst e45;cases h2;exact ⟨_,Tryz.func45,d65⟩
  rw [if_neg e45] at h2
  by_cases e69:f=69
  ·subst e69;cases h2;exact ⟨_,Tryz.func69,d7⟩
  rw [if_neg e69] at h2
  by_cases e72:f=72
  ·subst e72;cases h2;exact ⟨_,Tryz.func72,d111⟩
  rw [if_neg e72] at h2
  by_cases e73:f=73
  ·subst e73;cases h2;exact ⟨_,Tryz.func73,d1073⟩
  rw [if_neg e73] at h2
  by_cases e74:f=74
  ·subst e74;cases h2;exact ⟨_,Tryz.func74,d41⟩
  rw [if_neg e74] at h2
  by_cases e77:f=77
  ·subst e77;cases h2;exact ⟨_,Tryz.func77,d44⟩
  rw [if_neg e77] at h2
  by_cases e78:f=78
  ·subst e78;cases h2;exact ⟨_,Tryz.func78,d45⟩
  rw [if_neg e78] at h2
  by_cases e79:f=79
  ·subst e79;cases h2;exact ⟨_,Tryz.func79,d46⟩
  rw [if_neg e79] at h2
  by_cases e80:f=80
  ·subst e80;cases h2;exact ⟨_,Tryz.func80,d1080⟩
  rw [if_neg e80] at h2
  by_cases e81:f=81
  ·subst e81;cases h2;exact ⟨_,Tryz.func81,d67⟩
  rw [if_neg e81] at h2
  by_cases e82:f=82
  ·subst e82;cases h2;exact ⟨_,Tryz.func82,d1082⟩
  rw [if_neg e82] at h2
  by_cases e83:f=83
  ·subst e83;cases h2;exact ⟨_,Tryz.func83,d1083⟩
  rw [if_neg e83] at h2
  by_cases e84:f=84
  ·subst e84;cases h2;exact ⟨_,Tryz.func84,d1084⟩
  rw [if_neg e84] at h2
  by_cases e85:f=85
  ·subst e85;cases h2;exact ⟨_,Tryz.func85,d109⟩
  rw [if_neg e85] at h2
  by_cases e86:f=86
  ·subst e86;cases h2;exact ⟨_,Tryz.func86,d110⟩
  rw [if_neg e86] at h2
  by_cases e100:f=100
  ·subst e100;cases h2;exact ⟨_,Tryz.func100,d25⟩
  rw [if_neg e100] at h2
  by_cases e111:f=111
  ·subst e111;cases h2;exact ⟨_,Tryz.func111,d1111⟩
  rw [if_neg e111] at h2
  by_cases e112:f=112
  ·subst e112;cases h2;exact ⟨_,Tryz.func112,d106⟩
  rw [if_neg e112] at h2
  by_cases e113:f=113
  ·subst e113;cases h2;exact ⟨_,Tryz.func113,d107⟩
  rw [if_neg e113] at h2
  by_cases e114:f=114
  ·subst e114;cases h2;exact ⟨_,Tryz.func114,d108⟩
  rw [if_neg e114] at h2
  by_cases e115:f=115
  ·subst e115;cases h2;exact ⟨_,Tryz.func115,d159⟩
  rw [if_neg e115] at h2
  by_cases e162:f=162
  ·subst e162;cases h2;exact ⟨_,Tryz.func162,d158⟩
  rw [if_neg e162] at h2
  by_cases e163:f=163
  ·subst e163;cases h2;exact ⟨_,Tryz.func163,d182⟩
  rw [if_neg e163] at h2
  by_cases e201:f=201
  ·subst e201;cases h2;exact ⟨_,Tryz.func201,d165⟩
  rw [if_neg e201] at h2
  by_cases e202:f=202
  ·subst e202;cases h2;exact ⟨_,Tryz.func202,d180⟩
  rw [if_neg e202] at h2
  by_cases e203:f=203
  ·subst e203;cases h2;exact ⟨_,Tryz.func203,d181⟩
  rw [if_neg e203] at h2
  cases h2
 ·unfold OX at hO
  by_cases h75:f=75
  ·rw [if_pos h75] at hO
   cases hO
   subst h75
   exact OOk.row rfl to75 sort_ok sort_nil
  rw [if_neg h75] at hO
  by_cases h76:f=76
  ·rw [if_pos h76] at hO
   cases hO
   subst h76
   exact OOk.row rfl to76 compact_ok compact_nil
  rw [if_neg h76] at hO
  split at hO
  ·split at hO
   ·rename_i h8
    cases hO
    subst h8
    exact OOk.grow to8 rfl rfl (fun φ l h=>by cases h;rfl) fun W0 N0 φ g w hg r=>awake w (r.shaped hg.1) (r.laidG hg)
   ·cases hO
  ·cases hO
end Go.Xe.YtlgknghehgmodaaGreatDoor
end
section
namespace Go.Xe
open Go Go.Proofs Go.RowKit
theorem trod_str1 {H:Type} {enc:TypeId×Value→H} {P:Program} {w:World} {base:Nat} {spare:Nat→Bool} {held:Bool} {e:TypeId} (hu:P.underlying e=some .string) {fuel:Nat} {l:List Value} {b:List UInt8} {q:List MemPlace}
  (h:DataW.trod enc P w base spare held fuel e l=some (.lit (.string b),q)):l=[.string ⟨b.toArray⟩]:=by
 cases fuel with
 |zero=>simp [DataW.trod] at h
 |succ fuel=>
  unfold DataW.trod at h
  rw [hu] at h
  rcases l with _|⟨v,_|⟨v',l⟩⟩
  ·simp at h
  ·cases v<;>simp at h
   obtain ⟨_,h,_⟩:=h
   rw [←h]
  ·simp at h
theorem trod_strs {H:Type} {enc:TypeId×Value→H} {P:Program} {w:World} {base:Nat} {spare:Nat→Bool} {held:Bool} {t e:TypeId} {n:Nat} (ht:P.underlying t=some (.array n e)) (hu:P.underlying e=some .string) (hc:P.cellsOf e=1) (hn:P.cellsOf t=n) {fuel:Nat} {l:List Value} {bs:List (List UInt8)} {q:List MemPlace}
  (h:DataW.trod enc P w base spare held fuel t l=some (.agg (bs.map fun b=>.lit (.string b)),q)):l=bs.map fun b=>.string ⟨b.toArray⟩:=by
 cases fuel with
 |zero=>simp [DataW.trod] at h
 |succ fuel=>
  unfold DataW.trod at h
  rw [ht] at h
  simp only [hn,hc] at h
  split at h
  ·rename_i hl
   obtain ⟨xs,hxs,he⟩:=Option.map_eq_some_iff.1 h
   have he1:xs.map (·.1)=bs.map fun b=>DataW.lit (.string b):=by
    have:=congrArg Prod.fst he
    injection this
   have hlen:=mapM_some_length hxs
   rw [List.length_range] at hlen
   have hbs:bs.length=n:=by
    have:=congrArg List.length he1
    rw [List.length_map,List.length_map] at this
    omega
   apply List.ext_getElem?
   intro i
   by_cases hi:i<n
   ·have h1:=mapM_some_get hxs i i (by rw [List.getElem?_range hi])
    have h2:xs[i]? =some xs[i]:=List.getElem?_eq_getElem (by omega)
    rw [h2] at h1
    have h3:=congrArg (fun z=>z[i]?) he1
    simp only [List.getElem?_map,h2,Option.map_some] at h3
    rw [List.getElem?_eq_getElem (by omega:i<bs.length)] at h3
    simp only [Option.map_some,Option.some.injEq] at h3
    rw [List.getElem?_map,List.getElem?_eq_getElem (by omega:i<bs.length),List.getElem?_eq_getElem (by omega:i<l.length)]
    generalize xs[i]=x at h1 h3
    obtain ⟨x1,x2⟩:=x
    simp only at h3
    rw [h3] at h1
    have h4:=trod_str1 hu h1
    rw [Nat.mul_one] at h4
    have h5:=congrArg (fun z=>z[0]?) h4
    simp only [List.getElem?_take,List.getElem?_drop,List.getElem?_cons_zero] at h5
    simp at h5
    rw [List.getElem?_eq_getElem (by omega:i<l.length)] at h5
    simpa using h5
   ·rw [List.getElem?_eq_none (by omega),List.getElem?_eq_none (by rw [List.length_map];omega)]
  ·cases h
theorem laid_row {P:Program} {w:World} {x:String} {d:DataW Unit} {g:Nat} {t e:TypeId} {n:Nat} {zero:Array Value} {bs:List (List UInt8)} (hS:w.ShapedOpen P) (h:laidMetH P [(x,d)] w) (hd:d=.agg (bs.map fun b=>.lit (.string b)))
  (hg:P.globalNamed x=some g) (hgt:(P.globals[g]?).map (·.type)=some t) (ht:P.underlying t=some (.array n e)) (hu:P.underlying e=some .string) (hc:P.cellsOf e=1) (hn:P.cellsOf t=n) (hlt:g<P.globals.size)
  (h0:((begin P (fun _ _=>0) default).world.heap[g]?).bind Obj.row?=some (zero,t)):w.heap[g]? =some (.cells (bs.map fun b=>Value.string ⟨b.toArray⟩).toArray t (0,0)):=by
 rw [MakeChecks.laidMetH_plain _ _ _ (by subst hd;rfl)] at h
 obtain ⟨ps,⟨g',t',cs,fuel,p,q,hg',ht',hv,hdd,_,_⟩,_⟩:=h
 obtain rfl:=Option.some.inj (hg.symm.trans hg')
 obtain rfl:=Option.some.inj (hgt.symm.trans ht')
 obtain ⟨cs',hh,_,_⟩:=hS.1 g zero t hlt h0
 have hcs:cs=cs':=by
  unfold World.var? at hv
  rw [hg] at hv
  simp only [Option.bind_some,hh] at hv
  exact (Option.some.inj hv).symm
 subst hcs hd
 have:=trod_strs ht hu hc hn hdd
 rw [hh,←this]
end Go.Xe
end
