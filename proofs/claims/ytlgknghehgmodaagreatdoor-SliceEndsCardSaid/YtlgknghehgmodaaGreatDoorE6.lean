/-
  A part of the proof: it is imported by YtlgknghehgmodaaGreatDoorTop. Nothing here is a claim of its own.
-/
import Derived.Test.YtlgknghehgmodaaGreatDoorE5
set_option linter.unusedVariables false
set_option linter.unusedSimpArgs false
set_option linter.unusedSectionVars false
set_option maxRecDepth 100000
namespace Go.Xe.YtlgknghehgmodaaGreatDoor
section
open Go Go.Xe Go.Xt
variable {F:FuncId->Option TFun} {O:FuncId->List TV->Option TV}
theorem C0d (t:PTerm):A10 t=t\/A10 t∈t.kids:=by
 unfold A10
 repeat' split
 all_goals first|exact .inl rfl|skip
 all_goals rename_i h
 all_goals first|(right;simp_all;done)|simp_all
theorem A2V {P:PTerm->Prop} (t:PTerm) (h:P t) (hk:∀x∈t.kids,P x):P (A10 t):=by
 rcases C0d t with h1|h1
 ·rw [h1];exact h
 ·exact hk _ h1
theorem A9C {f:PTerm->PTerm}:∀l:List PTerm,(∀x∈l,E3 (f x)<=E3 x)->A0S (l.map f)<=A0S l
 |[],_=>Nat.le_refl _
 |x::l,h=>by
  have:=A9C l fun y hy=>h y (by simp [hy])
  have:=h x (by simp);simp only [List.map_cons,A0S];omega
theorem A9D {f:PTerm->PTerm}:∀l:List PTerm,(∀x∈l,cntT (f x)<=cntT x)->F6 (l.map f)<=F6 l
 |[],_=>Nat.le_refl _
 |x::l,h=>by
  have:=A9D l fun y hy=>h y (by simp [hy])
  have:=h x (by simp);simp only [List.map_cons,F6];omega
theorem A00:∀(n:Nat) (e:PTerm),E3 e<=n->E3 (lessT e)<=E3 e/\cntT (lessT e)<=cntT e/\(OkTm e->OkTm (lessT e))/\∀B,Lt B e->Lt B (lessT e)
 |0,e,h=>by rw [B5] at h;omega
 |n+1,e,h=>by
  have hs:=B5 e;have ih:∀x∈e.kids,_:=fun x hx=>A00 n x (by have:=D3 _ _ hx;omega)
  have h1:=A9C (f:=lessT) e.kids fun x hx=>(ih x hx).1
  have h2:=A9D (f:=lessT) e.kids fun x hx=>(ih x hx).2.1
  have hkid:∀{x},x∈e.kids.map lessT->∃y∈e.kids,lessT y=x:=fun hx=>by
   obtain ⟨y,hy,rfl⟩:=List.mem_map.1 hx;exact ⟨y,hy,rfl⟩
  rw [A0C];refine ⟨?_,?_,fun ok=> ?_,fun B hl=> ?_⟩
  ·refine A2V (P:=fun x=>E3 x<=E3 e) _ ?_ fun x hx=> ?_
   ·show E3 _<=_;rw [B5];simp only [PTerm.kids,PTerm.val,PTerm.odds];simp only [PTerm.kids,PTerm.val,PTerm.odds] at hs h1;omega
   ·have:=D3 (e.kids.map lessT) x hx;show E3 _<=_;omega
  ·refine A2V (P:=fun x=>cntT x<=cntT e) _ ?_ fun x hx=> ?_
   ·show cntT _<=_;rw [L7,L7 e];simp only [PTerm.kids] at h2 ⊢;omega
   ·have:=W1 (e.kids.map lessT) x hx;show cntT _<=_;rw [L7 e];omega
  ·refine A2V (P:=OkTm) _ (.mk ok.kind ok.n ok.m ok.val ok.olen ok.odds (by rw [List.length_map];exact ok.len) fun x hx=> ?_) fun x hx=> ?_
   ·obtain ⟨y,hy,rfl⟩:=hkid hx;exact (ih y hy).2.2.1 (ok.sub y hy)
   ·obtain ⟨y,hy,rfl⟩:=hkid hx;exact (ih y hy).2.2.1 (ok.sub y hy)
  ·refine A2V (P:=Lt B) _ (.mk hl.val hl.odds fun x hx=> ?_) fun x hx=> ?_
   ·obtain ⟨y,hy,rfl⟩:=hkid hx;exact (ih y hy).2.2.2 B (hl.sub y hy)
   ·obtain ⟨y,hy,rfl⟩:=hkid hx;exact (ih y hy).2.2.2 B (hl.sub y hy)
theorem C7s {N b:Nat} (e:PTerm) (hks:e.kids=[]) (a:TAct) (σ:Sto) (s2 po ver:Nat)
  (hdf:a.df=[]) (h1:a.tm.get 1=some (.bx 0 [.int .i64 e.kind,.int .i64 e.n,.int .i64 e.m,.int .i64 e.val.kind,.int .i64 e.val.n,.sl .fz (e.val.list.map E1),.sl .fz (e.odds.map encI),.sl .nl []] 28)) (h2:a.tm.get 2=some (.bx s2 C28 28)) (h3:a.tm.get 3=some (.ptr po 0)) (hat:σ.at po=some ⟨ver,.cells [.sl .nl []] 26⟩):
  Tw A3s b (A2 F O N) N (fun ex a' σ'=>a'.df=[]/\σ'=σ/\ex=.normal/\A10 e=e/\a'.tm.get 1=some (.bx 0 [.int .i64 e.kind,.int .i64 e.n,.int .i64 e.m,.int .i64 e.val.kind,.int .i64 e.val.n,.sl .fz (e.val.list.map E1),.sl .fz (e.odds.map encI),.sl .nl []] 28)/\a'.tm.get 2=some (.bx s2 C28 28)) [] (B9 A3s b (A2 F O N) N F0 a σ):=by
 obtain ⟨tm,df,clk⟩:=a;simp only at hdf h1 h2 h3;subst hdf;unfold C28 at*;unfold A10;rw [hks]
 by_cases k7:e.kind=7
 ·simp [F0,h1,h2,h3,hat,k7,B4]
 by_cases k10:e.kind=10
 ·simp [F0,h1,h2,h3,hat,k10,B4]
 by_cases k11:e.kind=11
 ·simp [F0,h1,h2,h3,hat,k11,B4]
 by_cases k12:e.kind=12
 ·simp [F0,h1,h2,h3,hat,k12,B4]
 by_cases k8:e.kind=8
 ·simp [F0,h1,h2,h3,hat,k8,B4]
 simp [F0,h1,h2,h3,hat,k7,k10,k11,k12,k8,B4]
theorem A7O (h41:F 41=some f1041) (L:LFits F O):∀(M N:Nat) (e:PTerm) (b:Nat) (σ:Sto),E3 e<=M->5*M+100100<=N->OkTm e->cntT e<=3000->
  A2 F O N b 41 [.agg (A5 e)] σ=some (.ret (.agg (A5 (lessT e))),σ)
 |0,N,e,b,σ,h,_,_,_=>by rw [B5] at h;omega
 |M+1,N,e,b,σ,h,hN,he,hc=>by
  have ih:=A7O h41 L M;have hs:=B5 e;have hcd:=L7 e;have hkl:e.kids.length<=F6 e.kids:=by
   generalize e.kids=l
   induction l with
   |nil=>exact Nat.le_refl _
   |cons x l ihl=>simp only [F6,List.length_cons];have:=L7 x;omega
  obtain ⟨N,rfl⟩:∃n,N=n+1:=⟨N - 1,by omega⟩;obtain ⟨σ0,hσ0⟩:∃σ0,σ0=σ++[some (⟨0,.cells [.sl .nl []] 26⟩:TObj)]:=⟨_,rfl⟩;have hat0:σ0.at σ.length=some ⟨0,.cells [.sl .nl []] 26⟩:=by rw [hσ0];exact A3O _ _
  have hl0:σ0.length=σ.length+1:=by rw [hσ0];simp
  suffices hh:∃r σ',A2 F O (N+1) b 41 [.agg (A5 e)] σ=some (r,σ')/\r=.ret (.agg (A5 (lessT e)))/\σ'=σ by
   obtain ⟨r,σ',q1,rfl,rfl⟩:=hh;exact q1
  refine E4 h41 ?_;simp [B6B,A0 e,<-hσ0];apply H8
  ·apply B8I (po:=σ.length) (σ:=σ0) (C1:=A5 e) (C2:=C28) e he (by omega) (by omega)
   ·exact Nat.le_refl _
   ·rfl
   ·exact fun x hx b σ=>ih N x b σ (by have:=D3 _ _ hx;omega) (by omega) (he.sub x hx) (by have:=W1 _ _ hx;omega)
   ·rfl
   ·simp [A0 e]
   ·simp [C28];rfl
   ·simp
   ·exact ⟨0,hat0⟩
  rintro ex ⟨tm,df,clk⟩ σ1 ⟨rfl,hdf,h1,h2,h3,ver,v,hB,rfl⟩;simp only at hdf h1 h2 h3;subst hdf;have hat:∀o:TObj,Sto.at (σ0.set σ.length (some o)) σ.length=some o:=fun o=>at_set (by omega) _
  have htk:∀o:Option TObj,(σ0.set σ.length o).take σ.length=σ:=fun o=>by
   rw [List.take_set_of_le (Nat.le_refl _),hσ0];simp
  have htk2:∀o o':Option TObj,((σ0.set σ.length o).set σ.length o').take σ.length=σ:=fun o o'=>by
   rw [List.take_set_of_le (Nat.le_refl _),htk]
  obtain ⟨e',he'⟩:∃e',e'=PTerm.mk e.kind e.n e.m e.val e.odds (e.kids.map lessT):=⟨_,rfl⟩;have hle:lessT e=A10 e':=by rw [he'];exact A0C e
  rw [hle];have hok':OkTm e':=by
   rw [he'];exact .mk he.kind he.n he.m he.val he.olen he.odds (by rw [List.length_map];exact he.len) fun x hx=>by
    obtain ⟨y,hy,rfl⟩:=List.mem_map.1 hx;exact (A00 _ y (Nat.le_refl _)).2.2.1 (he.sub y hy)
  have hks':e'.kids=e.kids.map lessT:=by rw [he'];rfl
  have f1:e'.kind=e.kind:=by rw [he'];rfl
  have f2:e'.n=e.n:=by rw [he'];rfl
  have f3:e'.m=e.m:=by rw [he'];rfl
  have f4:e'.val=e.val:=by rw [he'];rfl
  have f5:e'.odds=e.odds:=by rw [he'];rfl
  have hN':∀x∈e'.kids,4*E3 x+100020<=N/\cntT x<=3000:=fun x hx=>by
   rw [hks'] at hx;obtain ⟨y,hy,rfl⟩:=List.mem_map.1 hx;have:=A00 _ y (Nat.le_refl _);have:=D3 _ _ hy;have:=W1 _ _ hy;omega
  rw [<-hks'] at hB;have hkl':e'.kids.length<=1000000:=by rw [hks',List.length_map];omega
  have hkl2:e'.kids.length+20<=N:=by rw [hks',List.length_map];have:=M3 e.kids;omega
  clear hks' hle he';rw [A0,<-f1,<-f2,<-f3,<-f4,<-f5] at h1;unfold C28 at h2;generalize hks:e'.kids=ks at hB;rcases hB with _|_
  ·simp [h1,h2,h3,hat];apply H8
   ·apply C7s (po:=σ.length) (s2:=_) e' hks
    ·rfl
    ·simp
    ·simp [h2,C28];rfl
    ·simp [h3]
    ·exact hat _
   rintro ex ⟨tm,df,clk⟩ σ2 ⟨hdf,rfl,rfl,hct,h1,h2⟩;simp only at hdf h1 h2;subst hdf;rw [hct];unfold C28 at h2;simp [h1,h2,A0 e',hks,htk,htk2]
  ·rw [<-hks];simp [h1,h2,h3,hat];apply H8
   ·apply B8L (po:=σ.length) (s2:=_) L e' hok' hkl' hN' hkl2
    ·rfl
    ·simp [A0 e']
    ·simp [h2,C28];rfl
    ·simp [h3]
    ·exact hat _
   rintro ex ⟨tm,df,clk⟩ σ2 ⟨hdf,rfl,hq⟩;simp only at hdf hq;subst hdf;rcases hq with ⟨rfl,h2⟩|⟨rfl,hct,h1,h2⟩
   ·rw [A0] at h2;simp [h2,A0 (A10 e'),htk]
   ·rw [hct];rw [A0] at h1;unfold C28 at h2;simp [h1,h2,A0 e',htk]
end
section
open Go Go.Xe Go.Xt
def OT (f:FuncId) (args:List TV):Option TV:=
 if f=75 then some (.agg []) else if f=76 then some (.agg [.bool true]) else match args with
 |[]=>if f=8 then some (.bool true) else none
 |_=>none
theorem Lt.mono {B C:Nat} (hBC:B<=C):∀n (e:PTerm),E3 e<=n->Lt B e->Lt C e
 |0,e,hn,_=>by have:=B5 e;omega
 |n+1,e,hn,h=>Lt.of (Nat.le_trans h.val hBC) (Nat.le_trans h.odds hBC) fun x hx=>Lt.mono hBC n x (by have:=B5 e;have:=D3 _ x hx;omega) (h.sub x hx)
end
section
open Go Go.Xe Go.Xt
variable {F:FuncId->Option TFun} {O:FuncId->List TV->Option TV}
theorem C2z (hF:F 165=some f149) (G:FuncId) (cap:List TV) (N:Nat) (S:QTyp->Bool) (b:Nat) (σ:Sto) (l:List QTyp) (hl:l.length<=maxLen) (hn:l.length<N)
  (hc:∀x∈l,∀b,A2 F O N b G (.agg (D5 x)::cap) σ=some (.ret (.bool (S x)),σ)):
  ∃r:Int,A2 F O (N+1) b 165 [.sl .fz (l.map D5),.func G [] cap] σ=some (.ret (.int .i64 r),σ)/\decide (0<=r)=l.any S:=by
 suffices hh:∃e' σ',A2 F O (N+1) b 165 [.sl .fz (l.map D5),.func G [] cap] σ=some (e',σ')/\∃r:Int,e'=.ret (.int .i64 r)/\σ'=σ/\decide (0<=r)=l.any S by
  obtain ⟨e',σ',q1,r,rfl,rfl,q2⟩:=hh;exact ⟨r,q1,q2⟩
 refine E4 hF ?_;simp [x149];obtain ⟨I,hI⟩:∃I:Nat->TAct->Sto->Prop,I=(fun j a σ'=>a.df=[]/\σ'=σ/\(l.drop j).any S=l.any S/\a.tm.get 0=some (.sl .fz (l.map D5))/\a.tm.get 1=some (.func G [] cap)/\a.tm.get 7=some (.int .i64 (l.length:Int))/\a.tm.get 8=some (.int .i64 j)):=⟨_,rfl⟩
 obtain ⟨R,hR⟩:∃R:TEx->TAct->Sto->Prop,R=(fun ex a σ'=>a.df=[]/\σ'=σ/\(ex=.exit 0/\l.any S=false\/ex=.ret/\l.any S=true/\∃r:Int,0<=r/\a.tm.get 4=some (.int .i64 r))):=⟨_,rfl⟩;refine B8 I l.length R ?_ ?_ ?_ ?_ ?_
 ·rw [hI];simp
 ·omega
 ·rw [hI];rintro j ⟨tm,df,clk⟩ σ' hj ⟨rfl,rfl,hd,h0,h1,h7,h8⟩;rw [<-hI];have hw:=F9 hj hl;rw [A4F hj] at hd;have hcc:=hc l[j] (List.getElem_mem hj) σ'.length;rw [A1] at hcc;cases hs:S l[j] with
  |true=>
   rw [hs] at hd hcc;simp [h0,h1,h7,h8,hj,hcc,hw,A1];rw [hR];exact ⟨rfl,rfl,.inr ⟨rfl,by simpa using hd.symm,j,by omega,by simp⟩⟩
  |false=>
   rw [hs] at hd hcc;simp [h0,h1,h7,h8,hj,hcc,hw,A1];rw [hI]
   simpa [h0,h1,h7] using hd
 ·rw [hI];rintro ⟨tm,df,clk⟩ σ' ⟨rfl,rfl,hd,h0,h1,h7,h8⟩;rw [List.drop_of_length_le (Nat.le_refl _)] at hd;simp [h0,h1,h7,h8];rw [hR];exact ⟨rfl,rfl,.inl ⟨rfl,hd.symm⟩⟩
 ·rw [hR];rintro ex ⟨tm,df,clk⟩ σ' ⟨rfl,rfl,⟨rfl,h⟩|⟨rfl,h,r,hr,h4⟩⟩
  ·simp [h]
  ·simp [h,h4,hr]
theorem C9D (hF:F 119=some f95) (hI:F 165=some f149) (G:FuncId) (cap:List TV) (N:Nat) (S:QTyp->Bool) (b:Nat) (σ:Sto) (l:List QTyp) (hl:l.length<=maxLen) (hn:l.length<N)
  (hc:∀x∈l,∀b,A2 F O N b G (.agg (D5 x)::cap) σ=some (.ret (.bool (S x)),σ)):
  A2 F O (N+2) b 119 [.sl .fz (l.map D5),.func G [] cap] σ=some (.ret (.bool (l.any S)),σ):=by
 obtain ⟨r,hq,hr⟩:=C2z (O:=O) hI G cap N S σ.length σ l hl hn hc;refine A3 hF ?_;simp [x95,hq,<-hr]
theorem C2A (hF:F 237=some f157) (G:FuncId) (cap:List TV) (N:Nat) (S:PVal->Bool) (b:Nat) (σ:Sto) (l:List PVal) (hl:l.length<=maxLen) (hn:l.length<N)
  (hc:∀x∈l,∀b,A2 F O N b G (.agg (E1 x)::cap) σ=some (.ret (.bool (S x)),σ)):
  ∃r:Int,A2 F O (N+1) b 237 [.sl .fz (l.map E1),.func G [] cap] σ=some (.ret (.int .i64 r),σ)/\decide (0<=r)=l.any S:=by
 suffices hh:∃e' σ',A2 F O (N+1) b 237 [.sl .fz (l.map E1),.func G [] cap] σ=some (e',σ')/\∃r:Int,e'=.ret (.int .i64 r)/\σ'=σ/\decide (0<=r)=l.any S by
  obtain ⟨e',σ',q1,r,rfl,rfl,q2⟩:=hh;exact ⟨r,q1,q2⟩
 refine E4 hF ?_;simp [x157];obtain ⟨I,hI⟩:∃I:Nat->TAct->Sto->Prop,I=(fun j a σ'=>a.df=[]/\σ'=σ/\(l.drop j).any S=l.any S/\a.tm.get 0=some (.sl .fz (l.map E1))/\a.tm.get 1=some (.func G [] cap)/\a.tm.get 7=some (.int .i64 (l.length:Int))/\a.tm.get 8=some (.int .i64 j)):=⟨_,rfl⟩
 obtain ⟨R,hR⟩:∃R:TEx->TAct->Sto->Prop,R=(fun ex a σ'=>a.df=[]/\σ'=σ/\(ex=.exit 0/\l.any S=false\/ex=.ret/\l.any S=true/\∃r:Int,0<=r/\a.tm.get 4=some (.int .i64 r))):=⟨_,rfl⟩;refine B8 I l.length R ?_ ?_ ?_ ?_ ?_
 ·rw [hI];simp
 ·omega
 ·rw [hI];rintro j ⟨tm,df,clk⟩ σ' hj ⟨rfl,rfl,hd,h0,h1,h7,h8⟩;rw [<-hI];have hw:=F9 hj hl;rw [A4F hj] at hd;have hcc:=hc l[j] (List.getElem_mem hj) σ'.length;rw [A4] at hcc;cases hs:S l[j] with
  |true=>
   rw [hs] at hd hcc;simp [h0,h1,h7,h8,hj,hcc,hw,A4];rw [hR];exact ⟨rfl,rfl,.inr ⟨rfl,by simpa using hd.symm,j,by omega,by simp⟩⟩
  |false=>
   rw [hs] at hd hcc;simp [h0,h1,h7,h8,hj,hcc,hw,A4];rw [hI]
   simpa [h0,h1,h7] using hd
 ·rw [hI];rintro ⟨tm,df,clk⟩ σ' ⟨rfl,rfl,hd,h0,h1,h7,h8⟩;rw [List.drop_of_length_le (Nat.le_refl _)] at hd;simp [h0,h1,h7,h8];rw [hR];exact ⟨rfl,rfl,.inl ⟨rfl,hd.symm⟩⟩
 ·rw [hR];rintro ex ⟨tm,df,clk⟩ σ' ⟨rfl,rfl,⟨rfl,h⟩|⟨rfl,h,r,hr,h4⟩⟩
  ·simp [h]
  ·simp [h,h4,hr]
theorem C9E (hF:F 226=some f103) (hI:F 237=some f157) (G:FuncId) (cap:List TV) (N:Nat) (S:PVal->Bool) (b:Nat) (σ:Sto) (l:List PVal) (hl:l.length<=maxLen) (hn:l.length<N)
  (hc:∀x∈l,∀b,A2 F O N b G (.agg (E1 x)::cap) σ=some (.ret (.bool (S x)),σ)):
  A2 F O (N+2) b 226 [.sl .fz (l.map E1),.func G [] cap] σ=some (.ret (.bool (l.any S)),σ):=by
 obtain ⟨r,hq,hr⟩:=C2A (O:=O) hI G cap N S σ.length σ l hl hn hc;refine A3 hF ?_;simp [x103,hq,<-hr]
theorem C0e (h96:F 120=some f96) (N:Nat) (x:QTyp) (left:Int) (hl:I64 left) (h1:1<=left) (b k ver:Nat) (σ:Sto) (hk:σ.at k=some ⟨ver,.cells [.int .i64 left] 3⟩)
  (ih:∀b,A2 F O N b 97 [.agg (D5 x),.int .i64 (left - 1)] σ=some (.ret (.bool (E0 (left - 1).toNat x)),σ)):
  A2 F O (N+1) b 120 [.agg (D5 x),.ptr k 0] σ=some (.ret (.bool (!(E0 (left - 1).toNat x))),σ):=by
 have hc:=ih σ.length;have hw:IntKind.i64.wrap (left - 1)=left - 1:=by
  unfold I64 at hl;rw [G2]<;>omega
 rw [A1] at hc;refine A3 h96 ?_;generalize (left - 1).toNat=n1 at hc ⊢;cases hm:x.nl<;>(rw [hm] at hc;simp only [D4] at hc;simp [x96,A1,hm,D4,hk,hw,hc])
theorem H9 (σ:Sto) (o:TObj):Sto.at (σ++[some o]) σ.length=some o:=by simp [Sto.at]
theorem B8M (h56:F 97=some f56) (h96:F 120=some f96) (h95:F 119=some f95) (h149:F 165=some f149):∀(N:Nat) (t:QTyp) (left:Int) (b:Nat) (σ:Sto),szQ t<=N->OkQ t->I64 left->
  A2 F O N b 97 [.agg (D5 t),.int .i64 left] σ=some (.ret (.bool (E0 left.toNat t)),σ)
 |0,t,left,b,σ,h,_,_=>by rw [G3] at h;omega
 |1,t,left,b,σ,h,_,_=>by rw [G3] at h;omega
 |2,t,left,b,σ,h,_,_=>by rw [G3] at h;omega
 |3,t,left,b,σ,h,_,_=>by rw [G3] at h;omega
 |N+4,t,left,b,σ,h,ht,hl=>by
  have hs:=G3 t;have hk:=A2v t.list;refine A3 h56 ?_
  by_cases h1:left<1
  ·have e0:left.toNat=0:=by omega
   cases hm:t.nl<;>simp [x56,A1,hm,D4,h1,e0,E0,H9]
  obtain ⟨n,hn⟩:∃n:Nat,left.toNat=n+1:=⟨left.toNat - 1,by omega⟩;have hn2:(left - 1).toNat=n:=by omega
  have hl2:I64 (left - 1):=by unfold I64 at hl ⊢;omega
  have hany:∀σ1:Sto,∀k ver b,σ1.at k=some ⟨ver,.cells [.int .i64 left] 3⟩->A2 F O (N+3) b 119 [.sl .fz (t.list.map D5),.func 120 [] [.ptr k 0]] σ1=some (.ret (.bool (t.list.any fun x=> !(E0 n x))),σ1):=fun σ1 k ver b hat=>by
   rw [<-hn2];exact C9D (O:=O) h95 h149 120 [.ptr k 0] (N+1) (fun x=> !(E0 (left - 1).toNat x)) b σ1 t.list ht.len (by omega) (fun x hx b=>C0e h96 N x left hl (by omega) b k ver σ1 hat (fun b=>B8M h56 h96 h95 h149 N x (left - 1) b σ1 (by have:=A0c _ _ hx;omega) (ht.sub x hx) hl2))
  have hp:=H9 σ ⟨0,.cells [.int .i64 left] 3⟩;have hc:=hany _ _ _ σ.length hp;have hall:(!(t.list.any fun x=> !(E0 n x)))=t.list.all (E0 n):=by
   generalize t.list=l
   induction l with
   |nil=>rfl
   |cons a l ih=>rw [List.any_cons,List.all_cons,<-ih];cases E0 n a<;>simp
  generalize (t.list.any fun x=> !(E0 n x))=v at hc hall;rw [hn];cases hm:t.nl with
  |true=>
   have hnil:=ht.nl hm;simp [hnil] at hall
   by_cases k1:t.kind=1
   ·simp [x56,A1,hm,D4,h1,hp,k1,E0,hnil]
   by_cases k2:t.kind=2
   ·simp [x56,A1,hm,D4,h1,hp,k2,E0,hnil]
   by_cases k3:t.kind=3
   ·simp [x56,A1,hm,D4,h1,hp,k3,E0,hnil]
   by_cases k4:t.kind=4
   ·simp [x56,A1,hm,D4,h1,hp,k4,E0,hnil]
   simp [x56,A1,hm,D4,h1,hp,k1,k2,k3,k4,E0,hnil]
  |false=>
   by_cases k1:t.kind=1
   ·simp [x56,A1,hm,D4,h1,hp,k1,E0]
   by_cases k2:t.kind=2
   ·simp [x56,A1,hm,D4,h1,hp,k2,E0]
   by_cases k3:t.kind=3
   ·by_cases l2:(t.list.length:Int)<2
    ·have l2':¬2<=t.list.length:=by omega
     simp [x56,A1,hm,D4,h1,hp,k3,E0,l2,l2']
    by_cases l4:(4:Int)<(t.list.length:Int)
    ·have l4':¬t.list.length<=4:=by omega
     simp [x56,A1,hm,D4,h1,hp,k3,E0,l2,l4,l4']
    have l2':2<=t.list.length:=by omega
    have l4':t.list.length<=4:=by omega
    simp [x56,A1,hm,D4,h1,hp,k3,E0,l2,l4,l2',l4',hc,<-hall]
   by_cases k4:t.kind=4
   ·by_cases l1:(t.list.length:Int)=1
    ·have l1':t.list.length=1:=by omega
     simp [x56,A1,hm,D4,h1,hp,k4,E0,l1',hc,<-hall]
    ·have l1':t.list.length≠1:=by omega
     simp [x56,A1,hm,D4,h1,hp,k4,E0,l1,l1']
   simp [x56,A1,hm,D4,h1,hp,k1,k2,k3,k4,E0]
theorem A5X (h28:F 62=some f28) (h56:F 97=some f56) (h96:F 120=some f96) (h95:F 119=some f95) (h149:F 165=some f149) (N:Nat) (t:QTyp) (b:Nat) (σ:Sto) (h:szQ t<=N) (ht:OkQ t):
  A2 F O (N+1) b 62 [.agg (D5 t)] σ=some (.ret (.bool (E0 40 t)),σ):=by
 have hc:=B8M (O:=O) h56 h96 h95 h149 N t 40 σ.length σ h ht (by unfold I64;omega);have e:(40:Int).toNat=40:=rfl;rw [e] at hc;refine A3 h28 ?_;cases hm:t.nl<;>(rw [A1,hm] at hc;simp only [D4] at hc;simp [x28,A1,hm,D4,hc])
mutual
def sV:PVal->Nat
 |.mk _ _ l=>sVs l+1
def sVs:List PVal->Nat
 |[]=>0
 |t::l=>sV t+sVs l
end
theorem C2C (v:PVal):sV v=sVs v.list+1:=by cases v;simp only [sV,PVal.list]
theorem B2q (h61:F 168=some f61):∀(N:Nat) (v:PVal) (b:Nat) (σ:Sto),szV v<=N->OkV v->
  A2 F O N b 168 [.agg (E1 v)] σ=some (.ret (.int .i64 ((min (sV v) 1001:Nat):Int)),σ)
 |0,v,b,σ,h,_=>by rw [E5] at h;omega
 |N+1,v,b,σ,h,hv=>by
  have ih:=B2q h61 N;have hs:=E5 v;have hk:=A0T v.list;have hd:=C2C v
  suffices hh:∃e' σ',A2 F O (N+1) b 168 [.agg (E1 v)] σ=some (e',σ')/\∃r:Nat,e'=.ret (.int .i64 (r:Int))/\σ'=σ/\r=min (sV v) 1001 by
   obtain ⟨e',σ',q1,r',rfl,rfl,rfl⟩:=hh;exact q1
  refine E4 h61 ?_;simp [x61,A4];obtain ⟨I,hI⟩:∃I:Nat->TAct->Sto->Prop,I=(fun j a σ'=>a.df=[]/\σ'=σ/\∃acc:Nat,min (acc+sVs (v.list.drop j)) 1001=min (sV v) 1001/\acc<=1000/\a.tm.get 3=some (.int .i64 (acc:Int))/\a.tm.get 7=some (.sl .fz (v.list.map E1))/\a.tm.get 8=some (.int .i64 (v.list.length:Int))/\a.tm.get 9=some (.int .i64 j)):=⟨_,rfl⟩
  obtain ⟨R,hR⟩:∃R:TEx->TAct->Sto->Prop,R=(fun ex a σ'=>ex=.exit 0/\a.df=[]/\σ'=σ/\a.tm.get 3=some (.int .i64 ((min (sV v) 1001:Nat):Int))):=⟨_,rfl⟩;refine B8 I v.list.length R ?_ ?_ ?_ ?_ ?_
  ·rw [hI];exact ⟨rfl,rfl,1,by rw [List.drop_zero];omega,by omega,by simp,by simp,by simp,by simp⟩
  ·omega
  ·rw [hI];rintro j ⟨tm,df,clk⟩ σ' hj ⟨rfl,rfl,acc,hacc,hle,g3,g7,g8,g9⟩;rw [<-hI];have hw:=F9 hj hv.len;have hdr:sVs (v.list.drop j)=sV v.list[j]+sVs (v.list.drop (j+1)):=by rw [List.drop_eq_getElem_cons hj];rfl
   have hcc:=ih v.list[j] σ'.length σ' (by have:=O2 _ _ (List.getElem_mem hj);omega) (hv.sub _ (List.getElem_mem hj));rw [A4] at hcc;generalize hr:min (sV v.list[j]) 1001=r at hcc;have hwa:IntKind.i64.wrap ((acc:Int)+(r:Int))=((acc+r:Nat):Int):=by rw [G2]<;>omega
   obtain ⟨m,hm⟩:∃m,m=acc+r:=⟨_,rfl⟩;rw [<-hm] at hwa;have hin:A04 [.int .i64 (m:Int),.int .i64 1001]=some [(.i64,(m:Int)),(.i64,1001)]:=rfl
   by_cases h1:(1001:Int)<(m:Int)
   ·simp [g3,g7,g8,g9,hj,hcc,hw,hwa,A4,hin,F2,h1];rw [hR];refine ⟨rfl,rfl,rfl,?_⟩;have:min (sV v) 1001=1001:=by omega
    simp [this]
   ·by_cases ha:(1000:Int)<(m:Int)
    ·simp [g3,g7,g8,g9,hj,hcc,hw,hwa,A4,hin,F2,h1,ha];rw [hR];refine ⟨rfl,rfl,rfl,?_⟩;have:min (sV v) 1001=m:=by omega
     simp [this]
    ·simp [g3,g7,g8,g9,hj,hcc,hw,hwa,A4,hin,F2,h1,ha];rw [hI];exact ⟨rfl,rfl,m,by omega,by omega,by simp,by simp [g7],by simp [g8],by simp⟩
  ·rw [hI];rintro ⟨tm,df,clk⟩ σ' ⟨rfl,rfl,acc,hacc,hle,g3,g7,g8,g9⟩;rw [List.drop_of_length_le (Nat.le_refl _)] at hacc;have e0:sVs ([]:List PVal)=0:=rfl;rw [e0] at hacc;simp [g3,g7,g8,g9];rw [hR];exact ⟨rfl,rfl,rfl,by simp [g3];omega⟩
  ·rw [hR];rintro ex ⟨tm,df,clk⟩ σ' ⟨rfl,rfl,rfl,g1⟩;simp [g1]
theorem C9F (hF:F 225=some f32) (G N:Nat) (S:QTyp->PVal->Bool) (b:Nat) (σ:Sto) (l:List QTyp) (m:List PVal) (md:Bool) (hmd:md=true->l=[]) (hl:l.length<=maxLen) (hm:m.length<=maxLen) (hn:l.length<N)
  (hc:∀x∈l,∀y∈m,∀b,A2 F O N b G [.agg (D5 x),.agg (E1 y)] σ=some (.ret (.bool (S x y)),σ)):
  A2 F O (N+1) b 225 [.sl (D4 md) (l.map D5),.sl .fz (m.map E1),.func G [] []] σ=some (.ret (.bool (F4 S l m)),σ):=by
 refine A3 hF ?_
 by_cases hlm:(l.length:Int)=(m.length:Int)
 case neg=>
  have hne:l.length≠m.length:=by omega
  cases md<;>simp [x32,D4,hlm,hne,A1c hne]
 have hlm':l.length=m.length:=by omega
 cases md with
 |true=>
  have hl0:=hmd rfl;subst hl0;have hm0:m=[]:=List.eq_nil_of_length_eq_zero (by simpa using hlm'.symm);subst hm0;simp [x32,D4];refine B8 (I:=fun j a σ'=>a.df=[]/\σ'=σ/\a.tm.get 16=some (.int .i64 0)/\a.tm.get 17=some (.int .i64 j)) 0
   (R:=fun ex a σ'=>ex=.exit 0/\a.df=[]/\σ'=σ) ?_ ?_ ?_ ?_ ?_
  ·simp
  ·omega
  ·rintro j ⟨tm,df,clk⟩ σ' hj;omega
  ·rintro ⟨tm,df,clk⟩ σ' ⟨rfl,rfl,g5,g7⟩;simp at g7;simp [g5,g7]
  ·rintro ex ⟨tm,df,clk⟩ σ' ⟨rfl,rfl,rfl⟩;simp [F4]
 |false=>
  simp [x32,D4,hlm'];obtain ⟨I,hI⟩:∃I:Nat->TAct->Sto->Prop,I=(fun j a σ'=>a.df=[]/\σ'=σ/\F4 S (l.drop j) (m.drop j)=F4 S l m/\a.tm.get 1=some (.sl .fz (m.map E1))/\a.tm.get 2=some (.func G [] [])/\a.tm.get 15=some (.sl .fz (l.map D5))/\a.tm.get 16=some (.int .i64 (m.length:Int))/\a.tm.get 17=some (.int .i64 j)):=⟨_,rfl⟩
  obtain ⟨R,hR⟩:∃R:TEx->TAct->Sto->Prop,R=(fun ex a σ'=>a.df=[]/\σ'=σ/\(ex=.exit 0/\F4 S l m=true\/ex=.ret/\F4 S l m=false/\a.tm.get 6=some (.bool false))):=⟨_,rfl⟩;refine B8 I m.length R ?_ ?_ ?_ ?_ ?_
  ·rw [hI];simp
  ·omega
  ·rw [hI];rintro j ⟨tm,df,clk⟩ σ' hj ⟨rfl,rfl,hd,h1,h2,h15,h16,h17⟩;rw [<-hI];have hjl:j<l.length:=by omega
   have hw:=F9 hj hm;rw [A0B hjl hj] at hd;have hcc:=hc l[j] (List.getElem_mem hjl) m[j] (List.getElem_mem hj) σ'.length;rw [A4] at hcc;cases hs:S l[j] m[j] with
   |true=>
    rw [hs] at hd hcc;cases hmj:(l[j]).nl<;>
    ·rw [A1,hmj] at hcc;simp only [D4] at hcc;simp [h1,h2,h15,h16,h17,hj,hjl,hcc,hw,A1,A4,hmj,D4];rw [hI]
     simpa [h1,h2,h15,h16] using hd
   |false=>
    rw [hs] at hd hcc;cases hmj:(l[j]).nl<;>
    ·rw [A1,hmj] at hcc;simp only [D4] at hcc;simp [h1,h2,h15,h16,h17,hj,hjl,hcc,hw,A1,A4,hmj,D4];rw [hR]
     simpa using hd.symm
  ·rw [hI];rintro ⟨tm,df,clk⟩ σ' ⟨rfl,rfl,hd,h1,h2,h15,h16,h17⟩;rw [A1y (by omega) (by omega)] at hd;simp [h1,h2,h15,h16,h17];rw [hR];exact ⟨rfl,rfl,.inl ⟨rfl,hd.symm⟩⟩
  ·rw [hR];rintro ex ⟨tm,df,clk⟩ σ' ⟨rfl,rfl,⟨rfl,h⟩|⟨rfl,h,h6⟩⟩
   ·simp [h]
   ·simp [h,h6]
mutual
def hasV:PVal->QTyp->Bool
 |.mk k n l,t=>decide (k=t.kind)&&(if t.kind=1 then decide (n=0\/n=1)&&decide (l.length=0) else if t.kind=2 then decide (-2147483648<=n/\n<=2147483647)&&decide (l.length=0)
   else if t.kind=3 then decide (n=0)&&B2r l t.list else decide (n=0)&&(decide (l.length<=32)&&hasAll l t.list))
def B2r:List PVal->List QTyp->Bool
 |[],[]=>true
 |a::l,b::m=>hasV a b&&B2r l m
 |_,_=>false
def hasAll:List PVal->List QTyp->Bool
 |[],_=>true
 |a::l,ts=>(match ts with|x::_=>hasV a x|[]=>false)&&hasAll l ts
end
theorem B2s:∀(l:List PVal) (m:List QTyp),B2r l m=F4 (fun t v=>hasV v t) m l
 |[],[]=>rfl
 |[],_::_=>rfl
 |_::_,[]=>rfl
 |a::l,b::m=>by simp only [B2r,F4,B2s l m]
theorem A9E (x:QTyp) (r:List QTyp):∀(l:List PVal),hasAll l (x::r)=l.all (fun v=>hasV v x)
 |[]=>rfl
 |a::l=>by simp only [hasAll,List.all_cons,A9E x r l]
theorem A7P (v:PVal) (t:QTyp):hasV v t=(decide (v.kind=t.kind)&&(if t.kind=1 then decide (v.n=0\/v.n=1)&&decide (v.list.length=0) else if t.kind=2 then decide (-2147483648<=v.n/\v.n<=2147483647)&&decide (v.list.length=0)
   else if t.kind=3 then decide (v.n=0)&&B2r v.list t.list else decide (v.n=0)&&(decide (v.list.length<=32)&&hasAll v.list t.list))):=by
 cases v;simp only [hasV,PVal.kind,PVal.n,PVal.list];rfl
def Gd (t:QTyp):Prop:=(t.kind=1\/t.kind=2)\/∃n,E0 n t=true
theorem Gd.sub {t:QTyp} (h:Gd t) (k:t.kind=3\/t.kind=4):∀x∈t.list,Gd x:=by
 rcases h with h|⟨n,h⟩
 ·omega
 ·cases n with
  |zero=>simp [E0] at h
  |succ n=>
   unfold E0 at h;rw [if_neg (by omega)] at h;intro x hx;refine .inr ⟨n,?_⟩;split at h
   ·simp only [Bool.and_eq_true] at h;exact List.all_eq_true.1 h.2 x hx
   ·split at h
    ·simp only [Bool.and_eq_true] at h;exact List.all_eq_true.1 h.2 x hx
    ·cases h
theorem Gd.len {t:QTyp} (h:Gd t) (k1:t.kind≠1) (k2:t.kind≠2):t.kind=3/\2<=t.list.length\/t.kind=4/\∃x,t.list=[x]:=by
 rcases h with h|⟨n,h⟩
 ·omega
 ·cases n with
  |zero=>simp [E0] at h
  |succ n=>
   unfold E0 at h;rw [if_neg (by omega)] at h;split at h
   ·rename_i k3;simp only [Bool.and_eq_true,decide_eq_true_eq] at h;exact .inl ⟨k3,h.1.1⟩
   ·split at h
    ·rename_i k4;simp only [Bool.and_eq_true,decide_eq_true_eq] at h
     exact .inr ⟨k4,by
      match t.list,h.1 with
      |[x],_=>exact ⟨x,rfl⟩⟩
    ·cases h
theorem C2D (h104:F 227=some f104) (N:Nat) (v:PVal) (kd:Int) (x:QTyp) (r:List QTyp) (b k ver:Nat) (σ:Sto) (hk:σ.at k=some ⟨ver,.cells [.int .i64 kd,.sl .fz ((x::r).map D5)] 66⟩)
  (ih:∀b,A2 F O N b 208 [.agg (D5 x),.agg (E1 v)] σ=some (.ret (.bool (hasV v x)),σ)):
  A2 F O (N+1) b 227 [.agg (E1 v),.ptr k 0] σ=some (.ret (.bool (!(hasV v x))),σ):=by
 have hc:=ih σ.length;rw [A4] at hc;refine A3 h104 ?_;generalize hasV v x=hv at hc ⊢;cases hm:x.nl<;>(rw [A1,hm] at hc;simp only [D4] at hc;simp only [List.map_cons,A1 x,hm,D4] at hk;simp [x104,A4,hk,hc])
structure HFits (F:FuncId->Option TFun):Prop where
 h60:F 208=some f60
 h104:F 227=some f104
 h103:F 226=some f103
 h157:F 237=some f157
 h32:F 225=some f32
set_option maxHeartbeats 1000000 in
theorem B8N (V:HFits F):∀(N:Nat) (v:PVal) (t:QTyp) (b:Nat) (σ:Sto),szV v<=N->szQ t<=N->OkV v->OkQ t->Gd t->
  A2 F O N b 208 [.agg (D5 t),.agg (E1 v)] σ=some (.ret (.bool (hasV v t)),σ)
 |0,v,t,b,σ,h,_,_,_,_=>by rw [E5] at h;omega
 |1,v,t,b,σ,h,_,_,_,_=>by rw [E5] at h;omega
 |2,v,t,b,σ,h,_,_,_,_=>by rw [E5] at h;omega
 |3,v,t,b,σ,h,_,_,_,_=>by rw [E5] at h;omega
 |N+4,v,t,b,σ,h,hq,hv,ht,hg=>by
  have hs:=E5 v;have hk:=A0T v.list;have hs2:=G3 t;have hk2:=A2v t.list;refine A3 V.h60 ?_;rw [A7P]
  by_cases hkd:v.kind=t.kind
  case neg=>cases hm:t.nl<;>simp [x60,A1,A4,hm,D4,hkd,H9]
  have hkd':decide (v.kind=t.kind)=true:=decide_eq_true hkd;rw [hkd',Bool.true_and]
  by_cases k1:t.kind=1
  ·rw [if_pos k1];have kv:v.kind=1:=by omega
   by_cases n0:v.n=0
   ·cases hm:t.nl<;>simp [x60,A1,A4,hm,D4,k1,kv,H9,n0]
   by_cases n1:v.n=1
   ·cases hm:t.nl<;>simp [x60,A1,A4,hm,D4,k1,kv,H9,n1]
   cases hm:t.nl<;>simp [x60,A1,A4,hm,D4,k1,kv,H9,n0,n1]
  rw [if_neg k1]
  by_cases k2:t.kind=2
  ·rw [if_pos k2];have kv:v.kind=2:=by omega
   by_cases n0:-2147483648<=v.n
   ·by_cases n1:v.n<=2147483647
    ·cases hm:t.nl<;>simp [x60,A1,A4,hm,D4,k2,kv,H9,n0,n1]
    ·cases hm:t.nl<;>simp [x60,A1,A4,hm,D4,k2,kv,H9,n0,n1]
   ·cases hm:t.nl<;>simp [x60,A1,A4,hm,D4,k2,kv,H9,n0]
  rw [if_neg k2];have hnl:t.nl=false:=by
   cases hm:t.nl with
   |false=>rfl
   |true=>
    rcases hg.len k1 k2 with ⟨_,h3⟩|⟨_,x,h4⟩
    ·rw [ht.nl hm] at h3;simp at h3
    ·rw [ht.nl hm] at h4;cases h4
  rcases hg.len k1 k2 with ⟨k3,h3⟩|⟨k4,x,h4⟩
  ·rw [if_pos k3,B2s];have kv:v.kind=3:=by omega
   by_cases n0:v.n=0
   ·have hc:∀σ1 b,A2 F O (N+3) b 225 [.sl .fz (t.list.map D5),.sl .fz (v.list.map E1),.func 208 [] []] σ1=some (.ret (.bool (F4 (fun t v=>hasV v t) t.list v.list)),σ1):=fun σ1 b=>
     C9F (O:=O) V.h32 208 (N+2) (fun t v=>hasV v t) b σ1 t.list v.list false (fun e=>by cases e) ht.len hv.len (by omega) (fun x hx y hy b=>B8N V (N+2) y x b σ1 (by have:=O2 _ _ hy;omega) (by have:=A0c _ _ hx;omega) (hv.sub y hy) (ht.sub x hx) (hg.sub (.inl k3) x hx))
    simp [x60,A1,A4,hnl,D4,k3,kv,H9,n0,hc]
   ·simp [x60,A1,A4,hnl,D4,k3,kv,H9,n0]
  ·have k3:t.kind≠3:=by omega
   rw [if_neg k3,h4,A9E];have kv:v.kind=4:=by omega
   by_cases n0:v.n=0
   case neg=>simp [x60,A1,A4,hnl,D4,k4,kv,H9,n0]
   by_cases l32:(v.list.length:Int)<=32
   case neg=>
    have l32':¬v.list.length<=32:=by omega
    simp [x60,A1,A4,hnl,D4,k4,kv,H9,n0,l32,l32']
   have l32':v.list.length<=32:=by omega
   have hxm:x∈t.list:=by rw [h4];simp
   have hp:=H9 σ ⟨0,.cells [.int .i64 t.kind,.sl .fz ([x].map D5)] 66⟩;have hc:=C9E (O:=O) V.h103 V.h157 227 [.ptr σ.length 0] (N+1) (fun y=> !(hasV y x)) σ.length _ v.list hv.len (by omega) (fun y hy b=>C2D V.h104 N y t.kind x [] b σ.length 0 _ hp (fun b=>B8N V N y x b _ (by have:=O2 _ _ hy;omega) (by have:=A0c _ _ hxm;omega) (hv.sub y hy) (ht.sub x hxm) (hg.sub (.inr k4) x hxm)))
   have hall:(!(v.list.any fun y=> !(hasV y x)))=v.list.all (fun y=>hasV y x):=by
    generalize v.list=l
    induction l with
    |nil=>rfl
    |cons a l ih=>rw [List.any_cons,List.all_cons,<-ih];cases hasV a x<;>simp
   generalize (v.list.any fun y=> !(hasV y x))=w at hc hall;rw [k4] at hc hp;simp only [List.map_cons,List.map_nil] at hc hp;simp [x60,A1 t,A4,hnl,D4,k4,kv,h4,hp,n0,l32,l32',hc,<-hall]
mutual
theorem B5h:∀t,szQ (A38 t)=szT t
 |.mk k l=>by simp only [A38,szQ,szT,B2t l]
theorem B2t:∀l,A0V (A5U l)=A0Z l
 |[]=>rfl
 |t::l=>by simp only [A5U,A0V,A0Z,B5h t,B2t l]
end
end
section
open Go Go.Xe Go.Xt
def W2 (k:Int) (l:List QTyp):QTyp:=.mk k false l
mutual
def X8:QTyp->QTyp->Option QTyp
 |.mk k nl l,.mk k' nl' l'=>if k=0 then some (W2 k' l') else if k'=0 then some (W2 k l) else if k=k'/\l.length=l'.length then (J3 l l').map (W2 k) else none
def J3:List QTyp->List QTyp->Option (List QTyp)
 |a::l,b::m=>match X8 a b with
  |some x=>(J3 l m).map (x:: ·)
  |none=>none
 |_,_=>some []
end
mutual
def J4:QTyp->Nat
 |.mk k _ l=>if k=0 then 1 else K4 l+1
def K4:List QTyp->Nat
 |[]=>0
 |t::l=>max (J4 t) (K4 l)
end
mutual
def D7:QTyp->QTyp
 |.mk k _ l=>if k=0 then W2 1 [] else W2 k (K0 l)
def K0:List QTyp->List QTyp
 |[]=>[]
 |t::l=>D7 t::K0 l
end
def P4 (f:PVal->Option QTyp):List PVal->Option (List QTyp)
 |[]=>some []
 |x::l=>match f x with
  |some t=>(P4 f l).map (t:: ·)
  |none=>none
def K7 (f:PVal->Option QTyp) (acc:QTyp):List PVal->Option QTyp
 |[]=>some acc
 |x::l=>match f x with
  |some t=>match X8 acc t with
   |some a=>K7 f a l
   |none=>none
  |none=>none
def O5:Nat->PVal->Option QTyp
 |0,_=>none
 |n+1,v=>if v.kind=1\/v.kind=2 then (if hasV v (W2 v.kind [])=true then some (W2 v.kind []) else none)
  else if v.kind=3/\v.n=0/\2<=v.list.length/\v.list.length<=4 then (P4 (O5 n) v.list).map (W2 3)
  else if v.kind=4/\v.n=0/\v.list.length<=32 then (K7 (O5 n) (.mk 0 true []) v.list).map (fun a=>W2 4 [a])
  else none
def A9F:Nat->PVal->Option QTyp
 |0,_=>none
 |n+1,v=>if v.kind=1\/v.kind=2 then (if hasV v (W2 v.kind [])=true then some (W2 v.kind []) else none)
  else if v.kind=3/\v.n=0/\2<=v.list.length/\v.list.length<=4 then (P4 (A9F n) v.list).map (W2 3)
  else if v.kind=4/\v.n=0/\v.list.length<=32/\n≠0 then (K7 (A9F n) (.mk 0 true []) v.list).map (fun a=>W2 4 [a])
  else none
theorem A1z (t:QTyp):1<=J4 t:=by
 cases t with
 |mk k b l=>unfold J4;split<;>omega
theorem A1A {k:Int} (hk:k≠0) (l:List QTyp):J4 (W2 k l)=K4 l+1:=by
 unfold W2 J4;rw [if_neg hk]
theorem A9G (k:Int) (b:Bool) (l:List QTyp):J4 (W2 k l)=J4 (.mk k b l):=by unfold W2 J4;rfl
mutual
theorem A2W:∀(a b x:QTyp),X8 a b=some x->J4 x=max (J4 a) (J4 b)
 |.mk k nl l,.mk k' nl' l',x,h=>by
  unfold X8 at h
  by_cases h0:k=0
  ·rw [if_pos h0] at h;cases h;rw [A9G k' nl' l'];have:=A1z (.mk k' nl' l');have e:J4 (.mk k nl l)=1:=by unfold J4;rw [if_pos h0]
   omega
  rw [if_neg h0] at h
  by_cases h1:k'=0
  ·rw [if_pos h1] at h;cases h;rw [A9G k nl l];have:=A1z (.mk k nl l);have e:J4 (.mk k' nl' l')=1:=by unfold J4;rw [if_pos h1]
   omega
  rw [if_neg h1] at h;split at h
  ·rename_i hh;obtain ⟨y,hy,rfl⟩:=Option.map_eq_some_iff.1 h;have:=A7Q l l' y hh.2 hy;have e1:J4 (.mk k nl l)=K4 l+1:=by unfold J4;rw [if_neg h0]
   have e2:J4 (.mk k' nl' l')=K4 l'+1:=by unfold J4;rw [if_neg h1]
   rw [A1A h0,e1,e2,this];omega
  ·cases h
theorem A7Q:∀(l m y:List QTyp),l.length=m.length->J3 l m=some y->K4 y=max (K4 l) (K4 m)
 |[],[],y,_,h=>by simp only [J3] at h;cases h;rfl
 |[],_::_,y,hl,h=>by simp at hl
 |_::_,[],y,hl,h=>by simp at hl
 |a::l,b::m,y,hl,h=>by
  simp only [J3] at h;split at h
  ·rename_i x hx;obtain ⟨z,hz,rfl⟩:=Option.map_eq_some_iff.1 h;have h1:=A2W a b x hx;have h2:=A7Q l m z (by simpa using hl) hz;simp only [K4,h1,h2];omega
  ·cases h
end
def Cut (n:Nat) (f g:PVal->Option QTyp):Prop:=∀v,(f v=none->g v=none)/\∀t,f v=some t->(J4 t<=n->g v=some t)/\(¬J4 t<=n->g v=none)
theorem B2u {n:Nat} {f g:PVal->Option QTyp} (h:Cut n f g):∀l,(P4 f l=none->P4 g l=none)/\∀ts,P4 f l=some ts->(K4 ts<=n->P4 g l=some ts)/\(¬K4 ts<=n->P4 g l=none)
 |[]=>⟨fun e=>(by cases e),fun ts e=>by (cases e);exact ⟨fun _=>rfl,fun e=>absurd (Nat.zero_le _) e⟩⟩
 |x::l=>by
  obtain ⟨i1,i2⟩:=B2u h l;obtain ⟨x1,x2⟩:=h x;cases hf:f x with
  |none=>
   have hg:=x1 hf;refine ⟨fun _=>by simp only [P4,hg],fun ts e=> ?_⟩;simp only [P4,hf] at e;cases e
  |some t=>
   obtain ⟨x3,x4⟩:=x2 t hf;cases hm:P4 f l with
   |none=>
    have hg:=i1 hm;refine ⟨fun _=> ?_,fun ts e=> ?_⟩
    ·simp only [P4];cases g x with
     |none=>rfl
     |some y=>simp only [hg,Option.map_none]
    ·simp only [P4,hf,hm,Option.map_none] at e;cases e
   |some ts'=>
    obtain ⟨i3,i4⟩:=i2 ts' hm;refine ⟨fun e=>(by simp only [P4,hf,hm,Option.map_some] at e;cases e),fun ts e=> ?_⟩;simp only [P4,hf,hm,Option.map_some] at e;cases e;refine ⟨fun hn=> ?_,fun hn=> ?_⟩
    ·simp only [K4,Nat.max_le] at hn;simp only [P4,x3 hn.1,i3 hn.2,Option.map_some]
    ·simp only [K4,Nat.max_le] at hn
     by_cases h1:J4 t<=n
     ·have h2:¬K4 ts'<=n:=fun e=>hn ⟨h1,e⟩
      simp only [P4,x3 h1,i4 h2,Option.map_none]
     ·simp only [P4,x4 h1]
theorem B2v {f:PVal->Option QTyp}:∀(l:List PVal) (acc a:QTyp),K7 f acc l=some a->J4 acc<=J4 a
 |[],acc,a,h=>by simp only [K7] at h;cases h;exact Nat.le_refl _
 |x::l,acc,a,h=>by
  simp only [K7] at h;split at h
  ·rename_i t ht;split at h
   ·rename_i a' ha';have:=A2W _ _ _ ha';have:=B2v l a' a h;omega
   ·cases h
  ·cases h
theorem A9H {n:Nat} {f g:PVal->Option QTyp} (h:Cut n f g):∀(l:List PVal) (acc:QTyp),J4 acc<=n->(K7 f acc l=none->K7 g acc l=none)/\∀a,K7 f acc l=some a->(J4 a<=n->K7 g acc l=some a)/\(¬J4 a<=n->K7 g acc l=none)
 |[],acc,ha=>⟨fun e=>(by cases e),fun a e=>by simp only [K7] at e;(cases e);exact ⟨fun _=>rfl,fun e=>absurd ha e⟩⟩
 |x::l,acc,ha=>by
  obtain ⟨x1,x2⟩:=h x;cases hf:f x with
  |none=>
   have hg:=x1 hf;refine ⟨fun _=>by simp only [K7,hg],fun ts e=> ?_⟩;simp only [K7,hf] at e;cases e
  |some t=>
   obtain ⟨x3,x4⟩:=x2 t hf
   by_cases h1:J4 t<=n
   ·have hg:=x3 h1;simp only [K7,hf,hg];cases hj:X8 acc t with
    |none=>exact ⟨fun _=>rfl,fun a e=>by cases e⟩
    |some a'=>
     have:=A2W _ _ _ hj;exact A9H h l a' (by omega)
   ·have hg:=x4 h1;simp only [K7,hf,hg];refine ⟨fun _=>trivial,fun a e=>⟨fun hn=> ?_,fun _=>trivial⟩⟩;split at e
    ·rename_i a' hj;have:=A2W _ _ _ hj;have:=B2v l a' a e;omega
    ·cases e
theorem B2w:∀n,Cut n (O5 n) (A9F n)
 |0,v=>⟨fun _=>rfl,fun t e=>by simp only [O5] at e;cases e⟩
 |n+1,v=>by
  have ih:=B2w n;unfold O5 A9F
  by_cases k12:v.kind=1\/v.kind=2
  ·simp only [if_pos k12];refine ⟨fun e=>e,fun t e=>⟨fun _=>e,fun hn=> ?_⟩⟩;split at e
   ·cases e;rw [A1A (by omega)] at hn;simp [K4] at hn
   ·cases e
  simp only [if_neg k12]
  by_cases k3:v.kind=3/\v.n=0/\2<=v.list.length/\v.list.length<=4
  ·simp only [if_pos k3];obtain ⟨m1,m2⟩:=B2u ih v.list;cases hm:P4 (O5 n) v.list with
   |none=>rw [m1 hm];exact ⟨fun _=>rfl,fun t e=>by cases e⟩
   |some ts=>
    obtain ⟨m3,m4⟩:=m2 ts hm;refine ⟨fun e=>(by cases e),fun t e=> ?_⟩;simp only [Option.map_some] at e;cases e;rw [A1A (by omega)];exact ⟨fun hn=>by rw [m3 (by omega)];rfl,fun hn=>by rw [m4 (by omega)];rfl⟩
  simp only [if_neg k3]
  by_cases k4:v.kind=4/\v.n=0/\v.list.length<=32
  ·simp only [if_pos k4]
   by_cases n0:n=0
   ·subst n0;rw [if_neg (fun e=>e.2.2.2 rfl)];refine ⟨fun _=>rfl,fun t e=>⟨fun hn=> ?_,fun _=>rfl⟩⟩;obtain ⟨a,ha,rfl⟩:=Option.map_eq_some_iff.1 e;rw [A1A (by omega)] at hn;have:=A1z a;simp only [K4] at hn;omega
   ·rw [if_pos ⟨k4.1,k4.2.1,k4.2.2,n0⟩];obtain ⟨m1,m2⟩:=A9H ih v.list (.mk 0 true []) (by have e:J4 (.mk 0 true [])=1:=rfl;omega);cases hm:K7 (O5 n) (.mk 0 true []) v.list with
    |none=>rw [m1 hm];exact ⟨fun _=>rfl,fun t e=>by cases e⟩
    |some a=>
     obtain ⟨m3,m4⟩:=m2 a hm;refine ⟨fun e=>(by cases e),fun t e=> ?_⟩;simp only [Option.map_some] at e;cases e;rw [A1A (by omega)];have h1:=A1z a;have e2:K4 [a]=J4 a:=by simp only [K4];omega
     rw [e2];exact ⟨fun hn=>by rw [m3 (by omega)];rfl,fun hn=>by rw [m4 (by omega)];rfl⟩
  ·have k4':¬(v.kind=4/\v.n=0/\v.list.length<=32/\n≠0):=fun e=>k4 ⟨e.1,e.2.1,e.2.2.1⟩
   simp only [if_neg k4,if_neg k4'];exact ⟨fun _=>trivial,fun t e=>by cases e⟩
mutual
def wfQ:QTyp->Bool
 |.mk k _ l=>decide (k=0)||(decide ((k=1\/k=2)/\l.length=0\/k=3/\2<=l.length/\l.length<=4\/k=4/\l.length=1)&&A3R l)
def A3R:List QTyp->Bool
 |[]=>true
 |t::l=>wfQ t&&A3R l
end
theorem A2y:∀l,K0 l=l.map D7
 |[]=>rfl
 |t::l=>by simp only [K0,List.map_cons,A2y l]
mutual
theorem A4H:∀(t:QTyp) (m:Nat),wfQ t=true->E0 m (D7 t)=decide (J4 t<=m)
 |.mk k b l,m,h=>by
  have hn:=A1z (.mk k b l);cases m with
  |zero=>
   have:¬J4 (.mk k b l)<=0:=by omega
   simp [E0,this]
  |succ m=>
   have ihl:=A3w l m;unfold D7 J4
   by_cases k0:k=0
   ·simp only [if_pos k0];have:(1:Nat)<=m+1:=by omega
    simp [E0,W2,QTyp.kind,QTyp.list,this]
   simp only [if_neg k0];unfold wfQ at h;simp only [decide_eq_false k0,Bool.false_or,Bool.and_eq_true,decide_eq_true_eq] at h;obtain ⟨hc,hw⟩:=h;have ih:=ihl hw;have hlen:(K0 l).length=l.length:=by rw [A2y,List.length_map]
   have e:decide (K4 l+1<=m+1)=decide (K4 l<=m):=decide_eq_decide.2 ⟨fun h=>by omega,fun h=>by omega⟩;rw [e,<-ih];have k1:(W2 k (K0 l)).kind=k:=rfl;have k2:(W2 k (K0 l)).list=K0 l:=rfl;unfold E0;rw [k1,k2,hlen];rcases hc with ⟨hk,hl⟩|⟨hk,h2,h4⟩|⟨hk,h1⟩
   ·have:K0 l=[]:=List.eq_nil_of_length_eq_zero (by omega);rw [if_pos hk,this,hl];rfl
   ·rw [if_neg (by omega),if_pos hk,decide_eq_true ⟨h2,h4⟩,Bool.true_and]
   ·rw [if_neg (by omega),if_neg (by omega),if_pos hk,decide_eq_true h1,Bool.true_and]
theorem A3w:∀(l:List QTyp) (m:Nat),A3R l=true->(K0 l).all (E0 m)=decide (K4 l<=m)
 |[],m,_=>by simp [K0,K4]
 |t::l,m,h=>by
  unfold A3R at h;rw [Bool.and_eq_true] at h;simp only [K0,List.all_cons,A4H t m h.1,A3w l m h.2,K4]
  by_cases h1:J4 t<=m<;>by_cases h2:K4 l<=m<;>simp [h1,h2,Nat.max_le]
end
theorem A6o {k:Int} {l:List QTyp} (h:(k=1\/k=2)/\l.length=0\/k=3/\2<=l.length/\l.length<=4\/k=4/\l.length=1) (hw:A3R l=true):wfQ (W2 k l)=true:=by
 unfold W2 wfQ;rw [decide_eq_true h,hw];simp
theorem B5i (k:Int) (b:Bool) (l:List QTyp):wfQ (W2 k l)=wfQ (.mk k b l):=by unfold W2 wfQ;rfl
mutual
theorem B0A:∀(a b x:QTyp),X8 a b=some x->wfQ a=true->wfQ b=true->wfQ x=true
 |.mk k nl l,.mk k' nl' l',x,h,ha,hb=>by
  unfold X8 at h
  by_cases h0:k=0
  ·rw [if_pos h0] at h;cases h;rw [B5i k' nl' l'];exact hb
  rw [if_neg h0] at h
  by_cases h1:k'=0
  ·rw [if_pos h1] at h;cases h;rw [B5i k nl l];exact ha
  rw [if_neg h1] at h;split at h
  ·rename_i hh;obtain ⟨y,hy,rfl⟩:=Option.map_eq_some_iff.1 h;unfold wfQ at ha hb;simp only [decide_eq_false h0,decide_eq_false h1,Bool.false_or,Bool.and_eq_true,decide_eq_true_eq] at ha hb;obtain ⟨w1,w2⟩:=B2x l l' y hh.2 hy ha.2 hb.2;refine A6o ?_ w1;rw [w2];exact ha.1
  ·cases h
theorem B2x:∀(l m y:List QTyp),l.length=m.length->J3 l m=some y->A3R l=true->A3R m=true->A3R y=true/\y.length=l.length
 |[],[],y,_,h,_,_=>by simp only [J3] at h;cases h;exact ⟨rfl,rfl⟩
 |[],_::_,y,hl,h,_,_=>by simp at hl
 |_::_,[],y,hl,h,_,_=>by simp at hl
 |a::l,b::m,y,hl,h,ha,hb=>by
  simp only [J3] at h;unfold A3R at ha hb;rw [Bool.and_eq_true] at ha hb;split at h
  ·rename_i x hx;obtain ⟨z,hz,rfl⟩:=Option.map_eq_some_iff.1 h;have h1:=B0A a b x hx ha.1 hb.1;obtain ⟨h2,h3⟩:=B2x l m z (by simpa using hl) hz ha.2 hb.2;exact ⟨by unfold A3R;rw [h1,h2];rfl,by simp [h3]⟩
  ·cases h
end
theorem B5j {f:PVal->Option QTyp} (hf:∀v t,f v=some t->wfQ t=true):∀(l:List PVal) (ts:List QTyp),P4 f l=some ts->A3R ts=true/\ts.length=l.length
 |[],ts,h=>by simp only [P4] at h;cases h;exact ⟨rfl,rfl⟩
 |x::l,ts,h=>by
  simp only [P4] at h;split at h
  ·rename_i t ht;obtain ⟨z,hz,rfl⟩:=Option.map_eq_some_iff.1 h;obtain ⟨h2,h3⟩:=B5j hf l z hz;exact ⟨by unfold A3R;rw [hf x t ht,h2];rfl,by simp [h3]⟩
  ·cases h
theorem B2y {f:PVal->Option QTyp} (hf:∀v t,f v=some t->wfQ t=true):∀(l:List PVal) (acc a:QTyp),wfQ acc=true->K7 f acc l=some a->wfQ a=true
 |[],acc,a,ha,h=>by simp only [K7] at h;cases h;exact ha
 |x::l,acc,a,ha,h=>by
  simp only [K7] at h;split at h
  ·rename_i t ht;split at h
   ·rename_i a' ha';exact B2y hf l a' a (B0A _ _ _ ha' ha (hf x t ht)) h
   ·cases h
  ·cases h
theorem A7R:∀(n:Nat) (v:PVal) (t:QTyp),O5 n v=some t->wfQ t=true
 |0,v,t,h=>by simp only [O5] at h;cases h
 |n+1,v,t,h=>by
  have ih:=A7R n;unfold O5 at h
  by_cases k12:v.kind=1\/v.kind=2
  ·rw [if_pos k12] at h;split at h
   ·cases h;exact A6o (.inl ⟨k12,rfl⟩) rfl
   ·cases h
  rw [if_neg k12] at h;split at h
  ·rename_i k3;obtain ⟨ts,hm,rfl⟩:=Option.map_eq_some_iff.1 h;obtain ⟨h1,h2⟩:=B5j ih v.list ts hm;exact A6o (.inr (.inl ⟨rfl,by omega,by omega⟩)) h1
  ·split at h
   ·obtain ⟨a,hm,rfl⟩:=Option.map_eq_some_iff.1 h;have h1:=B2y ih v.list _ a rfl hm;exact A6o (.inr (.inr ⟨rfl,rfl⟩)) (by unfold A3R;rw [h1];rfl)
   ·cases h
theorem B6C (v:PVal):(match O5 40 v with|some t=>E0 40 (D7 t)|none=>false)=(A9F 40 v).isSome:=by
 obtain ⟨h1,h2⟩:=B2w 40 v;cases hs:O5 40 v with
 |none=>simp [h1 hs]
 |some t=>
  obtain ⟨h3,h4⟩:=h2 t hs;simp only [A4H t 40 (A7R 40 v t hs)]
  by_cases hn:J4 t<=40
  ·simp [hn,h3 hn]
  ·simp [hn,h4 hn]
end
section
open Go Go.Xe Go.Xt
variable {F:FuncId->Option TFun} {O:FuncId->List TV->Option TV}
theorem A2z (t:QTyp):D7 t=if t.kind=0 then W2 1 [] else W2 t.kind (t.list.map D7):=by
 cases t;simp only [D7,QTyp.kind,QTyp.list,A2y];rfl
mutual
theorem B5k (n:Nat):∀t,below.belows n (D5 t)=true
 |.mk k b l=>by cases b<;>simp [D5,D4,below,below.belows,A2X n l]
theorem A2X (n:Nat):∀l,below.belowss n (A3u l)=true
 |[]=>by simp [A3u,below.belowss]
 |t::l=>by simp [A3u,below.belowss,B5k n t,A2X n l]
end
theorem B2z:∀(l:List QTyp),A3R l=true->∀x∈l,wfQ x=true
 |[],_,x,hx=>by cases hx
 |a::l,h,x,hx=>by
  unfold A3R at h;rw [Bool.and_eq_true] at h;rcases List.mem_cons.1 hx with rfl|hx
  ·exact h.1
  ·exact B2z l h.2 x hx
theorem B5l {t:QTyp} (h:wfQ t=true) (k0:t.kind≠0):t.list.length<=4/\∀x∈t.list,wfQ x=true:=by
 cases t with
 |mk k b l=>
  have k0:k≠0:=k0;unfold wfQ at h;simp only [decide_eq_false k0,Bool.false_or,Bool.and_eq_true,decide_eq_true_eq] at h;exact ⟨by show l.length<=4;omega,B2z l h.2⟩
theorem B2A (h151:F 167=some f151):∀(N:Nat) (t:QTyp) (b:Nat) (σ:Sto),szQ t<=N->OkQ t->wfQ t=true->
  A2 F O N b 167 [.agg (D5 t)] σ=some (.ret (.agg (D5 (D7 t))),σ)
 |0,t,b,σ,h,_,_=>by rw [G3] at h;omega
 |N+1,t,b,σ,h,ht,hwf=>by
  have ih:=B2A h151 N;have hs:=G3 t;have hk:=A2v t.list;refine A3 h151 ?_;rw [A2z]
  by_cases k0:t.kind=0
  ·rw [if_pos k0];have e1:D5 (W2 1 [])=[.int .i64 1,.sl .fz []]:=by rw [A1];rfl
   rw [e1];cases hm:t.nl<;>simp [x151,A1,hm,D4,k0]
  rw [if_neg k0];obtain ⟨h4,hsub⟩:=B5l hwf k0;have e2:D5 (W2 t.kind (t.list.map D7))=[.int .i64 t.kind,.sl .fz ((t.list.map D7).map D5)]:=by rw [A1];rfl
  rw [e2];cases hm:t.nl with
  |true=>
   have hnil:=ht.nl hm;simp [x151,A1 t,hm,D4,k0,hnil];refine B8 (I:=fun j a σ'=>a.df=[]/\σ'=σ/\a.tm.get 2=some (.bx 2 [.int .i64 0,.sl .nl []] 66)/\a.tm.get 3=some (.bx 3 [.int .i64 t.kind,.sl .nl []] 66)/\a.tm.get 15=some (.int .i64 0)/\a.tm.get 16=some (.int .i64 j)) 0
    (R:=fun ex a σ'=>ex=.exit 0/\a.df=[]/\σ'=σ/\a.tm.get 2=some (.bx 2 [.int .i64 0,.sl .nl []] 66)/\a.tm.get 3=some (.bx 3 [.int .i64 t.kind,.sl .nl []] 66)) ?_ ?_ ?_ ?_ ?_
   ·simp
   ·omega
   ·rintro j ⟨tm,df,clk⟩ σ' hj;omega
   ·rintro ⟨tm,df,clk⟩ σ' ⟨rfl,rfl,g2,g3,g5,g7⟩;simp at g7;simp [g2,g3,g5,g7]
   ·rintro ex ⟨tm,df,clk⟩ σ' ⟨rfl,rfl,rfl,g2,g3⟩;simp [g2,g3]
  |false=>
   simp [x151,A1 t,hm,D4,k0];obtain ⟨I,hI⟩:∃I:Nat->TAct->Sto->Prop,I=(fun j a σ'=>a.df=[]/\σ'=σ/\∃lst,Xt.Bld 66 2 (((tk t.list j).map D7).map D5) lst/\a.tm.get 2=some (.bx 2 [.int .i64 0,.sl .nl []] 66)/\a.tm.get 3=some (.bx 3 [.int .i64 t.kind,lst] 66)/\a.tm.get 14=some (.sl .fz (t.list.map D5))/\a.tm.get 15=some (.int .i64 (t.list.length:Int))/\a.tm.get 16=some (.int .i64 j)):=⟨_,rfl⟩
   obtain ⟨R,hR⟩:∃R:TEx->TAct->Sto->Prop,R=(fun ex a σ'=>ex=.exit 0/\a.df=[]/\σ'=σ/\∃lst,Xt.Bld 66 2 ((t.list.map D7).map D5) lst/\a.tm.get 2=some (.bx 2 [.int .i64 0,.sl .nl []] 66)/\a.tm.get 3=some (.bx 3 [.int .i64 t.kind,lst] 66)):=⟨_,rfl⟩;refine B8 I t.list.length R ?_ ?_ ?_ ?_ ?_
   ·rw [hI];exact ⟨rfl,rfl,_,by rw [C03];exact .nl,by simp,by simp,by simp,by simp,by simp⟩
   ·omega
   ·rw [hI];rintro j ⟨tm,df,clk⟩ σ' hj ⟨rfl,rfl,lst,hb,g2,g3,g14,g15,g16⟩;rw [<-hI];have hw:=F9 hj ht.len;have hcc:=ih t.list[j] σ'.length σ' (by have:=A0c _ _ (List.getElem_mem hj);omega) (ht.sub _ (List.getElem_mem hj)) (hsub _ (List.getElem_mem hj));have e3:D5 (D7 t.list[j])=[.int .i64 (D7 t.list[j]).kind,.sl (D4 (D7 t.list[j]).nl) ((D7 t.list[j]).list.map D5)]:=A1 _
    have e4:(D7 t.list[j]).nl=false:=by rw [A2z];split<;>rfl
    rw [e4] at e3;simp only [D4] at e3;rw [e3] at hcc;have hsucc:((tk t.list (j+1)).map D7).map D5=((tk t.list j).map D7).map D5++[D5 (D7 t.list[j])]:=by rw [C04 hj];simp
    rw [e3] at hsucc;have hd1:(((tk t.list j).map D7).map D5).length<=1073741823:=by rw [List.length_map,List.length_map,C2t (by omega)];omega
    have hd2:((((tk t.list j).map D7).map D5).all fun c=>decide (c.length=2))=true:=by
     rw [List.all_eq_true];intro c hc;obtain ⟨q,_,rfl⟩:=List.mem_map.1 hc;rw [A1];rfl
    generalize ((tk t.list j).map D7).map D5=done at hb hsucc hd1 hd2;rcases hb.inv with ⟨rfl,rfl⟩|rfl
    ·cases hmj:(t.list[j]).nl<;>
     ·rw [A1,hmj] at hcc;simp only [D4] at hcc;simp [g2,g3,g14,g15,g16,hj,hcc,hw,A1 t.list[j],hmj,D4];rw [hI];exact ⟨rfl,rfl,_,by rw [hsucc];exact .own _,by simp [g2],by simp,by simp [g14],by simp [g15],by simp⟩
    ·cases hmj:(t.list[j]).nl<;>
     ·rw [A1,hmj] at hcc;simp only [D4] at hcc;simp [g2,g3,g14,g15,g16,hj,hcc,hw,hd1,hd2,A1 t.list[j],hmj,D4];rw [hI];exact ⟨rfl,rfl,_,by rw [hsucc];exact .own _,by simp [g2],by simp,by simp [g14],by simp [g15],by simp⟩
   ·rw [hI];rintro ⟨tm,df,clk⟩ σ' ⟨rfl,rfl,lst,hb,g2,g3,g14,g15,g16⟩;rw [C2s] at hb;simp [g2,g3,g15,g16];rw [hR];exact ⟨rfl,rfl,rfl,lst,hb,by simp [g2],by simp [g3]⟩
   ·rw [hR];rintro ex ⟨tm,df,clk⟩ σ' ⟨rfl,rfl,rfl,lst,hb,g2,g3⟩;have hbl:below.belowss σ'.length ((t.list.map D7).map D5)=true:=by rw [<-A4C];exact A2X _ _
    have e5:(t.list.map D7).map D5=t.list.map (fun x=>D5 (D7 x)):=by rw [List.map_map];rfl
    rw [e5] at hb hbl;generalize t.list.map (fun x=>D5 (D7 x))=done at hb hbl ⊢;rcases hb.inv with ⟨rfl,rfl⟩|rfl
    ·simp [g2,g3]
    ·simp [g2,g3,hbl]
theorem B6D (a b:QTyp):X8 a b=if a.kind=0 then some (W2 b.kind b.list) else if b.kind=0 then some (W2 a.kind a.list) else if a.kind=b.kind/\a.list.length=b.list.length then (J3 a.list b.list).map (W2 a.kind) else none:=by
 cases a;cases b;simp only [X8,QTyp.kind,QTyp.list];rfl
mutual
def fzQ:QTyp->Bool
 |.mk k b l=>(!b||decide (k=0))&&B6E l
def B6E:List QTyp->Bool
 |[]=>true
 |t::l=>fzQ t&&B6E l
end
theorem B2B:∀(l:List QTyp),B6E l=true->∀x∈l,fzQ x=true
 |[],_,x,hx=>by cases hx
 |a::l,h,x,hx=>by
  unfold B6E at h;rw [Bool.and_eq_true] at h;rcases List.mem_cons.1 hx with rfl|hx
  ·exact h.1
  ·exact B2B l h.2 x hx
theorem B8P {t:QTyp} (h:fzQ t=true) (k0:t.kind≠0):t.nl=false:=by
 cases t with
 |mk k b l=>
  have k0:k≠0:=k0;unfold fzQ at h;rw [Bool.and_eq_true,decide_eq_false k0,Bool.or_false] at h;have:=h.1;cases b
  ·rfl
  ·cases this
theorem B5m {t:QTyp} (h:fzQ t=true):∀x∈t.list,fzQ x=true:=by
 cases t with
 |mk k b l=>unfold fzQ at h;rw [Bool.and_eq_true] at h;exact B2B l h.2
theorem B2C {l m:List QTyp} {j:Nat} (hj:j<l.length) (hj':j<m.length):J3 (l.drop j) (m.drop j)=match X8 l[j] m[j] with
  |some x=>(J3 (l.drop (j+1)) (m.drop (j+1))).map (x:: ·)
  |none=>none:=by
 rw [List.drop_eq_getElem_cons hj,List.drop_eq_getElem_cons hj'];simp only [J3]<;>(cases X8 l[j] m[j]<;>rfl)
theorem B47 {l m:List QTyp} {j:Nat} (hj:l.length<=j):J3 (l.drop j) (m.drop j)=some []:=by
 rw [List.drop_of_length_le hj];unfold J3;rfl
def A5Y (call:Option (TEnd×Sto)) (σ:Sto) (o:Option QTyp):Prop:=
 ∃q:QTyp,q.nl=false/\call=some (.ret (.tuple [.agg (D5 q),.bool o.isSome]),σ)/\∀x,o=some x->q=x
theorem R1 {call:Option (TEnd×Sto)} {σ:Sto} {x:QTyp} (h:x.nl=false) (hc:call=some (.ret (.tuple [.agg (D5 x),.bool true]),σ)):A5Y call σ (some x):=
 ⟨x,h,hc,fun y hy=>by cases hy;rfl⟩
theorem P2 {call:Option (TEnd×Sto)} {σ:Sto} {x:QTyp} (h:x.nl=false) (hc:call=some (.ret (.tuple [.agg (D5 x),.bool false]),σ)):A5Y call σ none:=
 ⟨x,h,hc,fun y hy=>by cases hy⟩
theorem P6 (n:Nat) (l:List QTyp):below.belowss n (l.map D5)=true:=by rw [<-A4C];exact A2X n l
@[simp] theorem B2D (k:Int) (l:List QTyp):(W2 k l).kind=k:=rfl
@[simp] theorem C2E (k:Int) (l:List QTyp):(W2 k l).nl=false:=rfl
@[simp] theorem A2A (k:Int) (l:List QTyp):(W2 k l).list=l:=rfl
theorem eq0:D5 (W2 0 [])=[.int .i64 0,.sl .fz []]:=by rw [A1];rfl
set_option maxHeartbeats 4000000 in
theorem B8Q (hF:F 209=some f178):∀(N:Nat) (a c:QTyp) (b:Nat) (σ:Sto),szQ a<=N->szQ c<=N->OkQ a->OkQ c->wfQ a=true->fzQ a=true->fzQ c=true->
  A5Y (A2 F O N b 209 [.agg (D5 a),.agg (D5 c)] σ) σ (X8 a c)
 |0,a,c,b,σ,h,_,_,_,_,_,_=>by rw [G3] at h;omega
 |N+1,a,c,b,σ,h,h',ha,hc,hwf,hfa,hfc=>by
  have ih:=B8Q hF N;have hs:=G3 a;have hs':=G3 c;have hk:=A2v a.list;rw [B6D]
  by_cases k0:a.kind=0
  ·rw [if_pos k0];refine R1 rfl (A3 hF ?_);have hcn:=hc.nl;cases hna:a.nl<;>cases hnc:c.nl<;>rw [hnc] at hcn<;>simp at hcn<;>simp [x178,B4,A1,hna,hnc,D4,k0,P6,eq0,hcn]
  rw [if_neg k0];have hna:=B8P hfa k0
  by_cases c0:c.kind=0
  ·rw [if_pos c0];refine R1 rfl (A3 hF ?_);cases hnc:c.nl<;>simp [x178,B4,A1,hna,hnc,D4,k0,c0,P6,eq0]
  rw [if_neg c0];have hnc:=B8P hfc c0
  by_cases hkk:a.kind=c.kind
  case neg=>
   rw [if_neg (fun h=>hkk h.1)];refine P2 (x:=a) hna (A3 hF ?_);simp [x178,B4,A1,hna,hnc,D4,k0,c0,hkk,P6,eq0]
  by_cases hll:a.list.length=c.list.length
  case neg=>
   rw [if_neg (fun h=>hll h.2)];have hll':¬(a.list.length:Int)=(c.list.length:Int):=by omega
   refine P2 (x:=a) hna (A3 hF ?_);simp [x178,B4,A1,hna,hnc,D4,k0,c0,hkk,hll',P6,eq0]
  rw [if_pos ⟨hkk,hll⟩];have c0':c.kind≠0:=c0
  suffices ∃e σ',A2 F O (N+1) b 209 [.agg (D5 a),.agg (D5 c)] σ=some (e,σ')/\A5Y (some (e,σ')) σ ((J3 a.list c.list).map (W2 a.kind)) by
   obtain ⟨e,σ',h1,h2⟩:=this;rw [h1];exact h2
  refine E4 hF ?_;simp [x178,B4,A1,hna,hnc,D4,k0,c0,hkk,hll,P6,eq0];have hca:c.kind=a.kind:=hkk.symm
  obtain ⟨I,hI⟩:∃I:Nat->TAct->Sto->Prop,I=(fun j a' σ'=>a'.df=[]/\σ'=σ/\∃done lst,J3 a.list c.list=(J3 (a.list.drop j) (c.list.drop j)).map (done++ ·)/\done.length=j/\Xt.Bld 66 2 (done.map D5) lst/\a'.tm.get 2=some (.bx 0 (D5 a) 66)/\a'.tm.get 3=some (.bx 2 (D5 c) 66)/\a'.tm.get 4=some (.bx 4 [.int .i64 0,.sl .nl []] 66)/\a'.tm.get 6=some (.bx 5 [.int .i64 c.kind,lst] 66)/\a'.tm.get 42=some (.int .i64 j)/\a'.tm.get 41=some (.int .i64 (c.list.length:Int))):=⟨_,rfl⟩
  obtain ⟨R,hR⟩:∃R:TEx->TAct->Sto->Prop,R=(fun ex a' σ'=>a'.df=[]/\σ'=σ/\(ex=.exit 1/\(∃done lst,J3 a.list c.list=some done/\Xt.Bld 66 2 (done.map D5) lst/\a'.tm.get 4=some (.bx 4 [.int .i64 0,.sl .nl []] 66)/\a'.tm.get 6=some (.bx 5 [.int .i64 c.kind,lst] 66))\/ex=.ret/\J3 a.list c.list=none/\a'.tm.get 4=some (.bx 4 (D5 a) 66)/\a'.tm.get 5=some (.bool false))):=⟨_,rfl⟩
  refine B8 I a.list.length R ?_ ?_ ?_ ?_ ?_
  ·rw [hI];exact ⟨rfl,rfl,[],_,by rw [List.drop_zero,List.drop_zero];cases J3 a.list c.list<;>simp,rfl,.nl,by simp [A1,hna,D4,hkk],by simp [A1,hnc,D4],by simp,by simp,by simp,by simp⟩
  ·omega
  ·rw [hI];rintro j ⟨tm,df,clk⟩ σ' hj ⟨rfl,rfl,done,lst,hd,hdl,hb,g2,g3,g4,g6,gc,gl⟩;rw [<-hI];have hw:=F9 hj ha.len;have hj':j<c.list.length:=by omega
   obtain ⟨h4,hsub⟩:=B5l hwf k0;obtain ⟨q,hqn,hq,hqx⟩:=ih a.list[j] c.list[j] σ'.length σ' (by have:=A0c _ _ (List.getElem_mem hj);omega) (by have:=A0c _ _ (List.getElem_mem hj');omega) (ha.sub _ (List.getElem_mem hj)) (hc.sub _ (List.getElem_mem hj')) (hsub _ (List.getElem_mem hj)) (B5m hfa _ (List.getElem_mem hj)) (B5m hfc _ (List.getElem_mem hj'))
   have eq':D5 q=[.int .i64 q.kind,.sl .fz (q.list.map D5)]:=by rw [A1,hqn];rfl
   rw [A1 a.list[j],A1 c.list[j],eq'] at hq;rw [A1 a,hna] at g2;rw [A1 c,hnc] at g3;simp only [D4] at hq g2 g3;rw [B2C hj hj'] at hd;cases hjo:X8 a.list[j] c.list[j] with
   |none=>
    rw [hjo] at hd hq;simp at hd hq;cases hnj:(a.list[j]).nl<;>cases hnj':(c.list[j]).nl<;>
    simp only [hnj,hnj'] at hq<;>
    simp [g2,g3,g4,g6,gc,gl,hj,hj',hq,hw,A1 a.list[j],A1 c.list[j],hnj,hnj',D4]<;>
    rw [hR]<;>
    exact ⟨rfl,rfl,.inr ⟨rfl,hd,by simp [A1,hna,D4,hkk],by simp⟩⟩
   |some x=>
    rw [hjo] at hd hq;have hxq:=hqx x hjo;subst hxq;simp at hq;have hd1:(done.map D5).length<=1073741823:=by rw [List.length_map];omega
    have hd2:((done.map D5).all fun c=>decide (c.length=2))=true:=by
     grind [A1]
    have hd':J3 a.list c.list=(J3 (a.list.drop (j+1)) (c.list.drop (j+1))).map ((done++[q])++ ·):=by
     rw [hd];cases J3 (a.list.drop (j+1)) (c.list.drop (j+1))<;>simp
    have hsucc:(done++[q]).map D5=done.map D5++[[.int .i64 q.kind,.sl .fz (q.list.map D5)]]:=by rw [List.map_append,<-eq'];rfl
    have hlen:(done++[q]).length=j+1:=by simp [hdl]
    generalize hdn:done.map D5=dn at hb hsucc hd1 hd2;rcases hb.inv with ⟨rfl,rfl⟩|rfl
    ·cases hnj:(a.list[j]).nl<;>cases hnj':(c.list[j]).nl<;>
     simp only [hnj,hnj'] at hq<;>
     simp [g2,g3,g4,g6,gc,gl,hj,hj',hq,hw,A1 a.list[j],A1 c.list[j],hnj,hnj',D4]<;>
     rw [hI]<;>
     exact ⟨rfl,rfl,done++[q],_,hd',hlen,by rw [hsucc];exact .own _,by simp [g2,A1,hna,D4],by simp [g3,A1,hnc,D4],by simp [g4],by simp,by simp,by simp [gl]⟩
    ·cases hnj:(a.list[j]).nl<;>cases hnj':(c.list[j]).nl<;>
     simp only [hnj,hnj'] at hq<;>
     simp [g2,g3,g4,g6,gc,gl,hj,hj',hq,hw,hd1,hd2,A1 a.list[j],A1 c.list[j],hnj,hnj',D4]<;>
     rw [hI]<;>
     exact ⟨rfl,rfl,done++[q],_,hd',hlen,by rw [hsucc];exact .own _,by simp [g2,A1,hna,D4],by simp [g3,A1,hnc,D4],by simp [g4],by simp,by simp,by simp [gl]⟩
  ·rw [hI];rintro ⟨tm,df,clk⟩ σ' ⟨rfl,rfl,done,lst,hd,hdl,hb,g2,g3,g4,g6,gc,gl⟩;rw [B47 (by omega)] at hd;have e0:done++[]=done:=List.append_nil _;simp [g2,g3,gc,gl,hll,A1,hna,D4];rw [hR];exact ⟨rfl,rfl,.inl ⟨rfl,done,lst,by rw [hd];simp,hb,by simp [g4],by simp [g6]⟩⟩
  ·rw [hR];rintro ex ⟨tm,df,clk⟩ σ' ⟨rfl,rfl,⟨rfl,done,lst,hd,hb,g4,g6⟩|⟨rfl,hd,g4,g5⟩⟩
   ·rw [hd];have hbl:=P6 σ'.length done;rcases hb.inv with ⟨hn,rfl⟩|rfl
    ·have hn':done=[]:=List.map_eq_nil_iff.1 hn;subst hn';simp [g4,g6];exact R1 (x:=W2 c.kind []) rfl (by rw [A1];rfl)
    ·simp [g4,g6,hbl];exact R1 (x:=W2 c.kind done) rfl (by rw [A1];rfl)
   ·rw [hd];simp [g4,g5,B5k,A1 a,hna,D4,P6,eq0];grind [P2,A1,D4]
end
section
open Go Go.Xe Go.Xt
mutual
def nfQ:QTyp->Bool
 |.mk k b l=>(!b||decide (k=0/\l.length=0))&&(decide (0<=k/\k<=4/\l.length<=4)&&A1V l)
def A1V:List QTyp->Bool
 |[]=>true
 |t::l=>nfQ t&&A1V l
end
theorem B2E:∀(l:List QTyp),A1V l=true->∀x∈l,nfQ x=true
 |[],_,x,hx=>by cases hx
 |a::l,h,x,hx=>by
  unfold A1V at h;rw [Bool.and_eq_true] at h;rcases List.mem_cons.1 hx with rfl|hx
  ·exact h.1
  ·exact B2E l h.2 x hx
theorem A2Y {k:Int} {l:List QTyp} (h:0<=k/\k<=4/\l.length<=4) (hw:A1V l=true):nfQ (W2 k l)=true:=by
 unfold W2 nfQ;rw [decide_eq_true h,hw];rfl
theorem C0Y:∀(n:Nat) (t:QTyp),szQ t<=n->nfQ t=true->OkQ t
 |0,t,h,_=>by rw [G3] at h;omega
 |n+1,.mk k b l,h,hw=>by
  rw [G3] at h;unfold nfQ at hw;simp only [Bool.and_eq_true,decide_eq_true_eq] at hw;obtain ⟨hb,hk,hl⟩:=hw;have h4:(4:Nat)<=maxLen:=by decide
  refine .mk ⟨by omega,by omega⟩ (fun e=> ?_) (by omega) fun x hx=> ?_
  case refine_1=>
   subst e;simp only [Bool.not_true,Bool.false_or,decide_eq_true_eq] at hb;exact List.length_eq_zero_iff.1 hb.2
  have:=A0c _ _ hx;simp only [QTyp.list] at h;exact C0Y n x (by omega) (B2E l hl x hx)
theorem C0f {t:QTyp} (h:nfQ t=true):OkQ t:=C0Y _ t (Nat.le_refl _) h
mutual
theorem B8R:∀t,nfQ t=true->fzQ t=true
 |.mk k b l,h=>by
  unfold nfQ at h;simp only [Bool.and_eq_true] at h;unfold fzQ;rw [B8S l h.2.2,Bool.and_true];have:=h.1;cases b
  ·rfl
  ·simp only [Bool.not_true,Bool.false_or,decide_eq_true_eq] at this ⊢;exact this.1
theorem B8S:∀l,A1V l=true->B6E l=true
 |[],_=>rfl
 |t::l,h=>by
  unfold A1V at h;simp only [Bool.and_eq_true] at h;unfold B6E;rw [B8R t h.1,B8S l h.2];rfl
end
theorem B5n {k:Int} {b:Bool} {l:List QTyp} (h:nfQ (.mk k b l)=true):nfQ (W2 k l)=true:=by
 unfold nfQ at h;simp only [Bool.and_eq_true,decide_eq_true_eq] at h;exact A2Y h.2.1 h.2.2
theorem B5o (k:Int) (b:Bool) (l:List QTyp):szQ (W2 k l)=szQ (.mk k b l):=by unfold W2 szQ;rfl
mutual
theorem B0B:∀(a b x:QTyp),X8 a b=some x->nfQ a=true->nfQ b=true->nfQ x=true/\szQ x<=szQ a+szQ b
 |.mk k nl l,.mk k' nl' l',x,h,ha,hb=>by
  unfold X8 at h
  by_cases h0:k=0
  ·rw [if_pos h0] at h;cases h;exact ⟨B5n hb,by rw [B5o k' nl' l'];omega⟩
  rw [if_neg h0] at h
  by_cases h1:k'=0
  ·rw [if_pos h1] at h;cases h;exact ⟨B5n ha,by rw [B5o k nl l];omega⟩
  rw [if_neg h1] at h;split at h
  ·rename_i hh;obtain ⟨y,hy,rfl⟩:=Option.map_eq_some_iff.1 h;unfold nfQ at ha hb;simp only [Bool.and_eq_true,decide_eq_true_eq] at ha hb;obtain ⟨w1,w2,w3⟩:=B2F l l' y hh.2 hy ha.2.2 hb.2.2;refine ⟨A2Y (by omega) w1,?_⟩;rw [G3,G3,G3];simp only [QTyp.list,W2];omega
  ·cases h
theorem B2F:∀(l m y:List QTyp),l.length=m.length->J3 l m=some y->A1V l=true->A1V m=true->A1V y=true/\y.length=l.length/\A0V y<=A0V l+A0V m
 |[],[],y,_,h,_,_=>by simp only [J3] at h;cases h;exact ⟨rfl,rfl,Nat.zero_le _⟩
 |[],_::_,y,hl,h,_,_=>by simp at hl
 |_::_,[],y,hl,h,_,_=>by simp at hl
 |a::l,b::m,y,hl,h,ha,hb=>by
  simp only [J3] at h;unfold A1V at ha hb;rw [Bool.and_eq_true] at ha hb;split at h
  ·rename_i x hx;obtain ⟨z,hz,rfl⟩:=Option.map_eq_some_iff.1 h;have h1:=B0B a b x hx ha.1 hb.1;obtain ⟨h2,h3,h4⟩:=B2F l m z (by simpa using hl) hz ha.2 hb.2;exact ⟨by unfold A1V;rw [h1.1,h2];rfl,by simp [h3],by have:=h1.2;simp only [A0V];omega⟩
  ·cases h
end
def Nf (v:PVal) (t:QTyp):Prop:=wfQ t=true/\nfQ t=true/\szQ t<=3*szV v
theorem B5p {f:PVal->Option QTyp} (hf:∀v t,f v=some t->Nf v t):∀(l:List PVal) (ts:List QTyp),P4 f l=some ts->A1V ts=true/\ts.length=l.length/\A0V ts<=3*A37 l
 |[],ts,h=>by simp only [P4] at h;cases h;exact ⟨rfl,rfl,Nat.zero_le _⟩
 |x::l,ts,h=>by
  simp only [P4] at h;split at h
  ·rename_i t ht;obtain ⟨z,hz,rfl⟩:=Option.map_eq_some_iff.1 h;obtain ⟨h2,h3,h4⟩:=B5p hf l z hz;obtain ⟨h5,h6,h7⟩:=hf x t ht;exact ⟨by unfold A1V;rw [h6,h2];rfl,by simp [h3],by simp only [A0V,A37];omega⟩
  ·cases h
theorem B2G {f:PVal->Option QTyp} (hf:∀v t,f v=some t->Nf v t):∀(l:List PVal) (acc a:QTyp),nfQ acc=true->K7 f acc l=some a->nfQ a=true/\szQ a<=szQ acc+3*A37 l
 |[],acc,a,ha,h=>by simp only [K7] at h;cases h;exact ⟨ha,by omega⟩
 |x::l,acc,a,ha,h=>by
  simp only [K7] at h;split at h
  ·rename_i t ht;split at h
   ·rename_i a' ha';obtain ⟨h5,h6,h7⟩:=hf x t ht;obtain ⟨h8,h9⟩:=B0B _ _ _ ha' ha h6;obtain ⟨h1,h2⟩:=B2G hf l a' a h8 h;exact ⟨h1,by simp only [A37];omega⟩
   ·cases h
  ·cases h
theorem B8T {f:PVal->Option QTyp} (hf:∀v t,f v=some t->Nf v t) {v:PVal} {t:QTyp} (hl:v.list.length<=4) (h:(P4 f v.list).map (W2 3)=some t):nfQ t=true/\szQ t<=3*szV v:=by
 obtain ⟨ts,hm,rfl⟩:=Option.map_eq_some_iff.1 h;obtain ⟨h1,h2,h3⟩:=B5p hf v.list ts hm;have:=E5 v;exact ⟨A2Y (by omega) h1,by rw [G3];simp only [A2A];omega⟩
theorem C0g {f:PVal->Option QTyp} (hf:∀v t,f v=some t->Nf v t) {v:PVal} {t:QTyp} (h:(K7 f (.mk 0 true []) v.list).map (fun a=>W2 4 [a])=some t):nfQ t=true/\szQ t<=3*szV v:=by
 obtain ⟨a,hm,rfl⟩:=Option.map_eq_some_iff.1 h;obtain ⟨h1,h2⟩:=B2G hf v.list _ a rfl hm;have:=E5 v;have e:szQ (.mk 0 true [])=4:=by rw [G3];rfl
 refine ⟨A2Y ⟨by omega,by omega,by simp⟩ (by unfold A1V;rw [h1];rfl),?_⟩;rw [G3];simp only [A2A,A0V];omega
theorem C0h {k:Int} (v:PVal) (h:k=1\/k=2):nfQ (W2 k [])=true/\szQ (W2 k [])<=3*szV v:=by
 have:=E5 v;exact ⟨A2Y ⟨by omega,by omega,by simp⟩ rfl,by rw [G3];simp only [A2A,A0V];omega⟩
theorem A7S:∀(n:Nat) (v:PVal) (t:QTyp),O5 n v=some t->Nf v t
 |0,v,t,h=>by simp only [O5] at h;cases h
 |n+1,v,t,h=>by
  have ih:=A7S n;have hw:=A7R _ _ _ h;unfold O5 at h
  by_cases k12:v.kind=1\/v.kind=2
  ·rw [if_pos k12] at h;split at h
   ·cases h;exact ⟨hw,C0h v k12⟩
   ·cases h
  rw [if_neg k12] at h;split at h
  ·rename_i k3;exact ⟨hw,B8T ih k3.2.2.2 h⟩
  ·split at h
   ·exact ⟨hw,C0g ih h⟩
   ·cases h
theorem B6F {f:PVal->Option QTyp} {l:List PVal} {j:Nat} (hj:j<l.length):P4 f (l.drop j)=match f l[j] with
  |some x=>(P4 f (l.drop (j+1))).map (x:: ·)
  |none=>none:=by
 rw [List.drop_eq_getElem_cons hj];simp only [P4]<;>(cases f l[j]<;>rfl)
theorem B8U {f:PVal->Option QTyp} {l:List PVal} {j:Nat} (hj:l.length<=j):P4 f (l.drop j)=some []:=by
 rw [List.drop_of_length_le hj];rfl
theorem B48 {f:PVal->Option QTyp} {acc:QTyp} {l:List PVal} {j:Nat} (hj:j<l.length):K7 f acc (l.drop j)=match f l[j] with
  |some x=>match X8 acc x with
   |some a=>K7 f a (l.drop (j+1))
   |none=>none
  |none=>none:=by
 rw [List.drop_eq_getElem_cons hj];simp only [K7]<;>(cases f l[j] with
 |none=>rfl
 |some x=>cases X8 acc x<;>rfl)
theorem B6G {f:PVal->Option QTyp} {acc:QTyp} {l:List PVal} {j:Nat} (hj:l.length<=j):K7 f acc (l.drop j)=some acc:=by
 rw [List.drop_of_length_le hj];rfl
theorem B6H {l:List PVal} {j:Nat} (hj:j<l.length):A37 (l.drop j)=szV l[j]+1+A37 (l.drop (j+1)):=by
 rw [List.drop_eq_getElem_cons hj];simp only [A37]
end
section
open Go Go.Xe Go.Xt
variable {F:FuncId->Option TFun} {O:FuncId->List TV->Option TV}
structure SFits (F:FuncId->Option TFun):Prop where
 has:HFits F
 h150:F 166=some f150
 h178:F 209=some f178
theorem B2H {call:Option (TEnd×Sto)} {σ:Sto} {o:Option QTyp} (h:∃e σ',call=some (e,σ')/\A5Y (some (e,σ')) σ o):A5Y call σ o:=by
 obtain ⟨e,σ',h1,h2⟩:=h;rw [h1];exact h2
theorem B6I (v:PVal) {k:Int} (h:k=1\/k=2):hasV v (.mk k true [])=hasV v (W2 k []):=by
 rw [A7P,A7P];simp only [QTyp.kind,B2D];rcases h with rfl|rfl<;>rfl
set_option maxHeartbeats 2000000 in
theorem B5q (V:SFits F):∀(N:Nat) (v:PVal) (n:Nat) (left:Int) (b:Nat) (σ:Sto),3*szV v<=N->OkV v->left=n->n<=40->
  A5Y (A2 F O N b 166 [.agg (E1 v),.int .i64 left] σ) σ (O5 n v)
 |0,v,n,left,b,σ,h,_,_,_=>by rw [E5] at h;omega
 |N+1,v,n,left,b,σ,h,hv,hl,hn=>by
  have hs:=E5 v;have hk:=A0T v.list;cases n with
  |zero=>
   have hlt:left<1:=by omega
   refine P2 (x:=W2 v.kind []) rfl (A3 V.h150 ?_);simp [x150,B4,A1,A4,D4,hlt]
  |succ n=>
  have hlt:¬left<1:=by omega
  have hsub:IntKind.i64.wrap (left - 1)=(n:Int):=by rw [G2]<;>omega
  have ih:=fun (x:PVal) (b:Nat) (σ:Sto) (h:3*szV x<=N) (hx:OkV x)=>B5q V N x n (n:Int) b σ h hx rfl (by omega)
  unfold O5
  by_cases k12:v.kind=1\/v.kind=2
  ·rw [if_pos k12];have hc:=B8N (O:=O) V.has N v (.mk v.kind true []) σ.length σ (by omega) (by rw [G3];simp only [QTyp.list,A0V];omega) hv (.mk hv.kind (fun _=>rfl) (Nat.zero_le _) (fun _ h=>by cases h)) (.inl k12);rw [B6I v k12,A4,A1] at hc;simp only [QTyp.kind,QTyp.nl,QTyp.list,D4,List.map_nil] at hc;cases hh:hasV v (W2 v.kind []) with
   |true=>
    rw [hh] at hc;refine R1 rfl (A3 V.h150 ?_);rcases k12 with k1|k1<;>rw [k1] at hc<;>simp [x150,B4,A1,A4,D4,hlt,k1,hc]
   |false=>
    rw [hh] at hc;refine P2 (x:=W2 v.kind []) rfl (A3 V.h150 ?_);rcases k12 with k1|k1<;>rw [k1] at hc<;>simp [x150,B4,A1,A4,D4,hlt,k1,hc]
  rw [if_neg k12];have k1:v.kind≠1:=fun h=>k12 (.inl h)
  have k2:v.kind≠2:=fun h=>k12 (.inr h)
  by_cases c3:v.kind=3/\v.n=0/\2<=v.list.length/\v.list.length<=4
  ·rw [if_pos c3];obtain ⟨k3,n0,l2,l4⟩:=c3;have l2':(2:Int)<=(v.list.length:Int):=by omega
   have l4':(v.list.length:Int)<=4:=by omega
   refine B2H (E4 V.h150 ?_);simp [x150,B4,A1,A4,D4,hlt,k3,n0,l2,l4,l2',l4'];obtain ⟨f,hf⟩:∃f,f=O5 n:=⟨_,rfl⟩;rw [<-hf] at ih ⊢
   obtain ⟨I,hI⟩:∃I:Nat->TAct->Sto->Prop,I=(fun j a' σ'=>a'.df=[]/\σ'=σ/\∃done lst,P4 f v.list=(P4 f (v.list.drop j)).map (done++ ·)/\done.length=j/\Xt.Bld 66 2 (done.map D5) lst/\a'.tm.get 1=some (.int .i64 left)/\a'.tm.get 4=some (.bx 2 [.int .i64 0,.sl .nl []] 66)/\a'.tm.get 6=some (.bx 3 [.int .i64 3,lst] 66)/\a'.tm.get 58=some (.sl .fz (v.list.map E1))/\a'.tm.get 59=some (.int .i64 (v.list.length:Int))/\a'.tm.get 60=some (.int .i64 j)):=⟨_,rfl⟩
   obtain ⟨R,hR⟩:∃R:TEx->TAct->Sto->Prop,R=(fun ex a' σ'=>a'.df=[]/\σ'=σ/\(ex=.exit 1/\(∃done lst,P4 f v.list=some done/\Xt.Bld 66 2 (done.map D5) lst/\a'.tm.get 4=some (.bx 2 [.int .i64 0,.sl .nl []] 66)/\a'.tm.get 6=some (.bx 3 [.int .i64 3,lst] 66))\/ex=.ret/\P4 f v.list=none/\(∃q,a'.tm.get 4=some (.bx 2 (D5 (.mk 3 q [])) 66)\/∃done,a'.tm.get 4=some (.bx 2 (D5 (W2 3 done)) 66))/\a'.tm.get 5=some (.bool false))):=⟨_,rfl⟩
   refine B8 I v.list.length R ?_ ?_ ?_ ?_ ?_
   ·rw [hI];exact ⟨rfl,rfl,[],_,by rw [List.drop_zero];cases P4 f v.list<;>simp,rfl,.nl,by simp,by simp,by simp,by simp,by simp,by simp⟩
   ·omega
   ·rw [hI];rintro j ⟨tm,df,clk⟩ σ' hj ⟨rfl,rfl,done,lst,hd,hdl,hb,g1,g4,g6,g58,g59,g60⟩;rw [<-hI];have hw:=F9 hj hv.len;obtain ⟨q,hqn,hq,hqx⟩:=ih v.list[j] σ'.length σ' (by have:=O2 _ _ (List.getElem_mem hj);omega) (hv.sub _ (List.getElem_mem hj));have eq':D5 q=[.int .i64 q.kind,.sl .fz (q.list.map D5)]:=by rw [A1,hqn];rfl
    rw [A4 v.list[j],eq'] at hq;rw [B6F hj] at hd;cases hjo:f v.list[j] with
    |none=>
     rw [hjo] at hd hq;simp at hd hq;generalize hdn:done.map D5=dn at hb;rcases hb.inv with ⟨rfl,rfl⟩|rfl
     ·simp [g1,g4,g6,g58,g59,g60,hj,hq,hw,hsub,A4 v.list[j]];rw [hR];exact ⟨rfl,rfl,.inr ⟨rfl,hd,⟨true,.inl (by simp [A1,QTyp.kind,QTyp.nl,QTyp.list,D4])⟩,by simp⟩⟩
     ·simp [g1,g4,g6,g58,g59,g60,hj,hq,hw,hsub,A4 v.list[j]];rw [hR];exact ⟨rfl,rfl,.inr ⟨rfl,hd,⟨true,.inr ⟨done,by simp [A1 (W2 3 done),D4,hdn]⟩⟩,by simp⟩⟩
    |some x=>
     rw [hjo] at hd hq;have hxq:=hqx x hjo;subst hxq;simp at hq;have hd1:(done.map D5).length<=1073741823:=by rw [List.length_map];omega
     have hd2:((done.map D5).all fun c=>decide (c.length=2))=true:=by
      rw [List.all_eq_true];intro c hc;obtain ⟨q,_,rfl⟩:=List.mem_map.1 hc;rw [A1];rfl
     have hd':P4 f v.list=(P4 f (v.list.drop (j+1))).map ((done++[q])++ ·):=by
      rw [hd];cases P4 f (v.list.drop (j+1))<;>simp
     have hsucc:(done++[q]).map D5=done.map D5++[[.int .i64 q.kind,.sl .fz (q.list.map D5)]]:=by rw [List.map_append,<-eq'];rfl
     have hlen:(done++[q]).length=j+1:=by simp [hdl]
     generalize hdn:done.map D5=dn at hb hsucc hd1 hd2;rcases hb.inv with ⟨rfl,rfl⟩|rfl
     ·simp [g1,g4,g6,g58,g59,g60,hj,hq,hw,hsub,A4 v.list[j]];rw [hI];exact ⟨rfl,rfl,done++[q],_,hd',hlen,by rw [hsucc];exact .own _,by simp [g1],by simp [g4],by simp,by simp [g58],by simp [g59],by simp⟩
     ·simp [g1,g4,g6,g58,g59,g60,hj,hq,hw,hsub,hd1,hd2,A4 v.list[j]];rw [hI];exact ⟨rfl,rfl,done++[q],_,hd',hlen,by rw [hsucc];exact .own _,by simp [g1],by simp [g4],by simp,by simp [g58],by simp [g59],by simp⟩
   ·rw [hI];rintro ⟨tm,df,clk⟩ σ' ⟨rfl,rfl,done,lst,hd,hdl,hb,g1,g4,g6,g58,g59,g60⟩;rw [B8U (by omega)] at hd;simp [g59,g60];rw [hR];exact ⟨rfl,rfl,.inl ⟨rfl,done,lst,by rw [hd];simp,hb,by simp [g4],by simp [g6]⟩⟩
   ·rw [hR];rintro ex ⟨tm,df,clk⟩ σ' ⟨rfl,rfl,⟨rfl,done,lst,hd,hb,g4,g6⟩|⟨rfl,hd,g4,g5⟩⟩
    ·rw [hd];have hbl:=P6 σ'.length done;rcases hb.inv with ⟨hn,rfl⟩|rfl
     ·have hn':done=[]:=List.map_eq_nil_iff.1 hn;subst hn';simp [g4,g6];exact R1 (x:=W2 3 []) rfl (by rw [A1];rfl)
     ·simp [g4,g6,hbl];exact R1 (x:=W2 3 done) rfl (by rw [A1];rfl)
    ·rw [hd];rcases g4 with ⟨q,g4|⟨done,g4⟩⟩
     ·cases q<;>
      ·simp only [D5,A3u,D4] at g4;simp [g4,g5];exact P2 (x:=W2 3 []) rfl (by rw [A1];rfl)
     ·have hbl:=P6 σ'.length done;rw [A1] at g4;simp only [B2D,C2E,A2A,D4] at g4;simp [g4,g5,hbl];exact P2 (x:=W2 3 done) rfl (by rw [A1];rfl)
  rw [if_neg c3]
  by_cases c4:v.kind=4/\v.n=0/\v.list.length<=32
  ·rw [if_pos c4];obtain ⟨k4,n0,l32⟩:=c4;have l32':(v.list.length:Int)<=32:=by omega
   refine B2H (E4 V.h150 ?_);simp [x150,B4,A1,A4,D4,hlt,k4,n0,l32,l32'];obtain ⟨f,hf⟩:∃f,f=O5 n:=⟨_,rfl⟩;have hnf:=A7S n;rw [<-hf] at ih hnf ⊢
   obtain ⟨I,hI⟩:∃I:Nat->TAct->Sto->Prop,I=(fun j a' σ'=>a'.df=[]/\σ'=σ/\∃acc,K7 f (.mk 0 true []) v.list=K7 f acc (v.list.drop j)/\wfQ acc=true/\nfQ acc=true/\szQ acc+3*A37 (v.list.drop j)<=4+3*A37 v.list/\a'.tm.get 1=some (.int .i64 left)/\a'.tm.get 4=some (.bx 2 [.int .i64 0,.sl .nl []] 66)/\a'.tm.get 6=some (.bx 3 [.int .i64 4,.sl .nl []] 66)/\a'.tm.get 11=some (.bx 6 [.int .i64 acc.kind,.sl (D4 acc.nl) (acc.list.map D5)] 66)/\a'.tm.get 98=some (.sl .fz (v.list.map E1))/\a'.tm.get 99=some (.int .i64 (v.list.length:Int))/\a'.tm.get 100=some (.int .i64 j)):=⟨_,rfl⟩
   obtain ⟨R,hR⟩:∃R:TEx->TAct->Sto->Prop,R=(fun ex a' σ'=>a'.df=[]/\σ'=σ/\(ex=.exit 3/\(∃acc,K7 f (.mk 0 true []) v.list=some acc/\a'.tm.get 4=some (.bx 2 [.int .i64 0,.sl .nl []] 66)/\a'.tm.get 6=some (.bx 3 [.int .i64 4,.sl .nl []] 66)/\a'.tm.get 11=some (.bx 6 [.int .i64 acc.kind,.sl (D4 acc.nl) (acc.list.map D5)] 66))\/ex=.ret/\K7 f (.mk 0 true []) v.list=none/\a'.tm.get 4=some (.bx 2 [.int .i64 4,.sl .nl []] 66)/\a'.tm.get 5=some (.bool false))):=⟨_,rfl⟩
   refine B8 I v.list.length R ?_ ?_ ?_ ?_ ?_
   ·rw [hI];exact ⟨rfl,rfl,.mk 0 true [],by rw [List.drop_zero],rfl,rfl,by rw [List.drop_zero,G3];simp [A0V,QTyp.list],by simp,by simp,by simp,by simp [QTyp.kind,QTyp.nl,QTyp.list,D4],by simp,by simp,by simp⟩
   ·omega
   ·rw [hI];rintro j ⟨tm,df,clk⟩ σ' hj ⟨rfl,rfl,acc,hd,hwf,hacc,hsz,g1,g4,g6,g11,g98,g99,g100⟩;rw [<-hI];have hw:=F9 hj hv.len;have hsd:=B6H hj;have hp:=E5 v.list[j];obtain ⟨q,hqn,hq,hqx⟩:=ih v.list[j] σ'.length σ' (by have:=O2 _ _ (List.getElem_mem hj);omega) (hv.sub _ (List.getElem_mem hj));have eq':D5 q=[.int .i64 q.kind,.sl .fz (q.list.map D5)]:=by rw [A1,hqn];rfl
    rw [A4 v.list[j],eq'] at hq;rw [B48 hj] at hd;cases hjo:f v.list[j] with
    |none=>
     rw [hjo] at hd hq;simp at hd hq;simp [g1,g4,g6,g98,g99,g100,hj,hq,hw,hsub,A4 v.list[j]];rw [hR];exact ⟨rfl,rfl,.inr ⟨rfl,hd,by simp,by simp⟩⟩
    |some x=>
     rw [hjo] at hd hq;have hxq:=hqx x hjo;subst hxq;simp at hq hd;obtain ⟨hq1,hq2,hq3⟩:=hnf _ _ hjo;have hjc:A5Y (A2 F O N σ'.length 209 [.agg [.int .i64 acc.kind,.sl (D4 acc.nl) (acc.list.map D5)],.agg (D5 q)] σ') σ' (X8 acc q):=by
      have:=B8Q (O:=O) V.h178 N acc q σ'.length σ' (by omega) (by omega) (C0f hacc) (C0f hq2) hwf (B8R _ hacc) (B8R _ hq2);rw [A1 acc] at this;exact this
     obtain ⟨r,hrn,hr,hrx⟩:=hjc;have er':D5 r=[.int .i64 r.kind,.sl .fz (r.list.map D5)]:=by rw [A1,hrn];rfl
     rw [eq',er'] at hr;cases hjq:X8 acc q with
     |none=>
      rw [hjq] at hr hd;simp at hr hd;cases hmd:acc.nl<;>
      ·simp only [hmd,D4] at g11 hr;simp [g1,g4,g6,g11,g98,g99,g100,hj,hq,hr,hw,hsub,A4 v.list[j]];rw [hR];exact ⟨rfl,rfl,.inr ⟨rfl,hd,by simp,by simp⟩⟩
     |some y=>
      rw [hjq] at hr hd;have hxr:=hrx y hjq;subst hxr;simp at hr hd;obtain ⟨hr1,hr2⟩:=B0B _ _ _ hjq hacc hq2;have hr3:=B0A _ _ _ hjq hwf hq1;cases hmd:acc.nl<;>
      ·simp only [hmd,D4] at g11 hr;simp [g1,g4,g6,g11,g98,g99,g100,hj,hq,hr,hw,hsub,A4 v.list[j]];rw [hI];exact ⟨rfl,rfl,r,hd,hr3,hr1,by omega,by simp [g1],by simp [g4],by simp [g6],by simp [hrn,D4],by simp [g98],by simp [g99],by simp⟩
   ·rw [hI];rintro ⟨tm,df,clk⟩ σ' ⟨rfl,rfl,acc,hd,hwf,hacc,hsz,g1,g4,g6,g11,g98,g99,g100⟩;rw [B6G (by omega)] at hd;simp [g99,g100];rw [hR];exact ⟨rfl,rfl,.inl ⟨rfl,acc,hd,by simp [g4],by simp [g6],by simp [g11]⟩⟩
   ·rw [hR];rintro ex ⟨tm,df,clk⟩ σ' ⟨rfl,rfl,⟨rfl,acc,hd,g4,g6,g11⟩|⟨rfl,hd,g4,g5⟩⟩
    ·rw [hd];have hbl:=P6 σ'.length acc.list;cases hmd:acc.nl<;>
     ·simp only [hmd,D4] at g11;simp [g4,g6,g11,hbl];exact R1 (x:=W2 4 [acc]) rfl (by rw [A1];simp [A1 acc,hmd,D4])
    ·rw [hd];simp [g4,g5];exact P2 (x:=W2 4 []) rfl (by rw [A1];rfl)
  rw [if_neg c4];refine P2 (x:=W2 v.kind []) rfl (A3 V.h150 ?_)
  by_cases k3:v.kind=3
  ·by_cases n0:v.n=0
   ·by_cases l2:2<=v.list.length
    ·have l4:¬v.list.length<=4:=fun h=>c3 ⟨k3,n0,l2,h⟩
     have l4':¬(v.list.length:Int)<=4:=by omega
     have l2':(2:Int)<=(v.list.length:Int):=by omega
     simp [x150,B4,A1,A4,D4,hlt,k3,n0,l2,l4,l2',l4']
    ·have l2':¬(2:Int)<=(v.list.length:Int):=by omega
     simp [x150,B4,A1,A4,D4,hlt,k3,n0,l2,l2']
   ·simp [x150,B4,A1,A4,D4,hlt,k3,n0]
  by_cases k4:v.kind=4
  ·by_cases n0:v.n=0
   ·have l4:¬v.list.length<=32:=fun h=>c4 ⟨k4,n0,h⟩
    have l4':¬(v.list.length:Int)<=32:=by omega
    simp [x150,B4,A1,A4,D4,hlt,k4,n0,l4,l4']
   ·simp [x150,B4,A1,A4,D4,hlt,k4,n0]
  simp [x150,B4,A1,A4,D4,hlt,k1,k2,k3,k4]
structure PFits (F:FuncId->Option TFun):Prop where
 h62:F 235=some f62
 h179:F 224=some f179
 h190:F 236=some f190
mutual
theorem A9I:∀t:QTyp,nfQ t=true->nfQ (D7 t)=true/\szQ (D7 t)<=szQ t
 |.mk k b l,h=>by
  unfold nfQ at h;simp only [Bool.and_eq_true,decide_eq_true_eq] at h;unfold D7;split
  ·exact ⟨rfl,by rw [G3,G3];simp only [A2A,A0V];omega⟩
  ·obtain ⟨h1,h2,h3⟩:=A7T l h.2.2;exact ⟨A2Y (by omega) h1,by rw [G3,G3];simp only [W2,QTyp.list];omega⟩
theorem A7T:∀l:List QTyp,A1V l=true->A1V (K0 l)=true/\(K0 l).length=l.length/\A0V (K0 l)<=A0V l
 |[],_=>⟨rfl,rfl,Nat.le_refl _⟩
 |t::l,h=>by
  unfold A1V at h;rw [Bool.and_eq_true] at h;obtain ⟨a1,a2⟩:=A9I t h.1;obtain ⟨b1,b2,b3⟩:=A7T l h.2;unfold K0;exact ⟨by unfold A1V;rw [a1,b1];rfl,by simp [b2],by simp only [A0V];omega⟩
end
structure VFitsR (F:FuncId->Option TFun):Prop where
 s:SFits F
 p:PFits F
 h98:F 122=some f98
 h153:F 204=some f153
 h151:F 167=some f151
 h28:F 62=some f28
 h56:F 97=some f56
 h96:F 120=some f96
 h95:F 119=some f95
 h149:F 165=some f149
 h61:F 168=some f61
 h63:F 223=some f63
 h105:F 234=some f105
def B0C (v:PVal):Bool:=(A9F 40 v).isSome&&decide (sV v<=1000)
theorem C0i (V:VFitsR F) (N:Nat) (v:PVal) (b:Nat) (σ:Sto) (h:3*szV v<=N) (hv:OkV v):
  A2 F O (N+3) b 122 [.agg (E1 v)] σ=some (.ret (.bool (B0C v)),σ):=by
 obtain ⟨q,hqn,hq,hqx⟩:=B5q (O:=O) V.s (N+2) v 40 40 σ.length σ (by omega) hv rfl (Nat.le_refl _);have hsz:=B2q (O:=O) V.h61 (N+2) v σ.length σ (by omega) hv;have hl:=B6C v;have eq':D5 q=[.int .i64 q.kind,.sl .fz (q.list.map D5)]:=by rw [A1,hqn];rfl
 rw [A4,eq'] at hq;rw [A4] at hsz;refine A3 V.h98 ?_;unfold B0C;rw [<-hl];cases hs:O5 40 v with
 |none=>
  rw [hs] at hq;simp at hq;simp [x98,A4,hq,B4]
 |some x=>
  rw [hs] at hq;have hxq:=hqx x hs;subst hxq;simp at hq;obtain ⟨hq1,hq2,hq3⟩:=A7S 40 v _ hs;obtain ⟨hc1,hc2⟩:=A9I q hq2;have hcl:=B2A (O:=O) V.h151 (N+2) q σ.length σ (by omega) (C0f hq2) hq1;have hcn:(D7 q).nl=false:=by rw [A2z];split<;>rfl
  have ec:D5 (D7 q)=[.int .i64 (D7 q).kind,.sl .fz ((D7 q).list.map D5)]:=by rw [A1,hcn];rfl
  have htr:=A5X (O:=O) V.h28 V.h56 V.h96 V.h95 V.h149 (N+1) (D7 q) σ.length σ (by omega) (C0f hc1);rw [eq',ec] at hcl;rw [ec] at htr;simp only [];cases hrt:E0 40 (D7 q) with
  |false=>rw [hrt] at htr;simp [x98,A4,hq,hcl,htr,B4]
  |true=>
   rw [hrt] at htr
   by_cases hle:sV v<=1000
   ·have e1:min (sV v) 1001=sV v:=by omega
    rw [e1] at hsz;have hle':(sV v:Int)<=1000:=by omega
    simp [x98,A4,hq,hcl,htr,hsz,hle,hle',B4]
   ·have e1:min (sV v) 1001=1001:=by omega
    rw [e1] at hsz;simp [x98,A4,hq,hcl,htr,hsz,hle,B4]
theorem B5r {n:Int} {len:Nat} (h0:0<=n) (h1:n<(len:Int)):∃i:Nat,n=(i:Int)/\i<len:=⟨n.toNat,by omega,by omega⟩
def A9J (l:List Int):Bool:=decide (∀x∈l,1<=x/\x<=1000)
def A3x (c:PCore) (t:PTerm):Int:=
 if t.kind=1\/t.kind=2 then 0
 else if t.kind=3 then (if h:0<=t.n/\t.n<(c.funs.length:Int) then (c.funs[t.n.toNat]'(by omega)).params else -2)
 else if t.kind=4 then min (max (t.kids.length:Int) 2) 4
 else if t.kind=5 then min (t.kids.length:Int) 32
 else if t.kind=6 then (if t.n<1\/13<t.n then -2 else if 12<=t.n then 1 else 2)
 else if t.kind=7\/t.kind=10 then 2
 else if t.kind=8\/t.kind=9 then 3
 else if t.kind=11 then 1
 else if t.kind=12 then min (max (t.odds.length:Int) 1) 64
 else -2
def T1 (c:PCore) (slots:Int):List TV:=L8 c++[.int .i64 slots]
theorem C2F (h97:F 121=some f97) (N:Nat) (c:PCore) (t:PTerm) (ver k:Nat) (slots:Int) (b:Nat) (σ:Sto) (hk:σ.at k=some ⟨ver,.cells (T1 c slots) 78⟩):
  A2 F O (N+1) b 121 [.ptr k 0,.agg (A5 t)] σ=some (.ret (.int .i64 (A3x c t)),σ):=by
 refine A3 h97 ?_;unfold T1 at hk;rw [A8] at hk;simp only [List.cons_append,List.nil_append] at hk;unfold A3x
 by_cases k1:t.kind=1
 ·simp [x97,B4,A0,k1]
 by_cases k2:t.kind=2
 ·simp [x97,B4,A0,k2]
 rw [if_neg (fun e=>e.elim k1 k2)]
 by_cases k3:t.kind=3
 ·rw [if_pos k3]
  by_cases h0:0<=t.n
  case neg=>
   have h0':t.n<0:=by omega
   rw [dif_neg (fun e=>h0 e.1)];simp [x97,B4,A0,k3,h0',hk]
  have h0':¬t.n<0:=by omega
  by_cases h1:t.n<(c.funs.length:Int)
  case neg=>
   have h1':(c.funs.length:Int)<=t.n:=by omega
   rw [dif_neg (fun e=>h1 e.2)];simp [x97,B4,A0,k3,h0',h1',hk]
  rw [dif_pos ⟨h0,h1⟩];obtain ⟨i,hi,hil⟩:=B5r h0 h1;have h1':¬c.funs.length<=i:=by omega
  have h0i:¬(i:Int)<0:=by omega
  simp only [hi,Int.toNat_natCast];simp [x97,B4,A0,k3,hi,h0i,h1',hil,hk,C9 c.funs[i]]
 rw [if_neg k3]
 by_cases k4:t.kind=4
 ·rw [if_pos k4];simp [x97,B4,A0,k4,hk,F2,A04]
  by_cases h1:(t.kids.length:Int)<2
  ·have h2:¬(4:Int)<2:=by omega
   simp only [decide_eq_true h1,decide_eq_false h2];omega
  ·by_cases h2:(4:Int)<(t.kids.length:Int)
   ·simp only [decide_eq_false h1,decide_eq_true h2];omega
   ·simp only [decide_eq_false h1,decide_eq_false h2];omega
 rw [if_neg k4]
 by_cases k5:t.kind=5
 ·rw [if_pos k5];simp [x97,B4,A0,k5,hk,F2,A04]
  by_cases h2:(32:Int)<(t.kids.length:Int)
  ·simp only [decide_eq_true h2];omega
  ·simp only [decide_eq_false h2];omega
 rw [if_neg k5]
 by_cases k6:t.kind=6
 ·rw [if_pos k6]
  by_cases h1:t.n<1
  ·rw [if_pos (.inl h1)];simp [x97,B4,A0,k6,hk,h1]
  by_cases h2:13<t.n
  ·rw [if_pos (.inr h2)];simp [x97,B4,A0,k6,hk,h1,h2]
  rw [if_neg (by omega)]
  by_cases h3:12<=t.n
  ·rw [if_pos h3];simp [x97,B4,A0,k6,hk,h1,h2,h3]
  ·rw [if_neg h3];simp [x97,B4,A0,k6,hk,h1,h2,h3]
 rw [if_neg k6]
 by_cases k7:t.kind=7
 ·simp [x97,B4,A0,k7,hk]
 by_cases k10:t.kind=10
 ·simp [x97,B4,A0,k10,hk]
 rw [if_neg (fun e=>e.elim k7 k10)]
 by_cases k8:t.kind=8
 ·simp [x97,B4,A0,k8,hk]
 by_cases k9:t.kind=9
 ·simp [x97,B4,A0,k9,hk]
 rw [if_neg (fun e=>e.elim k8 k9)]
 by_cases k11:t.kind=11
 ·simp [x97,B4,A0,k11,hk]
 rw [if_neg k11]
 by_cases k12:t.kind=12
 ·rw [if_pos k12];simp [x97,B4,A0,k12,hk,F2,A04]
  by_cases h1:(t.odds.length:Int)<1
  ·have h2:¬(64:Int)<1:=by omega
   simp only [decide_eq_true h1,decide_eq_false h2];omega
  ·by_cases h2:(64:Int)<(t.odds.length:Int)
   ·simp only [decide_eq_false h1,decide_eq_true h2];omega
   ·simp only [decide_eq_false h1,decide_eq_false h2];omega
 rw [if_neg k12];simp [x97,B4,A0,k1,k2,k3,k4,k5,k6,k7,k8,k9,k10,k11,k12,hk]
theorem C7t (h100:F 124=some f100) (N:Nat) (x:Int) (b:Nat) (σ:Sto):A2 F O (N+1) b 124 [.int .i64 x] σ=some (.ret (.bool (decide (x<1\/1000<x))),σ):=by
 refine A3 h100 ?_
 by_cases h1:x<1
 ·simp [x100,B4,h1]
 by_cases h2:1000<x
 ·simp [x100,B4,h1,h2]
 ·simp [x100,B4,h1,h2]
theorem C2G (hF:F 169=some f152) (h100:F 124=some f100) (N:Nat) (b:Nat) (σ:Sto) (l:List Int) (hl:l.length<=maxLen) (hn:l.length<N):
  ∃r:Int,A2 F O (N+1) b 169 [.sl .fz (l.map encI),.func 124 [] []] σ=some (.ret (.int .i64 r),σ)/\decide (0<=r)=l.any (fun x=>decide (x<1\/1000<x)):=by
 suffices hh:∃e' σ',A2 F O (N+1) b 169 [.sl .fz (l.map encI),.func 124 [] []] σ=some (e',σ')/\∃r:Int,e'=.ret (.int .i64 r)/\σ'=σ/\decide (0<=r)=l.any (fun x=>decide (x<1\/1000<x)) by
  obtain ⟨e',σ',q1,r,rfl,rfl,q2⟩:=hh;exact ⟨r,q1,q2⟩
 refine E4 hF ?_;simp [x152];obtain ⟨S,hS⟩:∃S:Int->Bool,S=(fun x=>decide (x<1\/1000<x)):=⟨_,rfl⟩;have hS2:(fun x:Int=>decide (x<1)||decide (1000<x))=S:=by rw [hS];funext x;simp
 simp only [hS2];obtain ⟨I,hI⟩:∃I:Nat->TAct->Sto->Prop,I=(fun j a σ'=>a.df=[]/\σ'=σ/\(l.drop j).any S=l.any S/\a.tm.get 0=some (.sl .fz (l.map encI))/\a.tm.get 1=some (.func 124 [] [])/\a.tm.get 7=some (.int .i64 (l.length:Int))/\a.tm.get 8=some (.int .i64 j)):=⟨_,rfl⟩
 obtain ⟨R,hR⟩:∃R:TEx->TAct->Sto->Prop,R=(fun ex a σ'=>a.df=[]/\σ'=σ/\(ex=.exit 0/\l.any S=false\/ex=.ret/\l.any S=true/\∃r:Int,0<=r/\a.tm.get 4=some (.int .i64 r))):=⟨_,rfl⟩;refine B8 I l.length R ?_ ?_ ?_ ?_ ?_
 ·rw [hI];simp
 ·omega
 ·rw [hI];rintro j ⟨tm,df,clk⟩ σ' hj ⟨rfl,rfl,hd,h0,h1,h7,h8⟩;rw [<-hI];have hw:=F9 hj hl;rw [A4F hj] at hd;cases N with
  |zero=>omega
  |succ N=>
  have hcc:=C7t (O:=O) h100 N l[j] σ'.length σ';have hSj:decide (l[j]<1\/1000<l[j])=S l[j]:=by rw [hS]
  rw [hSj] at hcc;cases hs:S l[j] with
  |true=>
   rw [hs] at hd hcc;simp [h0,h1,h7,h8,hj,hcc,hw,encI];rw [hR];exact ⟨rfl,rfl,.inr ⟨rfl,by simpa using hd.symm,j,by omega,by simp⟩⟩
  |false=>
   rw [hs] at hd hcc;simp [h0,h1,h7,h8,hj,hcc,hw,encI];rw [hI]
   simpa [h0,h1,h7] using hd
 ·rw [hI];rintro ⟨tm,df,clk⟩ σ' ⟨rfl,rfl,hd,h0,h1,h7,h8⟩;rw [List.drop_of_length_le (Nat.le_refl _)] at hd;simp [h0,h1,h7,h8];rw [hR];exact ⟨rfl,rfl,.inl ⟨rfl,hd.symm⟩⟩
 ·rw [hR];rintro ex ⟨tm,df,clk⟩ σ' ⟨rfl,rfl,⟨rfl,h⟩|⟨rfl,h,r,hr,h4⟩⟩
  ·simp [h]
  ·simp [h,h4,hr]
theorem B8V (l:List Int):l.any (fun x=>decide (x<1\/1000<x))= !A9J l:=by
 unfold A9J
 induction l with
 |nil=>rfl
 |cons a l ih=>
  rw [List.any_cons,ih]
  by_cases h:1<=a/\a<=1000
  ·have e:¬(a<1\/1000<a):=by omega
   rw [decide_eq_false e,Bool.false_or];simp [h]
  ·have e:a<1\/1000<a:=by omega
   have e2:¬∀x∈a::l,1<=x/\x<=1000:=fun hh=>h (hh a (by simp))
   rw [decide_eq_true e,decide_eq_false e2];rfl
theorem anyI (hF:F 123=some f99) (hI:F 169=some f152) (h100:F 124=some f100) (N:Nat) (b:Nat) (σ:Sto) (l:List Int) (hl:l.length<=maxLen) (hn:l.length<N):
  A2 F O (N+2) b 123 [.sl .fz (l.map encI),.func 124 [] []] σ=some (.ret (.bool (!A9J l)),σ):=by
 obtain ⟨r,hq,hr⟩:=C2G (O:=O) hI h100 N σ.length σ l hl hn;rw [B8V] at hr;refine A3 hF ?_;simp [x99,hq];exact hr
@[simp] def C0Z:Ann:=fun d=>if d=2 then 1 else if d=5 then 3 else 0
def f101k:TFun:=⟨x101,C0Z,true,false⟩
@[simp] theorem C7u:f101k.an=C0Z:=rfl
@[simp] theorem C2H:f101k.fn.body=x101.body:=rfl
@[simp] theorem C2I:f101k.keep=true:=rfl
@[simp] theorem C4p:f101k.fn.results=[.tmp 2]:=rfl
def bcells (l:List Bool):List TV:=l.map TV.bool
theorem A6p {σ:Sto} {k:Nat} (τ:Sto) (h:k<σ.length):Sto.at (σ++τ) k=σ.at k:=by
 simp only [Sto.at,List.getElem?_append_left h]
theorem A60 (l:List Bool):A2b 1 l.length (bcells l)=l.map X3:=by
 induction l with
 |nil=>rfl
 |cons x l ih=>simp only [bcells,List.map_cons,List.length_cons,A2b] at ih ⊢;simp [ih,X3]
theorem B2I (l:List Bool):(l.map X3).flatten=bcells l:=by
 induction l with
 |nil=>rfl
 |cons x l ih=>simp only [List.map_cons,List.flatten_cons,ih];rfl
theorem B8W (h101:F 125=some f101k) (N:Nat) (k ver cap:Nat) (l:List Bool) (b:Nat) (σ:Sto) (hk:σ.at k=some ⟨ver,.cells (bcells l) 4⟩) (hl:l≠[]) (hl2:l.length<=1000):
  ∃cp,A2 F O (N+1) b 125 [.ref k 0 1 l.length cap] σ=some (.ret (.ref (σ.length+1) 0 1 l.length cp),σ++[some ⟨0,.cells [] 4⟩,some ⟨0,.cells (bcells l) 4⟩]):=by
 suffices hh:∃e' σ',A2 F O (N+1) b 125 [.ref k 0 1 l.length cap] σ=some (e',σ')/\∃cp,e'=.ret (.ref (σ.length+1) 0 1 l.length cp)/\σ'=σ++[some ⟨0,.cells [] 4⟩,some ⟨0,.cells (bcells l) 4⟩] by
  obtain ⟨e',σ',q1,cp,rfl,rfl⟩:=hh;exact ⟨cp,q1⟩
 refine E4 h101 ?_;have h1:=A6p (σ:=σ) [some ⟨0,.cells [] 4⟩] (Sto.lt hk);rw [hk] at h1;have h2:(l.map X3).isEmpty=false:=by cases l<;>simp_all
 have h3:((l.map X3).all fun c=>decide (c.length=1))=true:=by
  rw [List.all_eq_true];intro c hc;obtain ⟨q,_,rfl⟩:=List.mem_map.1 hc;rfl
 have h4:0<l.length:=by cases l<;>simp_all
 have h5:l.length<=1073741824:=by omega
 have h6:(bcells l).length=l.length:=by simp [bcells]
 have h7:((bcells l).take l.length).any C0=false:=by
  rw [<-h6,List.take_length];unfold bcells;rw [List.any_eq_false];intro x hx;obtain ⟨q,_,rfl⟩:=List.mem_map.1 hx;simp [C0]
 have h8:=A60 l;have h9:=B2I l;have hp:=H9 σ ⟨0,.cells [] 4⟩;generalize hb:bcells l=bl at*;simp [x101,hk,h1,h2,h3,h4,h5,h6,h7,h8,h9,hp]
def C2J:XCode:=(by exact fun x _=>x:V0 (gT x57.body [1,1,1,1,1])) _ (by conv=>lhs;cbv)
def B6J:XCode:=(by exact fun x _=>x:V1 (fun a=>pT (gT x57.body [1,1,1,1]) [1] a)) _ (by intros;conv=>lhs;cbv) C2J
theorem J1:x57=(by exact fun x _=>x:V1 (fun a=>({x57 with body:=pT (x57.body) [1,1,1,1] a}:XFun))) _ (by intros;conv=>lhs;cbv) B6J:=rfl
def C6 (f:List Bool->PTerm->Bool) (bd inner:List Bool):List PTerm->Bool
 |[]=>true
 |k::r=>f (if r.length=0 then inner else bd) k&&C6 f bd inner r
theorem A7U {f:List Bool->PTerm->Bool} {bd inner:List Bool} {l:List PTerm} {j:Nat} (hj:j<l.length):C6 f bd inner (l.drop j)=(f (if j+1=l.length then inner else bd) l[j]&&C6 f bd inner (l.drop (j+1))):=by
 rw [List.drop_eq_getElem_cons hj];grind [C6]
theorem A4I {σ σ':Sto} (h:σ'.take σ.length=σ) {k:Nat} {o:TObj} (hk:σ.at k=some o):σ'.at k=some o:=by
 grind [Sto.lt,Sto.at]
set_option maxHeartbeats 1000000 in
theorem B8X (N:Nat) (R:List Bool->PTerm->Bool) (t:PTerm) (ht:OkTm t) (bd inner:List Bool) (left:Int) (hl1:1<=left) (hl2:left<=200) (p kb ki:Nat) (cap cap':Nat) (look:TObj) (vb vi:Nat) (σ0:Sto)
  (hp:σ0.at p=some look) (hb:σ0.at kb=some ⟨vb,.cells (bcells bd) 4⟩) (hN:t.kids.length<N) (hbl:bd.length=inner.length)
  (ih:∀x∈t.kids,∀(bd':List Bool) (kb' cap' ver b:Nat) (σ:Sto),σ.at p=some look->σ.at kb'=some ⟨ver,.cells (bcells bd') 4⟩->bd'.length=bd.length->
   A2 F O N b 98 [.ptr p 0,.agg (A5 x),.ref kb' 0 1 bd'.length cap',.int .i64 (left - 1)] σ=some (.ret (.bool (R bd' x)),σ))
  (a:TAct) (σ:Sto) (hdf:a.df=[]) (g0:a.tm.get 0=some (.ptr p 0)) (g2:a.tm.get 2=some (.ref kb 0 1 bd.length cap)) (g3:a.tm.get 3=some (.int .i64 left)) (g5:a.tm.get 5=some (.bx 0 (A5 t) 28))
  (g9:a.tm.get 9=some (.ref ki 0 1 inner.length cap')) (htk:σ.take σ0.length=σ0) (hi:σ.at ki=some ⟨vi,.cells (bcells inner) 4⟩):
  Tw a57 σ0.length (A2 F O N) N (Fin f57 σ0.length fun e σ'=>e=.ret (.bool (C6 R bd inner t.kids))/\σ'=σ0) [] (B9 a57 σ0.length (A2 F O N) N C2J a σ):=by
 obtain ⟨tm,df,clk⟩:=a;simp only at hdf g0 g2 g3 g5 g9;subst hdf;have hsub:IntKind.i64.wrap (left - 1)=left - 1:=by rw [G2]<;>omega
 have g5':=g5;rw [A0] at g5;simp [C2J,g0,g2,g3,g5,g9]
 obtain ⟨I,hI⟩:∃I:Nat->TAct->Sto->Prop,I=(fun j a' σ'=>a'.df=[]/\σ'=σ/\C6 R bd inner (t.kids.drop j)=C6 R bd inner t.kids/\a'.tm.get 0=some (.ptr p 0)/\a'.tm.get 2=some (.ref kb 0 1 bd.length cap)/\a'.tm.get 3=some (.int .i64 left)/\a'.tm.get 5=some (.bx 0 (A5 t) 28)/\a'.tm.get 9=some (.ref ki 0 1 inner.length cap')/\a'.tm.get 172=some (.sl .fz (t.kids.map A5))/\a'.tm.get 173=some (.int .i64 (t.kids.length:Int))/\a'.tm.get 174=some (.int .i64 j)):=⟨_,rfl⟩
 obtain ⟨Q,hQ⟩:∃R':TEx->TAct->Sto->Prop,R'=(fun ex a' σ'=>a'.df=[]/\σ'=σ/\(ex=.exit 3/\C6 R bd inner t.kids=true\/ex=.ret/\C6 R bd inner t.kids=false/\a'.tm.get 8=some (.bool false))):=⟨_,rfl⟩;refine B8 I t.kids.length Q ?_ hN ?_ ?_ ?_
 ·rw [hI];exact ⟨rfl,rfl,by rw [List.drop_zero],by simp [g0],by simp [g2],by simp [g3],by simp [g5'],by simp [g9],by simp,by simp,by simp⟩
 ·rw [hI];rintro j ⟨tm,df,clk⟩ σ' hj ⟨rfl,rfl,hd,g0,g2,g3,g5,g9,g172,g173,g174⟩;rw [<-hI];have hw:=F9 hj ht.len;rw [A7U hj] at hd;have g5':=g5;rw [A0] at g5;have hws:IntKind.i64.wrap ((t.kids.length:Int) - 1)=(t.kids.length:Int) - 1:=by rw [G2]<;>(have:=ht.len;unfold maxLen at this;omega)
  by_cases hlast:j+1=t.kids.length
  ·have hcc:=ih t.kids[j] (List.getElem_mem hj) inner ki cap' vi σ0.length σ' (A4I htk hp) hi hbl.symm;rw [A0] at hcc;have hlast':((j:Int)=(t.kids.length:Int) - 1)=True:=eq_true (by omega);rw [if_pos hlast] at hd;cases hr:R inner t.kids[j] with
   |true=>
    rw [hr] at hd hcc;simp [g0,g2,g3,g5,g9,g172,g173,g174,hj,hw,hws,hsub,hcc,hlast',A0 t.kids[j]];rw [hI];exact ⟨rfl,rfl,by simpa using hd,by simp [g0],by simp [g2],by simp [g3],by simp [g5'],by simp [g9],by simp [g172],by simp [g173],by simp⟩
   |false=>
    rw [hr] at hd hcc;simp [g0,g2,g3,g5,g9,g172,g173,g174,hj,hw,hws,hsub,hcc,hlast',A0 t.kids[j]];rw [hQ];exact ⟨rfl,rfl,.inr ⟨rfl,by simpa using hd.symm,by simp⟩⟩
  ·have hcc:=ih t.kids[j] (List.getElem_mem hj) bd kb cap vb σ0.length σ' (A4I htk hp) (A4I htk hb) rfl;rw [A0] at hcc;have hlast':¬(j:Int)=(t.kids.length:Int) - 1:=by omega
   rw [if_neg hlast] at hd;cases hr:R bd t.kids[j] with
   |true=>
    rw [hr] at hd hcc;simp [g0,g2,g3,g5,g9,g172,g173,g174,hj,hw,hws,hsub,hcc,hlast',A0 t.kids[j]];rw [hI];exact ⟨rfl,rfl,by simpa using hd,by simp [g0],by simp [g2],by simp [g3],by simp [g5'],by simp [g9],by simp [g172],by simp [g173],by simp⟩
   |false=>
    rw [hr] at hd hcc;simp [g0,g2,g3,g5,g9,g172,g173,g174,hj,hw,hws,hsub,hcc,hlast',A0 t.kids[j]];rw [hQ];exact ⟨rfl,rfl,.inr ⟨rfl,by simpa using hd.symm,by simp⟩⟩
 ·rw [hI];rintro ⟨tm,df,clk⟩ σ' ⟨rfl,rfl,hd,g0,g2,g3,g5,g9,g172,g173,g174⟩;rw [List.drop_of_length_le (Nat.le_refl _)] at hd;simp [g173,g174];rw [hQ];exact ⟨rfl,rfl,.inl ⟨rfl,by rw [<-hd];rfl⟩⟩
 ·rw [hQ];rintro ex ⟨tm,df,clk⟩ σ' ⟨rfl,rfl,⟨rfl,h⟩|⟨rfl,h,g8⟩⟩
  ·simp [h,htk]
  ·simp [h,g8,htk]
def A4J (bd:List Bool) (f:Nat):Nat->Bool
 |0=>false
 |n+1=>(bd[f]? ==some true)||A4J bd (f+1) n
def S7 (bd:List Bool) (f:Nat) (v:Bool):Nat->List Bool
 |0=>bd
 |n+1=>(S7 bd f v n).set (f+n) v
@[simp] theorem B2J (bd:List Bool) (f:Nat) (v:Bool):∀n,(S7 bd f v n).length=bd.length
 |0=>rfl
 |n+1=>by simp [S7,B2J bd f v n]
theorem A0d {α:Type} {l:List α} {i n:Nat} {x:α} (h:n<=i):(l.set i x).take n=l.take n:=by
 rw [List.take_set,List.set_eq_of_length_le (by simp;omega)]
theorem A1W (l:List Bool) (o:Nat) (v:Bool) (h:o<l.length):putAt (bcells l) o [.bool v]=bcells (l.set o v):=by
 unfold putAt bcells;rw [List.map_set];simp only [List.length_cons,List.length_nil];rw [List.set_eq_take_append_cons_drop,if_pos (by simpa using h)];simp
theorem A7V {l:List Bool} {o:Nat} (h:o<l.length):(bcells l)[o]? =some (.bool l[o]):=by
 unfold bcells;simp [h]
set_option maxHeartbeats 2000000 in
theorem C2K (h101:F 125=some f101k) (N:Nat) (R:List Bool->PTerm->Bool) (t:PTerm) (ht:OkTm t) (bd:List Bool) (left:Int) (hl1:1<=left) (hl2:left<=200) (p kb:Nat) (cap:Nat) (c:PCore) (vl vb:Nat) (σ0:Sto)
  (hp:σ0.at p=some ⟨vl,.cells (T1 c (bd.length:Int)) 78⟩) (hb:σ0.at kb=some ⟨vb,.cells (bcells bd) 4⟩) (hN:t.kids.length<N) (hbl:bd.length<=1000)
  (ih:∀x∈t.kids,∀(bd':List Bool) (kb' cap' ver b:Nat) (σ:Sto),σ.at p=some ⟨vl,.cells (T1 c (bd.length:Int)) 78⟩->σ.at kb'=some ⟨ver,.cells (bcells bd') 4⟩->bd'.length=bd.length->
   A2 F O N b 98 [.ptr p 0,.agg (A5 x),.ref kb' 0 1 bd'.length cap',.int .i64 (left - 1)] σ=some (.ret (.bool (R bd' x)),σ))
  (fr:Int) (n:Nat) (hn:n<=4) (hfr:I64 fr) (hn4:5<=N)
  (a:TAct) (hdf:a.df=[]) (g0:a.tm.get 0=some (.ptr p 0)) (g2:a.tm.get 2=some (.ref kb 0 1 bd.length cap)) (g3:a.tm.get 3=some (.int .i64 left)) (g5:a.tm.get 5=some (.bx 0 (A5 t) 28))
  (g9:a.tm.get 9=some (.ref kb 0 1 bd.length cap)) (g10:a.tm.get 10=some (.int .i64 fr)) (g11:a.tm.get 11=some (.int .i64 (n:Int))):
  Tw a57 σ0.length (A2 F O N) N (Fin f57 σ0.length fun e σ'=>e=.ret (.bool (if n=0 then C6 R bd bd t.kids else (decide (0<=fr/\fr<=(bd.length:Int) - n)&& !A4J bd fr.toNat n)&&C6 R bd (S7 bd fr.toNat true n) t.kids))/\σ'=σ0) [] (B9 a57 σ0.length (A2 F O N) N B6J a σ0):=by
 by_cases n0:n=0
 ·subst n0;obtain ⟨tm,df,clk⟩:=a;simp only at hdf g0 g2 g3 g5 g9 g10 g11;subst hdf;simp only [if_pos];simp [B6J,g11];exact B8X N R t ht bd bd left hl1 hl2 p kb kb cap cap _ vb vb σ0 hp hb hN rfl ih _ _ rfl (by simp [g0]) (by simp [g2]) (by simp [g3]) (by simp [g5]) (by simp [g9]) (by simp) hb
 rw [if_neg n0];obtain ⟨tm,df,clk⟩:=a;simp only at hdf g0 g2 g3 g5 g9 g10 g11;subst hdf;have hn1:(0:Int)<(n:Int):=by omega
 have hn1':0<n:=by omega
 have hlk:=hp;unfold T1 at hlk;rw [A8] at hlk;simp only [List.cons_append,List.nil_append] at hlk;have hws:IntKind.i64.wrap ((bd.length:Int) - n)=(bd.length:Int) - n:=by rw [G2]<;>omega
 by_cases f0:0<=fr
 case neg=>
  have f0':fr<0:=by omega
  rw [decide_eq_false (fun e=>f0 e.1)];simp [B6J,g0,g2,g3,g9,g10,g11,hn1,hn1',f0',B4]
 have f0':¬fr<0:=by omega
 by_cases f1:fr<=(bd.length:Int) - n
 case neg=>
  have f1':(bd.length:Int) - n<fr:=by omega
  rw [decide_eq_false (fun e=>f1 e.2)];simp [B6J,g0,g2,g3,g9,g10,g11,hn1,hn1',f0',f1',hlk,hws,B4]
 have f1':¬(bd.length:Int) - n<fr:=by omega
 rw [decide_eq_true ⟨f0,f1⟩,Bool.true_and];obtain ⟨f,hf⟩:∃f:Nat,fr=(f:Int):=⟨fr.toNat,by omega⟩;subst hf;rw [Int.toNat_natCast];have hne:bd≠[]:=by rintro rfl;simp at f1;omega
 cases N with
 |zero=>omega
 |succ M=>
 obtain ⟨cp,hcl⟩:=B8W (O:=O) h101 M kb vb cap bd σ0.length σ0 hb hne hbl;simp [B6J,g0,g2,g3,g9,g10,g11,hn1,hn1',f0',f1',hlk,hws,hcl,B4]
 obtain ⟨I,hI⟩:∃I:Nat->TAct->Sto->Prop,I=(fun j a' σ'=>a'.df=[]/\σ'.take σ0.length=σ0/\(∃ver,σ'.at (σ0.length+1)=some ⟨ver,.cells (bcells (S7 bd f true j)) 4⟩)/\A4J bd (f+j) (n - j)=A4J bd f n/\a'.tm.get 0=some (.ptr p 0)/\a'.tm.get 2=some (.ref kb 0 1 bd.length cap)/\a'.tm.get 3=some (.int .i64 left)/\a'.tm.get 5=some (.bx 0 (A5 t) 28)/\a'.tm.get 9=some (.ref (σ0.length+1) 0 1 bd.length cp)/\a'.tm.get 10=some (.int .i64 (f:Int))/\a'.tm.get 155=some (.int .i64 (n:Int))/\a'.tm.get 156=some (.int .i64 j)):=⟨_,rfl⟩
 obtain ⟨Q,hQ⟩:∃R':TEx->TAct->Sto->Prop,R'=(fun ex a' σ'=>a'.df=[]/\σ'.take σ0.length=σ0/\(ex=.exit 1/\A4J bd f n=false/\(∃ver,σ'.at (σ0.length+1)=some ⟨ver,.cells (bcells (S7 bd f true n)) 4⟩)/\a'.tm.get 0=some (.ptr p 0)/\a'.tm.get 2=some (.ref kb 0 1 bd.length cap)/\a'.tm.get 3=some (.int .i64 left)/\a'.tm.get 5=some (.bx 0 (A5 t) 28)/\a'.tm.get 9=some (.ref (σ0.length+1) 0 1 bd.length cp)\/ex=.ret/\A4J bd f n=true/\a'.tm.get 8=some (.bool false))):=⟨_,rfl⟩
 refine B8 I n Q ?_ (by omega) ?_ ?_ ?_
 ·rw [hI];exact ⟨rfl,by simp,⟨0,by simp [Sto.at,S7]⟩,by rw [Nat.add_zero,Nat.sub_zero],by simp [g0],by simp [g2],by simp [g3],by simp [g5],by simp,by simp [g10],by simp,by simp⟩
 ·rw [hI];rintro j ⟨tm,df,clk⟩ σ' hj ⟨rfl,htk,⟨ver,hv⟩,hd,g0,g2,g3,g5,g9,g10,g155,g156⟩;rw [<-hI];have hj':(j:Int)<(n:Int):=by omega
  have hw:IntKind.i64.wrap ((j:Int)+1)=((j+1:Nat):Int):=by rw [G2]<;>omega
  obtain ⟨m,hm⟩:∃m,m=f+j:=⟨_,rfl⟩;have hwf:IntKind.i64.wrap ((f:Int)+(j:Int))=(m:Int):=by rw [G2]<;>omega
  have hfj:m<bd.length:=by omega
  have e1:n - j=(n - (j+1))+1:=by omega
  rw [e1] at hd;simp only [A4J] at hd;rw [<-hm] at hd;rw [List.getElem?_eq_getElem hfj] at hd;have hfj2:m+1<=bd.length:=by omega
  have hbt:=A4I htk hb;have hgb:=A7V hfj;have hfl:m<(S7 bd f true j).length:=by simpa using hfj
  have hpb:=A1W (S7 bd f true j) m true hfl;have hle:(bcells (S7 bd f true j)).length=bd.length:=by simp [bcells]
  have hle2:(bcells bd).length=bd.length:=by simp [bcells]
  generalize hbv:bd[m]=bv at hd hgb;generalize hB1:bcells bd=B1 at hbt hgb hle2;generalize hB2:bcells (S7 bd f true j)=B2 at hv hpb hle;cases bv with
  |true=>
   simp at hd;simp [g0,g2,g3,g5,g9,g10,g155,g156,hj,hj',hw,hwf,hfj,hbt,hgb];rw [hQ];exact ⟨rfl,htk,.inr ⟨rfl,hd,by simp⟩⟩
  |false=>
   simp at hd;simp [g0,g2,g3,g5,g9,g10,g155,g156,hj,hj',hw,hwf,hfj,hbt,hgb,hv,hle,hfj2];rw [hI];refine ⟨rfl,by rw [A0d (by omega)];exact htk,⟨ver+1,?_⟩,by rw [<-hd,show f+(j+1)=m+1 by omega],by simp [g0],by simp [g2],by simp [g3],by simp [g5],by simp [g9],by simp [g10],by simp [g155],by simp⟩;simp only [S7];rw [<-hm,<-hpb];have hlt:=Sto.lt hv;simp [Sto.at,hlt]
 ·rw [hI];rintro ⟨tm,df,clk⟩ σ' ⟨rfl,htk,hv,hd,g0,g2,g3,g5,g9,g10,g155,g156⟩;rw [Nat.sub_self] at hd;simp [g155,g156];rw [hQ];exact ⟨rfl,htk,.inl ⟨rfl,hd.symm,hv,by simp [g0],by simp [g2],by simp [g3],by simp [g5],by simp [g9]⟩⟩
 ·rw [hQ];rintro ex ⟨tm,df,clk⟩ σ' ⟨rfl,htk,⟨rfl,hd,⟨ver,hv⟩,g0,g2,g3,g5,g9⟩|⟨rfl,hd,g8⟩⟩
  ·rw [hd];simp;exact B8X (M+1) R t ht bd (S7 bd f true n) left hl1 hl2 p kb (σ0.length+1) cap cp _ vb ver σ0 hp hb hN (by simp) ih _ _ rfl (by simp [g0]) (by simp [g2]) (by simp [g3]) (by simp [g5]) (by simp [g9]) htk hv
  ·rw [hd];simp [g8,htk]
def B5s (l:List Int):Bool:=match l with
 |[x,y]=>decide (0<=x/\x<=y/\1<=y/\y<=1000)
 |_=>false
def A4K (bd:List Bool) (fr:Int) (n:Nat):Bool:=decide (0<=fr/\fr<=(bd.length:Int) - n)&& !A4J bd fr.toNat n
def A4L (c:PCore) (bd:List Bool) (t:PTerm):Bool:=
 if t.kind=1 then B0C t.val
 else if t.kind=2 then decide (0<=t.n)&&(bd[t.n.toNat]? ==some true)
 else if t.kind=7 then decide (1<=t.m/\t.m<=4)&&A4K bd t.n t.m.toNat
 else if t.kind=9 then A4K bd t.n 2
 else if t.kind=11 then B5s t.odds
 else if t.kind=12 then decide (t.odds.length=t.kids.length)&&(decide (0<=t.n/\t.n<c.sites)&&A9J t.odds)
 else true
def A2B (c:PCore) (bd:List Bool) (t:PTerm):Bool:=decide (A3x c t=(t.kids.length:Int))&&A4L c bd t
def bindN (t:PTerm):Nat:=if t.kind=9 then 2 else if t.kind=7 then t.m.toNat else 0
def D0 (c:PCore):Nat->List Bool->PTerm->Bool
 |0,_,_=>false
 |left+1,bd,t=>A2B c bd t&&C6 (D0 c left) bd (S7 bd t.n.toNat true (bindN t)) t.kids
structure TFits (F:FuncId->Option TFun):Prop where
 v:VFitsR F
 h57:F 98=some f57
 h97:F 121=some f97
 h99:F 123=some f99
 h152:F 169=some f152
 h100:F 124=some f100
 h101:F 125=some f101k
theorem B2K (V:TFits F) (c:PCore):∀(N:Nat) (t:PTerm) (left:Nat) (bd:List Bool) (b p kb vl vb cap:Nat) (σ:Sto),3*E3 t<=N->OkTm t->left<=200->
  σ.at p=some ⟨vl,.cells (T1 c (bd.length:Int)) 78⟩->σ.at kb=some ⟨vb,.cells (bcells bd) 4⟩->bd.length<=1000->
  A2 F O N b 98 [.ptr p 0,.agg (A5 t),.ref kb 0 1 bd.length cap,.int .i64 (left:Int)] σ=some (.ret (.bool (D0 c left bd t)),σ)
 |0,t,left,bd,b,p,kb,vl,vb,cap,σ,h,_,_,_,_,_=>by rw [B5] at h;omega
 |N+1,t,left,bd,b,p,kb,vl,vb,cap,σ,h,ht,hleft,hp,hb,hbl=>by
  have hs:=B5 t;have hvs:=E5 t.val;have hks:=M3 t.kids;obtain ⟨M,hM⟩:∃M,N=M+4:=⟨N - 4,by omega⟩;refine A3 V.h57 ?_;cases left with
  |zero=>
   unfold D0;simp [x57,B4,A0]
  |succ left=>
  have hl1:¬((left:Int)+1<1):=by omega
  have hkd:=C2F (O:=O) V.h97 (M+3) c t vl p (bd.length:Int) σ.length σ hp;rw [<-hM] at hkd;have htd:=A0 t;rw [htd] at hkd;have hlk:=hp;unfold T1 at hlk;rw [A8] at hlk;simp only [List.cons_append,List.nil_append] at hlk;unfold D0 A2B;obtain ⟨R,hR⟩:∃R,R=D0 c left:=⟨_,rfl⟩
  have ih:∀x∈t.kids,∀(bd':List Bool) (kb' cap' ver b:Nat) (σ':Sto),σ'.at p=some ⟨vl,.cells (T1 c (bd.length:Int)) 78⟩->σ'.at kb'=some ⟨ver,.cells (bcells bd') 4⟩->bd'.length=bd.length->
    A2 F O N b 98 [.ptr p 0,.agg (A5 x),.ref kb' 0 1 bd'.length cap',.int .i64 (((left+1:Nat):Int) - 1)] σ'=some (.ret (.bool (R bd' x)),σ'):=by
   intro x hx bd' kb' cap' ver b σ' h1 h2 h3;have:=D3 _ _ hx;rw [show (((left+1:Nat):Int) - 1)=(left:Int) by omega,hR];exact B2K V c N x left bd' b p kb' vl ver cap' σ' (by omega) (ht.sub x hx) (by omega) (by rw [h3];exact h1) h2 (by omega)
  rw [<-hR];have main:=fun (fr:Int) (n:Nat) (hn:n<=4) (hfr:I64 fr) (a:TAct)=>C2K (O:=O) V.h101 N R t ht bd ((left+1:Nat):Int) (by omega) (by omega) p kb cap c vl vb σ hp hb (by omega) hbl ih fr n hn hfr (by omega) a
  by_cases hkl:A3x c t=(t.kids.length:Int)
  case neg=>
   rw [decide_eq_false hkl];simp [J1,B4,htd,hl1,hkd,hkl]
  rw [decide_eq_true hkl,Bool.true_and];rw [hkl] at hkd;obtain ⟨Z,hZ⟩:∃Z,Z=(A4L c bd t&&C6 R bd (S7 bd t.n.toNat true (bindN t)) t.kids):=⟨_,rfl⟩;rw [<-hZ];unfold A4L bindN at hZ
  by_cases k1:t.kind=1
  ·have hkk:t.kids=[]:=by
    unfold A3x at hkl;rw [if_pos (.inl k1)] at hkl;exact List.length_eq_zero_iff.1 (by omega)
   have hr:=C0i (O:=O) V.v (M+1) t.val σ.length σ (by omega) ht.val;rw [show M+1+3=N by omega,A4] at hr;rw [if_pos k1,hkk] at hZ;simp only [C6,Bool.and_true] at hZ;rw [<-hZ] at hr;rw [k1] at hkd;simp [J1,B4,htd,hl1,hkd,k1,hr]
  rw [if_neg k1] at hZ
  by_cases k2:t.kind=2
  ·have hkk:t.kids=[]:=by
    unfold A3x at hkl;rw [if_pos (.inr k2)] at hkl;exact List.length_eq_zero_iff.1 (by omega)
   rw [if_pos k2,hkk] at hZ;simp only [C6,Bool.and_true] at hZ;rw [k2] at hkd
   by_cases h0:0<=t.n
   case neg=>
    rw [decide_eq_false h0,Bool.false_and] at hZ;simp [J1,B4,htd,hl1,hkd,k2,h0,hZ]
   rw [decide_eq_true h0,Bool.true_and] at hZ
   by_cases h1:t.n<(bd.length:Int)
   case neg=>
    have e:bd[t.n.toNat]? =none:=List.getElem?_eq_none (by omega);rw [e] at hZ;have hZ':Z=false:=by rw [hZ];rfl
    simp [J1,B4,htd,hl1,hkd,k2,h0,h1,hlk,hZ']
   obtain ⟨i,hi,hil⟩:=B5r h0 h1;have hgb:=A7V hil;have hle:(bcells bd).length=bd.length:=by simp [bcells]
   have h0':(0:Int)<=(i:Int):=by omega
   rw [hi,Int.toNat_natCast,List.getElem?_eq_getElem hil] at hZ;have hZ':bd[i]=Z:=by rw [hZ];cases bd[i]<;>rfl
   rw [hZ'] at hgb;rw [hi] at hkd;generalize bcells bd=B at hb hgb hle;simp [J1,B4,htd,hl1,hkd,k2,hi,h0',hil,hlk,hb,hgb]
  rw [if_neg k2] at hZ
  by_cases k7:t.kind=7
  ·have k9:¬t.kind=9:=by omega
   rw [if_pos k7,if_neg k9,if_pos k7] at hZ;rw [k7] at hkd
   by_cases h1:t.m<1
   ·rw [decide_eq_false (by omega),Bool.false_and,Bool.false_and] at hZ;simp [J1,B4,htd,hl1,hkd,k7,h1,hZ]
   by_cases h2:4<t.m
   ·rw [decide_eq_false (by omega),Bool.false_and,Bool.false_and] at hZ;simp [J1,B4,htd,hl1,hkd,k7,h1,h2,hZ]
   rw [decide_eq_true (by omega),Bool.true_and] at hZ;simp [J1,B4,htd,hl1,hkd,k7,h1,h2];have hz:Z=(if t.m.toNat=0 then C6 R bd bd t.kids else (decide (0<=t.n/\t.n<=(bd.length:Int) - (t.m.toNat:Int))&& !A4J bd t.n.toNat t.m.toNat)&&C6 R bd (S7 bd t.n.toNat true t.m.toNat) t.kids):=by
    rw [if_neg (by omega),hZ];rfl
   rw [hz];refine main t.n t.m.toNat (by omega) ht.n _ rfl ?_ ?_ ?_ ?_ ?_ ?_ ?_
   all_goals first|(simp [htd,k7];done)|(simp [htd,k7];omega)
  rw [if_neg k7] at hZ
  by_cases k9:t.kind=9
  ·rw [if_pos k9,if_pos k9] at hZ;rw [k9] at hkd;simp [J1,B4,htd,hl1,hkd,k9];have hz:Z=(if 2=0 then C6 R bd bd t.kids else (decide (0<=t.n/\t.n<=(bd.length:Int) - ((2:Nat):Int))&& !A4J bd t.n.toNat 2)&&C6 R bd (S7 bd t.n.toNat true 2) t.kids):=by
    rw [if_neg (by omega),hZ];rfl
   rw [hz];refine main t.n 2 (by omega) ht.n _ rfl ?_ ?_ ?_ ?_ ?_ ?_ ?_
   all_goals first|(simp [htd,k9];done)|(simp [htd,k9];omega)
  rw [if_neg k9,if_neg k9,if_neg k7] at hZ;simp only [S7] at hZ;have plain:=main 0 0 (by omega) (by unfold I64;omega);rw [if_pos rfl] at plain
  by_cases k11:t.kind=11
  ·rw [if_pos k11] at hZ;rw [k11] at hkd
   by_cases hlen:t.odds.length=2
   case neg=>
    have hZ':Z=false:=by
     rw [hZ];unfold B5s;split
     ·rename_i x y he;rw [he] at hlen;exact absurd rfl hlen
     ·rfl
    have hlen':¬(t.odds.length:Int)=2:=by omega
    simp [J1,B4,htd,hl1,hkd,k11,hlen,hlen',hZ']
   obtain ⟨x,y,hxy⟩:=C5b hlen;rw [hxy] at hZ hkd htd;simp only [B5s] at hZ;simp only [List.map_cons,List.map_nil,encI] at htd hkd
   by_cases h1:x<0
   ·rw [decide_eq_false (by omega),Bool.false_and] at hZ;simp [J1,B4,htd,hl1,hkd,k11,h1,hZ]
   by_cases h2:y<x
   ·rw [decide_eq_false (by omega),Bool.false_and] at hZ;simp [J1,B4,htd,hl1,hkd,k11,h1,h2,hZ]
   by_cases h3:y<1
   ·rw [decide_eq_false (by omega),Bool.false_and] at hZ;simp [J1,B4,htd,hl1,hkd,k11,h1,h2,h3,hZ]
   by_cases h4:1000<y
   ·rw [decide_eq_false (by omega),Bool.false_and] at hZ;simp [J1,B4,htd,hl1,hkd,k11,h1,h2,h3,h4,hZ]
   rw [decide_eq_true (by omega),Bool.true_and] at hZ;rw [<-hZ] at plain;simp [J1,B4,htd,hl1,hkd,k11,h1,h2,h3,h4];refine plain _ rfl ?_ ?_ ?_ ?_ ?_ ?_ ?_
   all_goals simp [htd,k11]
  rw [if_neg k11] at hZ
  by_cases k12:t.kind=12
  ·rw [if_pos k12] at hZ;rw [k12] at hkd;have hany:=anyI (O:=O) V.h99 V.h152 V.h100 (M+2) σ.length σ t.odds ht.olen (by omega);rw [show M+2+2=N by omega] at hany
   by_cases h1:t.odds.length=t.kids.length
   case neg=>
    have h1':¬(t.odds.length:Int)=(t.kids.length:Int):=by omega
    rw [decide_eq_false h1,Bool.false_and,Bool.false_and] at hZ;simp [J1,B4,htd,hl1,hkd,k12,h1,h1',hZ]
   rw [decide_eq_true h1,Bool.true_and] at hZ
   by_cases h2:t.n<0
   ·rw [decide_eq_false (by omega),Bool.false_and,Bool.false_and] at hZ;simp [J1,B4,htd,hl1,hkd,k12,h1,h2,hZ]
   by_cases h3:c.sites<=t.n
   ·rw [decide_eq_false (by omega),Bool.false_and,Bool.false_and] at hZ;simp [J1,B4,htd,hl1,hkd,k12,h1,h2,h3,hlk,hZ]
   rw [decide_eq_true (by omega),Bool.true_and] at hZ;cases ho:A9J t.odds with
   |false=>
    rw [ho] at hany hZ;simp [J1,B4,htd,hl1,hkd,k12,h1,h2,h3,hlk,hany,hZ]
   |true=>
    rw [ho] at hany hZ;rw [Bool.true_and] at hZ;rw [<-hZ] at plain;simp [J1,B4,htd,hl1,hkd,k12,h1,h2,h3,hlk,hany];refine plain _ rfl ?_ ?_ ?_ ?_ ?_ ?_ ?_
    all_goals simp [htd,k12]
  rw [if_neg k12,Bool.true_and] at hZ;rw [<-hZ] at plain;simp [J1,B4,htd,hl1,hkd,k1,k2,k7,k9,k11,k12];refine plain _ rfl ?_ ?_ ?_ ?_ ?_ ?_ ?_
  all_goals simp [htd]
theorem at_set {σ:Sto} {k:Nat} {o x:TObj} (h:σ.at k=some o):Sto.at (σ.set k (some x)) k=some x:=by
 grind [Sto.lt,Sto.at]
def A0e (s n:Nat):List Bool:=S7 (List.replicate s false) 0 true n
def A0f (c:PCore) (d:PBody):Bool:=decide (0<=d.params/\d.params<=8/\d.params<=d.slots/\d.slots<=1000)&&D0 c 200 (A0e d.slots.toNat d.params.toNat) d.term
theorem A1X:∀s,A4q [TV.bool false] s=bcells (List.replicate s false)
 |0=>rfl
 |s+1=>by simp only [A4q,A1X s];rfl
theorem B0D {σ τ:Sto} {o:TObj}:Sto.at (σ++some o::τ) σ.length=some o:=by simp [Sto.at]
theorem A2C {σ τ:Sto} {o x:Option TObj}:(σ++o::τ).set σ.length x=σ++x::τ:=by simp
structure BFits (F:FuncId->Option TFun):Prop where
 t:TFits F
 h29:F 63=some f29
set_option maxHeartbeats 1000000 in
theorem B5t (V:BFits F) (c:PCore) (N:Nat) (d:PBody) (s0:Int) (b p vl:Nat) (σ:Sto) (hN:3*E3 d.term+10<=N) (hd:OkTm d.term)
  (hp:σ.at p=some ⟨vl,.cells (T1 c s0) 78⟩):
  ∃v' s',A2 F O (N+1) b 63 [.ptr p 0,.agg (F5 d)] σ=some (.ret (.bool (A0f c d)),σ.set p (some ⟨v',.cells (T1 c s') 78⟩)):=by
 have hsame:=Sto.set_same hp;have hpl:=Sto.lt hp;obtain ⟨Z,hZ⟩:∃Z,Z=A0f c d:=⟨_,rfl⟩;rw [<-hZ];unfold A0f at hZ
 by_cases h1:0<=d.params
 case neg=>
  have h1':d.params<0:=by omega
  rw [decide_eq_false (by omega),Bool.false_and] at hZ;refine ⟨vl,s0,?_⟩;rw [hsame];refine A3 V.h29 ?_;simp [x29,B4,C9,h1',hZ]
 have h1':¬d.params<0:=by omega
 by_cases h2:d.params<=8
 case neg=>
  have h2':8<d.params:=by omega
  rw [decide_eq_false (by omega),Bool.false_and] at hZ;refine ⟨vl,s0,?_⟩;rw [hsame];refine A3 V.h29 ?_;simp [x29,B4,C9,h1',h2',hZ]
 have h2':¬8<d.params:=by omega
 by_cases h3:d.params<=d.slots
 case neg=>
  have h3':d.slots<d.params:=by omega
  rw [decide_eq_false (by omega),Bool.false_and] at hZ;refine ⟨vl,s0,?_⟩;rw [hsame];refine A3 V.h29 ?_;simp [x29,B4,C9,h1',h2',h3',hZ]
 have h3':¬d.slots<d.params:=by omega
 by_cases h4:d.slots<=1000
 case neg=>
  have h4':1000<d.slots:=by omega
  rw [decide_eq_false (by omega),Bool.false_and] at hZ;refine ⟨vl,s0,?_⟩;rw [hsame];refine A3 V.h29 ?_;simp [x29,B4,C9,h1',h2',h3',h4',hZ]
 have h4':¬1000<d.slots:=by omega
 rw [decide_eq_true (by omega),Bool.true_and] at hZ;obtain ⟨s,hs⟩:∃s:Nat,d.slots=(s:Int):=⟨d.slots.toNat,by omega⟩;obtain ⟨n,hn⟩:∃n:Nat,d.params=(n:Int):=⟨d.params.toNat,by omega⟩;rw [hs,hn] at h3' hZ;rw [hn] at h1' h2';rw [hs] at h4';rw [Int.toNat_natCast,Int.toNat_natCast] at hZ;have hns:n<=s:=by omega
 have hlk:=hp;unfold T1 at hlk;rw [A8] at hlk;simp only [List.cons_append,List.nil_append] at hlk
 suffices hh:∃e σ',A2 F O (N+1) b 63 [.ptr p 0,.agg (F5 d)] σ=some (e,σ')/\(e=.ret (.bool Z)/\∃v' s',σ'=σ.set p (some ⟨v',.cells (T1 c s') 78⟩)) by
  obtain ⟨e,σ',q1,rfl,v',s',rfl⟩:=hh;exact ⟨v',s',q1⟩
 refine E4 V.h29 ?_;have hb1:s<=281474976710656:=by omega
 have hb2:s<=9223372036854775807:=by omega
 simp [x29,B4,C9,hs,hn,h1',h2',h3',h4',hb1,hb2];obtain ⟨B,hB⟩:∃B:List TV,B=[.int .i64 (n:Int),.int .i64 (s:Int),.int .i64 d.term.kind,.int .i64 d.term.n,.int .i64 d.term.m,.int .i64 d.term.val.kind,.int .i64 d.term.val.n,.sl .fz (d.term.val.list.map E1),.sl .fz (d.term.odds.map encI),.sl .fz (d.term.kids.map A5)]:=⟨_,rfl⟩
 obtain ⟨I,hI⟩:∃I:Nat->TAct->Sto->Prop,I=(fun j a' σ'=>a'.df=[]/\σ'.take σ.length=σ/\(∃ver,σ'.at σ.length=some ⟨ver,.cells (bcells (A0e s j)) 4⟩)/\a'.tm.get 0=some (.ptr p 0)/\a'.tm.get 3=some (.bx 0 B 38)/\(∃cap,a'.tm.get 5=some (.ref σ.length 0 1 s cap))/\a'.tm.get 31=some (.int .i64 (n:Int))/\a'.tm.get 32=some (.int .i64 j)):=⟨_,rfl⟩
 obtain ⟨Q,hQ⟩:∃R':TEx->TAct->Sto->Prop,R'=(fun ex a' σ'=>ex=.exit 0/\a'.df=[]/\σ'.take σ.length=σ/\(∃ver,σ'.at σ.length=some ⟨ver,.cells (bcells (A0e s n)) 4⟩)/\a'.tm.get 0=some (.ptr p 0)/\a'.tm.get 3=some (.bx 0 B 38)/\(∃cap,a'.tm.get 5=some (.ref σ.length 0 1 s cap))):=⟨_,rfl⟩;refine B8 I n Q ?_ (by omega) ?_ ?_ ?_
 ·rw [hI];exact ⟨rfl,by simp,⟨0,by rw [B0D];simp only [A0e,S7,A1X]⟩,by simp,by simp [hB],⟨_,by simp;rfl⟩,by simp,by simp⟩
 ·rw [hI];rintro j ⟨tm,df,clk⟩ σ' hj ⟨rfl,htk,⟨ver,hv⟩,g0,g3,⟨cap,g5⟩,g31,g32⟩;rw [<-hI];have hj':(j:Int)<(n:Int):=by omega
  have hjs:j<s:=by omega
  have hj1:j+1<=s:=by omega
  have hw:IntKind.i64.wrap ((j:Int)+1)=((j+1:Nat):Int):=by rw [G2]<;>omega
  have hle:(bcells (A0e s j)).length=s:=by simp [bcells,A0e]
  have hpb:=A1W (A0e s j) j true (by simp [A0e];exact hjs);have hlt:=Sto.lt hv;generalize hB2:bcells (A0e s j)=B2 at hv hle hpb;simp [g0,g3,g5,g31,g32,hj,hj',hjs,hj1,hw,hv,hle];rw [hI];refine ⟨rfl,by rw [A0d (Nat.le_refl _)];exact htk,⟨ver+1,?_⟩,by simp [g0],by simp [g3],⟨cap,by simp [g5]⟩,by simp [g31],by simp⟩;have e:A0e s (j+1)=(A0e s j).set j true:=by simp only [A0e,S7,Nat.zero_add]
  rw [e,<-hpb];simp [Sto.at,hlt]
 ·rw [hI];rintro ⟨tm,df,clk⟩ σ' ⟨rfl,htk,hv,g0,g3,g5,g31,g32⟩;obtain ⟨cap,g5⟩:=g5;simp [g31,g32];rw [hQ];exact ⟨rfl,rfl,htk,hv,by simp [g0],by simp [g3],⟨cap,by simp [g5]⟩⟩
 ·rw [hQ];rintro ex ⟨tm,df,clk⟩ σ' ⟨rfl,rfl,htk,⟨ver,hv⟩,g0,g3,⟨cap,g5⟩⟩;have hpx:=A4I htk hlk;rw [hB] at g3;obtain ⟨X,hX⟩:∃X:Option TObj,X=some ⟨vl+1,.cells (T1 c (s:Int)) 78⟩:=⟨_,rfl⟩;have hpl':p<σ'.length:=Sto.lt hpx;have hSp:Sto.at (σ'.set p X) p=some ⟨vl+1,.cells (T1 c (s:Int)) 78⟩:=by rw [hX];simp [Sto.at,hpl']
  have hSb:Sto.at (σ'.set p X) σ.length=some ⟨ver,.cells (bcells (A0e s n)) 4⟩:=by rw [A28 (by omega)];exact hv
  have hil:(A0e s n).length=s:=by simp [A0e]
  have hcc:=B2K (O:=O) V.t c N d.term 200 (A0e s n) σ.length p σ.length (vl+1) ver cap (σ'.set p X) (by omega) hd (by omega) (by rw [hil];exact hSp) hSb (by omega);rw [hil,<-hZ,A0] at hcc;have hX':=hX;unfold T1 at hX';rw [A8] at hX';simp only [List.cons_append,List.nil_append] at hX';have e200:((200:Nat):Int)=200:=rfl;rw [e200] at hcc;simp [g0,g3,g5,hpx,<-hX',hcc];refine ⟨vl+1,s,?_⟩
  rw [<-hX,List.take_set,htk]
def tyB (t:PTyp):Bool:=E0 40 (A38 t)
def W3 (c:PCore):Bool:=decide (c.types.length<=8/\c.funs.length<=40/\0<=c.sites/\c.sites<=100000/\c.query.params=(c.types.length:Int))&&(c.types.all tyB&&(c.funs.all (A0f c)&&A0f c c.query))
structure Lim (M:Nat) (c:PCore):Prop where
 types:A0Z c.types<M
 funs:∀f∈c.funs,3*E3 f.term+10<=M
 flen:c.funs.length<M
 query:3*E3 c.query.term+10<=M
set_option maxHeartbeats 1000000 in
theorem B0E (V:BFits F) (h9:F 26=some f9) (M:Nat) (c:PCore) (b:Nat) (σ:Sto) (hM:Lim M c) (ho:OkC c):
  A2 F O (M+2) b 26 [.agg (L8 c)] σ=some (.ret (.bool (W3 c)),σ):=by
 have htl:=A0K c.types;obtain ⟨Z,hZ⟩:∃Z,Z=W3 c:=⟨_,rfl⟩;rw [<-hZ];unfold W3 at hZ;refine A3 h9 ?_
 by_cases h1:c.types.length<=8
 case neg=>
  have h1':(8:Int)<(c.types.length:Int):=by omega
  rw [decide_eq_false (by omega),Bool.false_and] at hZ;simp [x9,B4,A8,h1',hZ]
 have h1':¬(8:Int)<(c.types.length:Int):=by omega
 by_cases h2:c.funs.length<=40
 case neg=>
  have h2':(40:Int)<(c.funs.length:Int):=by omega
  rw [decide_eq_false (by omega),Bool.false_and] at hZ;simp [x9,B4,A8,h1',h2',hZ]
 have h2':¬(40:Int)<(c.funs.length:Int):=by omega
 by_cases h3:0<=c.sites
 case neg=>
  have h3':c.sites<0:=by omega
  rw [decide_eq_false (by omega),Bool.false_and] at hZ;simp [x9,B4,A8,h1',h2',h3',hZ]
 have h3':¬c.sites<0:=by omega
 by_cases h4:c.sites<=100000
 case neg=>
  have h4':100000<c.sites:=by omega
  rw [decide_eq_false (by omega),Bool.false_and] at hZ;simp [x9,B4,A8,h1',h2',h3',h4',hZ]
 have h4':¬100000<c.sites:=by omega
 by_cases h5:c.query.params=(c.types.length:Int)
 case neg=>
  rw [decide_eq_false (fun e=>h5 e.2.2.2.2),Bool.false_and] at hZ;simp [x9,B4,A8,h1',h2',h3',h4',h5,hZ]
 rw [decide_eq_true ⟨h1,h2,h3,h4,h5⟩,Bool.true_and] at hZ;obtain ⟨EC,hEC⟩:∃EC:List TV,EC=L8 c:=⟨_,rfl⟩;have hEC':=hEC;rw [A8] at hEC;simp [x9,B4,<-hEC'];simp [x9,B4,hEC,h1',h2',h3',h4',h5]
 obtain ⟨I,hI⟩:∃I:Nat->TAct->Sto->Prop,I=(fun j a σ'=>a.df=[]/\σ'=σ/\(c.types.drop j).all tyB=c.types.all tyB/\a.tm.get 1=some (.bx 0 EC 40)/\a.tm.get 38=some (.sl .fz (c.types.map H5))/\a.tm.get 39=some (.int .i64 (c.types.length:Int))/\a.tm.get 40=some (.int .i64 j)):=⟨_,rfl⟩
 obtain ⟨R,hR⟩:∃R:TEx->TAct->Sto->Prop,R=(fun ex a σ'=>a.df=[]/\σ'=σ/\(ex=.exit 0/\c.types.all tyB=true/\a.tm.get 1=some (.bx 0 EC 40)\/ex=.ret/\c.types.all tyB=false/\a.tm.get 2=some (.bool false))):=⟨_,rfl⟩;refine B8 I c.types.length R ?_ (by have:=hM.types;omega) ?_ ?_ ?_
 ·rw [hI];exact ⟨rfl,rfl,by rw [List.drop_zero],by simp [hEC,h5],by simp,by simp,by simp⟩
 ·rw [hI];rintro j ⟨tm,df,clk⟩ σ' hj ⟨rfl,rfl,hd,g1,g38,g39,g40⟩;rw [<-hI];have hw:=F9 hj ho.tlen;rw [B2p hj] at hd;have hsz:=X4 _ _ (List.getElem_mem hj);have hcc:=A5X (O:=O) V.t.v.h28 V.t.v.h56 V.t.v.h96 V.t.v.h95 V.t.v.h149 M (A38 c.types[j]) σ'.length σ' (by rw [B5h];have:=hM.types;omega) (B57 _ _ (Nat.le_refl _) (ho.types _ (List.getElem_mem hj)));rw [B26,G5] at hcc
  have et:E0 40 (A38 c.types[j])=tyB c.types[j]:=rfl;rw [et] at hcc;cases hs:tyB c.types[j] with
  |false=>
   rw [hs] at hd hcc;simp [g1,g38,g39,g40,hj,hw,hcc,G5 c.types[j]];rw [hR];exact ⟨rfl,rfl,.inr ⟨rfl,by simpa using hd.symm,by simp⟩⟩
  |true=>
   rw [hs] at hd hcc;simp [g1,g38,g39,g40,hj,hw,hcc,G5 c.types[j]];rw [hI];exact ⟨rfl,rfl,by simpa using hd,by simp [g1],by simp [g38],by simp [g39],by simp⟩
 ·rw [hI];rintro ⟨tm,df,clk⟩ σ' ⟨rfl,rfl,hd,g1,g38,g39,g40⟩;rw [List.drop_of_length_le (Nat.le_refl _)] at hd;simp [g39,g40];rw [hR];exact ⟨rfl,rfl,.inl ⟨rfl,by rw [<-hd];rfl,by simp [g1]⟩⟩
 ·rw [hR];rintro ex ⟨tm,df,clk⟩ σ' ⟨rfl,rfl,⟨rfl,h,g1⟩|⟨rfl,h,g2⟩⟩
  case inr=>
   rw [h,Bool.false_and] at hZ;simp [g2,hZ]
  rw [h,Bool.true_and] at hZ;have g1':=g1;rw [hEC] at g1;simp [g1]
  obtain ⟨I2,hI2⟩:∃I:Nat->TAct->Sto->Prop,I=(fun j a σ2=>a.df=[]/\(∃v s,σ2=σ'++[some ⟨v,.cells (T1 c s) 78⟩])/\(c.funs.drop j).all (A0f c)=c.funs.all (A0f c)/\a.tm.get 1=some (.bx 0 EC 40)/\a.tm.get 5=some (.ptr σ'.length 0)/\a.tm.get 52=some (.sl .fz (c.funs.map F5))/\a.tm.get 53=some (.int .i64 (c.funs.length:Int))/\a.tm.get 54=some (.int .i64 j)):=⟨_,rfl⟩
  obtain ⟨R2,hR2⟩:∃R:TEx->TAct->Sto->Prop,R=(fun ex a σ2=>a.df=[]/\(∃v s,σ2=σ'++[some ⟨v,.cells (T1 c s) 78⟩])/\(ex=.exit 2/\c.funs.all (A0f c)=true/\a.tm.get 1=some (.bx 0 EC 40)/\a.tm.get 5=some (.ptr σ'.length 0)\/ex=.ret/\c.funs.all (A0f c)=false/\a.tm.get 2=some (.bool false))):=⟨_,rfl⟩;refine B8 I2 c.funs.length R2 ?_ (by have:=hM.flen;omega) ?_ ?_ ?_
  ·rw [hI2];exact ⟨rfl,⟨0,0,by simp [T1,A8]⟩,by rw [List.drop_zero],by simp [g1'],by simp,by simp,by simp,by simp⟩
  ·rw [hI2];rintro j ⟨tm,df,clk⟩ σ2 hj ⟨rfl,⟨v,s,rfl⟩,hd,g1,g5,g52,g53,g54⟩;rw [<-hI2];have hw:=F9 hj ho.flen;rw [B2p hj] at hd;have hp:=B0D (σ:=σ') (τ:=[]) (o:=⟨v,.cells (T1 c s) 78⟩);obtain ⟨v',s',hcc⟩:=B5t (O:=O) V c M c.funs[j] s σ'.length σ'.length v (σ'++[some ⟨v,.cells (T1 c s) 78⟩]) (hM.funs _ (List.getElem_mem hj)) (ho.funs _ (List.getElem_mem hj)).term hp;rw [A2C,C9] at hcc
   cases hs:A0f c c.funs[j] with
   |false=>
    rw [hs] at hd hcc;simp [g1,g5,g52,g53,g54,hj,hw,hcc,C9 c.funs[j]];rw [hR2];exact ⟨rfl,⟨v',s',rfl⟩,.inr ⟨rfl,by simpa using hd.symm,by simp⟩⟩
   |true=>
    rw [hs] at hd hcc;simp [g1,g5,g52,g53,g54,hj,hw,hcc,C9 c.funs[j]];rw [hI2];exact ⟨rfl,⟨v',s',rfl⟩,by simpa using hd,by simp [g1],by simp [g5],by simp [g52],by simp [g53],by simp⟩
  ·rw [hI2];rintro ⟨tm,df,clk⟩ σ2 ⟨rfl,hst,hd,g1,g5,g52,g53,g54⟩;rw [List.drop_of_length_le (Nat.le_refl _)] at hd;simp [g53,g54];rw [hR2];exact ⟨rfl,hst,.inl ⟨rfl,by rw [<-hd];rfl,by simp [g1],by simp [g5]⟩⟩
  ·rw [hR2];rintro ex ⟨tm,df,clk⟩ σ2 ⟨rfl,⟨v,s,rfl⟩,⟨rfl,h,g1,g5⟩|⟨rfl,h,g2⟩⟩
   ·rw [h,Bool.true_and] at hZ;have hp:=B0D (σ:=σ') (τ:=[]) (o:=⟨v,.cells (T1 c s) 78⟩);obtain ⟨v',s',hcc⟩:=B5t (O:=O) V c M c.query s σ'.length σ'.length v (σ'++[some ⟨v,.cells (T1 c s) 78⟩]) hM.query ho.query.term hp;rw [A2C,C9,<-hZ] at hcc;rw [hEC] at g1;simp [g1,g5,hcc]
   ·rw [h,Bool.false_and] at hZ;simp [g2,hZ]
end
section
open Go Go.Xe Go.Xt
mutual
def R3:PTerm->List Bool->List Bool
 |.mk k n _ _ _ ks,l=>J8 ks (if k=3/\0<=n/\n<(l.length:Int) then l.set n.toNat true else l)
def J8:List PTerm->List Bool->List Bool
 |[],l=>l
 |t::r,l=>J8 r (R3 t l)
end
mutual
theorem A1Y:∀(t:PTerm) (l:List Bool),(R3 t l).length=l.length
 |.mk k n m v o ks,l=>by
  unfold R3;rw [A2D ks];split<;>simp
theorem A2D:∀(ts:List PTerm) (l:List Bool),(J8 ts l).length=l.length
 |[],l=>rfl
 |t::r,l=>by unfold J8;rw [A2D r,A1Y t]
end
theorem B49 (t:PTerm) (l:List Bool):R3 t l=J8 t.kids (if t.kind=3/\0<=t.n/\t.n<(l.length:Int) then l.set t.n.toNat true else l):=by
 cases t;unfold R3;rfl
mutual
def F7 (n:Nat):PTerm->Bool
 |.mk k m _ _ _ ks=>(decide (k≠3)||decide (0<=m/\m<(n:Int)))&&X9 n ks
def X9 (n:Nat):List PTerm->Bool
 |[]=>true
 |t::r=>F7 n t&&X9 n r
end
theorem S8 (n:Nat):∀l:List PTerm,X9 n l=true↔∀x∈l,F7 n x=true
 |[]=>by unfold X9;simp
 |t::r=>by unfold X9;rw [Bool.and_eq_true,S8 n r];simp
theorem A2E {f:List Bool->PTerm->Bool} {bd inner:List Bool}:∀{l:List PTerm},C6 f bd inner l=true->∀x∈l,∃bd',f bd' x=true
 |[],_,x,hx=>by cases hx
 |t::r,h,x,hx=>by
  unfold C6 at h;rw [Bool.and_eq_true] at h;rcases List.mem_cons.1 hx with rfl|hx
  ·exact ⟨_,h.1⟩
  ·exact A2E h.2 x hx
theorem A2F (c:PCore):∀(left:Nat) (bd:List Bool) (t:PTerm),D0 c left bd t=true->F7 c.funs.length t=true
 |0,bd,t,h=>by unfold D0 at h;cases h
 |left+1,bd,t,h=>by
  unfold D0 A2B at h;rw [Bool.and_eq_true,Bool.and_eq_true,decide_eq_true_eq] at h;obtain ⟨⟨h1,h2⟩,h3⟩:=h;have hk:=A2E h3;cases t with
  |mk k n m v o ks=>
   unfold F7;rw [Bool.and_eq_true,Bool.or_eq_true,decide_eq_true_eq,decide_eq_true_eq];refine ⟨?_,(S8 _ _).2 fun x hx=> ?_⟩
   ·by_cases k3:k=3
    ·right;unfold A3x at h1;rw [if_neg (show ¬((PTerm.mk k n m v o ks).kind=1\/(PTerm.mk k n m v o ks).kind=2) from fun h=>by rcases h with h|h<;>(have h:k=_:=h;omega)),if_pos (show (PTerm.mk k n m v o ks).kind=3 from k3)] at h1
     by_cases hr:0<=(PTerm.mk k n m v o ks).n/\(PTerm.mk k n m v o ks).n<(c.funs.length:Int)
     ·exact hr
     ·rw [dif_neg hr] at h1;omega
    ·exact .inl k3
   ·obtain ⟨bd',hx'⟩:=hk x hx;exact A2F c left bd' x hx'
theorem A7W {c:PCore} (h:W3 c=true):(∀f∈c.funs,F7 c.funs.length f.term=true)/\F7 c.funs.length c.query.term=true:=by
 unfold W3 at h;simp only [Bool.and_eq_true] at h;refine ⟨fun f hf=> ?_,?_⟩
 ·have:=List.all_eq_true.1 h.2.2.1 f hf;unfold A0f at this;rw [Bool.and_eq_true] at this;exact A2F c 200 _ _ this.2
 ·have:=h.2.2.2;unfold A0f at this;rw [Bool.and_eq_true] at this;exact A2F c 200 _ _ this.2
theorem A2G:∀(a b:List PTerm) (l:List Bool),J8 (a++b) l=J8 b (J8 a l)
 |[],b,l=>rfl
 |t::r,b,l=>by rw [List.cons_append,J8,J8,A2G r]
theorem A1e (n:Nat) (t:PTerm):F7 n t=((decide (t.kind≠3)||decide (0<=t.n/\t.n<(n:Int)))&&X9 n t.kids):=by
 cases t;unfold F7;rfl
theorem B4a {σ:Sto} {k:Nat} {o:TObj} (h:σ.at k=some o):σ.set k (some o)=σ:=by
 have hk:=Sto.lt h;apply List.ext_getElem?;intro j
 by_cases hj:k=j
 ·subst hj;rw [List.getElem?_set_self hk];unfold Sto.at at h;cases hx:σ[k]? with
  |none=>rw [hx] at h;cases h
  |some y=>rw [hx] at h;cases y with
   |none=>cases h
   |some z=>simp at h;rw [h]
 ·rw [List.getElem?_set_ne hj]
variable {F:FuncId->Option TFun} {O:FuncId->List TV->Option TV}
def B4b:XCode:=(by exact fun x _=>x:V0 (gT x1088.body [1,1])) _ (by conv=>lhs;cbv)
theorem A9K:x1088=(by exact fun x _=>x:V1 (fun a=>({x1088 with body:=pT (x1088.body) [1,1] a}:XFun))) _ (by intros;conv=>lhs;cbv) B4b:=rfl
theorem B2L {N b:Nat} (t:PTerm) (he:OkTm t) (hN:t.kids.length<N) (n k cap:Nat) (l:List Bool) (hl:l.length=n) (hok:X9 n t.kids=true) (a:TAct) (σ:Sto) (ver:Nat) (hat:σ.at k=some ⟨ver,.cells (bcells l) 4⟩)
  (hc:∀x∈t.kids,∀b σ ver l,l.length=n->F7 n x=true->σ.at k=some ⟨ver,.cells (bcells l) 4⟩->∃ver',A2 F O N b 88 [.agg (A5 x),.ref k 0 1 n cap] σ=some (.ret (.tuple []),σ.set k (some ⟨ver',.cells (bcells (R3 x l)) 4⟩)))
  (hdf:a.df=[]) (h1:a.tm.get 1=some (.ref k 0 1 n cap)) (h2:a.tm.get 2=some (.bx 0 (A5 t) 28)):
  Tw B53 b (A2 F O N) N (fun ex a' σ'=>ex=.normal/\a'.df=[]/\∃ver',σ'=σ.set k (some ⟨ver',.cells (bcells (J8 t.kids l)) 4⟩)) [] (B9 B53 b (A2 F O N) N B4b a σ):=by
 obtain ⟨tm,df,clk⟩:=a;simp only at hdf h1 h2;subst hdf;rw [A0] at h2;simp [B4b,h1,h2];obtain ⟨I,hI⟩:∃I:Nat->TAct->Sto->Prop,I=(fun j a' σ'=>a'.df=[]/\(∃ver',σ'=σ.set k (some ⟨ver',.cells (bcells (J8 (t.kids.take j) l)) 4⟩))/\a'.tm.get 1=some (.ref k 0 1 n cap)/\a'.tm.get 14=some (.sl .fz (t.kids.map A5))/\a'.tm.get 15=some (.int .i64 t.kids.length)/\a'.tm.get 16=some (.int .i64 j)):=⟨_,rfl⟩
 obtain ⟨R,hR⟩:∃R:TEx->TAct->Sto->Prop,R=(fun ex a' σ'=>ex=.exit 0/\a'.df=[]/\∃ver',σ'=σ.set k (some ⟨ver',.cells (bcells (J8 t.kids l)) 4⟩)):=⟨_,rfl⟩;have hkl:=Sto.lt hat;refine B8 I t.kids.length R ?_ (by omega) ?_ ?_ ?_
 ·rw [hI];exact ⟨rfl,⟨ver,by rw [List.take_zero];exact (B4a hat).symm⟩,by simp [h1],by simp,by simp,by simp⟩
 ·rw [hI];rintro j ⟨tm,df,clk⟩ σ' hj ⟨rfl,⟨v1,rfl⟩,h1,h14,h15,h16⟩;rw [<-hI];have hw:=F9 hj he.len;have hmem:=List.getElem_mem hj;obtain ⟨v2,hcc⟩:=hc t.kids[j] hmem b (σ.set k (some ⟨v1,.cells (bcells (J8 (t.kids.take j) l)) 4⟩)) v1 (J8 (t.kids.take j) l) (by rw [A2D];exact hl) ((S8 _ _).1 hok _ hmem) (by simp [Sto.at,hkl])
  have hts:J8 (t.kids.take (j+1)) l=R3 t.kids[j] (J8 (t.kids.take j) l):=by rw [M4 hj,A2G];rfl
  rw [<-hts,List.set_set] at hcc;have hE:=A0 t.kids[j];rw [hE] at hcc;simp [h1,h14,h15,h16,hj,hcc,hw,hE];rw [hI];exact ⟨rfl,⟨_,rfl⟩,by simp [h1],by simp [h14],by simp [h15],by simp⟩
 ·rw [hI];rintro ⟨tm,df,clk⟩ σ' ⟨rfl,⟨v1,rfl⟩,h1,h14,h15,h16⟩;rw [List.take_of_length_le (Nat.le_refl _)];simp [h15,h16];rw [hR];exact ⟨rfl,rfl,_,rfl⟩
 ·rw [hR];rintro ex ⟨tm,df,clk⟩ σ' ⟨rfl,rfl,v1,rfl⟩;simp;exact ⟨_,rfl⟩
theorem A5l (h88:F 88=some f1088):∀(M N:Nat) (t:PTerm) (n k cap b:Nat) (σ:Sto) (ver:Nat) (l:List Bool),E3 t<=M->M<=N->OkTm t->l.length=n->F7 n t=true->σ.at k=some ⟨ver,.cells (bcells l) 4⟩->
  ∃ver',A2 F O N b 88 [.agg (A5 t),.ref k 0 1 n cap] σ=some (.ret (.tuple []),σ.set k (some ⟨ver',.cells (bcells (R3 t l)) 4⟩))
 |0,N,t,n,k,cap,b,σ,ver,l,h,_,_,_,_,_=>by rw [B5] at h;omega
 |M+1,N,t,n,k,cap,b,σ,ver,l,h,hN,he,hl,hok,hat=>by
  have ih:=A5l h88 M;have hs:=B5 t;have hkk:=M3 t.kids;obtain ⟨N,rfl⟩:∃n,N=n+1:=⟨N - 1,by omega⟩;have hkl:=Sto.lt hat;rw [A1e,Bool.and_eq_true,Bool.or_eq_true,decide_eq_true_eq,decide_eq_true_eq] at hok
  suffices hh:∃e' σ',A2 F O (N+1) b 88 [.agg (A5 t),.ref k 0 1 n cap] σ=some (e',σ')/\∃ver',e'=.ret (.tuple [])/\σ'=σ.set k (some ⟨ver',.cells (bcells (R3 t l)) 4⟩) by
   obtain ⟨e',σ',h1,v,rfl,rfl⟩:=hh;exact ⟨v,h1⟩
  refine E4 h88 ?_;have hcd:=B49 t l;have hkd:∀x∈t.kids,∀b σ ver l,l.length=n->F7 n x=true->σ.at k=some ⟨ver,.cells (bcells l) 4⟩->∃ver',A2 F O N b 88 [.agg (A5 x),.ref k 0 1 n cap] σ=some (.ret (.tuple []),σ.set k (some ⟨ver',.cells (bcells (R3 x l)) 4⟩)):=fun x hx b σ ver l hl ho ha=>by
   have:=D3 _ _ hx;exact ih N x n k cap b σ ver l (by omega) (by omega) (he.sub x hx) hl ho ha
  by_cases k3:t.kind=3
  ·have hr:=hok.1.resolve_left (fun h=>h k3);obtain ⟨q,hq⟩:∃q:Nat,t.n=(q:Int):=⟨t.n.toNat,by omega⟩;rw [if_pos ⟨k3,by rw [hl];exact hr⟩,hq,Int.toNat_natCast] at hcd;rw [hq] at hr;have hq2:q<n:=by omega
   have hq3:q+1<=n:=hq2;have hle:(bcells l).length=n:=by simp [bcells,hl]
   have hpb:=A1W l q true (by omega);generalize hB2:bcells l=B2 at hat hle hpb;simp [A9K,A0 t,k3,hq,hat,hq2,hq3,hle,hpb];apply H8
   ·apply B2L (ver:=ver+1) t he (by omega) n k cap (l.set q true) (by rw [List.length_set];exact hl) hok.2 _ _ _ hkd
    ·rfl
    ·simp
    ·simp [A0 t,k3,hq]
    ·simpa [Sto.at,hkl,putAt] using hpb
   rintro ex ⟨tm,df,clk⟩ σ' ⟨rfl,hdf,v,rfl⟩;simp only at hdf;subst hdf;rw [hcd];simp [List.set_set];exact ⟨_,rfl⟩
  ·rw [if_neg (fun h=>k3 h.1)] at hcd;simp [A9K,A0 t,k3];apply H8
   ·apply B2L (ver:=ver) t he (by omega) n k cap l hl hok.2 _ _ hat hkd
    ·rfl
    ·simp
    ·simp [A0 t]
   rintro ex ⟨tm,df,clk⟩ σ' ⟨rfl,hdf,v,rfl⟩;simp only at hdf;subst hdf;rw [hcd];simp;exact ⟨_,rfl⟩
def A11 (c:PCore) (t:PTerm):List Bool:=R3 t (List.replicate c.funs.length false)
theorem A0W (c:PCore) (t:PTerm):(A11 c t).length=c.funs.length:=by unfold A11;rw [A1Y];simp
inductive ReachC (c:PCore):Nat->Prop
 |base {j:Nat}:(A11 c c.query.term)[j]? =some true->ReachC c j
 |step {i j:Nat} {f:PBody}:ReachC c i->c.funs[i]? =some f->(A11 c f.term)[j]? =some true->ReachC c j
structure IsReach (c:PCore) (l:List Bool):Prop where
 len:l.length=c.funs.length
 iff:∀j:Nat,l[j]? =some true↔ReachC c j
theorem IsReach.eq {c:PCore} {l m:List Bool} (h:IsReach c l) (k:IsReach c m):l=m:=by
 apply List.ext_getElem?;intro j
 by_cases hj:j<c.funs.length
 ·rw [List.getElem?_eq_getElem (by rw [h.len];exact hj),List.getElem?_eq_getElem (by rw [k.len];exact hj)];have h1:=h.iff j;have h2:=k.iff j;rw [List.getElem?_eq_getElem (by rw [h.len];exact hj)] at h1;rw [List.getElem?_eq_getElem (by rw [k.len];exact hj)] at h2;have h3:=h1.trans h2.symm;simp only [Option.some.injEq] at h3;congr 1;rw [Bool.eq_iff_iff];exact h3
 ·rw [List.getElem?_eq_none (by rw [h.len];omega),List.getElem?_eq_none (by rw [k.len];omega)]
def LeB (a b:List Bool):Prop:=a.length=b.length/\∀j:Nat,a[j]? =some true->b[j]? =some true
theorem LeB.refl (a:List Bool):LeB a a:=⟨rfl,fun _ h=>h⟩
theorem LeB.trans {a b c:List Bool} (h:LeB a b) (k:LeB b c):LeB a c:=⟨h.1.trans k.1,fun j hj=>k.2 j (h.2 j hj)⟩
theorem LeB.set (a:List Bool) (j:Nat):LeB a (a.set j true):=⟨by simp,fun i h=>by
 by_cases e:j=i
 ·subst e;rw [List.getElem?_set_self (List.getElem?_eq_some_iff.1 h).1]
 ·rw [List.getElem?_set_ne e];exact h⟩
def A8v (l:List Bool):Nat:=l.count true
theorem B8Y {l:List Bool} {j:Nat} (h:l[j]? =some false):A8v (l.set j true)=A8v l+1:=by
 unfold A8v
 induction l generalizing j with
 |nil=>simp at h
 |cons x l ih=>
  cases j with
  |zero=>simp at h;subst h;simp
  |succ j=>
   simp at h;rw [List.set_cons_succ,List.count_cons,List.count_cons,ih h];omega
theorem B8Z (l:List Bool):A8v l<=l.length:=List.count_le_length
structure SoundB (c:PCore) (l:List Bool):Prop where
 base:LeB (A11 c c.query.term) l
 sound:∀j:Nat,l[j]? =some true->ReachC c j
theorem SoundB.len {c:PCore} {l:List Bool} (h:SoundB c l):l.length=c.funs.length:=by rw [<-h.base.1,A0W]
theorem SoundB.start (c:PCore):SoundB c (A11 c c.query.term):=⟨LeB.refl _,fun j h=>.base h⟩
theorem SoundB.set {c:PCore} {l:List Bool} (h:SoundB c l) {i j:Nat} {f:PBody} (hi:l[i]? =some true) (hf:c.funs[i]? =some f) (hj:(A11 c f.term)[j]? =some true):SoundB c (l.set j true):=
 ⟨h.base.trans (LeB.set _ _),fun k hk=>by
  by_cases e:j=k
  ·subst e;exact .step (h.sound i hi) hf hj
  ·rw [List.getElem?_set_ne e] at hk;exact h.sound k hk⟩
theorem SoundB.done {c:PCore} {l:List Bool} (h:SoundB c l) (hc:∀(i:Nat) (f:PBody),l[i]? =some true->c.funs[i]? =some f->LeB (A11 c f.term) l):IsReach c l:=by
 refine ⟨h.len,fun j=>⟨h.sound j,fun hr=> ?_⟩⟩
 induction hr with
 |base hb=>exact h.base.2 _ hb
 |step _ hf hj ih=>exact (hc _ _ ih hf).2 _ hj
def C10 (l0 l:List Bool) (more0 more:Bool) (row:List Bool) (j:Nat):Prop:=
 LeB l0 l/\(∀k:Nat,k<j->row[k]? =some true->l[k]? =some true)/\(more=more0/\l=l0\/more=true/\A8v l0<A8v l)
def J5 (M:List (List Bool)) (i j:Nat):Bool:=((M[i]?.getD [])[j]?).getD false
def wst (M:List (List Bool)) (k i j:Nat):List (List Bool):=M.set i ((M[i]?.getD []).set j (J5 M i j||(J5 M i k&&J5 M k j)))
def loopJ (M:List (List Bool)) (k i:Nat):Nat->List (List Bool)
 |0=>M
 |j+1=>wst (loopJ M k i j) k i j
def loopI (M:List (List Bool)) (n k:Nat):Nat->List (List Bool)
 |0=>M
 |i+1=>loopJ (loopI M n k i) k i n
def loopK (M:List (List Bool)) (n:Nat):Nat->List (List Bool)
 |0=>M
 |k+1=>loopI (loopK M n k) n k n
def Sq (n:Nat) (M:List (List Bool)):Prop:=M.length=n/\∀r∈M,r.length=n
theorem Sq.row {n:Nat} {M:List (List Bool)} (h:Sq n M) {i:Nat} (hi:i<n):∃r,M[i]? =some r/\r.length=n:=by
 have:i<M.length:=by rw [h.1];exact hi
 exact ⟨M[i],List.getElem?_eq_getElem this,h.2 _ (List.getElem_mem this)⟩
theorem Sq.wst {n:Nat} {M:List (List Bool)} (h:Sq n M) (k:Nat) {i:Nat} (hi:i<n) (j:Nat):Sq n (wst M k i j):=by
 obtain ⟨r,hr,hl⟩:=h.row hi;refine ⟨by unfold Xe.YtlgknghehgmodaaGreatDoor.wst;rw [List.length_set];exact h.1,fun x hx=> ?_⟩;unfold Xe.YtlgknghehgmodaaGreatDoor.wst at hx;rw [hr] at hx;rcases List.mem_or_eq_of_mem_set hx with hx|rfl
 ·exact h.2 x hx
 ·simpa using hl
theorem Sq.loopJ {n:Nat} {M:List (List Bool)} (h:Sq n M) (k:Nat) {i:Nat} (hi:i<n):∀j,Sq n (loopJ M k i j)
 |0=>h
 |j+1=>(Sq.loopJ h k hi j).wst k hi j
theorem Sq.loopI {n:Nat} {M:List (List Bool)} (h:Sq n M) (k:Nat):∀i,i<=n->Sq n (loopI M n k i)
 |0,_=>h
 |i+1,hi=>(Sq.loopI h k i (by omega)).loopJ k (by omega) n
theorem Sq.loopK {n:Nat} {M:List (List Bool)} (h:Sq n M):∀k,Sq n (loopK M n k)
 |0=>h
 |k+1=>(Sq.loopK h k).loopI k n (Nat.le_refl _)
def A5m (c:PCore):List (List Bool):=c.funs.map fun f=>R3 f.term (List.replicate c.funs.length false)
theorem B6K (c:PCore):Sq c.funs.length (A5m c):=by
 refine ⟨by simp [A5m],fun r hr=> ?_⟩;obtain ⟨f,_,rfl⟩:=List.mem_map.1 hr;rw [A1Y];simp
def B4c (c:PCore):List (List Bool):=loopK (A5m c) c.funs.length c.funs.length
theorem B90 {n:Nat} {M:List (List Bool)} (h:Sq n M) {i j:Nat} (hi:i<n) (hj:j<n) (v:Bool) (a b:Nat):J5 (M.set i ((M[i]?.getD []).set j v)) a b=if a=i/\b=j then v else J5 M a b:=by
 obtain ⟨r,hr,hl⟩:=h.row hi;have hi2:i<M.length:=by rw [h.1];exact hi
 unfold J5
 by_cases ha:a=i
 ·subst ha;rw [List.getElem?_set_self hi2,hr];simp only [Option.getD_some]
  by_cases hb:b=j
  ·subst hb;rw [List.getElem?_set_self (by omega),if_pos (by simp)];rfl
  ·rw [List.getElem?_set_ne (fun e=>hb e.symm),if_neg (fun e=>hb e.2)]
 ·rw [List.getElem?_set_ne (fun e=>ha e.symm),if_neg (fun e=>ha e.1)]
def A7X (M:List (List Bool)) (k i j:Nat):Bool:=J5 M i j||(J5 M i k&&J5 M k j)
theorem A7Y {n:Nat} {M:List (List Bool)} (h:Sq n M) (k:Nat) {i:Nat} (hi:i<n):∀(j:Nat),j<=n->∀a b,J5 (loopJ M k i j) a b=if a=i/\b<j then A7X M k i b else J5 M a b
 |0,_,a,b=>by simp [loopJ]
 |j+1,hj,a,b=>by
  have ih:=A7Y h k hi j (by omega);have e1:J5 (loopJ M k i j) i j=J5 M i j:=by rw [ih,if_neg (by omega)]
  have e3:J5 (loopJ M k i j) k j=J5 M k j:=by rw [ih,if_neg (by omega)]
  have e2:J5 (loopJ M k i j) i k=J5 M i k\/J5 (loopJ M k i j) i k=A7X M k i k:=by rw [ih];split<;>simp
  rw [show loopJ M k i (j+1)=wst (loopJ M k i j) k i j from rfl];unfold wst;rw [B90 (h.loopJ k hi j) hi (by omega:j<n),e1,e3,ih a b]
  by_cases hb:a=i/\b=j
  ·obtain ⟨rfl,rfl⟩:=hb;rw [if_pos ⟨rfl,rfl⟩,if_pos ⟨rfl,by omega⟩];unfold A7X at*;rcases e2 with e2|e2<;>rw [e2]<;>cases J5 M a b<;>cases J5 M a k<;>cases J5 M k b<;>cases J5 M k k<;>rfl
  ·rw [if_neg hb]
   by_cases hc:a=i/\b<j
   ·rw [if_pos hc,if_pos ⟨hc.1,by omega⟩]
   ·rw [if_neg hc,if_neg (by omega)]
theorem A3S {n:Nat} {M:List (List Bool)} (h:Sq n M) (k:Nat):∀(i:Nat),i<=n->∀a b,J5 (loopI M n k i) a b=if a<i/\b<n then A7X M k a b else J5 M a b
 |0,_,a,b=>by simp [loopI]
 |i+1,hi,a,b=>by
  have ih:=A3S h k i (by omega);rw [show loopI M n k (i+1)=loopJ (loopI M n k i) k i n from rfl];rw [A7Y (h.loopI k i (by omega)) k (by omega:i<n) n (Nat.le_refl _) a b]
  by_cases ha:a=i/\b<n
  ·obtain ⟨rfl,hb⟩:=ha;rw [if_pos ⟨rfl,hb⟩,if_pos ⟨by omega,hb⟩];have e1:J5 (loopI M n k a) a b=J5 M a b:=by rw [ih,if_neg (by omega)]
   have e2:J5 (loopI M n k a) a k=J5 M a k:=by rw [ih,if_neg (by omega)]
   have e3:J5 (loopI M n k a) k b=J5 M k b\/J5 (loopI M n k a) k b=A7X M k k b:=by rw [ih];split<;>simp
   unfold A7X at*;rw [e1,e2];rcases e3 with e3|e3<;>rw [e3]<;>cases J5 M a b<;>cases J5 M a k<;>cases J5 M k b<;>cases J5 M k k<;>rfl
  ·rw [if_neg ha,ih]
   by_cases hc:a<i/\b<n
   ·rw [if_pos hc,if_pos (by omega)]
   ·rw [if_neg hc,if_neg (by omega)]
inductive PathM (M:List (List Bool)):Nat->Nat->Prop
 |one {i j:Nat}:J5 M i j=true->PathM M i j
 |tr {i j k:Nat}:PathM M i k->PathM M k j->PathM M i j
theorem B0F {n:Nat} {M:List (List Bool)} (h:Sq n M) {i j:Nat} (e:J5 M i j=true):i<n/\j<n:=by
 unfold J5 at e
 by_cases hi:i<n
 ·obtain ⟨r,hr,hl⟩:=h.row hi;rw [hr] at e;simp only [Option.getD_some] at e
  by_cases hj:j<n
  ·exact ⟨hi,hj⟩
  ·rw [List.getElem?_eq_none (by omega)] at e;cases e
 ·have e0:M[i]? =none:=List.getElem?_eq_none (by rw [h.1];omega);rw [e0] at e;simp at e
theorem A0g {n:Nat} {M:List (List Bool)} (h:Sq n M):∀k i j,J5 (loopK M n k) i j=true->PathM M i j
 |0,i,j,e=>.one e
 |k+1,i,j,e=>by
  rw [show loopK M n (k+1)=loopI (loopK M n k) n k n from rfl] at e;rw [A3S (h.loopK k) k n (Nat.le_refl _)] at e;split at e
  ·unfold A7X at e;rw [Bool.or_eq_true,Bool.and_eq_true] at e;rcases e with e|⟨e1,e2⟩
   ·exact A0g h k i j e
   ·exact .tr (A0g h k i k e1) (A0g h k k j e2)
  ·exact A0g h k i j e
theorem A4M {n:Nat} {M:List (List Bool)} (h:Sq n M):∀k,k<=n->(∀i j,J5 M i j=true->J5 (loopK M n k) i j=true)/\∀m i j,m<k->J5 (loopK M n k) i m=true->J5 (loopK M n k) m j=true->J5 (loopK M n k) i j=true
 |0,_=>⟨fun i j e=>e,fun m i j hm=>by omega⟩
 |k+1,hk=>by
  obtain ⟨h1,h2⟩:=A4M h k (by omega);have hs:=h.loopK k;have key:∀a b,J5 (loopK M n (k+1)) a b=A7X (loopK M n k) k a b:=fun a b=>by
   rw [show loopK M n (k+1)=loopI (loopK M n k) n k n from rfl];rw [A3S hs k n (Nat.le_refl _)];split
   ·rfl
   ·rename_i hn;unfold A7X;cases e1:J5 (loopK M n k) a k with
    |false=>simp
    |true=>
     cases e2:J5 (loopK M n k) k b with
     |false=>simp
     |true=>exact absurd ⟨(B0F hs e1).1,(B0F hs e2).2⟩ hn
  refine ⟨fun i j e=> ?_,fun m i j hm e1 e2=> ?_⟩
  ·rw [key];unfold A7X;rw [h1 i j e];rfl
  ·rw [key] at e1 e2 ⊢;unfold A7X at*;rw [Bool.or_eq_true,Bool.and_eq_true] at e1 e2 ⊢
   by_cases hmk:m=k
   ·subst hmk;right;exact ⟨by rcases e1 with e|e;exact e;exact e.1,by rcases e2 with e|e;exact e;exact e.2⟩
   ·have hm':m<k:=by omega
    rcases e1 with e1|⟨e1,e1'⟩
    ·rcases e2 with e2|⟨e2,e2'⟩
     ·exact .inl (h2 m i j hm' e1 e2)
     ·exact .inr ⟨h2 m i k hm' e1 e2,e2'⟩
    ·rcases e2 with e2|⟨e2,e2'⟩
     ·exact .inr ⟨e1,h2 m k j hm' e1' e2⟩
     ·exact .inr ⟨e1,e2'⟩
theorem B4d {n:Nat} {M:List (List Bool)} (h:Sq n M) (i j:Nat):J5 (loopK M n n) i j=true↔PathM M i j:=by
 refine ⟨A0g h n i j,fun hp=> ?_⟩;have hc:=A4M h n (Nat.le_refl _)
 induction hp with
 |one e=>exact hc.1 _ _ e
 |tr _ _ ih1 ih2=>exact hc.2 _ _ _ (B0F (h.loopK n) ih1).2 ih1 ih2
theorem B4e (c:PCore) (i j:Nat):J5 (A5m c) i j=true↔∃f,c.funs[i]? =some f/\(A11 c f.term)[j]? =some true:=by
 unfold J5 A5m;rw [List.getElem?_map];cases hf:c.funs[i]? with
 |none=>simp
 |some f=>
  simp only [Option.map_some,Option.getD_some,Option.some.injEq];refine ⟨fun e=>⟨f,rfl,?_⟩,fun ⟨g,hg,e⟩=> ?_⟩
  ·unfold A11;cases hx:(R3 f.term (List.replicate c.funs.length false))[j]? with
   |none=>rw [hx] at e;cases e
   |some b=>rw [hx] at e;simp at e;rw [e]
  ·subst hg;unfold A11 at e;rw [e];rfl
theorem B4f {c:PCore} {i j:Nat} (h:ReachC c i) (hp:PathM (A5m c) i j):ReachC c j:=by
 induction hp with
 |one e=>obtain ⟨f,hf,he⟩:=(B4e c _ _).1 e;exact .step h hf he
 |tr _ _ ih1 ih2=>exact ih2 (ih1 h)
end
section
open Go Go.Xe Go.Xt
variable {F:FuncId->Option TFun} {O:FuncId->List TV->Option TV}
def B91:XCode:=(by exact fun x _=>x:V0 (gT x1048.body [1,1,1,0,1,0,0,1,0,1,1,0,0,1,1,0,0,1,1,1,1])) _ (by conv=>lhs;cbv)
def B92:XCode:=(by exact fun x _=>x:V1 (fun a=>pT (gT x1048.body [1,1,1,0,1,0,0,1,0,1]) [1,0,0,1,1,0,0,1,1,1,1] a)) _ (by intros;conv=>lhs;cbv) B91
def B93:XCode:=(by exact fun x _=>x:V1 (fun a=>pT (gT x1048.body [1,1,1,0]) [1,0,0,1,0,1] a)) _ (by intros;conv=>lhs;cbv) B92
theorem B6L:x1048=(by exact fun x _=>x:V1 (fun a=>({x1048 with body:=pT (x1048.body) [1,1,1,0] a}:XFun))) _ (by intros;conv=>lhs;cbv) B93:=rfl
theorem B4g (l:List Bool) (j:Nat):(bcells l)[j]? =l[j]?.map TV.bool:=by unfold bcells;rw [List.getElem?_map]
def S3 (n ko cap:Nat) (P:List Bool->Prop) (row l0:List Bool) (more0:Bool) (v1 v21 v22 v23:TV) (σ:Sto) (j:Nat) (a':TAct) (σ':Sto):Prop:=a'.df=[]/\∃l more ver',σ'=σ.set ko (some ⟨ver',.cells (bcells l) 4⟩)/\P l/\C10 l0 l more0 more row j/\a'.tm.get 1=some v1/\a'.tm.get 3=some (.ref ko 0 1 n cap)/\a'.tm.get 4=some (.bool more)/\a'.tm.get 21=some v21/\a'.tm.get 22=some v22/\a'.tm.get 23=some v23
theorem C0j {N b:Nat} (n ko kl cap capl:Nat) (hn:n<=1000) (hnN:n<N) (P:List Bool->Prop) (row l0:List Bool) (hrl:row.length=n) (hl0:l0.length=n) (hP0:P l0) (hP:∀l j,P l->row[j]? =some true->P (l.set j true)) (more0:Bool) (v1 v21 v22 v23:TV)
  (a:TAct) (σ:Sto) (ver verl:Nat) (hne:ko≠kl) (ho:σ.at ko=some ⟨ver,.cells (bcells l0) 4⟩) (hl:σ.at kl=some ⟨verl,.cells (bcells row) 4⟩)
  (hdf:a.df=[]) (h1:a.tm.get 1=some v1) (h3:a.tm.get 3=some (.ref ko 0 1 n cap)) (h4:a.tm.get 4=some (.bool more0)) (h7:a.tm.get 7=some (.ref kl 0 1 n capl)) (h21:a.tm.get 21=some v21) (h22:a.tm.get 22=some v22) (h23:a.tm.get 23=some v23):
  Tw A5T b (A2 F O N) N (fun ex a' σ'=>ex=.normal/\S3 n ko cap P row l0 more0 v1 v21 v22 v23 σ n a' σ') [] (B9 A5T b (A2 F O N) N B91 a σ):=by
 obtain ⟨tm,df,clk⟩:=a;simp only at hdf h1 h3 h4 h7 h21 h22 h23;subst hdf;have hkl:=Sto.lt ho;simp [B91,h7]
 obtain ⟨I,hI⟩:∃I:Nat->TAct->Sto->Prop,I=(fun j a' σ'=>a'.df=[]/\∃l more ver',σ'=σ.set ko (some ⟨ver',.cells (bcells l) 4⟩)/\P l/\C10 l0 l more0 more row j/\a'.tm.get 1=some v1/\a'.tm.get 3=some (.ref ko 0 1 n cap)/\a'.tm.get 4=some (.bool more)/\a'.tm.get 21=some v21/\a'.tm.get 22=some v22/\a'.tm.get 23=some v23/\
  a'.tm.get 41=some (.ref kl 0 1 n capl)/\a'.tm.get 42=some (.int .i64 n)/\a'.tm.get 43=some (.int .i64 j)):=⟨_,rfl⟩
 obtain ⟨R,hR⟩:∃R:TEx->TAct->Sto->Prop,R=(fun ex a' σ'=>ex=.exit 4/\S3 n ko cap P row l0 more0 v1 v21 v22 v23 σ n a' σ'):=⟨_,rfl⟩;refine B8 I n R ?_ (by omega) ?_ ?_ ?_
 ·rw [hI];exact ⟨rfl,l0,more0,ver,(B4a ho).symm,hP0,⟨LeB.refl _,fun k hk=>by omega,.inl ⟨rfl,rfl⟩⟩,by simp [h1],by simp [h3],by simp [h4],by simp [h21],by simp [h22],by simp [h23],by simp,by simp,by simp⟩
 ·rw [hI];rintro j ⟨tm,df,clk⟩ σ' hj ⟨rfl,l,more,vr,rfl,hPl,⟨q1,q2,q3⟩,h1,h3,h4,h21,h22,h23,h41,h42,h43⟩;rw [<-hI];have hw:=F9 hj (by unfold maxLen;omega);have hll:l.length=n:=by rw [<-q1.1];exact hl0
  have hlk:Sto.at (σ.set ko (some ⟨vr,.cells (bcells l) 4⟩)) kl=some ⟨verl,.cells (bcells row) 4⟩:=by rw [A28 hne];exact hl
  have hlo:Sto.at (σ.set ko (some ⟨vr,.cells (bcells l) 4⟩)) ko=some ⟨vr,.cells (bcells l) 4⟩:=by simp [Sto.at,hkl]
  have hj1:j+1<=n:=hj;have ir:j<row.length:=by omega
  have il:j<l.length:=by omega
  have gr:row[j]? =some row[j]:=List.getElem?_eq_getElem ir;have gl:l[j]? =some l[j]:=List.getElem?_eq_getElem il;have hrow:(bcells row)[j]? =some (.bool row[j]):=by rw [B4g,gr];rfl
  have hlj:(bcells l)[j]? =some (.bool l[j]):=by rw [B4g,gl];rfl
  have hbl:(bcells l).length=n:=by simp [bcells,hll]
  have hbr:(bcells row).length=n:=by simp [bcells,hrl]
  have hpb:=A1W l j true (by omega);generalize hB1:bcells row=B1 at hlk hrow hbr;generalize hB2:bcells l=B2 at hlk hlo hlj hbl hpb ⊢;have hrow2:∀h:j<B1.length,B1[j]=.bool row[j]:=fun h=>by rw [List.getElem?_eq_getElem h] at hrow;exact Option.some.inj hrow
  have hlj2:∀h:j<B2.length,B2[j]=.bool l[j]:=fun h=>by rw [List.getElem?_eq_getElem h] at hlj;exact Option.some.inj hlj
  cases hrj:row[j] with
  |false=>
   rw [hrj] at hrow gr hrow2;simp [h1,h3,h4,h21,h22,h23,h41,h42,h43,hj,hj1,hw,hlk,hlo,hrow,hlj,hbl,hbr,hrow2,hlj2];rw [hI];refine ⟨rfl,l,more,vr,by rw [hB2],hPl,⟨q1,fun k hk hr=> ?_,q3⟩,by simp [h1],by simp [h3],by simp [h4],by simp [h21],by simp [h22],by simp [h23],by simp [h41],by simp [h42],by simp⟩
   by_cases e:k=j
   ·subst e;rw [gr] at hr;cases hr
   ·exact q2 k (by omega) hr
  |true=>
   rw [hrj] at hrow gr hrow2;cases hoj:l[j] with
   |true=>
    rw [hoj] at hlj gl hlj2;simp [h1,h3,h4,h21,h22,h23,h41,h42,h43,hj,hj1,hw,hlk,hlo,hrow,hlj,hbl,hbr,hrow2,hlj2];rw [hI];refine ⟨rfl,l,more,vr,by rw [hB2],hPl,⟨q1,fun k hk hr=> ?_,q3⟩,by simp [h1],by simp [h3],by simp [h4],by simp [h21],by simp [h22],by simp [h23],by simp [h41],by simp [h42],by simp⟩
    by_cases e:k=j
    ·subst e;exact gl
    ·exact q2 k (by omega) hr
   |false=>
    rw [hoj] at hlj gl hlj2;simp [h1,h3,h4,h21,h22,h23,h41,h42,h43,hj,hj1,hw,hlk,hlo,hrow,hlj,hbl,hbr,hrow2,hlj2];rw [hI];refine ⟨rfl,l.set j true,true,vr+1,by rw [<-hpb];simp [putAt],hP l j hPl gr,⟨q1.trans (LeB.set _ _),fun k hk hr=> ?_,.inr ⟨rfl,?_⟩⟩,by simp [h1],by simp [h3],by simp [h4],by simp [h21],by simp [h22],by simp [h23],by simp [h41],by simp [h42],by simp⟩
    ·by_cases e:j=k
     ·subst e;rw [List.getElem?_set_self (by omega)]
     ·rw [List.getElem?_set_ne e];exact q2 k (by omega) hr
    ·rw [B8Y gl];rcases q3 with ⟨_,rfl⟩|⟨_,q3⟩<;>omega
 ·rw [hI];rintro ⟨tm,df,clk⟩ σ' ⟨rfl,l,more,vr,rfl,hPl,hri,h1,h3,h4,h21,h22,h23,h41,h42,h43⟩;simp [h42,h43];rw [hR];exact ⟨rfl,rfl,l,more,vr,rfl,hPl,hri,by simp [h1],by simp [h3],by simp [h4],by simp [h21],by simp [h22],by simp [h23]⟩
 ·rw [hR];rintro ex ⟨tm,df,clk⟩ σ' ⟨rfl,hs⟩;simp;exact hs
def OutB (σ:Sto) (l:List Bool) (σ':Sto):Prop:=σ'.take σ.length=σ/\∃ver,σ'.at σ.length=some ⟨ver,.cells (bcells l) 4⟩
theorem OutB.lt {σ σ':Sto} {l:List Bool} (h:OutB σ l σ'):σ.length<σ'.length:=by obtain ⟨_,v,hv⟩:=h;exact Sto.lt hv
theorem OutB.push {σ σ':Sto} {l:List Bool} (h:OutB σ l σ') (τ:Sto):OutB σ l (σ'++τ):=by
 have hl:=h.lt;obtain ⟨h1,v,hv⟩:=h;exact ⟨by rw [List.take_append_of_le_length (by omega)];exact h1,v,by rw [A6p _ hl];exact hv⟩
theorem OutB.other {σ σ':Sto} {l:List Bool} (h:OutB σ l σ') {k:Nat} (hk:σ.length<k) (x:Option TObj):OutB σ l (σ'.set k x):=by
 obtain ⟨h1,v,hv⟩:=h;exact ⟨by rw [A0d (by omega)];exact h1,v,by rw [A28 (by omega)];exact hv⟩
theorem OutB.put {σ σ':Sto} {l:List Bool} (h:OutB σ l σ') (ver:Nat) (m:List Bool):OutB σ m (σ'.set σ.length (some ⟨ver,.cells (bcells m) 4⟩)):=by
 have hl:=h.lt;exact ⟨by rw [A0d (Nat.le_refl _)];exact h.1,ver,by simp [Sto.at,hl]⟩
def C2N (c:PCore) (l0 l:List Bool) (more:Bool) (j:Nat):Prop:=
 LeB l0 l/\(more=false/\l=l0/\(∀(i:Nat) (f:PBody),i<j->l[i]? =some true->c.funs[i]? =some f->LeB (A11 c f.term) l)\/more=true/\A8v l0<A8v l)
def S2 (c:PCore) (l0:List Bool) (cap:Nat) (σ:Sto) (j:Nat) (a':TAct) (σ':Sto):Prop:=
 a'.df=[]/\∃l more,OutB σ l σ'/\SoundB c l/\C2N c l0 l more j/\a'.tm.get 1=some (.bx 0 (L8 c) 40)/\a'.tm.get 3=some (.ref σ.length 0 1 c.funs.length cap)/\a'.tm.get 4=some (.bool more)
theorem C0k {N b:Nat} (h88:F 88=some f1088) (c:PCore) (hc:OkC c) (hn:c.funs.length<=1000) (hnN:c.funs.length<N) (hok:∀f∈c.funs,F7 c.funs.length f.term=true) (hsz:∀f∈c.funs,E3 f.term<=N)
  (l0:List Bool) (cap:Nat) (σ:Sto) (a:TAct) (σ1:Sto) (hO:OutB σ l0 σ1) (hS:SoundB c l0)
  (hdf:a.df=[]) (h1:a.tm.get 1=some (.bx 0 (L8 c) 40)) (h3:a.tm.get 3=some (.ref σ.length 0 1 c.funs.length cap)) (h4:a.tm.get 4=some (.bool false)):
  Tw A5T b (A2 F O N) N (fun ex a' σ'=>ex=.normal/\S2 c l0 cap σ c.funs.length a' σ') [] (B9 A5T b (A2 F O N) N B92 a σ1):=by
 obtain ⟨tm,df,clk⟩:=a;simp only at hdf h1 h3 h4;subst hdf;have h1':=h1;rw [A8] at h1;simp [B92,h1];obtain ⟨I,hI⟩:∃I:Nat->TAct->Sto->Prop,I=(fun j a' σ'=>S2 c l0 cap σ j a' σ'/\a'.tm.get 21=some (.sl .fz (c.funs.map F5))/\a'.tm.get 22=some (.int .i64 c.funs.length)/\a'.tm.get 23=some (.int .i64 j)):=⟨_,rfl⟩
 obtain ⟨R,hR⟩:∃R:TEx->TAct->Sto->Prop,R=(fun ex a' σ'=>ex=.exit 2/\S2 c l0 cap σ c.funs.length a' σ'):=⟨_,rfl⟩;refine B8 I c.funs.length R ?_ (by omega) ?_ ?_ ?_
 ·rw [hI];exact ⟨⟨rfl,l0,false,hO,hS,⟨LeB.refl _,.inl ⟨rfl,rfl,fun i f hi=>by omega⟩⟩,by simp [h1'],by simp [h3],by simp [h4]⟩,by simp,by simp,by simp⟩
 ·rw [hI];rintro j ⟨tm,df,clk⟩ σ' hj ⟨⟨rfl,l,more,hO,hS,hr,h1,h3,h4⟩,h21,h22,h23⟩;rw [<-hI];simp only at h1 h3 h4;have hw:=F9 hj (by unfold maxLen;omega);have hj1:j+1<=c.funs.length:=hj;have hmem:=List.getElem_mem hj;have hll:=hS.len;have il:j<l.length:=by omega
  have gl:l[j]? =some l[j]:=List.getElem?_eq_getElem il;have gf:c.funs[j]? =some c.funs[j]:=List.getElem?_eq_getElem hj;obtain ⟨hO1,vo,hO2⟩:=hO;have hlj:(bcells l)[j]? =some (.bool l[j]):=by rw [B4g,gl];rfl
  have hbl:(bcells l).length=c.funs.length:=by simp [bcells,hll]
  have hE:=C9 c.funs[j];have h1':=h1;rw [A8] at h1;generalize hB2:bcells l=B2 at hO2 hlj hbl;have hlj2:∀h:j<B2.length,B2[j]=.bool l[j]:=fun h=>by rw [List.getElem?_eq_getElem h] at hlj;exact Option.some.inj hlj
  cases hoj:l[j] with
  |false=>
   rw [hoj] at hlj gl hlj2;simp [h1,h3,h4,h21,h22,h23,hj,hj1,hw,hO2,hlj,hbl,hlj2,hE];rw [hI];refine ⟨⟨rfl,l,more,⟨hO1,vo,by rw [hB2];exact hO2⟩,hS,⟨hr.1,?_⟩,by simp [h1'],by simp [h3],by simp [h4]⟩,by simp [h21],by simp [h22],by simp⟩;rcases hr.2 with ⟨e1,e2,e3⟩|h
   ·exact .inl ⟨e1,e2,fun i f hi ht hf=>by
     by_cases e:i=j
     ·subst e;rw [gl] at ht;cases ht
     ·exact e3 i f (by omega) ht hf⟩
   ·exact .inr h
  |true=>
   rw [hoj] at hlj gl hlj2;have hrl:(List.replicate c.funs.length false).length=c.funs.length:=by simp
   have hn2:c.funs.length<=281474976710656:=by omega
   have hn3:c.funs.length<=9223372036854775807:=by omega
   obtain ⟨vr,hcc⟩:=A5l (O:=O) h88 N N c.funs[j].term c.funs.length σ'.length c.funs.length b (σ'++[some ⟨0,.cells (bcells (List.replicate c.funs.length false)) 4⟩]) 0 (List.replicate c.funs.length false) (hsz _ hmem) (Nat.le_refl _) (hc.funs _ hmem).term hrl (hok _ hmem) (H9 _ _);rw [A2C,A0] at hcc;rw [<-A1X] at hcc;simp [h1,h3,h4,h21,h22,h23,hj,hj1,hw,hO2,hlj,hbl,hlj2,hE,hcc,hn2,hn3]
   have hrw:R3 c.funs[j].term (List.replicate c.funs.length false)=A11 c c.funs[j].term:=rfl;rw [hrw];have hlt:σ.length<σ'.length:=Sto.lt hO2;have hO3:OutB σ l σ':=⟨hO1,vo,by rw [hB2];exact hO2⟩;have hko:Sto.at (σ'++[some ⟨vr,.cells (bcells (A11 c c.funs[j].term)) 4⟩]) σ.length=some ⟨vo,.cells (bcells l) 4⟩:=by rw [A6p _ hlt,hB2];exact hO2
   apply H8
   ·apply C0j (b:=b) c.funs.length σ.length σ'.length cap c.funs.length hn hnN (fun l=>SoundB c l/\l[j]? =some true) (A11 c c.funs[j].term) l (A0W _ _) hll ⟨hS,gl⟩ (v1:=.bx 0 (L8 c) 40) (v21:=.sl .fz (c.funs.map F5)) (v22:=.int .i64 c.funs.length) (v23:=.int .i64 j) (more0:=more) (ver:=vo) (verl:=vr) (hne:=by omega) (ho:=hko) (hl:=H9 _ _)
    ·exact fun m k hm hk=>⟨hm.1.set hm.2 gf hk,by
      by_cases e:k=j
      ·subst e;rw [List.getElem?_set_self (List.getElem?_eq_some_iff.1 hm.2).1]
      ·rw [List.getElem?_set_ne e];exact hm.2⟩
    ·rfl
    ·simp [h1']
    ·simp [h3]
    ·simp [h4]
    ·simp
    ·simp [h21]
    ·simp [h22]
    ·simp [h23]
   rintro ex ⟨tm,df,clk⟩ σ2 ⟨rfl,hdf,l2,more2,v2,rfl,⟨hS2,_⟩,⟨q1,q2,q3⟩,g1,g3,g4,g21,g22,g23⟩;simp only at hdf g1 g3 g4 g21 g22 g23;subst hdf;simp [g23,hw];rw [hI];refine ⟨⟨rfl,l2,more2,(hO3.push _).put _ _,hS2,⟨hr.1.trans q1,?_⟩,by simp [g1],by simp [g3],by simp [g4]⟩,by simp [g21],by simp [g22],by simp⟩;rcases q3 with ⟨rfl,rfl⟩|⟨rfl,q3⟩
   ·rcases hr.2 with ⟨e1,e2,e3⟩|h
    ·exact .inl ⟨e1,e2,fun i f hi ht hf=>by
      by_cases e:i=j
      ·subst e;obtain rfl:=Option.some.inj (gf.symm.trans hf);exact ⟨by rw [A0W];exact hll.symm,fun k hk=>q2 k (by have:=(List.getElem?_eq_some_iff.1 hk).1;rw [A0W] at this;exact this) hk⟩
      ·exact e3 i f (by omega) ht hf⟩
    ·exact .inr h
   ·refine .inr ⟨rfl,?_⟩;rcases hr.2 with ⟨_,rfl,_⟩|⟨_,h⟩<;>omega
 ·rw [hI];rintro ⟨tm,df,clk⟩ σ' ⟨hs,h21,h22,h23⟩;simp [h22,h23];rw [hR];obtain ⟨rfl,l,more,hO,hS,hr,h1,h3,h4⟩:=hs;exact ⟨rfl,rfl,l,more,hO,hS,hr,by simp [h1],by simp [h3],by simp [h4]⟩
 ·rw [hR];rintro ex ⟨tm,df,clk⟩ σ' ⟨rfl,hs⟩;simp;exact hs
theorem B4h {σ2:Sto} {k0 j ver e:Nat} (n c:Nat) (l:List Bool) (hj:k0<=j) (hk:σ2.at j=some ⟨ver,.cells (bcells l) e⟩) (hc:Nat.blt c C4=true):A07 σ2 k0 (n+1) (.ref j 0 1 l.length c)=.sl .fz (l.map X3):=by
 have h1:=A60 l;have h2:((bcells l).take l.length).any C0=false:=by
  have:(bcells l).length=l.length:=by simp [bcells]
  rw [<-this,List.take_length];unfold bcells;rw [List.any_eq_false];intro x hx;obtain ⟨q,_,rfl⟩:=List.mem_map.1 hx;simp [C0]
 have h3:∀l:List Bool,(l.map X3).map (fun ch=>ch.map (A07 σ2 k0 n))=l.map X3:=fun l=>by
  rw [List.map_map];apply List.map_congr_left;intro x _;cases n<;>rfl
 have hb:Nat.ble k0 j=true:=by rw [C3];exact decide_eq_true hj
 unfold A07;rw [hb,hk];have hle:(Nat.ble (0+l.length*1) (bcells l).length&& !(((bcells l).drop 0).take (l.length*1)).any C0&&(Nat.blt c C4||Nat.beq c (C4+1)))=true:=by
  rw [List.drop_zero,Nat.mul_one,h2,hc];simp [bcells]
 dsimp only;rw [hle];simp only [List.drop_zero,h1,h3]
def S1 (c:PCore) (cap:Nat) (σ:Sto) (a':TAct) (σ':Sto):Prop:=a'.df=[]/\∃l,OutB σ l σ'/\IsReach c l/\a'.tm.get 3=some (.ref σ.length 0 1 c.funs.length cap)
theorem C0l {N b:Nat} (h88:F 88=some f1088) (c:PCore) (hc:OkC c) (hn:c.funs.length<=1000) (hnN:c.funs.length+1<N) (hok:∀f∈c.funs,F7 c.funs.length f.term=true) (hsz:∀f∈c.funs,E3 f.term<=N)
  (cap:Nat) (σ:Sto) (a:TAct) (σ1:Sto) (hO:OutB σ (A11 c c.query.term) σ1)
  (hdf:a.df=[]) (h1:a.tm.get 1=some (.bx 0 (L8 c) 40)) (h3:a.tm.get 3=some (.ref σ.length 0 1 c.funs.length cap)):
  Tw A5T b (A2 F O N) N (fun ex a' σ'=>ex=.normal/\S1 c cap σ a' σ') [] (B9 A5T b (A2 F O N) N B93 a σ1):=by
 obtain ⟨tm,df,clk⟩:=a;simp only at hdf h1 h3;subst hdf;simp [B93]
 obtain ⟨I,hI⟩:∃I:Nat->TAct->Sto->Prop,I=(fun j a' σ'=>a'.df=[]/\∃l more,OutB σ l σ'/\SoundB c l/\(more=true/\j<=A8v l\/more=false/\j<=A8v l+1/\∀(i:Nat) (f:PBody),l[i]? =some true->c.funs[i]? =some f->LeB (A11 c f.term) l)/\a'.tm.get 1=some (.bx 0 (L8 c) 40)/\a'.tm.get 3=some (.ref σ.length 0 1 c.funs.length cap)/\a'.tm.get 4=some (.bool more)):=⟨_,rfl⟩
 obtain ⟨R,hR⟩:∃R:TEx->TAct->Sto->Prop,R=(fun ex a' σ'=>ex=.exit 0/\S1 c cap σ a' σ'):=⟨_,rfl⟩;refine B8e I (c.funs.length+1) R ?_ (by omega) ?_ ?_ ?_
 ·rw [hI];exact ⟨rfl,_,true,hO,SoundB.start c,.inl ⟨rfl,by omega⟩,by simp [h1],by simp [h3],by simp⟩
 ·rw [hI];rintro j ⟨tm,df,clk⟩ σ' ⟨_,l,more,_,hS,h,_⟩;have:=B8Z l;have:=hS.len;rcases h with ⟨_,h⟩|⟨_,h,_⟩<;>omega
 ·rw [hI];rintro j ⟨tm,df,clk⟩ σ' ⟨rfl,l,more,hO,hS,h,h1,h3,h4⟩;rw [<-hI];simp only at h1 h3 h4;rcases h with ⟨rfl,h⟩|⟨rfl,h,hcl⟩
  ·simp [h4];apply H8
   ·apply C0k (b:=b) h88 c hc hn (by omega) hok hsz l cap σ _ _ hO hS
    ·rfl
    ·simp [h1]
    ·simp [h3]
    ·simp
   rintro ex ⟨tm,df,clk⟩ σ2 ⟨rfl,hdf,l2,more2,hO2,hS2,⟨q1,q2⟩,g1,g3,g4⟩;simp only at hdf g1 g3 g4;subst hdf;simp;rw [hI];refine ⟨rfl,l2,more2,hO2,hS2,?_,g1,g3,g4⟩;rcases q2 with ⟨e1,rfl,e3⟩|⟨e1,e2⟩
   ·exact .inr ⟨e1,by omega,fun i f hi hf=>e3 i f (List.getElem?_eq_some_iff.1 hf).1 hi hf⟩
   ·exact .inl ⟨e1,by omega⟩
  ·simp [h4];rw [hR];exact ⟨rfl,rfl,l,hO,hS.done hcl,by simp [h3]⟩
 ·rw [hR];rintro ex ⟨tm,df,clk⟩ σ' ⟨rfl,hs⟩;simp;exact hs
theorem A61 (h48:F 48=some f1048) (h88:F 88=some f1088) (c:PCore) (hc:OkC c) (hn:c.funs.length<=1000) (N b:Nat) (σ:Sto) (hnN:c.funs.length+1<N) (hok:∀f∈c.funs,F7 c.funs.length f.term=true) (hokq:F7 c.funs.length c.query.term=true) (hsz:∀f∈c.funs,E3 f.term<=N) (hszq:E3 c.query.term<=N):
  ∃l,IsReach c l/\A2 F O (N+1) b 48 [.agg (L8 c)] σ=some (.ret (.sl .fz (l.map X3)),σ):=by
 suffices hh:∃e' σ',A2 F O (N+1) b 48 [.agg (L8 c)] σ=some (e',σ')/\∃l,IsReach c l/\e'=.ret (.sl .fz (l.map X3))/\σ'=σ by
  obtain ⟨e',σ',h1,l,hl,rfl,rfl⟩:=hh;exact ⟨l,hl,h1⟩
 refine E4 h48 ?_;have hrl:(List.replicate c.funs.length false).length=c.funs.length:=by simp
 have hn2:c.funs.length<=281474976710656:=by omega
 have hn3:c.funs.length<=9223372036854775807:=by omega
 obtain ⟨vr,hcc⟩:=A5l (O:=O) h88 N N c.query.term c.funs.length σ.length c.funs.length σ.length (σ++[some ⟨0,.cells (bcells (List.replicate c.funs.length false)) 4⟩]) 0 (List.replicate c.funs.length false) hszq (Nat.le_refl _) hc.query.term hrl hokq (H9 _ _);rw [A2C,A0] at hcc;rw [<-A1X] at hcc;have hrw:R3 c.query.term (List.replicate c.funs.length false)=A11 c c.query.term:=rfl;rw [hrw] at hcc
 simp [B6L,A8 c,hn2,hn3,hcc];apply H8
 ·apply C0l (b:=σ.length) h88 c hc hn hnN hok hsz c.funs.length σ
  ·exact ⟨by simp,vr,H9 _ _⟩
  ·rfl
  ·simp [A8 c]
  ·simp
 rintro ex ⟨tm,df,clk⟩ σ2 ⟨rfl,hdf,l,⟨hO1,vo,hO2⟩,hR,g3⟩;simp only at hdf g3;subst hdf;have hll:(bcells l).length=c.funs.length:=by simp [bcells,hR.len]
 have hth:=B4h (σ2:=σ2) (k0:=σ.length) 3 c.funs.length l (Nat.le_refl _) hO2 (by rw [G0];exact decide_eq_true (by unfold C4;omega));rw [hR.len] at hth;have hbb:=V9 σ.length X3 (A7u σ.length) l;simp [g3,-A07,hth,hO1,hbb];exact ⟨l,hR,rfl⟩
end
section
open Go Go.Xe Go.Xt
mutual
def D2 (to:List Int):PTerm->Int->PTerm×Int
 |.mk k n m v o ks,s=>(.mk k (if k=12 then s else if k=3 then (to[n.toNat]?).getD 0 else n) m v o (B7 to ks (if k=12 then s+1 else s)).1,(B7 to ks (if k=12 then s+1 else s)).2)
def B7 (to:List Int):List PTerm->Int->List PTerm×Int
 |[],s=>([],s)
 |t::l,s=>((D2 to t s).1::(B7 to l (D2 to t s).2).1,(B7 to l (D2 to t s).2).2)
end
def A62 (to:List Int) (t:PTerm) (s:Int):Int:=if t.kind=12 then s else if t.kind=3 then (to[t.n.toNat]?).getD 0 else t.n
def A0h (t:PTerm) (s:Int):Int:=if t.kind=12 then s+1 else s
theorem A0i (to:List Int) (t:PTerm) (s:Int):D2 to t s=(.mk t.kind (A62 to t s) t.m t.val t.odds (B7 to t.kids (A0h t s)).1,(B7 to t.kids (A0h t s)).2):=by cases t;rw [D2];rfl
theorem A4N (to:List Int):∀(a b:List PTerm) (s:Int),B7 to (a++b) s=((B7 to a s).1++(B7 to b (B7 to a s).2).1,(B7 to b (B7 to a s).2).2)
 |[],b,s=>by simp [B7]
 |t::r,b,s=>by rw [List.cons_append,B7,A4N to r b,B7];rfl
theorem S9 (to:List Int):∀(a:List PTerm) (s:Int),(B7 to a s).1.length=a.length
 |[],s=>by simp [B7]
 |t::r,s=>by simp [B7,S9 to r]
theorem P7 (to:List Int):∀(M:Nat) (t:PTerm) (s:Int),E3 t<=M->s<=(D2 to t s).2/\(D2 to t s).2<=s+cntT t
 |0,t,s,h=>by rw [B5] at h;omega
 |M+1,t,s,h=>by
  have hs:=B5 t;have hcd:=L7 t;have key:∀(l:List PTerm) (s:Int),(∀x∈l,E3 x<=M)->s<=(B7 to l s).2/\(B7 to l s).2<=s+F6 l:=by
   intro l
   induction l with
   |nil=>grind [B7,F6]
   |cons x l ih=>
    intro s hx;have h1:=P7 to M x s (hx x (by simp));grind [D2,B7,F6]
  have:=key t.kids (A0h t s) (fun x hx=>by have:=D3 _ _ hx;omega);grind [A0i,A0h]
theorem A1Z (to:List Int):∀(l:List PTerm) (s:Int),s<=(B7 to l s).2/\(B7 to l s).2<=s+F6 l
 |[],s=>by simp [B7,F6]
 |x::l,s=>by
  have h1:=P7 to _ x s (Nat.le_refl _);have h2:=A1Z to l (D2 to x s).2;grind [B7,F6]
variable {F:FuncId->Option TFun} {O:FuncId->List TV->Option TV}
def B4i:XCode:=(by exact fun x _=>x:V0 (gT x1050.body [1,1,1,1,0])) _ (by conv=>lhs;cbv)
theorem A5n:x1050=(by exact fun x _=>x:V1 (fun a=>({x1050 with body:=pT (x1050.body) [1,1,1,1,0] a}:XFun))) _ (by intros;conv=>lhs;cbv) B4i:=rfl
theorem B4j {l:List PTerm} {j:Nat} (hj:j<l.length):F6 (l.take j)+cntT l[j]<=F6 l:=by
 induction l generalizing j with
 |nil=>simp at hj
 |cons x l ih=>
  cases j with
  |zero=>simp [F6]
  |succ j=>grind [F6]
theorem A7Z {N b:Nat} (kids:List PTerm) (C:List TV) (hC:C.length=8) (hC7:C[7]? =some (.sl .fz (kids.map A5))) (hlen:kids.length<=maxLen) (hkl:kids.length<=1000000) (hN:kids.length<N) (to:List Int) (kt n cap:Nat) (s:Int) (a:TAct) (σ:Sto) (v6:TV)
  (hs0:0<=s) (hs1:s+F6 kids<=1000000) (hc:∀x∈kids,∀(b:Nat) (s:Int),0<=s->s+cntT x<=1000000->A2 F O N b 50 [.agg (A5 x),.ref kt 0 1 n cap,.int .i64 s] σ=some (.ret (.tuple [.agg (A5 (D2 to x s).1),.int .i64 (D2 to x s).2]),σ))
  (hdf:a.df=[]) (h1:a.tm.get 1=some (.ref kt 0 1 n cap)) (h2:a.tm.get 2=some (.int .i64 s)) (h3:a.tm.get 3=some (.bx 0 C 28)) (h6:a.tm.get 6=some v6) (h8:a.tm.get 8=some (.sl .nl [])):
  Tw B52 b (A2 F O N) N (fun ex a' σ'=>ex=.normal/\σ'=σ/\a'.df=[]/\a'.tm.get 2=some (.int .i64 (B7 to kids s).2)/\a'.tm.get 3=some (.bx 0 C 28)/\a'.tm.get 6=some v6/\∃v,Bld 28 8 A5 (B7 to kids s).1 v/\a'.tm.get 8=some v) [] (B9 B52 b (A2 F O N) N B4i a σ):=by
 obtain ⟨tm,df,clk⟩:=a;simp only at hdf h1 h2 h3 h6 h8;subst hdf;obtain ⟨c0,c1,c2,c3,c4,c5,c6,c7,rfl⟩:=len8 hC;simp at hC7;subst hC7;simp [B4i,h3]
 obtain ⟨I,hI⟩:∃I:Nat->TAct->Sto->Prop,I=(fun j a' σ'=>a'.df=[]/\σ'=σ/\a'.tm.get 1=some (.ref kt 0 1 n cap)/\a'.tm.get 2=some (.int .i64 (B7 to (kids.take j) s).2)/\a'.tm.get 3=some (.bx 0 [c0,c1,c2,c3,c4,c5,c6,.sl .fz (kids.map A5)] 28)/\a'.tm.get 6=some v6/\(∃v,Bld 28 8 A5 (B7 to (kids.take j) s).1 v/\a'.tm.get 8=some v)/\
  a'.tm.get 33=some (.sl .fz (kids.map A5))/\a'.tm.get 34=some (.int .i64 kids.length)/\a'.tm.get 35=some (.int .i64 j)):=⟨_,rfl⟩
 obtain ⟨R,hR⟩:∃R:TEx->TAct->Sto->Prop,R=(fun ex a' σ'=>ex=.exit 0/\σ'=σ/\a'.df=[]/\a'.tm.get 2=some (.int .i64 (B7 to kids s).2)/\a'.tm.get 3=some (.bx 0 [c0,c1,c2,c3,c4,c5,c6,.sl .fz (kids.map A5)] 28)/\a'.tm.get 6=some v6/\∃v,Bld 28 8 A5 (B7 to kids s).1 v/\a'.tm.get 8=some v):=⟨_,rfl⟩;refine B8 I kids.length R ?_ (by omega) ?_ ?_ ?_
 ·rw [hI];exact ⟨rfl,rfl,by simp [h1],by simp [h2,B7],by simp [h3],by simp [h6],⟨_,.nl,by simp [h8]⟩,by simp,by simp,by simp⟩
 ·rw [hI];rintro j ⟨tm,df,clk⟩ σ' hj ⟨rfl,rfl,h1,h2,h3,h6,⟨v,hB,h8⟩,h33,h34,h35⟩;rw [<-hI];simp only at h1 h2 h3 h6 h8 h33 h34 h35;have hw:=F9 hj hlen;have hmem:=List.getElem_mem hj;have hb:=A1Z to (kids.take j) s;have hb2:F6 (kids.take j)+cntT kids[j]<=F6 kids:=B4j hj;have hcc:=hc kids[j] hmem b (B7 to (kids.take j) s).2 (by omega) (by omega)
  have hts:B7 to (kids.take (j+1)) s=((B7 to (kids.take j) s).1++[(D2 to kids[j] (B7 to (kids.take j) s).2).1],(D2 to kids[j] (B7 to (kids.take j) s).2).2):=by
   grind [M4,A4N,B7]
  have hlt:(B7 to (kids.take j) s).1.length<=1000000:=by rw [S9,List.length_take];omega
  have hE:=A0 kids[j];have hE2:=A0 (D2 to kids[j] (B7 to (kids.take j) s).2).1;generalize (D2 to kids[j] (B7 to (kids.take j) s).2).1=y at hcc hts hE2;generalize (D2 to kids[j] (B7 to (kids.take j) s).2).2=z at hcc hts;rw [hE,hE2] at hcc;generalize (B7 to (kids.take j) s).1=L at hB hts hlt;generalize (B7 to (kids.take j) s).2=q at*;rcases hB with _|_
  ·simp [h1,h2,h3,h6,h8,h33,h34,h35,hj,hcc,hw,hE,hE2];rw [hI];dsimp only;rw [hts];exact ⟨rfl,rfl,by simp [h1],by simp,by simp [h3],by simp [h6],⟨_,.own _,by simp [hE2]⟩,by simp [h33],by simp [h34],by simp⟩
  ·have hlen3:L.length<=1073741823:=by omega
   simp [h1,h2,h3,h6,h8,h33,h34,h35,hj,hcc,hw,hE,hE2,hlen3];rw [hI];dsimp only;rw [hts];exact ⟨rfl,rfl,by simp [h1],by simp,by simp [h3],by simp [h6],⟨_,.own _,by simp [hE2]⟩,by simp [h33],by simp [h34],by simp⟩
 ·simp_all
 simp_all
theorem B0G (h50:F 50=some f1050):∀(M N:Nat) (t:PTerm) (to:List Int) (kt n cap b:Nat) (σ:Sto) (ver:Nat) (s:Int),E3 t<=M->M<=N->OkTm t->cntT t<=3000->0<=s->s+cntT t<=1000000->to.length=n->F7 n t=true->σ.at kt=some ⟨ver,.cells (encZT to) 3⟩->
  A2 F O N b 50 [.agg (A5 t),.ref kt 0 1 n cap,.int .i64 s] σ=some (.ret (.tuple [.agg (A5 (D2 to t s).1),.int .i64 (D2 to t s).2]),σ)
 |0,N,t,to,kt,n,cap,b,σ,ver,s,h,_,_,_,_,_,_,_,_=>by rw [B5] at h;omega
 |M+1,N,t,to,kt,n,cap,b,σ,ver,s,h,hN,he,hct,hs0,hs1,htl,hok,hat=>by
  have ih:=B0G h50 M;have hs:=B5 t;have hkk:=M3 t.kids;have hcd:=L7 t;have hkl:t.kids.length<=F6 t.kids:=by
   generalize t.kids=l
   induction l with
   |nil=>exact Nat.le_refl _
   |cons x l ihl=>grind [F6,L7]
  obtain ⟨N,rfl⟩:∃n,N=n+1:=⟨N - 1,by omega⟩;rw [A1e,Bool.and_eq_true,Bool.or_eq_true,decide_eq_true_eq,decide_eq_true_eq] at hok;have hnd:=A0i to t s;have hkd:∀x∈t.kids,∀(b:Nat) (s':Int),0<=s'->s'+cntT x<=1000000->A2 F O N b 50 [.agg (A5 x),.ref kt 0 1 n cap,.int .i64 s'] σ=some (.ret (.tuple [.agg (A5 (D2 to x s').1),.int .i64 (D2 to x s').2]),σ):=fun x hx b s' h0 h1=>by
   have:=D3 _ _ hx;have:=W1 _ _ hx;exact ih N x to kt n cap b σ ver s' (by omega) (by omega) (he.sub x hx) (by omega) h0 h1 htl ((S8 _ _).1 hok.2 x hx) hat
  have h8:∀k' n',A5 (.mk k' n' t.m t.val t.odds t.kids)=[.int .i64 k',.int .i64 n',.int .i64 t.m,.int .i64 t.val.kind,.int .i64 t.val.n,.sl .fz (t.val.list.map E1),.sl .fz (t.odds.map encI),.sl .fz (t.kids.map A5)]:=fun k' n'=>A0 _
  by_cases k3:t.kind=3
  ·have hr:=hok.1.resolve_left (fun h=>h k3);obtain ⟨q,hq⟩:∃q:Nat,t.n=(q:Int):=⟨t.n.toNat,by omega⟩;rw [hq] at hr;have hq2:q<to.length:=by omega
   have e1:A62 to t s=to[q]:=by unfold A62;rw [if_neg (by omega),if_pos k3,hq,Int.toNat_natCast,List.getElem?_eq_getElem hq2];rfl
   have e2:A0h t s=s:=by unfold A0h;rw [if_neg (by omega)]
   rw [e1,e2] at hnd;have hq3:q<n:=by omega
   have hq4:q+1<=n:=hq3;have hel:(encZT to).length=n:=by rw [J7];exact htl
   have hez:∀h:q<(encZT to).length,(encZT to)[q]=.int .i64 to[q]:=fun h=>by simp [encZT]
   generalize encZT to=ez at hat hel hez;have hkd2:=hkd;refine A3 h50 ?_;simp [A5n,A0 t,k3,hq,hat,hq3,hq4,hel,hez];apply H8
   ·apply A7Z t.kids [.int .i64 t.kind,.int .i64 (to[q]),.int .i64 t.m,.int .i64 t.val.kind,.int .i64 t.val.n,.sl .fz (t.val.list.map E1),.sl .fz (t.odds.map encI),.sl .fz (t.kids.map A5)] rfl rfl he.len (by omega) (by omega) to kt n cap (s) (v6:=_) (hs0:=by omega) (hs1:=by omega) (hc:=hkd2)
    ·rfl
    ·simp
    ·simp
    ·simp_all
    ·simp;rfl
    ·simp
   rintro ex ⟨tm,df,clk⟩ σ' ⟨rfl,rfl,hdf,g2,g3,g6,v,hB,g8⟩;simp only at hdf g2 g3 g6 g8;subst hdf;rw [hnd];generalize (B7 to t.kids (s)).1=L at hB ⊢;generalize (B7 to t.kids (s)).2=z at g2 ⊢;rcases hB with _|_
   ·simp [g2,g3,g6,g8,A0 (.mk _ _ _ _ _ _)];exact ⟨rfl,rfl,rfl,rfl,rfl,rfl,rfl,rfl⟩
   ·simp [g2,g3,g6,g8,A0 (.mk _ _ _ _ _ _)];exact ⟨rfl,rfl,rfl,rfl,rfl,rfl,rfl,rfl⟩
  by_cases k12:t.kind=12
  ·have e1:A62 to t s=s:=by unfold A62;rw [if_pos k12]
   have e2:A0h t s=s+1:=by unfold A0h;rw [if_pos k12]
   rw [e1,e2] at hnd;have hw:IntKind.i64.wrap (s+1)=s+1:=by rw [G2]<;>omega
   have hkd2:=hkd;refine A3 h50 ?_;simp [A5n,A0 t,k12,hw];apply H8
   ·apply A7Z t.kids [.int .i64 t.kind,.int .i64 (s),.int .i64 t.m,.int .i64 t.val.kind,.int .i64 t.val.n,.sl .fz (t.val.list.map E1),.sl .fz (t.odds.map encI),.sl .fz (t.kids.map A5)] rfl rfl he.len (by omega) (by omega) to kt n cap (s+1) (v6:=_) (hs0:=by omega) (hs1:=by omega) (hc:=hkd2)
    ·rfl
    ·simp
    ·simp
    ·simp [k12,hw]
    ·simp;rfl
    ·simp
   rintro ex ⟨tm,df,clk⟩ σ' ⟨rfl,rfl,hdf,g2,g3,g6,v,hB,g8⟩;simp only at hdf g2 g3 g6 g8;subst hdf;rw [hnd];generalize (B7 to t.kids (s+1)).1=L at hB ⊢;generalize (B7 to t.kids (s+1)).2=z at g2 ⊢;rcases hB with _|_
   ·simp [g2,g3,g6,g8,A0 (.mk _ _ _ _ _ _)];exact ⟨rfl,rfl,rfl,rfl,rfl,rfl,rfl,rfl⟩
   ·simp [g2,g3,g6,g8,A0 (.mk _ _ _ _ _ _)];exact ⟨rfl,rfl,rfl,rfl,rfl,rfl,rfl,rfl⟩
  ·have e1:A62 to t s=t.n:=by unfold A62;rw [if_neg k12,if_neg k3]
   have e2:A0h t s=s:=by unfold A0h;rw [if_neg k12]
   rw [e1,e2] at hnd;have hkd2:=hkd;refine A3 h50 ?_;simp [A5n,A0 t,k3,k12];apply H8
   ·apply A7Z t.kids [.int .i64 t.kind,.int .i64 (t.n),.int .i64 t.m,.int .i64 t.val.kind,.int .i64 t.val.n,.sl .fz (t.val.list.map E1),.sl .fz (t.odds.map encI),.sl .fz (t.kids.map A5)] rfl rfl he.len (by omega) (by omega) to kt n cap (s) (v6:=_) (hs0:=by omega) (hs1:=by omega) (hc:=hkd2)
    ·rfl
    ·simp
    ·simp
    ·simp [k3,k12]
    ·simp;rfl
    ·simp
   rintro ex ⟨tm,df,clk⟩ σ' ⟨rfl,rfl,hdf,g2,g3,g6,v,hB,g8⟩;simp only at hdf g2 g3 g6 g8;subst hdf;rw [hnd];generalize (B7 to t.kids (s)).1=L at hB ⊢;generalize (B7 to t.kids (s)).2=z at g2 ⊢;rcases hB with _|_
   ·simp [g2,g3,g6,g8,A0 (.mk _ _ _ _ _ _)];exact ⟨rfl,rfl,rfl,rfl,rfl,rfl,rfl,rfl⟩
   ·simp [g2,g3,g6,g8,A0 (.mk _ _ _ _ _ _)];exact ⟨rfl,rfl,rfl,rfl,rfl,rfl,rfl,rfl⟩
theorem B6M (x:PBody):(F5 x).length=10:=by rw [C9];rfl
theorem B94 (b:Nat) (x:PBody):below.belows b (F5 x)=true:=by
 have:=A7K b _ x.term (Nat.le_refl _);rw [F5]
 simpa [below.belows,below] using this
theorem B4k (b:Nat) (l:List PBody):below.belowss b (l.map F5)=true:=V9 b F5 (B94 b) l
theorem A80 (b:Nat) (l:List PTyp):below.belowss b (l.map H5)=true:=V9 b H5 (B3S b).1 l
theorem B4l (b:Nat) (l:List Bool):below.belowss b (l.map X3)=true:=V9 b X3 (A7u b) l
theorem A1B (x:PTyp):(H5 x).length=2:=by rw [G5];rfl
attribute [simp] B6M B4k A80 B4l A1B
def slB (b:PBody):PBody:=⟨b.params,b.slots,lessT b.term⟩
def slC (c:PCore):PCore:=⟨c.types,c.funs.map slB,slB c.query,c.sites⟩
variable {F:FuncId->Option TFun} {O:FuncId->List TV->Option TV}
def B4m:XCode:=(by exact fun x _=>x:V0 (gT x1047.body [1,1,1,0])) _ (by conv=>lhs;cbv)
theorem B6N:x1047=(by exact fun x _=>x:V1 (fun a=>({x1047 with body:=pT (x1047.body) [1,1,1,0] a}:XFun))) _ (by intros;conv=>lhs;cbv) B4m:=rfl
theorem B95 {N b:Nat} (h41:F 41=some f1041) (L:LFits F O) (c:PCore) (hc:OkC c) (hfl:c.funs.length<=1000000) (hN:c.funs.length<N) (hz:∀f∈c.funs,5*E3 f.term+100100<=N/\cntT f.term<=3000)
  (a:TAct) (σ:Sto) (v2 t0:TV) (Q:List TV) (s3:Nat) (hQ:Q.length=11)
  (hdf:a.df=[]) (h1:a.tm.get 1=some (.bx 0 (L8 c) 40)) (h2:a.tm.get 2=some v2) (h3:a.tm.get 3=some (.bx s3 (t0::.sl .nl []::Q) 40)):
  Tw B50 b (A2 F O N) N (fun ex a' σ'=>ex=.normal/\σ'=σ/\a'.df=[]/\a'.tm.get 1=some (.bx 0 (L8 c) 40)/\a'.tm.get 2=some v2/\∃v,Bld 38 10 F5 (c.funs.map slB) v/\a'.tm.get 3=some (.bx s3 (t0::v::Q) 40)) [] (B9 B50 b (A2 F O N) N B4m a σ):=by
 obtain ⟨tm,df,clk⟩:=a;simp only at hdf h1 h2 h3;subst hdf;obtain ⟨q0,q1,q2,q3,q4,q5,q6,q7,q8,q9,q10,rfl⟩:∃a b c d e f g h i j k,Q=[a,b,c,d,e,f,g,h,i,j,k]:=by
  match Q,hQ with|[a,b,c,d,e,f,g,h,i,j,k],_=>exact ⟨a,b,c,d,e,f,g,h,i,j,k,rfl⟩
 have h1':=h1;rw [A8] at h1;simp [B4m,h1]
 obtain ⟨I,hI⟩:∃I:Nat->TAct->Sto->Prop,I=(fun j a' σ'=>a'.df=[]/\σ'=σ/\a'.tm.get 1=some (.bx 0 (L8 c) 40)/\a'.tm.get 2=some v2/\(∃v,Bld 38 10 F5 ((c.funs.take j).map slB) v/\a'.tm.get 3=some (.bx s3 [t0,v,q0,q1,q2,q3,q4,q5,q6,q7,q8,q9,q10] 40))/\
  a'.tm.get 9=some (.sl .fz (c.funs.map F5))/\a'.tm.get 10=some (.int .i64 c.funs.length)/\a'.tm.get 11=some (.int .i64 j)):=⟨_,rfl⟩
 obtain ⟨R,hR⟩:∃R:TEx->TAct->Sto->Prop,R=(fun ex a' σ'=>ex=.exit 0/\σ'=σ/\a'.df=[]/\a'.tm.get 1=some (.bx 0 (L8 c) 40)/\a'.tm.get 2=some v2/\∃v,Bld 38 10 F5 (c.funs.map slB) v/\a'.tm.get 3=some (.bx s3 [t0,v,q0,q1,q2,q3,q4,q5,q6,q7,q8,q9,q10] 40)):=⟨_,rfl⟩;refine B8 I c.funs.length R ?_ (by omega) ?_ ?_ ?_
 ·rw [hI];exact ⟨rfl,rfl,by simp [h1'],by simp [h2],⟨_,.nl,by simp [h3]⟩,by simp,by simp,by simp⟩
 ·rw [hI];rintro j ⟨tm,df,clk⟩ σ' hj ⟨rfl,rfl,h1,h2,⟨v,hB,h3⟩,h9,h10,h11⟩;rw [<-hI];simp only at h1 h2 h3 h9 h10 h11;have hw:=F9 hj hc.flen;have hmem:=List.getElem_mem hj;have hcc:=A7O (O:=O) h41 L (E3 c.funs[j].term) N c.funs[j].term b σ' (Nat.le_refl _) (hz _ hmem).1 (hc.funs _ hmem).term (hz _ hmem).2
  have hts:(c.funs.take (j+1)).map slB=(c.funs.take j).map slB++[slB c.funs[j]]:=by rw [M4 hj,List.map_append];rfl
  have hlt:((c.funs.take j).map slB).length<=1000000:=by rw [List.length_map,List.length_take];omega
  have hE:=C9 c.funs[j];have hE2:F5 (slB c.funs[j])=_:=C9 (slB c.funs[j]);simp only [slB] at hE2;have hE3:=A0 (lessT c.funs[j].term);rw [A0,hE3] at hcc;have hbb:slB c.funs[j]=⟨c.funs[j].params,c.funs[j].slots,lessT c.funs[j].term⟩:=rfl;rw [hbb] at hts;generalize lessT c.funs[j].term=y at hcc hts hE2 hE3;generalize (c.funs.take j).map slB=L at hB hts hlt;rcases hB with _|_
  ·simp [h1,h2,h3,h9,h10,h11,hj,hcc,hw,hE,hE2];rw [hI];dsimp only;rw [hts];exact ⟨rfl,rfl,by simp [h1],by simp [h2],⟨_,.own _,by simp [hE2]⟩,by simp [h9],by simp [h10],by simp⟩
  ·have hlen3:L.length<=1073741823:=by omega
   simp [h1,h2,h3,h9,h10,h11,hj,hcc,hw,hE,hE2,hlen3];rw [hI];dsimp only;rw [hts];exact ⟨rfl,rfl,by simp [h1],by simp [h2],⟨_,.own _,by simp [hE2]⟩,by simp [h9],by simp [h10],by simp⟩
 ·rw [hI];rintro ⟨tm,df,clk⟩ σ' ⟨rfl,rfl,h1,h2,⟨v,hB,h3⟩,h9,h10,h11⟩;rw [List.take_of_length_le (Nat.le_refl _)] at hB;simp [h10,h11];rw [hR];exact ⟨rfl,rfl,rfl,by simp [h1],by simp [h2],v,hB,by simp [h3]⟩
 ·rw [hR];rintro ex ⟨tm,df,clk⟩ σ' ⟨rfl,rfl,rfl,h1,h2,v,hB,h3⟩;simp;exact ⟨h1,h2,v,hB,h3⟩
theorem A81 (h47:F 47=some f1047) (h41:F 41=some f1041) (L:LFits F O) (c:PCore) (hc:OkC c) (hfl:c.funs.length<=1000000) (N b:Nat) (σ:Sto) (hN:c.funs.length<N) (hz:∀f∈c.funs,5*E3 f.term+100100<=N/\cntT f.term<=3000) (hzq:5*E3 c.query.term+100100<=N/\cntT c.query.term<=3000):
  A2 F O (N+1) b 47 [.agg (L8 c)] σ=some (.ret (.agg (L8 (slC c))),σ):=by
 have hcc:=A7O (O:=O) h41 L (E3 c.query.term) N c.query.term σ.length σ (Nat.le_refl _) hzq.1 hc.query.term hzq.2;have hE3:=A0 (lessT c.query.term);rw [A0,hE3] at hcc;refine A3 h47 ?_;simp [B6N,A8 c];apply H8
 ·apply B95 h41 L c hc hfl hN hz (v2:=_) (s3:=_) (t0:=.sl .fz (c.types.map H5)) (Q:=[.int .i64 c.query.params,.int .i64 c.query.slots,.int .i64 c.query.term.kind,.int .i64 c.query.term.n,.int .i64 c.query.term.m,.int .i64 c.query.term.val.kind,.int .i64 c.query.term.val.n,.sl .fz (c.query.term.val.list.map E1),.sl .fz (c.query.term.odds.map encI),.sl .fz (c.query.term.kids.map A5),.int .i64 c.sites]) (hQ:=rfl)
  ·rfl
  ·simp [A8 c]
  ·simp;rfl
  ·simp;rfl
 rintro ex ⟨tm,df,clk⟩ σ' ⟨rfl,rfl,hdf,g1,g2,v,hB,g3⟩;simp only at hdf g1 g2 g3;subst hdf;rw [A8] at g1;have hR:L8 (slC c)=_:=A8 (slC c);simp only [slC,slB] at hR;rw [show slC c=⟨c.types,c.funs.map slB,⟨c.query.params,c.query.slots,lessT c.query.term⟩,c.sites⟩ from rfl,hR];clear hR;generalize c.funs.map slB=L at hB;generalize lessT c.query.term=y at hcc hE3;rcases hB with _|_
 ·simp [g1,g2,g3,hcc]
 ·simp [g1,g2,g3,hcc]
inductive LtTy:PTyp->Prop
 |mk {t:PTyp}:t.list.length<=1000000->(∀x∈t.list,LtTy x)->LtTy t
theorem LtTy.len {t:PTyp}:LtTy t->t.list.length<=1000000
 |.mk h _=>h
theorem LtTy.sub {t:PTyp}:LtTy t->∀x∈t.list,LtTy x
 |.mk _ h=>h
theorem B0H:∀(n:Nat) (t:PTyp),E0 n (A38 t)=true->LtTy t
 |0,t,h=>by unfold E0 at h;cases h
 |n+1,t,h=>by
  have hk:(A38 t).kind=t.kind:=by cases t;rfl
  have hl:(A38 t).list=t.list.map A38:=by cases t;simp only [A38,QTyp.list,PTyp.list,A7y]
  unfold E0 at h;rw [hl,hk,List.length_map] at h
  by_cases h1:t.kind=1\/t.kind=2
  ·rw [if_pos h1,decide_eq_true_eq] at h;exact .mk (by omega) fun x hx=>by have:=List.length_pos_of_mem hx;omega
  rw [if_neg h1] at h
  by_cases h3:t.kind=3
  ·rw [if_pos h3,Bool.and_eq_true,decide_eq_true_eq] at h;exact .mk (by omega) fun x hx=>B0H n x (List.all_eq_true.1 h.2 _ (List.mem_map_of_mem hx))
  rw [if_neg h3] at h
  by_cases h4:t.kind=4
  ·rw [if_pos h4,Bool.and_eq_true,decide_eq_true_eq] at h;exact .mk (by omega) fun x hx=>B0H n x (List.all_eq_true.1 h.2 _ (List.mem_map_of_mem hx))
  rw [if_neg h4] at h;cases h
variable {F:FuncId->Option TFun} {O:FuncId->List TV->Option TV}
theorem A5o (h89:F 89=some f1089):∀(N:Nat) (l:List PTyp) (b:Nat) (σ:Sto),A0Z l+1<N->l.length<=1000000->(∀t∈l,OkT t/\LtTy t)->A2 F O N b 89 [.sl .fz (l.map H5)] σ=some (.ret (.sl .fz (l.map H5)),σ)
 |0,l,b,σ,h,_,_=>by omega
 |N+1,l,b,σ,h,hlen,hok=>by
  have ih:=A5o h89 N;have hk:=A0K l;refine A3 h89 ?_;simp [x1089];obtain ⟨I,hI⟩:∃I:Nat->TAct->Sto->Prop,I=(fun j a' σ'=>a'.df=[]/\σ'=σ/\(∃v,Bld 66 2 H5 (l.take j) v/\a'.tm.get 3=some v)/\a'.tm.get 6=some (.sl .fz (l.map H5))/\a'.tm.get 7=some (.int .i64 l.length)/\a'.tm.get 8=some (.int .i64 j)):=⟨_,rfl⟩
  obtain ⟨R,hR⟩:∃R:TEx->TAct->Sto->Prop,R=(fun ex a' σ'=>ex=.exit 0/\a'.df=[]/\σ'=σ/\∃v,Bld 66 2 H5 l v/\a'.tm.get 3=some v):=⟨_,rfl⟩;refine B8 I l.length R ?_ (by omega) ?_ ?_ ?_
  ·rw [hI];exact ⟨rfl,rfl,⟨_,.nl,by simp⟩,by simp,by simp,by simp⟩
  ·rw [hI];rintro j ⟨tm,df,clk⟩ σ' hj ⟨rfl,rfl,⟨v,hB,h3⟩,h6,h7,h8⟩;rw [<-hI];simp only at h3 h6 h7 h8;have hw:=F9 hj (by unfold maxLen;omega);have hmem:=List.getElem_mem hj;have hsz:=X4 _ _ hmem;have hsd:=X5 l[j];have hcc:=ih l[j].list σ'.length σ' (by omega) (hok _ hmem).2.len fun x hx=>⟨(hok _ hmem).1.sub x hx,(hok _ hmem).2.sub x hx⟩
   have hts:=M4 hj;have hlt:(l.take j).length<=1000000:=by rw [List.length_take];omega
   have hE:=G5 l[j];generalize l.take j=L at hB hts hlt;rcases hB with _|_
   ·simp [h3,h6,h7,h8,hj,hcc,hw,hE];rw [hI];exact ⟨rfl,rfl,⟨_,by rw [hts];exact .own _,by simp [hE]⟩,by simp [h6],by simp [h7],by simp⟩
   ·have hlen3:L.length<=1073741823:=by omega
    simp [h3,h6,h7,h8,hj,hcc,hw,hE,hlen3];rw [hI];exact ⟨rfl,rfl,⟨_,by rw [hts];exact .own _,by simp [hE]⟩,by simp [h6],by simp [h7],by simp⟩
  ·rw [hI];rintro ⟨tm,df,clk⟩ σ' ⟨rfl,rfl,⟨v,hB,h3⟩,h6,h7,h8⟩;rw [List.take_of_length_le (Nat.le_refl _)] at hB;simp [h7,h8];rw [hR];exact ⟨rfl,rfl,rfl,v,hB,by simp [h3]⟩
  ·rw [hR];rintro ex ⟨tm,df,clk⟩ σ' ⟨rfl,rfl,rfl,v,hB,h3⟩;rcases hB with _|_
   ·simp [h3]
   ·simp [h3]
theorem A82 (h90:F 90=some f1090) (h40:F 40=some f1040) (h80:F 80=some f1080) (h111:F 111=some f1111) (h81:F 81=some f67) (N:Nat) (d:PBody) (b:Nat) (σ:Sto) (h:E3 d.term<=N) (hd:OkTm d.term) (hc:cntT d.term<=1000000) (hl:Lt 1000000 d.term):
  A2 F O (N+1) b 90 [.agg (F5 d)] σ=some (.ret (.agg (F5 d)),σ):=by
 have h1:=B5g (O:=O) h40 h80 h111 h81 N d.term σ.length σ h hd hc hl;rw [A0] at h1;refine A3 h90 ?_;simp [x1090,C9,h1]
def A83:XCode:=(by exact fun x _=>x:V0 (gT x1051.body [1,1,0])) _ (by conv=>lhs;cbv)
theorem A9L:x1051=(by exact fun x _=>x:V1 (fun a=>({x1051 with body:=pT (x1051.body) [1,1,0] a}:XFun))) _ (by intros;conv=>lhs;cbv) A83:=rfl
theorem B96 {N b:Nat} (c:PCore) (hc:OkC c) (hfl:c.funs.length<=1000000) (hN:c.funs.length<N) (hz:∀f∈c.funs,∀b σ,A2 F O N b 90 [.agg (F5 f)] σ=some (.ret (.agg (F5 f)),σ))
  (a:TAct) (σ:Sto) (v2 t0:TV) (Q:List TV) (s3:Nat) (hQ:Q.length=11)
  (hdf:a.df=[]) (h1:a.tm.get 1=some (.bx 0 (L8 c) 40)) (h2:a.tm.get 2=some v2) (h3:a.tm.get 3=some (.bx s3 (t0::.sl .nl []::Q) 40)):
  Tw A9l b (A2 F O N) N (fun ex a' σ'=>ex=.normal/\σ'=σ/\a'.df=[]/\a'.tm.get 2=some v2/\∃v,Bld 38 10 F5 c.funs v/\a'.tm.get 3=some (.bx s3 (t0::v::Q) 40)) [] (B9 A9l b (A2 F O N) N A83 a σ):=by
 obtain ⟨tm,df,clk⟩:=a;simp only at hdf h1 h2 h3;subst hdf;obtain ⟨q0,q1,q2,q3,q4,q5,q6,q7,q8,q9,q10,rfl⟩:∃a b c d e f g h i j k,Q=[a,b,c,d,e,f,g,h,i,j,k]:=by
  match Q,hQ with|[a,b,c,d,e,f,g,h,i,j,k],_=>exact ⟨a,b,c,d,e,f,g,h,i,j,k,rfl⟩
 have h1':=h1;rw [A8] at h1;simp [A83,h1]
 obtain ⟨I,hI⟩:∃I:Nat->TAct->Sto->Prop,I=(fun j a' σ'=>a'.df=[]/\σ'=σ/\a'.tm.get 2=some v2/\(∃v,Bld 38 10 F5 (c.funs.take j) v/\a'.tm.get 3=some (.bx s3 [t0,v,q0,q1,q2,q3,q4,q5,q6,q7,q8,q9,q10] 40))/\
  a'.tm.get 16=some (.sl .fz (c.funs.map F5))/\a'.tm.get 17=some (.int .i64 c.funs.length)/\a'.tm.get 18=some (.int .i64 j)):=⟨_,rfl⟩
 obtain ⟨R,hR⟩:∃R:TEx->TAct->Sto->Prop,R=(fun ex a' σ'=>ex=.exit 0/\σ'=σ/\a'.df=[]/\a'.tm.get 2=some v2/\∃v,Bld 38 10 F5 c.funs v/\a'.tm.get 3=some (.bx s3 [t0,v,q0,q1,q2,q3,q4,q5,q6,q7,q8,q9,q10] 40)):=⟨_,rfl⟩;refine B8 I c.funs.length R ?_ (by omega) ?_ ?_ ?_
 ·rw [hI];exact ⟨rfl,rfl,by simp [h2],⟨_,.nl,by simp [h3]⟩,by simp,by simp,by simp⟩
 ·rw [hI];rintro j ⟨tm,df,clk⟩ σ' hj ⟨rfl,rfl,h2,⟨v,hB,h3⟩,h9,h10,h11⟩;rw [<-hI];simp only at h2 h3 h9 h10 h11;have hw:=F9 hj hc.flen;have hmem:=List.getElem_mem hj;have hcc:=hz _ hmem b σ';have hts:=M4 hj;have hlt:(c.funs.take j).length<=1000000:=by rw [List.length_take];omega
  have hE:=C9 c.funs[j];rw [hE] at hcc;generalize c.funs.take j=L at hB hts hlt;rcases hB with _|_
  ·simp [h2,h3,h9,h10,h11,hj,hcc,hw,hE];rw [hI];dsimp only;rw [hts];exact ⟨rfl,rfl,by simp [h2],⟨_,.own _,by simp [hE]⟩,by simp [h9],by simp [h10],by simp⟩
  ·have hlen3:L.length<=1073741823:=by omega
   simp [h2,h3,h9,h10,h11,hj,hcc,hw,hE,hlen3];rw [hI];dsimp only;rw [hts];exact ⟨rfl,rfl,by simp [h2],⟨_,.own _,by simp [hE]⟩,by simp [h9],by simp [h10],by simp⟩
 ·rw [hI];rintro ⟨tm,df,clk⟩ σ' ⟨rfl,rfl,h2,⟨v,hB,h3⟩,h9,h10,h11⟩;rw [List.take_of_length_le (Nat.le_refl _)] at hB;simp [h10,h11];rw [hR];exact ⟨rfl,rfl,rfl,by simp [h2],v,hB,by simp [h3]⟩
 ·rw [hR];rintro ex ⟨tm,df,clk⟩ σ' ⟨rfl,rfl,rfl,h2,v,hB,h3⟩;simp;exact ⟨h2,v,hB,h3⟩
structure OFits (F:FuncId->Option TFun):Prop where
 h51:F 51=some f1051
 h89:F 89=some f1089
 h90:F 90=some f1090
 h40:F 40=some f1040
 h80:F 80=some f1080
 h111:F 111=some f1111
 h81:F 81=some f67
theorem B97 (V:OFits F) (c:PCore) (hc:OkC c) (hfl:c.funs.length<=1000000) (htl:c.types.length<=1000000) (hty:∀t∈c.types,LtTy t) (N b:Nat) (σ:Sto) (hN:c.funs.length<N) (hzt:A0Z c.types+1<N) (hz:∀f∈c.funs,E3 f.term<N/\cntT f.term<=1000000/\Lt 1000000 f.term) (hzq:E3 c.query.term<N/\cntT c.query.term<=1000000/\Lt 1000000 c.query.term):
  A2 F O (N+1) b 51 [.agg (L8 c)] σ=some (.ret (.agg (L8 c)),σ):=by
 obtain ⟨N,rfl⟩:∃n,N=n+1:=⟨N - 1,by omega⟩;have hq:=A82 (O:=O) V.h90 V.h40 V.h80 V.h111 V.h81 N c.query σ.length σ (by omega) hc.query.term hzq.2.1 hzq.2.2;have ht:=A5o (O:=O) V.h89 (N+1) c.types σ.length σ hzt htl fun t h=>⟨hc.types t h,hty t h⟩
 rw [C9] at hq;refine A3 V.h51 ?_;simp [A9L,A8 c,hq,ht];apply H8
 ·apply B96 c hc hfl hN (fun f hf b σ=>A82 V.h90 V.h40 V.h80 V.h111 V.h81 N f b σ (by have:=hz f hf;omega) (hc.funs f hf).term (hz f hf).2.1 (hz f hf).2.2) (v2:=_) (s3:=_) (t0:=.sl .fz (c.types.map H5)) (Q:=[.int .i64 c.query.params,.int .i64 c.query.slots,.int .i64 c.query.term.kind,.int .i64 c.query.term.n,.int .i64 c.query.term.m,.int .i64 c.query.term.val.kind,.int .i64 c.query.term.val.n,.sl .fz (c.query.term.val.list.map E1),.sl .fz (c.query.term.odds.map encI),.sl .fz (c.query.term.kids.map A5),.int .i64 c.sites]) (hQ:=rfl)
  ·rfl
  ·simp [A8 c]
  ·simp;rfl
  ·simp;rfl
 rintro ex ⟨tm,df,clk⟩ σ' ⟨rfl,rfl,hdf,g2,v,hB,g3⟩;simp only at hdf g2 g3;subst hdf;generalize c.funs=L at hB ⊢;rcases hB with _|_
 ·simp [g2,g3]
 ·simp [g2,g3]
end
section
open Go Go.Xe Go.Xt
variable {F:FuncId->Option TFun} {O:FuncId->List TV->Option TV}
def A64 (B n j:Nat):List TV:=(List.range j).map fun i=>.ref (B+2*i) 0 1 n n
structure RowsK (σ:Sto) (n:Nat) (M:List (List Bool)) (σ':Sto):Prop where
 take:σ'.take σ.length=σ
 len:σ'.length=σ.length+2*n
 rows:∀(i:Nat) (r:List Bool),M[i]? =some r->∃ver,σ'.at (σ.length+2*i)=some ⟨ver,.cells (bcells r) 4⟩
 out:∃vo,σ'.at (σ.length+2*n - 1)=some ⟨vo,.cells (A64 σ.length n n) 62⟩
theorem RowsK.set {σ σ':Sto} {n:Nat} {M:List (List Bool)} (h:RowsK σ n M σ') (hM:Sq n M) {i:Nat} (hi:i<n) (r:List Bool) (ver:Nat):RowsK σ n (M.set i r) (σ'.set (σ.length+2*i) (some ⟨ver,.cells (bcells r) 4⟩)):=by
 refine ⟨by rw [A0d (by omega)];exact h.take,by rw [List.length_set];exact h.len,fun j q hj=> ?_,?_⟩
 ·by_cases e:i=j
  ·subst e;rw [List.getElem?_set_self (by rw [hM.1];exact hi)] at hj;cases hj;have:σ.length+2*i<σ'.length:=by have:=h.len;omega
   simp_all [Sto.at]
  ·rw [List.getElem?_set_ne e] at hj;obtain ⟨v,hv⟩:=h.rows j q hj;grind [A28]
 ·obtain ⟨vo,hv⟩:=h.out;grind [A28]
end
section
open Go Go.Xe Go.Xt
def K1 (l:List Bool):List Int:=(List.range l.length).map fun i=>((l.take i).count true:Int)
theorem A20 (l:List Bool):(K1 l).length=l.length:=by simp [K1]
def A9 (to:List Int):List Bool->List PBody->Int->List PBody×Int
 |true::l,f::fs,s=>(⟨f.params,f.slots,(D2 to f.term s).1⟩::(A9 to l fs (D2 to f.term s).2).1,(A9 to l fs (D2 to f.term s).2).2)
 |false::l,_::fs,s=>A9 to l fs s
 |_,_,s=>([],s)
def I6 (c:PCore) (l:List Bool):PCore:=⟨c.types,(A9 (K1 l) l c.funs 0).1,⟨c.query.params,c.query.slots,(D2 (K1 l) c.query.term (A9 (K1 l) l c.funs 0).2).1⟩,(D2 (K1 l) c.query.term (A9 (K1 l) l c.funs 0).2).2⟩
theorem A84 (to:List Int):∀(a:List Bool) (fa:List PBody) (s:Int) (x:Bool) (f:PBody),a.length=fa.length->
  A9 to (a++[x]) (fa++[f]) s=if x=true then ((A9 to a fa s).1++[⟨f.params,f.slots,(D2 to f.term (A9 to a fa s).2).1⟩],(D2 to f.term (A9 to a fa s).2).2) else A9 to a fa s
 |[],[],s,x,f,_=>by cases x<;>simp [A9]
 |b::a,g::fa,s,x,f,h=>by
  have ih:=A84 to a fa;cases b with
  |true=>
   grind [A9]
  |false=>
   grind [A9]
 |[],_::_,s,x,f,h=>by simp at h
 |_::_,[],s,x,f,h=>by simp at h
def cntFs:List PBody->Nat
 |[]=>0
 |f::l=>cntT f.term+cntFs l
theorem B4n {l:List PBody} {j:Nat} (hj:j<l.length):cntFs (l.take j)+cntT l[j].term<=cntFs l:=by
 induction l generalizing j with
 |nil=>simp at hj
 |cons x l ih=>
  cases j with
  |zero=>simp [cntFs]
  |succ j=>grind [cntFs]
theorem R4 (to:List Int):∀(l:List Bool) (fs:List PBody) (s:Int),s<=(A9 to l fs s).2/\(A9 to l fs s).2<=s+cntFs fs
 |true::l,f::fs,s=>by
  have h1:=P7 to _ f.term s (Nat.le_refl _);have h2:=R4 to l fs (D2 to f.term s).2;grind [A9,cntFs]
 |false::l,f::fs,s=>by
  have h2:=R4 to l fs s;grind [A9,cntFs]
 |[],fs,s=>by cases fs<;>simp [A9]<;>omega
 |true::_,[],s=>by simp [A9,cntFs]
 |false::_,[],s=>by simp [A9,cntFs]
theorem A0D (to:List Int):∀(l:List Bool) (fs:List PBody) (s:Int),(A9 to l fs s).1.length<=fs.length
 |true::l,f::fs,s=>by have:=A0D to l fs (D2 to f.term s).2;simp only [A9,List.length_cons];omega
 |false::l,f::fs,s=>by have:=A0D to l fs s;simp only [A9,List.length_cons];omega
 |[],fs,s=>by cases fs<;>simp [A9]
 |true::_,[],s=>by simp [A9]
 |false::_,[],s=>by simp [A9]
variable {F:FuncId->Option TFun} {O:FuncId->List TV->Option TV}
theorem B5u (l:List Bool) {j:Nat} (hj:j<l.length):(K1 l)[j]'(by rw [A20];exact hj)=((l.take j).count true:Int):=by simp [K1]
theorem B4o (to:List Int) {l:List Bool} {fs:List PBody} {j:Nat} (s:Int) (hj:j<fs.length) (hl:l.length=fs.length):A9 to (l.take (j+1)) (fs.take (j+1)) s=if l[j]'(by omega)=true then ((A9 to (l.take j) (fs.take j) s).1++[⟨fs[j].params,fs[j].slots,(D2 to fs[j].term (A9 to (l.take j) (fs.take j) s).2).1⟩],(D2 to fs[j].term (A9 to (l.take j) (fs.take j) s).2).2) else A9 to (l.take j) (fs.take j) s:=by
 grind [M4,A84]
end
section
open Go Go.Xe Go.Xt
variable {F:FuncId->Option TFun} {O:FuncId->List TV->Option TV}
structure RowsJ (σ:Sto) (n:Nat) (M:List (List Bool)) (j:Nat) (v4:Option TV) (σ':Sto):Prop where
 take:σ'.take σ.length=σ
 len:σ'.length=σ.length+2*j
 rows:∀(i:Nat) (r:List Bool),i<j->M[i]? =some r->∃ver,σ'.at (σ.length+2*i)=some ⟨ver,.cells (bcells r) 4⟩
 out:j=0/\v4=some (.sl .nl [])\/0<j/\∃vo,v4=some (.ref (σ.length+2*j - 1) 0 1 j (C4+1))/\σ'.at (σ.length+2*j - 1)=some ⟨vo,.cells (A64 σ.length n j) 62⟩
theorem B4p (B n j:Nat):A64 B n (j+1)=A64 B n j++[.ref (B+2*j) 0 1 n n]:=by
 unfold A64;rw [List.range_succ,List.map_append];rfl
theorem RowsJ.next {σ σ' τ:Sto} {n j vr:Nat} {M:List (List Bool)} {v4:Option TV} {rw0:List Bool} (h:RowsJ σ n M j v4 σ') (hrow:∀r,M[j]? =some r->r=rw0) (hτ:τ.length=σ'.length+1) (hpre:τ.take σ.length=σ) (hold:∀i,i<j->τ.at (σ.length+2*i)=σ'.at (σ.length+2*i)) (hnew:τ.at σ'.length=some ⟨vr,.cells (bcells rw0) 4⟩):
  RowsJ σ n M (j+1) (some (.ref (σ'.length+1) 0 1 (j+1) (C4+1))) (τ++[some ⟨0,.cells (A64 σ.length n j++[.ref σ'.length 0 1 n n]) 62⟩]):=by
 have hl:=h.len;have e:A64 σ.length n j++[.ref σ'.length 0 1 n n]=A64 σ.length n (j+1):=by rw [B4p,hl]
 rw [e];refine ⟨by rw [List.take_append_of_le_length (by omega)];exact hpre,by simp;omega,fun i r hi hr=> ?_,.inr ⟨by omega,0,by rw [hl];congr 2,?_⟩⟩
 ·rw [A6p _ (by omega)]
  by_cases hij:i<j
  ·rw [hold i hij];exact h.rows i r hij hr
  ·obtain rfl:i=j:=by omega
   rw [<-hl,hnew,hrow r hr];exact ⟨_,rfl⟩
 ·rw [show σ.length+2*(j+1) - 1=τ.length by omega];simp [Sto.at]
structure InvO (c:PCore) (l:List Bool) (i:Nat):Prop where
 base:LeB (A11 c c.query.term) l
 sound:∀j:Nat,l[j]? =some true->ReachC c j
 done:∀a k:Nat,a<i->k<c.funs.length->(A11 c c.query.term)[k]? =some true->J5 (B4c c) k a=true->l[a]? =some true
theorem InvO.len {c:PCore} {l:List Bool} {i:Nat} (h:InvO c l i):l.length=c.funs.length:=by rw [<-h.base.1,A0W]
theorem B2M {c:PCore} {k i:Nat} (h:ReachC c k) (e:J5 (B4c c) k i=true):ReachC c i:=
 B4f h ((B4d (B6K c) k i).1 e)
theorem InvO.set {c:PCore} {l:List Bool} {i a k:Nat} (h:InvO c l i) (hk:l[k]? =some true) (e:J5 (B4c c) k a=true):InvO c (l.set a true) i:=
 ⟨h.base.trans (LeB.set _ _),fun j hj=>by
  by_cases ej:a=j
  ·subst ej;exact B2M (h.sound k hk) e
  ·rw [List.getElem?_set_ne ej] at hj;exact h.sound j hj,
  fun a' k' ha hk' hb hn=>(LeB.set l a).2 a' (h.done a' k' ha hk' hb hn)⟩
def f1049v:TFun:=⟨x1049,B51,false,true⟩
@[simp] theorem C4u:f1049v.an=B51:=rfl
@[simp] theorem C15:f1049v.fn.body=x1049.body:=rfl
@[simp] theorem C16:f1049v.keep=false:=rfl
@[simp] theorem C2P:f1049v.fn.results=[.tmp 2]:=rfl
theorem B5v:∀l:List PTyp,A2b 2 l.length (l.map H5).flatten=l.map H5
 |[]=>rfl
 |t::l=>by
  simp only [List.length_cons,A2b,List.map_cons,List.flatten_cons];rw [List.take_append_of_le_length (by rw [A1B];omega),List.take_of_length_le (by rw [A1B];omega),List.drop_append_of_le_length (by rw [A1B];omega),List.drop_of_length_le (by rw [A1B];omega),List.nil_append,B5v l]
theorem A65 (l:List PTyp):(l.map H5).flatten.length=l.length*2:=by
 induction l with
 |nil=>rfl
 |cons t l ih=>simp only [List.map_cons,List.flatten_cons,List.length_append,A1B,List.length_cons,ih];omega
theorem B2N (l:List PTyp):(l.map H5).flatten.any C0=false:=by
 rw [List.any_eq_false];intro x hx;obtain ⟨c,hc,hx⟩:=List.mem_flatten.1 hx;obtain ⟨t,_,rfl⟩:=List.mem_map.1 hc;rw [G5] at hx;simp only [List.mem_cons,List.not_mem_nil,or_false] at hx;rcases hx with rfl|rfl<;>simp [C0]
theorem C0m {σ2:Sto} {k0 j ver e:Nat} (n c:Nat) (l:List PTyp) (hj:k0<=j) (hk:σ2.at j=some ⟨ver,.cells (l.map H5).flatten e⟩) (hc:c=C4+2):A07 σ2 k0 (n+1) (.ref j 0 2 l.length c)=.sl .fz (l.map H5):=by
 have h3:(l.map H5).map (fun ch=>ch.map (A07 σ2 k0 n))=l.map H5:=by
  rw [List.map_map];apply List.map_congr_left;intro x _;simp only [Function.comp,G5,List.map_cons,List.map_nil];cases n<;>rfl
 have hb:Nat.ble k0 j=true:=by rw [C3];exact decide_eq_true hj
 unfold A07;rw [hb,hk];have hle:(Nat.ble (0+l.length*2) (l.map H5).flatten.length&& !(((l.map H5).flatten.drop 0).take (l.length*2)).any C0&&(Nat.blt c C4||Nat.beq c (C4+2)))=true:=by
  rw [List.drop_zero,List.take_of_length_le (by rw [A65];omega),B2N,hc,A65];simp
 dsimp only;rw [hle];simp only [List.drop_zero,B5v,h3]
theorem A9M (h49:F 49=some f1049v) (N b:Nat) (l:List PTyp) (σ:Sto) (hl:l.length<=1000000):A2 F O (N+1) b 49 [.sl .fz (l.map H5)] σ=some (.ret (.sl .fz (l.map H5)),σ):=by
 cases l with
 |nil=>simp [A2,h49,B60,f1049v]
 |cons t l=>
  generalize hL:t::l=L at hl;have hne:L≠[]:=by rw [<-hL];simp
  refine A3 h49 ?_ (by rw [<-hL];rfl);have hp:=H9 σ ⟨0,.cells [] 66⟩;have h2:(L.map H5).isEmpty=false:=by cases L<;>simp_all
  have h3:((L.map H5).all fun c=>decide (c.length=2))=true:=by
   rw [List.all_eq_true];intro c hc;obtain ⟨q,_,rfl⟩:=List.mem_map.1 hc;simp
  have h4:0<L.length:=by cases L<;>simp_all
  have h5:L.length<=1073741824:=by omega
  have hat:Sto.at (σ++[some (⟨0,.cells [] 66⟩:TObj),some ⟨0,.cells (L.map H5).flatten 66⟩]) (σ.length+1)=some ⟨0,.cells (L.map H5).flatten 66⟩:=by simp [Sto.at]
  have hth:=C0m (k0:=σ.length) 3 (C4+2) L (by omega) hat rfl;have hbl:=A80 σ.length L;generalize hE:L.map H5=E at*;have hEl:E.length=L.length:=by rw [<-hE];simp
  obtain ⟨e0,es,rfl⟩:∃e0 es,E=e0::es:=by
   cases E with
   |nil=>simp at h2
   |cons a b=>exact ⟨a,b,rfl⟩
  have hEl2:es.length+1=L.length:=by simpa using hEl
  rw [List.flatten_cons] at hth;have hbl2:below σ.length (.sl .fz (e0::es))=true:=by simpa [below] using hbl
  simp [x1049,h2,h3,h4,h5,hp,hEl,hEl2,-A07,hth,-below,hbl2]
end
end Go.Xe.YtlgknghehgmodaaGreatDoor
