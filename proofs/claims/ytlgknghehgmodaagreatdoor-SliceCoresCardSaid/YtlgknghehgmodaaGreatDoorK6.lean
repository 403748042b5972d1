/-
  A part of the proof: it is imported by YtlgknghehgmodaaGreatDoorTop. Nothing here is a claim of its own.
-/
import Derived.Test.YtlgknghehgmodaaGreatDoorK5
set_option linter.unusedVariables false
set_option linter.unusedSimpArgs false
set_option linter.unusedSectionVars false
set_option maxRecDepth 100000
namespace Go.Xe.YtlgknghehgmodaaGreatDoor
section
open Go Go.Xe Go.Xt
variable {F:FuncId->Option TFun} {O:FuncId->List TV->Option TV}
inductive Bld {α:Type} (e s:Nat) (f:α->List TV):List α->TV->Prop
 |nl:Bld e s f [] (.sl .nl [])
 |own (l:List α):Bld e s f l (.sl (.own e s) (l.map f))
theorem B5R (b:Nat):∀(n:Nat) (v:PVal),szV v<=n->below.belows b (C9 v)=true
 |0,v,h=>by rw [D6] at h;omega
 |n+1,v,h=>by
  rw [D6] at h;have h2:∀l:List PVal,(∀x∈l,szV x<=n)->below.belowss b (l.map C9)=true:=by
   intro l
   induction l with
   |nil=>intro _;rfl
   |cons x l ih=>
    intro hx;simp only [List.map_cons,below.belowss,Bool.and_eq_true];exact ⟨B5R b n x (hx x (by simp)),ih fun y hy=>hx y (by simp [hy])⟩
  have h3:=h2 v.list fun x hx=>by have:=G9 _ _ hx;omega
  rw [A2];simp [below.belows,below,h3]
theorem B0e (b:Nat) (l:List PVal):below.belowss b (l.map C9)=true:=V5 b C9 (fun v=>B5R b _ v (Nat.le_refl _)) l
theorem A8f (b:Nat):∀(n:Nat) (t:PTerm),E3 t<=n->below.belows b (A5 t)=true
 |0,v,h=>by rw [B5] at h;omega
 |n+1,t,h=>by
  rw [B5] at h;have h2:∀l:List PTerm,(∀x∈l,E3 x<=n)->below.belowss b (l.map A5)=true:=by
   intro l
   induction l with
   |nil=>intro _;rfl
   |cons x l ih=>
    intro hx;simp only [List.map_cons,below.belowss,Bool.and_eq_true];exact ⟨A8f b n x (hx x (by simp)),ih fun y hy=>hx y (by simp [hy])⟩
  have h3:=h2 t.kids fun x hx=>by have:=D9 _ _ hx;omega
  rw [A0];simp [below.belows,below,h3,B0e]
theorem B4L (b:Nat) (l:List PTerm):below.belowss b (l.map A5)=true:=V5 b A5 (fun v=>A8f b _ v (Nat.le_refl _)) l
theorem B9l (v:PVal):(C9 v).length=3:=by rw [A2];rfl
theorem B79 (v:PTerm):(A5 v).length=8:=by rw [A0];rfl
attribute [simp] B9l B79 B0e B4L
theorem H9 {α:Type} {l:List α} {j:Nat} (hj:j<l.length):l.take (j+1)=l.take j++[l[j]]:=by
 rw [List.take_add_one,List.getElem?_eq_getElem hj];rfl
theorem C1d (h111:F 111=some f1111) (N:Nat) (l:List PVal) (b:Nat) (σ:Sto) (hl:l.length<=1000000) (hn:l.length<N) (hc:∀x∈l,∀b,A4 F O N b 80 [.agg (C9 x)] σ=some (.ret (.agg (C9 x)),σ)):
  A4 F O (N+1) b 111 [.sl .fz (l.map C9)] σ=some (.ret (.sl .fz (l.map C9)),σ):=by
 refine A3 h111 ?_;simp [x1111];obtain ⟨I,hI⟩:∃I:Nat->TAct->Sto->Prop,I=(fun j a σ'=>a.df=[]/\σ'=σ/\∃v,Bld 24 3 C9 (l.take j) v/\a.tm.get 3=some v/\a.tm.get 6=some (.sl .fz (l.map C9))/\a.tm.get 7=some (.int .i64 (l.length:Int))/\a.tm.get 8=some (.int .i64 j)):=⟨_,rfl⟩;obtain ⟨R,hR⟩:∃R:TEx->TAct->Sto->Prop,R=(fun ex a σ'=>ex=.exit 0/\a.df=[]/\σ'=σ/\∃v,Bld 24 3 C9 l v/\a.tm.get 3=some v):=⟨_,rfl⟩
 refine A9 I l.length R ?_ (by omega) ?_ ?_ ?_
 ·rw [hI];exact ⟨rfl,rfl,_,.nl,by simp,by simp,by simp,by simp⟩
 ·rw [hI];rintro j ⟨tm,df,clk⟩ σ' hj ⟨rfl,rfl,v,hB,h3,h6,h7,h8⟩;rw [<-hI];have hw:=C8 hj (by unfold maxLen;omega);have hcc:=hc l[j] (List.getElem_mem hj) σ'.length;have hts:=H9 hj;have hlt:(l.take j).length<=1000000:=by rw [List.length_take];omega
  have hE:C9 l[j]=[.int .i64 l[j].kind,.int .i64 l[j].n,.sl .fz (l[j].list.map C9)]:=A2 _;rw [hE] at hcc;generalize l.take j=L at hB hts hlt;rcases hB with _|_
  ·simp [h3,h6,h7,h8,hj,hcc,hw,hE];rw [hI];exact ⟨rfl,rfl,_,by rw [hts];exact .own _,by simp [hE],by simp [h6],by simp [h7],by simp⟩
  ·have hlen3:L.length<=1073741823:=by omega
   simp [h3,h6,h7,h8,hj,hcc,hw,hE,hlen3];rw [hI];exact ⟨rfl,rfl,_,by rw [hts];exact .own _,by simp [hE],by simp [h6],by simp [h7],by simp⟩
 ·rw [hI];rintro ⟨tm,df,clk⟩ σ' ⟨rfl,rfl,v,hB,h3,h6,h7,h8⟩;rw [List.take_of_length_le (Nat.le_refl _)] at hB;simp [h3,h6,h7,h8];rw [hR];exact ⟨rfl,rfl,rfl,v,hB,by simp [h3]⟩
 ·rw [hR];rintro ex ⟨tm,df,clk⟩ σ' ⟨rfl,rfl,rfl,v,hB,h3⟩;rcases hB with _|_
  ·simp [h3]
  ·simp [h3]
theorem B9m (h80:F 80=some f1080) (h111:F 111=some f1111):∀(N:Nat) (v:PVal) (b:Nat) (σ:Sto),szV v<=N->cntV v<=1000000->A4 F O N b 80 [.agg (C9 v)] σ=some (.ret (.agg (C9 v)),σ)
 |0,v,b,σ,h,_=>by rw [D6] at h;omega
 |1,v,b,σ,h,_=>by rw [D6] at h;omega
 |N+2,v,b,σ,h,hc=>by
  have ih:=B9m h80 h111 N;rw [D6] at h;rw [A8e] at hc;have hcl:=B0d v.list;have hsl:=R8 v.list;have hvs:=C1d (O:=O) h111 N v.list σ.length σ (by omega) (by omega) (fun x hx b=>ih x b σ (by have:=G9 _ _ hx;omega) (by have:=B0c _ _ hx;omega));refine A3 h80 ?_;simp [x1080,A2,hvs]
theorem B7a {σ2:Sto} {k0 j ver e:Nat} (n c:Nat) (l:List Int) (hj:k0<=j) (hk:σ2.at j=some ⟨ver,.cells (encZT l) e⟩) (hc:c=D3+1):X8 σ2 k0 (n+1) (.ref j 0 1 l.length c)=.sl .fz (l.map encI):=by
 have h1:=A48 l [];rw [List.append_nil] at h1;have h2:((encZT l).take l.length).any D1=false:=by rw [List.take_of_length_le (by rw [L7];omega)];exact A1A l
 have h3:∀l:List Int,(l.map encI).map (fun ch=>ch.map (X8 σ2 k0 n))=l.map encI:=fun l=>by
  rw [List.map_map];apply List.map_congr_left;intro x _;cases n<;>rfl
 have hb:Nat.ble k0 j=true:=by rw [D4];exact decide_eq_true hj
 unfold X8;rw [hb,hk];have hle:(Nat.ble (0+l.length*1) (encZT l).length&& !(((encZT l).drop 0).take (l.length*1)).any D1&&(Nat.blt c D3||Nat.beq c (D3+1)))=true:=by
  rw [List.drop_zero,Nat.mul_one,h2,hc];simp [L7]
 dsimp only;rw [hle];simp only [List.drop_zero,h1,h3]
theorem B39 (σ:Sto) (k n:Nat) (l:List TV):X8 σ k (n+1) (.agg l)=.agg (l.map (X8 σ k n)):=rfl
theorem B3a (σ:Sto) (k n:Nat) (kk:IntKind) (x:Int):X8 σ k n (.int kk x)=.int kk x:=by cases n<;>rfl
theorem B5S (σ:Sto) (k n:Nat) (m:Md) (c:List (List TV)):X8 σ k n (.sl m c)=.sl m c:=by cases n<;>rfl
theorem B5T (h40:F 40=some f1040) (h80:F 80=some f1080) (h111:F 111=some f1111) (h81:F 81=some f67):∀(N:Nat) (e:PTerm) (b:Nat) (σ:Sto),E3 e<=N->OkTm e->cntT e<=1000000->Lt 1000000 e->
  A4 F O N b 40 [.agg (A5 e)] σ=some (.ret (.agg (A5 e)),σ)
 |0,e,b,σ,h,_,_,_=>by rw [B5] at h;omega
 |N+1,e,b,σ,h,he,hc,hL=>by
  have ih:=B5T h40 h80 h111 h81 N;have hk:=H8 e.kids;have hs:=B5 e;have hcd:=J8 e;have hkl:e.kids.length<=F7 e.kids:=by
   generalize e.kids=l
   induction l with
   |nil=>exact Nat.le_refl _
   |cons x l ihl=>simp only [F7,List.length_cons];have:=J8 x;omega
  have hol:=hL.odds;have hval:=B9m (O:=O) h80 h111 N e.val σ.length σ (by omega) hL.val;rw [A2] at hval;obtain ⟨M,rfl⟩:∃M,N=M+1:=⟨N - 1,by omega⟩;refine A3 h40 ?_
  by_cases ho:e.odds=[]
  ·have hcl:=B9b (O:=O) h81 M σ.length σ;simp [x1040,A0,hval,ho,hcl];obtain ⟨C1,hC1⟩:∃C1:List TV,[TV.int .i64 e.kind,.int .i64 e.n,.int .i64 e.m,.int .i64 e.val.kind,.int .i64 e.val.n,.sl .fz (e.val.list.map C9),.sl .fz [],.sl .fz (e.kids.map A5)]=C1:=⟨_,rfl⟩;obtain ⟨C2,hC2⟩:∃C2:List TV,[TV.int .i64 0,.int .i64 0,.int .i64 0,.int .i64 0,.int .i64 0,.sl .nl [],.sl .nl [],.sl .nl []]=C2:=⟨_,rfl⟩
   obtain ⟨S,hS⟩:∃S,σ=S:=⟨_,rfl⟩;simp only [hS];obtain ⟨I,hI⟩:∃I:Nat->TAct->Sto->Prop,I=(fun j a σ'=>a.df=[]/\σ'=S/\∃v,Bld 28 8 A5 (e.kids.take j) v/\a.tm.get 1=some (.bx 0 C1 28)/\(∃ser,a.tm.get 2=some (.bx ser C2 28))/\a.tm.get 3=some v/\a.tm.get 15=some (.sl .fz (e.kids.map A5))/\a.tm.get 16=some (.int .i64 (e.kids.length:Int))/\a.tm.get 17=some (.int .i64 j)):=⟨_,rfl⟩
   obtain ⟨R,hR⟩:∃R:TEx->TAct->Sto->Prop,R=(fun ex a σ'=>ex=.exit 0/\a.df=[]/\σ'=S/\∃v,Bld 28 8 A5 e.kids v/\a.tm.get 1=some (.bx 0 C1 28)/\(∃ser,a.tm.get 2=some (.bx ser C2 28))/\a.tm.get 3=some v):=⟨_,rfl⟩;refine A9 I e.kids.length R ?_ (by omega) ?_ ?_ ?_
   ·rw [hI];exact ⟨rfl,rfl,_,.nl,by simp [hC1],⟨_,by simp [hC2];rfl⟩,by simp,by simp,by simp,by simp⟩
   ·rw [hI];rintro j ⟨tm,df,clk⟩ σ' hj ⟨rfl,rfl,v,hB,h1,⟨ser,h2⟩,h3,h15,h16,h17⟩;rw [<-hI];have hw:=C8 hj he.len;have hmem:=List.getElem_mem hj;have hcc:=fun b=>ih e.kids[j] b σ' (by have:=D9 _ _ hmem;omega) (he.sub _ hmem) (by have:=O1 _ _ hmem;omega) (hL.sub _ hmem)
    have hts:=H9 hj;have hlt:(e.kids.take j).length<=1000000:=by rw [List.length_take];omega
    have hE:=A0 e.kids[j];rw [hE] at hcc;generalize e.kids.take j=L at hB hts hlt;rcases hB with _|_
    ·simp [h1,h2,h3,h15,h16,h17,hj,hcc,hw,hE];rw [hI];exact ⟨rfl,rfl,_,by rw [hts];exact .own _,by simp [h1],⟨_,by simp [h2];rfl⟩,by simp [hE],by simp [h15],by simp [h16],by simp⟩
    ·have hlen3:L.length<=1073741823:=by omega
     simp [h1,h2,h3,h15,h16,h17,hj,hcc,hw,hE,hlen3];rw [hI];exact ⟨rfl,rfl,_,by rw [hts];exact .own _,by simp [h1],⟨_,by simp [h2];rfl⟩,by simp [hE],by simp [h15],by simp [h16],by simp⟩
   ·rw [hI];rintro ⟨tm,df,clk⟩ σ' ⟨rfl,rfl,v,hB,h1,⟨ser,h2⟩,h3,h15,h16,h17⟩;rw [List.take_of_length_le (Nat.le_refl _)] at hB;simp [h1,h2,h3,h15,h16,h17];rw [hR];exact ⟨rfl,rfl,rfl,v,hB,by simp [h1],⟨_,by simp [h2];rfl⟩,by simp [h3]⟩
   ·rw [hR];rintro ex ⟨tm,df,clk⟩ σ' ⟨rfl,rfl,rfl,v,hB,h1,⟨ser,h2⟩,h3⟩;rw [<-hC1] at h1;rw [<-hC2] at h2;generalize hks:e.kids=ks at hB ⊢;rcases hB with _|_
    ·simp [h1,h2,h3]
    ·simp [h1,h2,h3]
  ·have hcl:=B5M (O:=O) h81 M σ.length (.sl .fz (e.odds.map encI)) e.odds σ (.fz _) ho (by omega);have hat:Sto.at (σ++[some (⟨0,.cells [] 3⟩:TObj)]++[some (⟨0,.cells (encZT e.odds) 3⟩:TObj)]) (σ.length+1)=some ⟨0,.cells (encZT e.odds) 3⟩:=by
    have:=A4a (σ++[some (⟨0,.cells [] 3⟩:TObj)]) ⟨0,.cells (encZT e.odds) 3⟩
    rwa [List.length_append] at this
   have htk:(σ++[some (⟨0,.cells [] 3⟩:TObj)]++[some (⟨0,.cells (encZT e.odds) 3⟩:TObj)]).take σ.length=σ:=by rw [List.append_assoc];simp
   obtain ⟨S,hS⟩:∃S,σ++[some (⟨0,.cells [] 3⟩:TObj)]++[some (⟨0,.cells (encZT e.odds) 3⟩:TObj)]=S:=⟨_,rfl⟩;rw [hS] at hcl hat htk;have hth:X8 S σ.length 3 (.ref (σ.length+1) 0 1 e.odds.length (D3+1))=.sl .fz (e.odds.map encI):=B7a (σ2:=S) (k0:=σ.length) 2 (D3+1) e.odds (by omega) hat rfl;simp [x1040,A0,hval,hcl]
   obtain ⟨C1,hC1⟩:∃C1:List TV,[TV.int .i64 e.kind,.int .i64 e.n,.int .i64 e.m,.int .i64 e.val.kind,.int .i64 e.val.n,.sl .fz (e.val.list.map C9),.ref (σ.length+1) 0 1 e.odds.length (D3+1),.sl .fz (e.kids.map A5)]=C1:=⟨_,rfl⟩;obtain ⟨C2,hC2⟩:∃C2:List TV,[TV.int .i64 0,.int .i64 0,.int .i64 0,.int .i64 0,.int .i64 0,.sl .nl [],.sl .nl [],.sl .nl []]=C2:=⟨_,rfl⟩
   obtain ⟨I,hI⟩:∃I:Nat->TAct->Sto->Prop,I=(fun j a σ'=>a.df=[]/\σ'=S/\∃v,Bld 28 8 A5 (e.kids.take j) v/\a.tm.get 1=some (.bx 0 C1 28)/\(∃ser,a.tm.get 2=some (.bx ser C2 28))/\a.tm.get 3=some v/\a.tm.get 15=some (.sl .fz (e.kids.map A5))/\a.tm.get 16=some (.int .i64 (e.kids.length:Int))/\a.tm.get 17=some (.int .i64 j)):=⟨_,rfl⟩
   obtain ⟨R,hR⟩:∃R:TEx->TAct->Sto->Prop,R=(fun ex a σ'=>ex=.exit 0/\a.df=[]/\σ'=S/\∃v,Bld 28 8 A5 e.kids v/\a.tm.get 1=some (.bx 0 C1 28)/\(∃ser,a.tm.get 2=some (.bx ser C2 28))/\a.tm.get 3=some v):=⟨_,rfl⟩;refine A9 I e.kids.length R ?_ (by omega) ?_ ?_ ?_
   ·rw [hI];exact ⟨rfl,rfl,_,.nl,by simp [hC1],⟨_,by simp [hC2];rfl⟩,by simp,by simp,by simp,by simp⟩
   ·rw [hI];rintro j ⟨tm,df,clk⟩ σ' hj ⟨rfl,rfl,v,hB,h1,⟨ser,h2⟩,h3,h15,h16,h17⟩;rw [<-hI];have hw:=C8 hj he.len;have hmem:=List.getElem_mem hj;have hcc:=fun b=>ih e.kids[j] b σ' (by have:=D9 _ _ hmem;omega) (he.sub _ hmem) (by have:=O1 _ _ hmem;omega) (hL.sub _ hmem)
    have hts:=H9 hj;have hlt:(e.kids.take j).length<=1000000:=by rw [List.length_take];omega
    have hE:=A0 e.kids[j];rw [hE] at hcc;generalize e.kids.take j=L at hB hts hlt;rcases hB with _|_
    ·simp [h1,h2,h3,h15,h16,h17,hj,hcc,hw,hE];rw [hI];exact ⟨rfl,rfl,_,by rw [hts];exact .own _,by simp [h1],⟨_,by simp [h2];rfl⟩,by simp [hE],by simp [h15],by simp [h16],by simp⟩
    ·have hlen3:L.length<=1073741823:=by omega
     simp [h1,h2,h3,h15,h16,h17,hj,hcc,hw,hE,hlen3];rw [hI];exact ⟨rfl,rfl,_,by rw [hts];exact .own _,by simp [h1],⟨_,by simp [h2];rfl⟩,by simp [hE],by simp [h15],by simp [h16],by simp⟩
   ·rw [hI];rintro ⟨tm,df,clk⟩ σ' ⟨rfl,rfl,v,hB,h1,⟨ser,h2⟩,h3,h15,h16,h17⟩;rw [List.take_of_length_le (Nat.le_refl _)] at hB;simp [h1,h2,h3,h15,h16,h17];rw [hR];exact ⟨rfl,rfl,rfl,v,hB,by simp [h1],⟨_,by simp [h2];rfl⟩,by simp [h3]⟩
   ·rw [hR];rintro ex ⟨tm,df,clk⟩ σ' ⟨rfl,rfl,rfl,v,hB,h1,⟨ser,h2⟩,h3⟩;rw [<-hC1] at h1;rw [<-hC2] at h2;generalize hks:e.kids=ks at hB ⊢;rcases hB with _|_
    ·simp [-X8,B39,B3a,B5S,h1,h2,h3,hth,htk]
    ·simp [-X8,B39,B3a,B5S,h1,h2,h3,hth,htk]
theorem B3b (h38:F 38=some f1038):∀(N:Nat) (e:PVal) (b:Nat) (σ:Sto),szV e<=N->OkV e->A4 F O N b 38 [.agg (C9 e),.agg (C9 e)] σ=some (.ret (.bool true),σ)
 |0,e,b,σ,h,_=>by rw [D6] at h;omega
 |N+1,e,b,σ,h,he=>by
  have ih:=B3b h38 N;have hs:=D6 e;have hk:=R8 e.list;refine A3 h38 ?_;simp [x1038,A2];obtain ⟨I,hI⟩:∃I:Nat->TAct->Sto->Prop,I=(fun j a σ'=>a.df=[]/\σ'=σ/\(∃s2,a.tm.get 2=some (.bx s2 (C9 e) 24))/\(∃s3,a.tm.get 3=some (.bx s3 (C9 e) 24))/\a.tm.get 5=some (.int .i64 j)):=⟨_,rfl⟩;obtain ⟨R,hR⟩:∃R:TEx->TAct->Sto->Prop,R=(fun ex a σ'=>ex=.exit 0/\a.df=[]/\σ'=σ):=⟨_,rfl⟩
  refine A9 I e.list.length R ?_ (by omega) ?_ ?_ ?_
  ·rw [hI];exact ⟨rfl,rfl,⟨_,by simp [A2];rfl⟩,⟨_,by simp [A2];rfl⟩,by simp⟩
  ·rw [hI];rintro j ⟨tm,df,clk⟩ σ' hj ⟨rfl,rfl,⟨s2,h2⟩,⟨s3,h3⟩,h5⟩;rw [<-hI];have hw:=C8 hj he.len;have hmem:=List.getElem_mem hj;have hcc:=ih e.list[j] σ'.length σ' (by have:=G9 _ _ hmem;omega) (he.sub _ hmem);have h2':=h2;have h3':=h3;rw [A2] at hcc h2 h3;simp [h2,h3,h5,hj,hcc,hw,A2];rw [hI];exact ⟨rfl,rfl,⟨_,by simp [h2'];rfl⟩,⟨_,by simp [h3'];rfl⟩,by simp⟩
  ·rw [hI];rintro ⟨tm,df,clk⟩ σ' ⟨rfl,rfl,⟨s2,h2⟩,⟨s3,h3⟩,h5⟩;rw [A2] at h2 h3;simp [h2,h3,h5];rw [hR];exact ⟨rfl,rfl,rfl⟩
  ·rw [hR];rintro ex ⟨tm,df,clk⟩ σ' ⟨rfl,rfl,rfl⟩;simp
theorem B0f (h13:F 13=some f1013) (h38:F 38=some f1038) (h39:F 39=some f16):∀(N:Nat) (e:PTerm) (b:Nat) (σ:Sto),E3 e<=N->OkTm e->A4 F O N b 13 [.agg (A5 e),.agg (A5 e)] σ=some (.ret (.bool true),σ)
 |0,e,b,σ,h,_=>by rw [B5] at h;omega
 |N+1,e,b,σ,h,he=>by
  have ih:=B0f h13 h38 h39 N;have hs:=B5 e;have hk:=H8 e.kids;have hv:=D6 e.val;obtain ⟨M,rfl⟩:∃M,N=M+1:=⟨N - 1,by omega⟩;have hV:=B3b (O:=O) h38 (M+1) e.val σ.length σ (by omega) he.val;have hO:=C4w (O:=O) h39 M (.sl .fz (e.odds.map encI)) e.odds σ.length σ (.fz _) he.olen (by omega);rw [A2] at hV;refine A3 h13 ?_;simp [x1013,A0,hV,hO]
  obtain ⟨I,hI⟩:∃I:Nat->TAct->Sto->Prop,I=(fun j a σ'=>a.df=[]/\σ'=σ/\(∃s2,a.tm.get 2=some (.bx s2 (A5 e) 28))/\(∃s3,a.tm.get 3=some (.bx s3 (A5 e) 28))/\a.tm.get 5=some (.int .i64 j)):=⟨_,rfl⟩;obtain ⟨R,hR⟩:∃R:TEx->TAct->Sto->Prop,R=(fun ex a σ'=>ex=.exit 0/\a.df=[]/\σ'=σ):=⟨_,rfl⟩;refine A9 I e.kids.length R ?_ (by omega) ?_ ?_ ?_
  ·rw [hI];exact ⟨rfl,rfl,⟨_,by simp [A0];rfl⟩,⟨_,by simp [A0];rfl⟩,by simp⟩
  ·rw [hI];rintro j ⟨tm,df,clk⟩ σ' hj ⟨rfl,rfl,⟨s2,h2⟩,⟨s3,h3⟩,h5⟩;rw [<-hI];have hw:=C8 hj he.len;have hmem:=List.getElem_mem hj;have hcc:=ih e.kids[j] σ'.length σ' (by have:=D9 _ _ hmem;omega) (he.sub _ hmem);have h2':=h2;have h3':=h3;rw [A0] at hcc h2 h3;simp [h2,h3,h5,hj,hcc,hw,A0];rw [hI];exact ⟨rfl,rfl,⟨_,by simp [h2'];rfl⟩,⟨_,by simp [h3'];rfl⟩,by simp⟩
  ·rw [hI];rintro ⟨tm,df,clk⟩ σ' ⟨rfl,rfl,⟨s2,h2⟩,⟨s3,h3⟩,h5⟩;rw [A0] at h2 h3;simp [h2,h3,h5];rw [hR];exact ⟨rfl,rfl,rfl⟩
  ·rw [hR];rintro ex ⟨tm,df,clk⟩ σ' ⟨rfl,rfl,rfl⟩;simp
theorem B3c {α:Type} {f:α->α->Bool} (hf:∀a b,f a b=f b a):∀l m:List α,H0 f l m=H0 f m l
 |[],[]=>rfl
 |[],_::_=>rfl
 |_::_,[]=>rfl
 |a::l,b::m=>by simp only [H0];rw [hf a b,B3c hf l m]
theorem A5F {α:Type} {f:α->α->Bool}:∀l m:List α,(∀a∈l,∀b,f a b=f b a)->H0 f l m=H0 f m l
 |[],[],_=>rfl
 |[],_::_,_=>rfl
 |_::_,[],_=>rfl
 |a::l,b::m,h=>by simp only [H0];rw [h a (by simp) b,A5F l m (fun x hx=>h x (by simp [hx]))]
theorem A3k (a b:Int):decide (a=b)=decide (b=a):=by
 by_cases h:a=b
 ·rw [decide_eq_true h,decide_eq_true h.symm]
 ·rw [decide_eq_false h,decide_eq_false (fun e=>h e.symm)]
theorem B0g:∀(n:Nat) (a b:PVal),szV a<=n->I4 a b=I4 b a
 |0,a,b,h=>by rw [D6] at h;omega
 |n+1,a,b,h=>by
  rw [D6] at h;rw [A0n,A0n b,A3k a.kind,A3k a.n,A5F a.list b.list fun x hx y=>B0g n x y (by have:=G9 _ _ hx;omega)]
theorem A8g:∀(n:Nat) (a b:PTerm),E3 a<=n->H5 a b=H5 b a
 |0,a,b,h=>by rw [B5] at h;omega
 |n+1,a,b,h=>by
  rw [B5] at h;rw [A2l,A2l b,A3k a.kind,A3k a.n,A3k a.m,B0g _ a.val b.val (Nat.le_refl _),B3c (fun x y=>A3k x y) a.odds b.odds,A5F a.kids b.kids fun x hx y=>A8g n x y (by have:=D9 _ _ hx;omega)]
def alikeB:List PTerm->Bool
 |[]=>false
 |a::r=>r.all fun x=>H5 a x
theorem B4M (a:PTerm) (r:List PTerm):(!((a::r).any fun k=> !H5 k a))=alikeB (a::r):=by
 have h1:H5 a a=true:=A6i _ a (Nat.le_refl _);rw [List.any_cons,h1];simp only [Bool.not_true,Bool.false_or,alikeB]
 induction r with
 |nil=>rfl
 |cons x l ih=>rw [List.any_cons,List.all_cons,Bool.not_or,Bool.not_not,ih,A8g _ x a (Nat.le_refl _)]
theorem A0A {α:Type} {S:α->Bool} {l:List α} {j:Nat} (h:j<l.length):(l.drop j).all S=(S l[j]&&(l.drop (j+1)).all S):=by
 rw [List.drop_eq_getElem_cons h,List.all_cons]
theorem B7b (V:VFits F) (h44:F 44=some f1044) (h45:F 45=some f65) (N:Nat) (l:List PTerm) (b:Nat) (σ:Sto) (hl:l.length<=maxLen) (hn:l.length+1<N) (hok:∀x∈l,OkTm x/\E3 x<=N):
  A4 F O (N+1) b 44 [.sl .fz (l.map A5)] σ=some (.ret (.bool (alikeB l)),σ):=by
 refine A3 h44 ?_;cases l with
 |nil=>
  simp [x1044];refine A9 (fun j a σ'=>j=0/\a.df=[]/\σ'=σ/\a.tm.get 0=some (.sl .fz [])/\a.tm.get 3=some (.int .i64 1)) 0 (fun ex a σ'=>ex=.exit 0/\a.df=[]/\σ'=σ/\a.tm.get 0=some (.sl .fz [])) ?_ (by omega) ?_ ?_ ?_
  ·exact ⟨rfl,rfl,rfl,by simp,by simp⟩
  ·intro j a σ' hj;omega
  ·rintro ⟨tm,df,clk⟩ σ' ⟨_,rfl,rfl,h0,h3⟩;simp [h0,h3]
  ·rintro ex ⟨tm,df,clk⟩ σ' ⟨rfl,rfl,rfl,h0⟩;simp [h0,alikeB]
 |cons x r=>
  obtain ⟨l,hl0⟩:∃l,l=x::r:=⟨_,rfl⟩;have h1:0<l.length:=by rw [hl0];simp
  have hx0:l[0]=x:=by subst hl0;rfl
  have hal:alikeB (x::r)=(l.drop 1).all (fun y=>H5 l[0] y):=by rw [hx0,hl0];rfl
  rw [<-hl0] at hl hn hok ⊢;rw [<-hl0] at hal;generalize alikeB l=A at hal ⊢;have hx:=hok l[0] (List.getElem_mem h1);simp [x1044];obtain ⟨I,hI⟩:∃I:Nat->TAct->Sto->Prop,I=(fun j a σ'=>a.df=[]/\σ'=σ/\∃i,i=j+1/\(l.drop i).all (fun y=>H5 l[0] y)=A/\a.tm.get 0=some (.sl .fz (l.map A5))/\a.tm.get 3=some (.int .i64 (i:Int))):=⟨_,rfl⟩
  obtain ⟨R,hR⟩:∃R:TEx->TAct->Sto->Prop,R=(fun ex a σ'=>a.df=[]/\σ'=σ/\(ex=.exit 0/\A=true/\a.tm.get 0=some (.sl .fz (l.map A5))\/ex=.ret/\A=false/\a.tm.get 2=some (.bool false))):=⟨_,rfl⟩;refine A9 I (l.length - 1) R ?_ (by omega) ?_ ?_ ?_
  ·rw [hI];exact ⟨rfl,rfl,1,rfl,hal.symm,by simp,by simp⟩
  ·rw [hI];rintro j ⟨tm,df,clk⟩ σ' hj ⟨rfl,rfl,i,hi,ha,h0,h3⟩;rw [<-hI];have hil:i<l.length:=by omega
   have hmem:=List.getElem_mem hil;have hw:=C8 hil hl;have hcc:=A1K (O:=O) V h45 N l[0] l[i] σ'.length σ' hx.2 hx.1 (hok _ hmem).1;rw [A0A hil] at ha;rw [A0,A0 l[i]] at hcc;cases hs:H5 l[0] l[i] with
   |true=>
    rw [hs] at ha hcc;simp [h0,h3,h1,hil,hcc,hw,A0];rw [hI];exact ⟨rfl,rfl,i+1,by omega,by simpa using ha,by simp [h0],by simp⟩
   |false=>
    rw [hs] at ha hcc;simp [h0,h3,h1,hil,hcc,hw,A0];rw [hR];exact ⟨rfl,rfl,.inr ⟨rfl,by simpa using ha.symm,by simp⟩⟩
  ·rw [hI];rintro ⟨tm,df,clk⟩ σ' ⟨rfl,rfl,i,hi,ha,h0,h3⟩;have hil:i=l.length:=by omega
   rw [List.drop_of_length_le (by omega)] at ha;simp [h0,h3,hil];rw [hR];exact ⟨rfl,rfl,.inl ⟨rfl,by rw [<-ha];rfl,by simp [h0]⟩⟩
  ·rw [hR];rintro ex ⟨tm,df,clk⟩ σ' ⟨rfl,rfl,⟨rfl,h,h0⟩|⟨rfl,h,h6⟩⟩
   ·simp [h,h0,h1]
   ·simp [h,h6]
def A8h:XCode:=(by exact fun x _=>x:V0 (gT x1041.body [1,1,1,1,0,0,1,0,1,0])) _ (by conv=>lhs;cbv)
def G3:XCode:=(by exact fun x _=>x:V1 (fun a=>pT (gT x1041.body [1,1,1,1,0,0]) [1,0,1,0] a)) _ (by intros;conv=>lhs;cbv) A8h
def B4N:XCode:=(by exact fun x _=>x:V0 (gT x1041.body [1,1,0])) _ (by conv=>lhs;cbv)
theorem B7c:x1041=(by exact fun x _=>x:V2 (fun a b=>({x1041 with body:=pT (pT (x1041.body) [1,1,0] a) [1,1,1,1,0,0] b}:XFun))) _ (by intros;conv=>lhs;cbv) B4N G3:=rfl
def A0O (t:PTerm):PTerm:=
 if t.kind=7 then (match t.kids with|[a,c]=>(if Q8 t.n (Z3 t.m) c&&A06 a then c else t)|_=>t)
 else if t.kind=10 then (match t.kids with|[a,c]=>(if a.kind=1/\a.val.n≠0 then c else t)|_=>t)
 else if t.kind=11 then (match t.kids with|[a]=>(if A0S t.odds then a else t)|_=>t)
 else if t.kind=12 then (match t.kids with|a::r=>(if alikeB (a::r) then a else t)|[]=>t)
 else if t.kind=8 then (match t.kids with|[a,c,d]=>(if a.kind=1 then (if a.val.n≠0 then c else d) else if A06 a&&H5 c d then c else t)|_=>t)
 else t
mutual
def lessT:PTerm->PTerm
 |.mk k n m v o ks=>A0O (.mk k n m v o (B1q ks))
def B1q:List PTerm->List PTerm
 |[]=>[]
 |t::l=>lessT t::B1q l
end
theorem B0h:∀l,B1q l=l.map lessT
 |[]=>rfl
 |t::l=>by simp only [B1q,List.map_cons,B0h l]
theorem A1Z (t:PTerm):lessT t=A0O (.mk t.kind t.n t.m t.val t.odds (t.kids.map lessT)):=by
 cases t;simp only [lessT,B0h,PTerm.kind,PTerm.n,PTerm.m,PTerm.val,PTerm.odds,PTerm.kids]
theorem B9n {N b:Nat} (e:PTerm) (he:OkTm e) (hkl:e.kids.length<=1000000) (hN:e.kids.length<N) (a:TAct) (σ:Sto) (C1 C2:List TV) (s2 po:Nat) (hbp:b<=po) (hC1:C1=A5 e)
  (hc:∀x∈e.kids,∀b σ,A4 F O N b 41 [.agg (A5 x)] σ=some (.ret (.agg (A5 (lessT x))),σ))
  (hdf:a.df=[]) (h1:a.tm.get 1=some (.bx 0 C1 28)) (h2:a.tm.get 2=some (.bx s2 C2 28)) (h3:a.tm.get 3=some (.ptr po 0)) (hat:∃ver,σ.at po=some ⟨ver,.cells [.sl .nl []] 26⟩):
  Tw A3R b (A4 F O N) N (fun ex a' σ'=>ex=.normal/\a'.df=[]/\a'.tm.get 1=some (.bx 0 C1 28)/\a'.tm.get 2=some (.bx s2 C2 28)/\a'.tm.get 3=some (.ptr po 0)/\∃ver v,Bld 28 8 A5 (e.kids.map lessT) v/\σ'=σ.set po (some ⟨ver,.cells [v] 26⟩)) [] (B6 A3R b (A4 F O N) N B4N a σ):=by
 obtain ⟨tm,df,clk⟩:=a;simp only at hdf h1 h2 h3;subst hdf hC1;obtain ⟨ver,hat⟩:=hat;have hpo:=Sto.lt hat;have h1':=h1;rw [A0] at h1;simp [B4N,h1]
 obtain ⟨I,hI⟩:∃I:Nat->TAct->Sto->Prop,I=(fun j a' σ'=>a'.df=[]/\a'.tm.get 1=some (.bx 0 (A5 e) 28)/\a'.tm.get 2=some (.bx s2 C2 28)/\a'.tm.get 3=some (.ptr po 0)/\(∃ver v,Bld 28 8 A5 ((e.kids.take j).map lessT) v/\σ'=σ.set po (some ⟨ver,.cells [v] 26⟩))/\
   a'.tm.get 13=some (.sl .fz (e.kids.map A5))/\a'.tm.get 14=some (.int .i64 (e.kids.length:Int))/\a'.tm.get 15=some (.int .i64 j)):=⟨_,rfl⟩
 obtain ⟨R,hR⟩:∃R:TEx->TAct->Sto->Prop,R=(fun ex a' σ'=>ex=.exit 0/\a'.df=[]/\a'.tm.get 1=some (.bx 0 (A5 e) 28)/\a'.tm.get 2=some (.bx s2 C2 28)/\a'.tm.get 3=some (.ptr po 0)/\∃ver v,Bld 28 8 A5 (e.kids.map lessT) v/\σ'=σ.set po (some ⟨ver,.cells [v] 26⟩)):=⟨_,rfl⟩;refine A9 I e.kids.length R ?_ (by omega) ?_ ?_ ?_
 ·rw [hI];exact ⟨rfl,by simp [h1'],by simp [h2],by simp [h3],⟨ver,_,.nl,(Sto.set_same hat).symm⟩,by simp,by simp,by simp⟩
 ·rw [hI];rintro j ⟨tm,df,clk⟩ σ' hj ⟨rfl,h1,h2,h3,⟨ver,v,hB,rfl⟩,h13,h14,h15⟩;rw [<-hI];have hw:=C8 hj he.len;have hmem:=List.getElem_mem hj;have hcc:=hc e.kids[j] hmem;have hts:(e.kids.take (j+1)).map lessT=(e.kids.take j).map lessT++[lessT e.kids[j]]:=by rw [H9 hj,List.map_append];rfl
  have hlt:((e.kids.take j).map lessT).length<=1000000:=by rw [List.length_map,List.length_take];omega
  have hE:=A0 e.kids[j];have hE2:=A0 (lessT e.kids[j]);generalize lessT e.kids[j]=y at hcc hts hE2;rw [hE,hE2] at hcc;generalize (e.kids.take j).map lessT=L at hB hts hlt;have hat1:∀o:TObj,Sto.at (σ.set po (some o)) po=some o:=fun o=>at_set hpo _
  rcases hB with _|_
  ·simp [h1,h2,h3,h13,h14,h15,hj,hcc,hw,hE,hE2,hat1,hbp];rw [hI];exact ⟨rfl,by simp [h1],by simp [h2],by simp [h3],⟨_,_,by rw [hts];exact .own _,by simp [hE2];rfl⟩,by simp [h13],by simp [h14],by simp⟩
  ·have hlen3:L.length<=1073741823:=by omega
   simp [h1,h2,h3,h13,h14,h15,hj,hcc,hw,hE,hE2,hat1,hbp,hlen3];rw [hI];exact ⟨rfl,by simp [h1],by simp [h2],by simp [h3],⟨_,_,by rw [hts];exact .own _,by simp [hE2];rfl⟩,by simp [h13],by simp [h14],by simp⟩
 ·rw [hI];rintro ⟨tm,df,clk⟩ σ' ⟨rfl,h1,h2,h3,⟨ver,v,hB,rfl⟩,h13,h14,h15⟩;rw [List.take_of_length_le (Nat.le_refl _)] at hB;simp [h13,h14,h15];rw [hR];exact ⟨rfl,rfl,by simp [h1],by simp [h2],by simp [h3],ver,v,hB,rfl⟩
 ·rw [hR];rintro ex ⟨tm,df,clk⟩ σ' ⟨rfl,rfl,h1,h2,h3,ver,v,hB,rfl⟩;simp [h1,h2,h3];exact ⟨ver,v,hB,rfl⟩

theorem A4c {n:Int} {j:Nat} {c:PTerm}:Q8 n (j+1) c=(Q8 n j c&&(decide (9223372036854775807<n+(j:Int))|| !A56 c (n+(j:Int)))):=by
 unfold Q8 A56
 by_cases hov:n+(j:Int)<=9223372036854775807
 ·have hsl:C0 n (j+1)=C0 n j++[n+(j:Int)]:=by simp only [C0];rw [if_pos hov]
  rw [hsl,decide_eq_false (by omega:¬9223372036854775807<n+(j:Int)),Bool.false_or]
  by_cases h1:∀s∈C0 n j,s∉refF c
  ·by_cases h2:n+(j:Int)∈refF c
   ·rw [decide_eq_true h1,decide_eq_true h2,decide_eq_false (fun h=>h _ (by simp) h2)];rfl
   ·rw [decide_eq_true h1,decide_eq_false h2,decide_eq_true fun s hs=> ?_];rfl;rcases List.mem_append.1 hs with hs|hs
    ·exact h1 s hs
    ·cases List.mem_singleton.1 hs;exact h2
  ·rw [decide_eq_false h1,decide_eq_false fun h=>h1 fun s hs=>h s (List.mem_append_left _ hs)];rfl
 ·have hsl:C0 n (j+1)=C0 n j:=by simp only [C0];rw [if_neg hov,List.append_nil]
  rw [hsl,decide_eq_true (by omega:9223372036854775807<n+(j:Int)),Bool.true_or,Bool.and_true]
theorem B9o {N b:Nat} (U:WFits F O) (e:PTerm) (a0 c0:PTerm) (hks:e.kids=[a0,c0]) (he:OkTm e) (hN:E3 c0+100013<=N) (hc:cntT c0<=3000) (a:TAct) (σ:Sto) (v2:TV) (po ver:Nat)
  (hdf:a.df=[]) (h1:a.tm.get 1=some (.bx 0 (A5 e) 28)) (h2:a.tm.get 2=some v2) (h3:a.tm.get 3=some (.ptr po 0)) (h6:a.tm.get 6=some (.bool false)) (hat:σ.at po=some ⟨ver,.cells [.sl .fz [A5 a0,A5 c0]] 26⟩):
  Tw A3R b (A4 F O N) N (fun ex a' σ'=>ex=.normal/\σ'=σ/\a'.df=[]/\a'.tm.get 1=some (.bx 0 (A5 e) 28)/\a'.tm.get 2=some v2/\a'.tm.get 3=some (.ptr po 0)/\a'.tm.get 6=some (.bool (!Q8 e.n (Z3 e.m) c0))) [] (B6 A3R b (A4 F O N) N A8h a σ):=by
 obtain ⟨tm,df,clk⟩:=a;simp only at hdf h1 h2 h3 h6;subst hdf;have h1':=h1;rw [A0,hks] at h1;have hkk:=B1p e.m;have hn:=he.n;unfold I64 at hn;have okc:OkTm c0:=he.sub c0 (by rw [hks];simp);obtain ⟨M,rfl⟩:∃M,N=M+1:=⟨N - 1,by omega⟩;have hu:=fun s b=>B9k (O:=O) U M c0 s b σ (by omega) okc hc
 have hmm:∃k:Nat,Z3 e.m=k/\(k:Int)=min (max e.m 0) 4:=⟨Z3 e.m,rfl,by unfold Z3;omega⟩;obtain ⟨k,hk1,hk2⟩:=hmm;rw [hk1]
 by_cases m0:e.m<0
 ·have e1:k=0:=by omega
  simp [A8h,h1,m0,A0t,G7];obtain ⟨I,hI⟩:∃I:Nat->TAct->Sto->Prop,I=(fun j a' σ'=>a'.df=[]/\σ'=σ/\a'.tm.get 1=some (.bx 0 (A5 e) 28)/\a'.tm.get 2=some v2/\a'.tm.get 3=some (.ptr po 0)/\a'.tm.get 6=some (.bool (!Q8 e.n j c0))/\a'.tm.get 41=some (.int .i64 (k:Int))/\a'.tm.get 42=some (.int .i64 (j:Int))):=⟨_,rfl⟩
  obtain ⟨R,hR⟩:∃R:TEx->TAct->Sto->Prop,R=(fun ex a' σ'=>ex=.exit 3/\a'.df=[]/\σ'=σ/\a'.tm.get 1=some (.bx 0 (A5 e) 28)/\a'.tm.get 2=some v2/\a'.tm.get 3=some (.ptr po 0)/\a'.tm.get 6=some (.bool (!Q8 e.n k c0))):=⟨_,rfl⟩;refine A9 I k R ?_ (by omega) ?_ ?_ ?_
  ·rw [hI];refine ⟨rfl,rfl,by simp [h1'],by simp [h2],by simp [h3],by simp [h6,Q8,C0],by simp [e1],by simp⟩
  ·rw [hI];rintro j ⟨tm,df,clk⟩ σ' hj ⟨rfl,rfl,h1,h2,h3,h6,h41,h42⟩;rw [<-hI];have hw:=C8 (n:=5) (j:=j) (by omega) (by unfold maxLen;omega);have hst:=A4c (n:=e.n) (j:=j) (c:=c0);have h1':=h1;rw [A0,hks] at h1;cases hB:Q8 e.n j c0 with
   |false=>
    rw [hB,Bool.false_and] at hst;simp only [hB,Bool.not_false] at h6;simp [h1,h2,h3,h6,h41,h42,hj,hw,A6];rw [hI];exact ⟨rfl,rfl,by simp [h1'],by simp [h2],by simp [h3],by simp [hst],by simp [h41],by simp⟩
   |true=>
    rw [hB,Bool.true_and] at hst;simp only [hB,Bool.not_true] at h6
    by_cases hov:9223372036854775807<e.n+(j:Int)
    ·rw [decide_eq_true hov,Bool.true_or] at hst;have hwn:¬e.n<=IntKind.i64.wrap (e.n+(j:Int)):=by rw [IntKind.wrap_i64];omega
     simp [h1,h2,h3,h6,h41,h42,hj,hw,hwn,A6];rw [hI];exact ⟨rfl,rfl,by simp [h1'],by simp [h2],by simp [h3],by simp [hst],by simp [h41],by simp⟩
    ·rw [decide_eq_false hov,Bool.false_or] at hst;have hwn:IntKind.i64.wrap (e.n+(j:Int))=e.n+(j:Int):=by rw [D7]<;>omega
     have hle:e.n<=e.n+(j:Int):=by omega
     have hq:=hu (e.n+(j:Int));have hE:=A0 c0;rw [hE] at hq hat;simp [h1,h2,h3,h6,h41,h42,hj,hw,hwn,hle,hat,hq,A6];rw [hI];exact ⟨rfl,rfl,by simp [h1'],by simp [h2],by simp [h3],by simp [hst],by simp [h41],by simp⟩
  ·rw [hI];rintro ⟨tm,df,clk⟩ σ' ⟨rfl,rfl,h1,h2,h3,h6,h41,h42⟩;simp [h41,h42];rw [hR];exact ⟨rfl,rfl,rfl,by simp [h1],by simp [h2],by simp [h3],by simp [h6]⟩
  ·rw [hR];rintro ex ⟨tm,df,clk⟩ σ' ⟨rfl,rfl,rfl,h1,h2,h3,h6⟩;simp [h1,h2,h3,h6]
 ·by_cases m4:4<e.m
  ·have e1:k=4:=by omega
   simp [A8h,h1,m0,m4,A0t,G7];obtain ⟨I,hI⟩:∃I:Nat->TAct->Sto->Prop,I=(fun j a' σ'=>a'.df=[]/\σ'=σ/\a'.tm.get 1=some (.bx 0 (A5 e) 28)/\a'.tm.get 2=some v2/\a'.tm.get 3=some (.ptr po 0)/\a'.tm.get 6=some (.bool (!Q8 e.n j c0))/\a'.tm.get 41=some (.int .i64 (k:Int))/\a'.tm.get 42=some (.int .i64 (j:Int))):=⟨_,rfl⟩
   obtain ⟨R,hR⟩:∃R:TEx->TAct->Sto->Prop,R=(fun ex a' σ'=>ex=.exit 3/\a'.df=[]/\σ'=σ/\a'.tm.get 1=some (.bx 0 (A5 e) 28)/\a'.tm.get 2=some v2/\a'.tm.get 3=some (.ptr po 0)/\a'.tm.get 6=some (.bool (!Q8 e.n k c0))):=⟨_,rfl⟩;refine A9 I k R ?_ (by omega) ?_ ?_ ?_
   ·rw [hI];refine ⟨rfl,rfl,by simp [h1'],by simp [h2],by simp [h3],by simp [h6,Q8,C0],by simp [e1],by simp⟩
   ·rw [hI];rintro j ⟨tm,df,clk⟩ σ' hj ⟨rfl,rfl,h1,h2,h3,h6,h41,h42⟩;rw [<-hI];have hw:=C8 (n:=5) (j:=j) (by omega) (by unfold maxLen;omega);have hst:=A4c (n:=e.n) (j:=j) (c:=c0);have h1':=h1;rw [A0,hks] at h1;cases hB:Q8 e.n j c0 with
    |false=>
     rw [hB,Bool.false_and] at hst;simp only [hB,Bool.not_false] at h6;simp [h1,h2,h3,h6,h41,h42,hj,hw,A6];rw [hI];exact ⟨rfl,rfl,by simp [h1'],by simp [h2],by simp [h3],by simp [hst],by simp [h41],by simp⟩
    |true=>
     rw [hB,Bool.true_and] at hst;simp only [hB,Bool.not_true] at h6
     by_cases hov:9223372036854775807<e.n+(j:Int)
     ·rw [decide_eq_true hov,Bool.true_or] at hst;have hwn:¬e.n<=IntKind.i64.wrap (e.n+(j:Int)):=by rw [IntKind.wrap_i64];omega
      simp [h1,h2,h3,h6,h41,h42,hj,hw,hwn,A6];rw [hI];exact ⟨rfl,rfl,by simp [h1'],by simp [h2],by simp [h3],by simp [hst],by simp [h41],by simp⟩
     ·rw [decide_eq_false hov,Bool.false_or] at hst;have hwn:IntKind.i64.wrap (e.n+(j:Int))=e.n+(j:Int):=by rw [D7]<;>omega
      have hle:e.n<=e.n+(j:Int):=by omega
      have hq:=hu (e.n+(j:Int));have hE:=A0 c0;rw [hE] at hq hat;simp [h1,h2,h3,h6,h41,h42,hj,hw,hwn,hle,hat,hq,A6];rw [hI];exact ⟨rfl,rfl,by simp [h1'],by simp [h2],by simp [h3],by simp [hst],by simp [h41],by simp⟩
   ·rw [hI];rintro ⟨tm,df,clk⟩ σ' ⟨rfl,rfl,h1,h2,h3,h6,h41,h42⟩;simp [h41,h42];rw [hR];exact ⟨rfl,rfl,rfl,by simp [h1],by simp [h2],by simp [h3],by simp [h6]⟩
   ·rw [hR];rintro ex ⟨tm,df,clk⟩ σ' ⟨rfl,rfl,rfl,h1,h2,h3,h6⟩;simp [h1,h2,h3,h6]
  ·have e1:(k:Int)=e.m:=by omega
   simp [A8h,h1,m0,m4,A0t,G7];obtain ⟨I,hI⟩:∃I:Nat->TAct->Sto->Prop,I=(fun j a' σ'=>a'.df=[]/\σ'=σ/\a'.tm.get 1=some (.bx 0 (A5 e) 28)/\a'.tm.get 2=some v2/\a'.tm.get 3=some (.ptr po 0)/\a'.tm.get 6=some (.bool (!Q8 e.n j c0))/\a'.tm.get 41=some (.int .i64 (k:Int))/\a'.tm.get 42=some (.int .i64 (j:Int))):=⟨_,rfl⟩
   obtain ⟨R,hR⟩:∃R:TEx->TAct->Sto->Prop,R=(fun ex a' σ'=>ex=.exit 3/\a'.df=[]/\σ'=σ/\a'.tm.get 1=some (.bx 0 (A5 e) 28)/\a'.tm.get 2=some v2/\a'.tm.get 3=some (.ptr po 0)/\a'.tm.get 6=some (.bool (!Q8 e.n k c0))):=⟨_,rfl⟩;refine A9 I k R ?_ (by omega) ?_ ?_ ?_
   ·rw [hI];refine ⟨rfl,rfl,by simp [h1'],by simp [h2],by simp [h3],by simp [h6,Q8,C0],by simp [e1],by simp⟩
   ·rw [hI];rintro j ⟨tm,df,clk⟩ σ' hj ⟨rfl,rfl,h1,h2,h3,h6,h41,h42⟩;rw [<-hI];have hw:=C8 (n:=5) (j:=j) (by omega) (by unfold maxLen;omega);have hst:=A4c (n:=e.n) (j:=j) (c:=c0);have h1':=h1;rw [A0,hks] at h1;cases hB:Q8 e.n j c0 with
    |false=>
     rw [hB,Bool.false_and] at hst;simp only [hB,Bool.not_false] at h6;simp [h1,h2,h3,h6,h41,h42,hj,hw,A6];rw [hI];exact ⟨rfl,rfl,by simp [h1'],by simp [h2],by simp [h3],by simp [hst],by simp [h41],by simp⟩
    |true=>
     rw [hB,Bool.true_and] at hst;simp only [hB,Bool.not_true] at h6
     by_cases hov:9223372036854775807<e.n+(j:Int)
     ·rw [decide_eq_true hov,Bool.true_or] at hst;have hwn:¬e.n<=IntKind.i64.wrap (e.n+(j:Int)):=by rw [IntKind.wrap_i64];omega
      simp [h1,h2,h3,h6,h41,h42,hj,hw,hwn,A6];rw [hI];exact ⟨rfl,rfl,by simp [h1'],by simp [h2],by simp [h3],by simp [hst],by simp [h41],by simp⟩
     ·rw [decide_eq_false hov,Bool.false_or] at hst;have hwn:IntKind.i64.wrap (e.n+(j:Int))=e.n+(j:Int):=by rw [D7]<;>omega
      have hle:e.n<=e.n+(j:Int):=by omega
      have hq:=hu (e.n+(j:Int));have hE:=A0 c0;rw [hE] at hq hat;simp [h1,h2,h3,h6,h41,h42,hj,hw,hwn,hle,hat,hq,A6];rw [hI];exact ⟨rfl,rfl,by simp [h1'],by simp [h2],by simp [h3],by simp [hst],by simp [h41],by simp⟩
   ·rw [hI];rintro ⟨tm,df,clk⟩ σ' ⟨rfl,rfl,h1,h2,h3,h6,h41,h42⟩;simp [h41,h42];rw [hR];exact ⟨rfl,rfl,rfl,by simp [h1],by simp [h2],by simp [h3],by simp [h6]⟩
   ·rw [hR];rintro ex ⟨tm,df,clk⟩ σ' ⟨rfl,rfl,rfl,h1,h2,h3,h6⟩;simp [h1,h2,h3,h6]
structure LFits (F:FuncId->Option TFun) (O:FuncId->List TV->Option TV):Prop where
 u:UFits F
 w:WFits F O
 v:VFits F
 h82:F 82=some f1082
 h83:F 83=some f1083
 h84:F 84=some f1084
 h114:F 114=some f108
theorem B9p (L:LFits F O) (N:Nat) (x y:PTerm) (r:List PTerm) (b:Nat) (σ:Sto) (po ver:Nat) (hat:σ.at po=some ⟨ver,.cells [.sl .fz ((y::r).map A5)] 26⟩) (hN:E3 x<=N) (hx:OkTm x) (hy:OkTm y):
  A4 F O (N+1) b 83 [.agg (A5 x),.ptr po 0] σ=some (.ret (.bool (!H5 x y)),σ):=by
 have h:=A8d (O:=O) L.v L.h84 L.h114 N x y σ.length σ hN hx hy;have hE:=A0 y;have hE2:=A0 x;rw [hE,hE2] at h;refine A3 L.h83 ?_;simp [x1083,hat,hE,hE2,h]
def I7:List TV:=[.int .i64 0,.int .i64 0,.int .i64 0,.int .i64 0,.int .i64 0,.sl .nl [],.sl .nl [],.sl .nl []]
theorem B9q {N b:Nat} (L:LFits F O) (e:PTerm) (he:OkTm e) (hkl:e.kids.length<=1000000) (hN:∀x∈e.kids,4*E3 x+100020<=N/\cntT x<=3000) (hN1:e.kids.length+20<=N) (a:TAct) (σ:Sto) (s2 po ver:Nat)
  (hdf:a.df=[]) (h1:a.tm.get 1=some (.bx 0 (A5 e) 28)) (h2:a.tm.get 2=some (.bx s2 I7 28)) (h3:a.tm.get 3=some (.ptr po 0)) (hat:σ.at po=some ⟨ver,.cells [.sl .fz (e.kids.map A5)] 26⟩):
  Tw A3R b (A4 F O N) N (fun ex a' σ'=>a'.df=[]/\σ'=σ/\((ex=.ret/\a'.tm.get 2=some (.bx s2 (A5 (A0O e)) 28))\/(ex=.normal/\A0O e=e/\a'.tm.get 1=some (.bx 0 (A5 e) 28)/\a'.tm.get 2=some (.bx s2 I7 28)))) [] (B6 A3R b (A4 F O N) N G3 a σ):=by
 obtain ⟨tm,df,clk⟩:=a;simp only at hdf h1 h2 h3;subst hdf;obtain ⟨N,rfl⟩:∃n,N=n+4:=⟨N - 4,by omega⟩;have h1':=h1;have h2':=h2;rw [A0] at h1;unfold I7 at h2;have ok:=he.sub;unfold A0O
 by_cases k7:e.kind=7
 ·rw [if_pos k7];rcases hks:e.kids with _|⟨x,_|⟨y,_|⟨z,r⟩⟩⟩
  ·rw [hks] at hat h1;simp [G3,h1,h2,h3,hat,k7,A0 e,hks,I7,A6]
  ·rw [hks] at hat h1;simp [G3,h1,h2,h3,hat,k7,A0 e,hks,I7,A6]
  ·rw [hks] at hat h1;have hmy:y∈e.kids:=by rw [hks];simp
   have hmx:x∈e.kids:=by rw [hks];simp
   have ny:=hN y hmy;have nx:=hN x hmx;have hs:=B1o (O:=O) L.u (E3 x) (N+4) x b σ (Nat.le_refl _) (by omega) (ok x hmx);have hE:=A0 x;have hE2:=A0 y;rw [hE] at hs;simp [G3,h1,h2,h3,hat,k7,A0 e,hks,I7,A6];apply E2
   ·apply B9o (N:=N+4) (σ:=σ) (po:=po) (ver:=ver) L.w e x y hks he (by omega) ny.2
    ·rfl
    ·simp [A0 e,hks,h1,k7]
    ·simp [h2];rfl
    ·simp [h3]
    ·simp
    ·exact hat
   rintro ex ⟨tm,df,clk⟩ σ' ⟨rfl,rfl,hdf,h1,h2,h3,h6⟩;simp only at hdf h1 h2 h3 h6;subst hdf;rw [A0,hks,k7] at h1;cases hn:Q8 e.n (Z3 e.m) y with
   |false=>
    rw [hn] at h6;simp [h1,h2,h3,h6,hat,k7,A0 e,hks,I7,A6]
   |true=>
    rw [hn] at h6;cases hsx:A06 x with
    |false=>
     rw [hsx] at hs;simp [h1,h2,h3,h6,hat,hE,hE2,hs,k7,A0 e,hks,I7,A6]
    |true=>
     rw [hsx] at hs;simp [h1,h2,h3,h6,hat,hE,hE2,hs,k7,A0 e,hks,I7,A6]
  ·rw [hks] at hat h1 hkl;have hl:¬(r.length:Int)+1+1+1=2:=by omega
   simp [G3,h1,h2,h3,hat,k7,A0 e,hks,I7,A6,hl]
 rw [if_neg k7]
 by_cases k10:e.kind=10
 ·rw [if_pos k10];rcases hks:e.kids with _|⟨x,_|⟨y,_|⟨z,r⟩⟩⟩
  ·rw [hks] at hat h1;simp [G3,h1,h2,h3,hat,k10,A0 e,hks,I7,A6]
  ·rw [hks] at hat h1;simp [G3,h1,h2,h3,hat,k10,A0 e,hks,I7,A6]
  ·have hh:=B0b (O:=O) L.h82 (N+3) x b σ;rw [show N+3+1=N+4 from rfl] at hh;rw [hks] at hat h1;have hE:=A0 x;have hE2:=A0 y;rw [hE] at hh
   by_cases q1:x.kind=1
   ·by_cases q2:x.val.n=0
    ·rw [q1,q2] at hh;simp [G3,h1,h2,h3,hat,k10,A0 e,hks,I7,A6,hE,hE2,hh,q1,q2]
    ·rw [q1] at hh;simp [G3,h1,h2,h3,hat,k10,A0 e,hks,I7,A6,hE,hE2,hh,q1,q2]
   ·simp [G3,h1,h2,h3,hat,k10,A0 e,hks,I7,A6,hE,hE2,hh,q1]
  ·rw [hks] at hat h1 hkl;have hl:¬(r.length:Int)+1+1+1=2:=by omega
   simp [G3,h1,h2,h3,hat,k10,A0 e,hks,I7,A6,hl]
 rw [if_neg k10]
 by_cases k11:e.kind=11
 ·rw [if_pos k11];have hev:=B35 (O:=O) L.u.h31 (N+3) e b σ;rw [show N+3+1=N+4 from rfl] at hev;rw [A0] at hev;rcases hks:e.kids with _|⟨x,_|⟨y,r⟩⟩
  ·rw [hks] at hat h1;simp [G3,h1,h2,h3,hat,k11,A0 e,hks,I7,A6]
  ·rw [hks] at hat h1 hev;have hE:=A0 x;rw [k11] at hev;simp only [List.map_cons,List.map_nil,hE] at hev;cases hb:A0S e.odds with
   |false=>
    rw [hb] at hev;simp [G3,h1,h2,h3,hat,hE,hev,k11,A0 e,hks,I7,A6]
   |true=>
    rw [hb] at hev;simp [G3,h1,h2,h3,hat,hE,hev,k11,A0 e,hks,I7,A6]
  ·rw [hks] at hat h1;have hl:¬(r.length:Int)+1+1=1:=by omega
   simp [G3,h1,h2,h3,hat,k11,A0 e,hks,I7,A6,hl]
 rw [if_neg k11]
 by_cases k12:e.kind=12
 ·rw [if_pos k12];rcases hks:e.kids with _|⟨x,r⟩
  ·rw [hks] at hat h1;simp [G3,h1,h2,h3,hat,k12,A0 e,hks,I7,A6]
  ·have hany:=C2k (O:=O) L.u.h33 L.u.h73 83 [.ptr po 0] (N+2) (fun k=> !H5 k x) b σ e.kids he.len (by omega) (fun y hy b=>by
    rw [hks] at hat
    exact B9p L (N+1) y x r b σ po ver hat (by have:=hN y hy;omega) (ok y hy) (ok x (by rw [hks];simp)))
   rw [show N+2+2=N+4 from rfl] at hany;rw [hks] at hat h1 hany;have hE:=A0 x;have hab:=B4M x r;simp only [List.map_cons,hE] at hany;cases hb:alikeB (x::r) with
   |false=>
    rw [hb] at hab;have hab2:((x::r).any fun k=> !H5 k x)=true:=by
     cases hq:((x::r).any fun k=> !H5 k x) with
     |true=>rfl
     |false=>rw [hq] at hab;cases hab
    rw [hab2] at hany;simp [G3,h1,h2,h3,hat,hE,hany,k12,A0 e,hks,I7,A6,hb]
   |true=>
    rw [hb] at hab;have hab2:((x::r).any fun k=> !H5 k x)=false:=by
     cases hq:((x::r).any fun k=> !H5 k x) with
     |false=>rfl
     |true=>rw [hq] at hab;cases hab
    rw [hab2] at hany;simp [G3,h1,h2,h3,hat,hE,hany,k12,A0 e,hks,I7,A6,hb]
 rw [if_neg k12]
 by_cases k8:e.kind=8
 ·rw [if_pos k8];rcases hks:e.kids with _|⟨x,_|⟨y,_|⟨z,_|⟨q,r⟩⟩⟩⟩
  ·rw [hks] at hat h1;simp [G3,h1,h2,h3,hat,k8,A0 e,hks,I7,A6]
  ·rw [hks] at hat h1;simp [G3,h1,h2,h3,hat,k8,A0 e,hks,I7,A6]
  ·rw [hks] at hat h1;simp [G3,h1,h2,h3,hat,k8,A0 e,hks,I7,A6]
  ·have hmx:x∈e.kids:=by rw [hks];simp
   have hmy:y∈e.kids:=by rw [hks];simp
   have hmz:z∈e.kids:=by rw [hks];simp
   have nx:=hN x hmx;have ny:=hN y hmy;have hh:=B0b (O:=O) L.h82 (N+3) x b σ;rw [show N+3+1=N+4 from rfl] at hh;have hs:=B1o (O:=O) L.u (E3 x) (N+4) x b σ (Nat.le_refl _) (by omega) (ok x hmx);have hsm:=A8d (O:=O) L.v L.h84 L.h114 (N+4) y z b σ (by omega) (ok y hmy) (ok z hmz);rw [hks] at hat h1;have hE:=A0 x;have hE2:=A0 y;have hE3:=A0 z;rw [hE] at hh hs;rw [hE2,hE3] at hsm
   by_cases q1:x.kind=1
   ·by_cases q2:x.val.n=0
    ·rw [q1,q2] at hh;simp [G3,h1,h2,h3,hat,k8,A0 e,hks,I7,A6,hE,hE2,hE3,hh,q1,q2]
    ·rw [q1] at hh;simp [G3,h1,h2,h3,hat,k8,A0 e,hks,I7,A6,hE,hE2,hE3,hh,q1,q2]
   ·cases hsx:A06 x with
    |false=>
     rw [hsx] at hs;simp [G3,h1,h2,h3,hat,k8,A0 e,hks,I7,A6,hE,hE2,hE3,hh,q1,hs,hsx]
    |true=>
     rw [hsx] at hs;cases hss:H5 y z with
     |false=>
      rw [hss] at hsm;simp [G3,h1,h2,h3,hat,k8,A0 e,hks,I7,A6,hE,hE2,hE3,hh,q1,hs,hsm,hsx,hss]
     |true=>
      rw [hss] at hsm;simp [G3,h1,h2,h3,hat,k8,A0 e,hks,I7,A6,hE,hE2,hE3,hh,q1,hs,hsm,hsx,hss]
  ·rw [hks] at hat h1;have hl:¬(r.length:Int)+1+1+1+1=3:=by omega
   simp [G3,h1,h2,h3,hat,k8,A0 e,hks,I7,A6,hl]
 rw [if_neg k8];simp [G3,h1,h2,h3,hat,k7,k10,k11,k12,k8,A0 e,I7,A6]
theorem C1e (t:PTerm):A0O t=t\/A0O t∈t.kids:=by
 unfold A0O
 repeat' split
 all_goals first|exact .inl rfl|skip
 all_goals rename_i h
 all_goals first|(right;simp_all;done)|simp_all
theorem A3l {P:PTerm->Prop} (t:PTerm) (h:P t) (hk:∀x∈t.kids,P x):P (A0O t):=by
 rcases C1e t with h1|h1
 ·rw [h1];exact h
 ·exact hk _ h1
theorem B0i {f:PTerm->PTerm}:∀l:List PTerm,(∀x∈l,E3 (f x)<=E3 x)->A0R (l.map f)<=A0R l
 |[],_=>Nat.le_refl _
 |x::l,h=>by
  have:=B0i l fun y hy=>h y (by simp [hy])
  have:=h x (by simp);simp only [List.map_cons,A0R];omega
theorem B0j {f:PTerm->PTerm}:∀l:List PTerm,(∀x∈l,cntT (f x)<=cntT x)->F7 (l.map f)<=F7 l
 |[],_=>Nat.le_refl _
 |x::l,h=>by
  have:=B0j l fun y hy=>h y (by simp [hy])
  have:=h x (by simp);simp only [List.map_cons,F7];omega
theorem A0o:∀(n:Nat) (e:PTerm),E3 e<=n->E3 (lessT e)<=E3 e/\cntT (lessT e)<=cntT e/\(OkTm e->OkTm (lessT e))/\∀B,Lt B e->Lt B (lessT e)
 |0,e,h=>by rw [B5] at h;omega
 |n+1,e,h=>by
  have hs:=B5 e;have ih:∀x∈e.kids,_:=fun x hx=>A0o n x (by have:=D9 _ _ hx;omega)
  have h1:=B0i (f:=lessT) e.kids fun x hx=>(ih x hx).1
  have h2:=B0j (f:=lessT) e.kids fun x hx=>(ih x hx).2.1
  have hkid:∀{x},x∈e.kids.map lessT->∃y∈e.kids,lessT y=x:=fun hx=>by
   obtain ⟨y,hy,rfl⟩:=List.mem_map.1 hx;exact ⟨y,hy,rfl⟩
  rw [A1Z];refine ⟨?_,?_,fun ok=> ?_,fun B hl=> ?_⟩
  ·refine A3l (P:=fun x=>E3 x<=E3 e) _ ?_ fun x hx=> ?_
   ·show E3 _<=_;rw [B5];simp only [PTerm.kids,PTerm.val,PTerm.odds];simp only [PTerm.kids,PTerm.val,PTerm.odds] at hs h1;omega
   ·have:=D9 (e.kids.map lessT) x hx;show E3 _<=_;omega
  ·refine A3l (P:=fun x=>cntT x<=cntT e) _ ?_ fun x hx=> ?_
   ·show cntT _<=_;rw [J8,J8 e];simp only [PTerm.kids] at h2 ⊢;omega
   ·have:=O1 (e.kids.map lessT) x hx;show cntT _<=_;rw [J8 e];omega
  ·refine A3l (P:=OkTm) _ (.mk ok.kind ok.n ok.m ok.val ok.olen ok.odds (by rw [List.length_map];exact ok.len) fun x hx=> ?_) fun x hx=> ?_
   ·obtain ⟨y,hy,rfl⟩:=hkid hx;exact (ih y hy).2.2.1 (ok.sub y hy)
   ·obtain ⟨y,hy,rfl⟩:=hkid hx;exact (ih y hy).2.2.1 (ok.sub y hy)
  ·refine A3l (P:=Lt B) _ (.mk hl.val hl.odds fun x hx=> ?_) fun x hx=> ?_
   ·obtain ⟨y,hy,rfl⟩:=hkid hx;exact (ih y hy).2.2.2 B (hl.sub y hy)
   ·obtain ⟨y,hy,rfl⟩:=hkid hx;exact (ih y hy).2.2.2 B (hl.sub y hy)
theorem D0N {N b:Nat} (e:PTerm) (hks:e.kids=[]) (a:TAct) (σ:Sto) (s2 po ver:Nat)
  (hdf:a.df=[]) (h1:a.tm.get 1=some (.bx 0 [.int .i64 e.kind,.int .i64 e.n,.int .i64 e.m,.int .i64 e.val.kind,.int .i64 e.val.n,.sl .fz (e.val.list.map C9),.sl .fz (e.odds.map encI),.sl .nl []] 28)) (h2:a.tm.get 2=some (.bx s2 I7 28)) (h3:a.tm.get 3=some (.ptr po 0)) (hat:σ.at po=some ⟨ver,.cells [.sl .nl []] 26⟩):
  Tw A3R b (A4 F O N) N (fun ex a' σ'=>a'.df=[]/\σ'=σ/\ex=.normal/\A0O e=e/\a'.tm.get 1=some (.bx 0 [.int .i64 e.kind,.int .i64 e.n,.int .i64 e.m,.int .i64 e.val.kind,.int .i64 e.val.n,.sl .fz (e.val.list.map C9),.sl .fz (e.odds.map encI),.sl .nl []] 28)/\a'.tm.get 2=some (.bx s2 I7 28)) [] (B6 A3R b (A4 F O N) N G3 a σ):=by
 obtain ⟨tm,df,clk⟩:=a;simp only at hdf h1 h2 h3;subst hdf;unfold I7 at*;unfold A0O;rw [hks]
 by_cases k7:e.kind=7
 ·simp [G3,h1,h2,h3,hat,k7,A6]
 by_cases k10:e.kind=10
 ·simp [G3,h1,h2,h3,hat,k10,A6]
 by_cases k11:e.kind=11
 ·simp [G3,h1,h2,h3,hat,k11,A6]
 by_cases k12:e.kind=12
 ·simp [G3,h1,h2,h3,hat,k12,A6]
 by_cases k8:e.kind=8
 ·simp [G3,h1,h2,h3,hat,k8,A6]
 simp [G3,h1,h2,h3,hat,k7,k10,k11,k12,k8,A6]
theorem A8i (h41:F 41=some f1041) (L:LFits F O):∀(M N:Nat) (e:PTerm) (b:Nat) (σ:Sto),E3 e<=M->5*M+100100<=N->OkTm e->cntT e<=3000->
  A4 F O N b 41 [.agg (A5 e)] σ=some (.ret (.agg (A5 (lessT e))),σ)
 |0,N,e,b,σ,h,_,_,_=>by rw [B5] at h;omega
 |M+1,N,e,b,σ,h,hN,he,hc=>by
  have ih:=A8i h41 L M;have hs:=B5 e;have hcd:=J8 e;have hkl:e.kids.length<=F7 e.kids:=by
   generalize e.kids=l
   induction l with
   |nil=>exact Nat.le_refl _
   |cons x l ihl=>simp only [F7,List.length_cons];have:=J8 x;omega
  obtain ⟨N,rfl⟩:∃n,N=n+1:=⟨N - 1,by omega⟩;obtain ⟨σ0,hσ0⟩:∃σ0,σ0=σ++[some (⟨0,.cells [.sl .nl []] 26⟩:TObj)]:=⟨_,rfl⟩;have hat0:σ0.at σ.length=some ⟨0,.cells [.sl .nl []] 26⟩:=by rw [hσ0];exact A4a _ _
  have hl0:σ0.length=σ.length+1:=by rw [hσ0];simp
  suffices hh:∃r σ',A4 F O (N+1) b 41 [.agg (A5 e)] σ=some (r,σ')/\r=.ret (.agg (A5 (lessT e)))/\σ'=σ by
   obtain ⟨r,σ',q1,rfl,rfl⟩:=hh;exact q1
  refine D5 h41 ?_;simp [B7c,A0 e,<-hσ0];apply E2
  ·apply B9n (po:=σ.length) (σ:=σ0) (C1:=A5 e) (C2:=I7) e he (by omega) (by omega)
   ·exact Nat.le_refl _
   ·rfl
   ·exact fun x hx b σ=>ih N x b σ (by have:=D9 _ _ hx;omega) (by omega) (he.sub x hx) (by have:=O1 _ _ hx;omega)
   ·rfl
   ·simp [A0 e]
   ·simp [I7];rfl
   ·simp
   ·exact ⟨0,hat0⟩
  rintro ex ⟨tm,df,clk⟩ σ1 ⟨rfl,hdf,h1,h2,h3,ver,v,hB,rfl⟩;simp only at hdf h1 h2 h3;subst hdf;have hat:∀o:TObj,Sto.at (σ0.set σ.length (some o)) σ.length=some o:=fun o=>at_set (by omega) _
  have htk:∀o:Option TObj,(σ0.set σ.length o).take σ.length=σ:=fun o=>by
   rw [List.take_set_of_le (Nat.le_refl _),hσ0];simp
  have htk2:∀o o':Option TObj,((σ0.set σ.length o).set σ.length o').take σ.length=σ:=fun o o'=>by
   rw [List.take_set_of_le (Nat.le_refl _),htk]
  obtain ⟨e',he'⟩:∃e',e'=PTerm.mk e.kind e.n e.m e.val e.odds (e.kids.map lessT):=⟨_,rfl⟩;have hle:lessT e=A0O e':=by rw [he'];exact A1Z e
  rw [hle];have hok':OkTm e':=by
   rw [he'];exact .mk he.kind he.n he.m he.val he.olen he.odds (by rw [List.length_map];exact he.len) fun x hx=>by
    obtain ⟨y,hy,rfl⟩:=List.mem_map.1 hx;exact (A0o _ y (Nat.le_refl _)).2.2.1 (he.sub y hy)
  have hks':e'.kids=e.kids.map lessT:=by rw [he'];rfl
  have f1:e'.kind=e.kind:=by rw [he'];rfl
  have f2:e'.n=e.n:=by rw [he'];rfl
  have f3:e'.m=e.m:=by rw [he'];rfl
  have f4:e'.val=e.val:=by rw [he'];rfl
  have f5:e'.odds=e.odds:=by rw [he'];rfl
  have hN':∀x∈e'.kids,4*E3 x+100020<=N/\cntT x<=3000:=fun x hx=>by
   rw [hks'] at hx;obtain ⟨y,hy,rfl⟩:=List.mem_map.1 hx;have:=A0o _ y (Nat.le_refl _);have:=D9 _ _ hy;have:=O1 _ _ hy;omega
  rw [<-hks'] at hB;have hkl':e'.kids.length<=1000000:=by rw [hks',List.length_map];omega
  have hkl2:e'.kids.length+20<=N:=by rw [hks',List.length_map];have:=H8 e.kids;omega
  clear hks' hle he';rw [A0,<-f1,<-f2,<-f3,<-f4,<-f5] at h1;unfold I7 at h2;generalize hks:e'.kids=ks at hB;rcases hB with _|_
  ·simp [h1,h2,h3,hat];apply E2
   ·apply D0N (po:=σ.length) (s2:=_) e' hks
    ·rfl
    ·simp
    ·simp [h2,I7];rfl
    ·simp [h3]
    ·exact hat _
   rintro ex ⟨tm,df,clk⟩ σ2 ⟨hdf,rfl,rfl,hct,h1,h2⟩;simp only at hdf h1 h2;subst hdf;rw [hct];unfold I7 at h2;simp [h1,h2,A0 e',hks,htk,htk2]
  ·rw [<-hks];simp [h1,h2,h3,hat];apply E2
   ·apply B9q (po:=σ.length) (s2:=_) L e' hok' hkl' hN' hkl2
    ·rfl
    ·simp [A0 e']
    ·simp [h2,I7];rfl
    ·simp [h3]
    ·exact hat _
   rintro ex ⟨tm,df,clk⟩ σ2 ⟨hdf,rfl,hq⟩;simp only at hdf hq;subst hdf;rcases hq with ⟨rfl,h2⟩|⟨rfl,hct,h1,h2⟩
   ·rw [A0] at h2;simp [h2,A0 (A0O e'),htk]
   ·rw [hct];rw [A0] at h1;unfold I7 at h2;simp [h1,h2,A0 e',htk]
def E4 (t:PTerm) (oc:TV):List TV:=[.int .i64 t.kind,.int .i64 t.n,.int .i64 t.m,.int .i64 t.val.kind,.int .i64 t.val.n,.sl .fz (t.val.list.map C9),oc,.sl .fz (t.kids.map A5)]
theorem B7d (hF:F 35=some f1035) (N:Nat) (b:Nat) (σ:Sto):A4 F O (N+1) b 35 [.sl .nl []] σ=some (.ret (.bool false),σ):=by
 refine A3 hF ?_;simp [x1035,A6]
theorem B4O (h44:F 44=some f1044) (N:Nat) (b:Nat) (σ:Sto) (hN:1<N):A4 F O (N+1) b 44 [.sl .nl []] σ=some (.ret (.bool false),σ):=by
 refine A3 h44 ?_;simp [x1044];refine A9 (fun j a σ'=>j=0/\a.df=[]/\σ'=σ/\a.tm.get 0=some (.sl .nl [])/\a.tm.get 3=some (.int .i64 1)) 0 (fun ex a σ'=>ex=.exit 0/\a.df=[]/\σ'=σ/\a.tm.get 0=some (.sl .nl [])) ?_ (by omega) ?_ ?_ ?_
 ·exact ⟨rfl,rfl,rfl,by simp,by simp⟩
 ·intro j a σ' hj;omega
 ·rintro ⟨tm,df,clk⟩ σ' ⟨_,rfl,rfl,h0,h3⟩;simp [h0,h3]
 ·rintro ex ⟨tm,df,clk⟩ σ' ⟨rfl,rfl,rfl,h0⟩;simp [h0]
theorem B3d (U:WFits F O) (h42:F 42=some f1042) (N:Nat) (e:PTerm) (b:Nat) (σ:Sto) (h2:1<e.kids.length) (he:OkTm e) (hc:∀x∈e.kids,E3 x+20013<=N/\cntT x<=3000):
  A4 F O (N+1) b 42 [.agg (E4 e (.sl .nl []))] σ=some (.ret (.bool (Q8 e.n (Z3 e.m) e.kids[1])),σ):=by
 have hm:=List.getElem_mem h2;have hcc:=hc _ hm;obtain ⟨N,rfl⟩:∃n,N=n+1:=⟨N - 1,by omega⟩;refine A3 h42 ?_;have hu:=fun s=>B37 U N e.kids[1] s σ.length σ (by omega) (he.sub _ hm) hcc.2
 have hn:=he.n;unfold I64 at hn;have hmI:=he.m;unfold I64 at hmI;have hkk:=B1p e.m;obtain ⟨c,hcE⟩:∃c,c=e.kids[1]:=⟨_,rfl⟩;simp only [<-hcE] at hu ⊢;have hkid:∀j (hj:j<e.kids.length),j=1->e.kids[j]=c:=fun j hj h=>by subst h;exact hcE.symm
 simp [x1042,E4];obtain ⟨I,hI⟩:∃I:Nat->TAct->Sto->Prop,I=(fun j a σ'=>a.df=[]/\σ'=σ/\(∀s∈C0 e.n j,s∉refF c)/\a.tm.get 1=some (.bx 0 (E4 e (.sl .nl [])) 28)/\a.tm.get 3=some (.int .i64 j)):=⟨_,rfl⟩;obtain ⟨R,hR⟩:∃R:TEx->TAct->Sto->Prop,R=(fun ex a σ'=>a.df=[]/\σ'=σ/\(ex=.exit 0/\Q8 e.n (Z3 e.m) c=true\/ex=.ret/\Q8 e.n (Z3 e.m) c=false/\a.tm.get 2=some (.bool false))):=⟨_,rfl⟩
 refine A9 I (Z3 e.m) R ?_ (by omega) ?_ ?_ ?_
 ·rw [hI];exact ⟨rfl,rfl,by simp [C0],by simp [E4],by simp⟩
 ·rw [hI];rintro j ⟨tm,df,clk⟩ σ' hj ⟨rfl,rfl,ha,h1,h3⟩;rw [<-hI];have hw:=C8 (n:=5) (j:=j) (by omega) (by unfold maxLen;omega);have hjm:(j:Int)<e.m:=by unfold Z3 at hj;omega
  have hj4:(j:Int)<4:=by omega
  have hwm:IntKind.i64.wrap (9223372036854775807 - (j:Int))=9223372036854775807 - (j:Int):=by rw [D7]<;>omega
  have h1':=h1;unfold E4 at h1
  by_cases hov:e.n<=9223372036854775807 - (j:Int)
  case neg=>
   simp [h1,h3,hjm,hj4,hwm,hov];rw [hR];refine ⟨rfl,rfl,.inl ⟨rfl,decide_eq_true ?_⟩⟩;rw [A2o (j:=j) (by omega) (Z3 e.m) (by omega)];exact ha
  have hwn:IntKind.i64.wrap (e.n+(j:Int))=e.n+(j:Int):=by rw [D7]<;>omega
  have hq:=hu (e.n+(j:Int));have hsl:C0 e.n (j+1)=C0 e.n j++[e.n+(j:Int)]:=by simp only [C0];rw [if_pos (by omega)]
  rw [A0] at hq;cases hs:A56 c (e.n+(j:Int)) with
  |true=>
   rw [hs] at hq;simp [h1,h3,hjm,hj4,hwm,hov,h2,hkid,A0 c,hwn,hq];rw [hR];refine ⟨rfl,rfl,.inr ⟨rfl,decide_eq_false fun h=> ?_,by simp⟩⟩;exact h _ (A4b (j:=j+1) (by rw [hsl];simp) (by omega)) (of_decide_eq_true hs)
  |false=>
   rw [hs] at hq;simp [h1,h3,hjm,hj4,hwm,hov,h2,hkid,A0 c,hwn,hq,hw];rw [hI];refine ⟨rfl,rfl,fun s h=> ?_,by simp [h1'],by simp⟩;rw [hsl,List.mem_append] at h;rcases h with h|h
   ·exact ha s h
   ·cases List.mem_singleton.1 h;exact of_decide_eq_false hs
 ·rw [hI];rintro ⟨tm,df,clk⟩ σ' ⟨rfl,rfl,ha,h1,h3⟩;unfold E4 at h1
  by_cases hjm:((Z3 e.m:Nat):Int)<e.m
  ·have hj4:¬((Z3 e.m:Nat):Int)<4:=by unfold Z3 at hjm ⊢;omega
   simp [h1,h3,hjm,hj4];rw [hR];exact ⟨rfl,rfl,.inl ⟨rfl,decide_eq_true ha⟩⟩
  ·simp [h1,h3,hjm];rw [hR];exact ⟨rfl,rfl,.inl ⟨rfl,decide_eq_true ha⟩⟩
 ·rw [hR];rintro ex ⟨tm,df,clk⟩ σ' ⟨rfl,rfl,⟨rfl,h⟩|⟨rfl,h,h6⟩⟩
  ·simp [h]
  ·simp [h,h6]
def C4:XCode:=(by exact fun x _=>x:V0 (gT x1015.body [1,1,1,1,1,0,0])) _ (by conv=>lhs;cbv)
def B4P:XCode:=(by exact fun x _=>x:V0 (gT x1015.body [1,1,0])) _ (by conv=>lhs;cbv)
theorem B7e:x1015=(by exact fun x _=>x:V2 (fun a b=>({x1015 with body:=pT (pT (x1015.body) [1,1,0] a) [1,1,1,1,1,0,0] b}:XFun))) _ (by intros;conv=>lhs;cbv) B4P C4:=rfl
theorem B9r {N b:Nat} (e:PTerm) (he:OkTm e) (hkl:e.kids.length<=1000000) (hN:e.kids.length<N) (a:TAct) (σ:Sto) (v2:TV)
  (hc:∀x∈e.kids,∀b σ,A4 F O N b 15 [.agg (A5 x)] σ=some (.ret (.agg (A5 (lessT x))),σ))
  (hdf:a.df=[]) (h1:a.tm.get 1=some (.bx 0 (A5 e) 28)) (h2:a.tm.get 2=some v2) (h3:a.tm.get 3=some (.sl .nl [])):
  Tw A6g b (A4 F O N) N (fun ex a' σ'=>ex=.normal/\σ'=σ/\a'.df=[]/\a'.tm.get 1=some (.bx 0 (A5 e) 28)/\a'.tm.get 2=some v2/\∃v,Bld 28 8 A5 (e.kids.map lessT) v/\a'.tm.get 3=some v) [] (B6 A6g b (A4 F O N) N B4P a σ):=by
 obtain ⟨tm,df,clk⟩:=a;simp only at hdf h1 h2 h3;subst hdf;have h1':=h1;rw [A0] at h1;simp [B4P,h1];obtain ⟨I,hI⟩:∃I:Nat->TAct->Sto->Prop,I=(fun j a' σ'=>a'.df=[]/\σ'=σ/\a'.tm.get 1=some (.bx 0 (A5 e) 28)/\a'.tm.get 2=some v2/\(∃v,Bld 28 8 A5 ((e.kids.take j).map lessT) v/\a'.tm.get 3=some v)/\a'.tm.get 4=some (.int .i64 j)):=⟨_,rfl⟩
 obtain ⟨R,hR⟩:∃R:TEx->TAct->Sto->Prop,R=(fun ex a' σ'=>ex=.exit 0/\a'.df=[]/\σ'=σ/\a'.tm.get 1=some (.bx 0 (A5 e) 28)/\a'.tm.get 2=some v2/\∃v,Bld 28 8 A5 (e.kids.map lessT) v/\a'.tm.get 3=some v):=⟨_,rfl⟩;refine A9 I e.kids.length R ?_ (by omega) ?_ ?_ ?_
 ·rw [hI];exact ⟨rfl,rfl,by simp [h1'],by simp [h2],⟨_,.nl,by simp [h3]⟩,by simp⟩
 ·rw [hI];rintro j ⟨tm,df,clk⟩ σ' hj ⟨rfl,rfl,h1,h2,⟨v,hB,h3⟩,h4⟩;rw [<-hI];have hw:=C8 hj he.len;have hmem:=List.getElem_mem hj;have hcc:=hc e.kids[j] hmem;have hts:(e.kids.take (j+1)).map lessT=(e.kids.take j).map lessT++[lessT e.kids[j]]:=by rw [H9 hj,List.map_append];rfl
  have hlt:((e.kids.take j).map lessT).length<=1000000:=by rw [List.length_map,List.length_take];omega
  have hE:=A0 e.kids[j];have hE2:=A0 (lessT e.kids[j]);have h1':=h1;rw [A0 e] at h1;generalize lessT e.kids[j]=y at hcc hts hE2;rw [hE,hE2] at hcc;generalize (e.kids.take j).map lessT=L at hB hts hlt;rcases hB with _|_
  ·simp [h1,h2,h3,h4,hj,hcc,hw,hE,hE2];rw [hI];exact ⟨rfl,rfl,by simp [h1'],by simp [h2],⟨_,by rw [hts];exact .own _,by simp [hE2]⟩,by simp⟩
  ·have hlen3:L.length<=1073741823:=by omega
   simp [h1,h2,h3,h4,hj,hcc,hw,hE,hE2,hlen3];rw [hI];exact ⟨rfl,rfl,by simp [h1'],by simp [h2],⟨_,by rw [hts];exact .own _,by simp [hE2]⟩,by simp⟩
 ·rw [hI];rintro ⟨tm,df,clk⟩ σ' ⟨rfl,rfl,h1,h2,⟨v,hB,h3⟩,h4⟩;rw [List.take_of_length_le (Nat.le_refl _)] at hB;have h1':=h1;rw [A0 e] at h1;simp [h1,h4];rw [hR];exact ⟨rfl,rfl,rfl,by simp [h1'],by simp [h2],v,hB,by simp [h3]⟩
 ·rw [hR];rintro ex ⟨tm,df,clk⟩ σ' ⟨rfl,rfl,rfl,h1,h2,v,hB,h3⟩;simp [h1,h2,h3,hB]
structure RFits (F:FuncId->Option TFun) (O:FuncId->List TV->Option TV):Prop where
 w:WFits F O
 v:VFits F
 h10:F 10=some f1010
 h35:F 35=some f1035
 h42:F 42=some f1042
 h43:F 43=some f1043
 h44:F 44=some f1044
 h45:F 45=some f65
set_option maxHeartbeats 4000000 in
theorem B3e {N b:Nat} (L:RFits F O) (e:PTerm) (he:OkTm e) (hkl:e.kids.length<=1000000) (hN:∀x∈e.kids,E3 x+100020<=N/\cntT x<=3000) (hN1:e.kids.length+20<=N) (a:TAct) (σ:Sto) (s2:Nat) (oc:TV) (hoc:(oc=.sl .nl []/\e.odds=[])\/oc=.sl (.own 3 1) (e.odds.map encI))
  (hdf:a.df=[]) (h1:a.tm.get 1=some (.bx 0 (E4 e oc) 28)) (h2:a.tm.get 2=some (.bx s2 I7 28)) (h3:a.tm.get 3=some (.sl .fz (e.kids.map A5))):
  Tw A6g b (A4 F O N) N (fun ex a' σ'=>a'.df=[]/\σ'=σ/\((ex=.ret/\a'.tm.get 2=some (.bx s2 (A5 (A0O e)) 28))\/(ex=.normal/\A0O e=e/\(∃oc',(oc'=oc\/oc'=.sl .fz (e.odds.map encI))/\a'.tm.get 1=some (.bx 0 (E4 e oc') 28))/\a'.tm.get 2=some (.bx s2 I7 28)))) [] (B6 A6g b (A4 F O N) N C4 a σ):=by
 obtain ⟨tm,df,clk⟩:=a;simp only at hdf h1 h2 h3;subst hdf;obtain ⟨N,rfl⟩:∃n,N=n+4:=⟨N - 4,by omega⟩;unfold E4 at h1;unfold I7 at h2;have ok:=he.sub;unfold A0O
 by_cases kk:e.kind=7
 ·rw [if_pos kk];rcases hks:e.kids with _|⟨x,_|⟨y,_|⟨z,r⟩⟩⟩
  ·rw [hks] at h1;rcases hoc with ⟨rfl,ho⟩|rfl
   ·simp [C4,h1,h2,h3,kk,hks,E4,I7,A6]
   ·simp [C4,h1,h2,h3,kk,hks,E4,I7,A6]
  ·rw [hks] at h1;rcases hoc with ⟨rfl,ho⟩|rfl
   ·simp [C4,h1,h2,h3,kk,hks,E4,I7,A6]
   ·simp [C4,h1,h2,h3,kk,hks,E4,I7,A6]
  ·have hmx:x∈e.kids:=by rw [hks];simp
   have hl2:1<e.kids.length:=by rw [hks];simp
   have hs:=A8c (O:=O) L.h10 L.h35 (N+4) x b σ (by have:=hN x hmx;omega) (ok x hmx);have hu:=B4J (O:=O) L.w L.h42 (N+3) e b σ hl2 he (fun x hx=>by have:=hN x hx;omega);have hu2:=B3d (O:=O) L.w L.h42 (N+3) e b σ hl2 he (fun x hx=>by have:=hN x hx;omega);have hk1:e.kids[1]=y:=by simp [hks]
   rw [show N+3+1=N+4 from rfl,hk1] at hu hu2;rw [A0,hks,kk] at hu;unfold E4 at hu2;rw [hks,kk] at hu2;rw [hks] at h1 h3;have hE:=A0 x;have hE2:=A0 y;simp only [List.map_cons,List.map_nil,hE,hE2] at hu hu2;rw [hE] at hs;cases hsx:A06 x with
   |false=>
    rw [hsx] at hs;rcases hoc with ⟨rfl,ho⟩|rfl
    ·simp [C4,h1,h2,h3,kk,hks,E4,I7,A6,hE,hE2,hs,hsx]
    ·simp [C4,h1,h2,h3,kk,hks,E4,I7,A6,hE,hE2,hs,hsx]
   |true=>
    rw [hsx] at hs;cases hn:Q8 e.n (Z3 e.m) y with
    |false=>
     rw [hn] at hu hu2;rcases hoc with ⟨rfl,ho⟩|rfl
     ·simp [C4,h1,h2,h3,kk,hks,E4,I7,A6,hE,hE2,hs,hsx,hn,hu2]
     ·simp [C4,h1,h2,h3,kk,hks,E4,I7,A6,hE,hE2,hs,hsx,hn,hu]
    |true=>
     rw [hn] at hu hu2;rcases hoc with ⟨rfl,ho⟩|rfl
     ·simp [C4,h1,h2,h3,kk,hks,E4,I7,A6,hE,hE2,hs,hsx,hn,hu2]
     ·simp [C4,h1,h2,h3,kk,hks,E4,I7,A6,hE,hE2,hs,hsx,hn,hu]
  ·rw [hks] at h1;have hl:¬(r.length:Int)+1+1+1=2:=by omega
   rcases hoc with ⟨rfl,ho⟩|rfl
   ·simp [C4,h1,h2,h3,kk,hks,E4,I7,A6,hl]
   ·simp [C4,h1,h2,h3,kk,hks,E4,I7,A6,hl]
 rw [if_neg kk];have k7:=kk;clear kk
 by_cases kk:e.kind=10
 ·rw [if_pos kk];rcases hks:e.kids with _|⟨x,_|⟨y,_|⟨z,r⟩⟩⟩
  ·rw [hks] at h1;rcases hoc with ⟨rfl,ho⟩|rfl
   ·simp [C4,h1,h2,h3,kk,hks,E4,I7,A6]
   ·simp [C4,h1,h2,h3,kk,hks,E4,I7,A6]
  ·rw [hks] at h1;rcases hoc with ⟨rfl,ho⟩|rfl
   ·simp [C4,h1,h2,h3,kk,hks,E4,I7,A6]
   ·simp [C4,h1,h2,h3,kk,hks,E4,I7,A6]
  ·have hh:=B0a (O:=O) L.h43 (N+3) x.val b σ;rw [show N+3+1=N+4 from rfl,A2] at hh;rw [hks] at h1 h3;have hE:=A0 x;have hE2:=A0 y
   by_cases q1:x.kind=1
   ·by_cases q2:x.val.n=0
    ·rw [q2] at hh;rcases hoc with ⟨rfl,ho⟩|rfl
     ·simp [C4,h1,h2,h3,kk,hks,E4,I7,A6,hE,hE2,hh,q1,q2]
     ·simp [C4,h1,h2,h3,kk,hks,E4,I7,A6,hE,hE2,hh,q1,q2]
    ·rcases hoc with ⟨rfl,ho⟩|rfl
     ·simp [C4,h1,h2,h3,kk,hks,E4,I7,A6,hE,hE2,hh,q1,q2]
     ·simp [C4,h1,h2,h3,kk,hks,E4,I7,A6,hE,hE2,hh,q1,q2]
   ·rcases hoc with ⟨rfl,ho⟩|rfl
    ·simp [C4,h1,h2,h3,kk,hks,E4,I7,A6,hE,hE2,q1]
    ·simp [C4,h1,h2,h3,kk,hks,E4,I7,A6,hE,hE2,q1]
  ·rw [hks] at h1;have hl:¬(r.length:Int)+1+1+1=2:=by omega
   rcases hoc with ⟨rfl,ho⟩|rfl
   ·simp [C4,h1,h2,h3,kk,hks,E4,I7,A6,hl]
   ·simp [C4,h1,h2,h3,kk,hks,E4,I7,A6,hl]
 rw [if_neg kk];have k10:=kk;clear kk
 by_cases kk:e.kind=11
 ·rw [if_pos kk];have hv:=B36 (O:=O) L.h35 (N+3) e.odds b σ;have hv2:=B7d (O:=O) L.h35 (N+3) b σ;rw [show N+3+1=N+4 from rfl] at hv hv2;rcases hks:e.kids with _|⟨x,_|⟨y,r⟩⟩
  ·rw [hks] at h1;rcases hoc with ⟨rfl,ho⟩|rfl
   ·simp [C4,h1,h2,h3,kk,hks,E4,I7,A6]
   ·simp [C4,h1,h2,h3,kk,hks,E4,I7,A6]
  ·rw [hks] at h1 h3;have hE:=A0 x;cases hb:A0S e.odds with
   |false=>
    rw [hb] at hv;rcases hoc with ⟨rfl,ho⟩|rfl
    ·simp [C4,h1,h2,h3,kk,hks,E4,I7,A6,hE,hv2]
    ·simp [C4,h1,h2,h3,kk,hks,E4,I7,A6,hE,hv]
   |true=>
    rw [hb] at hv;rcases hoc with ⟨rfl,ho⟩|rfl
    ·rw [ho] at hb;cases hb
    ·simp [C4,h1,h2,h3,kk,hks,E4,I7,A6,hE,hv]
  ·rw [hks] at h1;have hl:¬(r.length:Int)+1+1=1:=by omega
   rcases hoc with ⟨rfl,ho⟩|rfl
   ·simp [C4,h1,h2,h3,kk,hks,E4,I7,A6,hl]
   ·simp [C4,h1,h2,h3,kk,hks,E4,I7,A6,hl]
 rw [if_neg kk];have k11:=kk;clear kk
 by_cases kk:e.kind=12
 ·rw [if_pos kk];have hal:=B7b (O:=O) L.v L.h44 L.h45 (N+3) e.kids b σ he.len (by omega) (fun x hx=>⟨ok x hx,by have:=hN x hx;omega⟩);rw [show N+3+1=N+4 from rfl] at hal;rcases hks:e.kids with _|⟨x,r⟩
  ·rw [hks] at h1 h3 hal;have hal2:alikeB []=false:=rfl;rw [hal2] at hal;simp only [List.map_nil] at hal;rcases hoc with ⟨rfl,ho⟩|rfl
   ·simp [C4,h1,h2,h3,kk,hks,E4,I7,A6,hal]
   ·simp [C4,h1,h2,h3,kk,hks,E4,I7,A6,hal]
  ·rw [hks] at h1 h3 hal;have hE:=A0 x;simp only [List.map_cons,hE] at hal;cases hb:alikeB (x::r) with
   |false=>
    rw [hb] at hal;rcases hoc with ⟨rfl,ho⟩|rfl
    ·simp [C4,h1,h2,h3,kk,hks,E4,I7,A6,hE,hal,hb]
    ·simp [C4,h1,h2,h3,kk,hks,E4,I7,A6,hE,hal,hb]
   |true=>
    rw [hb] at hal;rcases hoc with ⟨rfl,ho⟩|rfl
    ·simp [C4,h1,h2,h3,kk,hks,E4,I7,A6,hE,hal,hb]
    ·simp [C4,h1,h2,h3,kk,hks,E4,I7,A6,hE,hal,hb]
 rw [if_neg kk];have k12:=kk;clear kk
 by_cases kk:e.kind=8
 ·rw [if_pos kk];rcases hks:e.kids with _|⟨x,_|⟨y,_|⟨z,_|⟨q,r⟩⟩⟩⟩
  ·rw [hks] at h1;rcases hoc with ⟨rfl,ho⟩|rfl
   ·simp [C4,h1,h2,h3,kk,hks,E4,I7,A6]
   ·simp [C4,h1,h2,h3,kk,hks,E4,I7,A6]
  ·rw [hks] at h1;rcases hoc with ⟨rfl,ho⟩|rfl
   ·simp [C4,h1,h2,h3,kk,hks,E4,I7,A6]
   ·simp [C4,h1,h2,h3,kk,hks,E4,I7,A6]
  ·rw [hks] at h1;rcases hoc with ⟨rfl,ho⟩|rfl
   ·simp [C4,h1,h2,h3,kk,hks,E4,I7,A6]
   ·simp [C4,h1,h2,h3,kk,hks,E4,I7,A6]
  ·have hmx:x∈e.kids:=by rw [hks];simp
   have hmy:y∈e.kids:=by rw [hks];simp
   have hmz:z∈e.kids:=by rw [hks];simp
   have hh:=B0a (O:=O) L.h43 (N+3) x.val b σ;rw [show N+3+1=N+4 from rfl,A2] at hh;have hs:=A8c (O:=O) L.h10 L.h35 (N+4) x b σ (by have:=hN x hmx;omega) (ok x hmx);have hsm:=A1K (O:=O) L.v L.h45 (N+4) y z b σ (by have:=hN y hmy;omega) (ok y hmy) (ok z hmz);rw [hks] at h1 h3;have hE:=A0 x;have hE2:=A0 y;have hE3:=A0 z;rw [hE] at hs;rw [hE2,hE3] at hsm
   by_cases q1:x.kind=1
   ·by_cases q2:x.val.n=0
    ·rw [q2] at hh;rcases hoc with ⟨rfl,ho⟩|rfl
     ·simp [C4,h1,h2,h3,kk,hks,E4,I7,A6,hE,hE2,hE3,hh,q1,q2]
     ·simp [C4,h1,h2,h3,kk,hks,E4,I7,A6,hE,hE2,hE3,hh,q1,q2]
    ·rcases hoc with ⟨rfl,ho⟩|rfl
     ·simp [C4,h1,h2,h3,kk,hks,E4,I7,A6,hE,hE2,hE3,hh,q1,q2]
     ·simp [C4,h1,h2,h3,kk,hks,E4,I7,A6,hE,hE2,hE3,hh,q1,q2]
   ·cases hsx:A06 x with
    |false=>
     rw [hsx] at hs;rcases hoc with ⟨rfl,ho⟩|rfl
     ·simp [C4,h1,h2,h3,kk,hks,E4,I7,A6,hE,hE2,hE3,q1,hs,hsx]
     ·simp [C4,h1,h2,h3,kk,hks,E4,I7,A6,hE,hE2,hE3,q1,hs,hsx]
    |true=>
     rw [hsx] at hs;cases hss:H5 y z with
     |false=>
      rw [hss] at hsm;rcases hoc with ⟨rfl,ho⟩|rfl
      ·simp [C4,h1,h2,h3,kk,hks,E4,I7,A6,hE,hE2,hE3,q1,hs,hsx,hsm,hss]
      ·simp [C4,h1,h2,h3,kk,hks,E4,I7,A6,hE,hE2,hE3,q1,hs,hsx,hsm,hss]
     |true=>
      rw [hss] at hsm;rcases hoc with ⟨rfl,ho⟩|rfl
      ·simp [C4,h1,h2,h3,kk,hks,E4,I7,A6,hE,hE2,hE3,q1,hs,hsx,hsm,hss]
      ·simp [C4,h1,h2,h3,kk,hks,E4,I7,A6,hE,hE2,hE3,q1,hs,hsx,hsm,hss]
  ·rw [hks] at h1;have hl:¬(r.length:Int)+1+1+1+1=3:=by omega
   rcases hoc with ⟨rfl,ho⟩|rfl
   ·simp [C4,h1,h2,h3,kk,hks,E4,I7,A6,hl]
   ·simp [C4,h1,h2,h3,kk,hks,E4,I7,A6,hl]
 rw [if_neg kk];rcases hoc with ⟨rfl,ho⟩|rfl
 ·simp [C4,h1,h2,h3,k7,k10,k11,k12,kk,E4,I7,A6]
 ·simp [C4,h1,h2,h3,k7,k10,k11,k12,kk,E4,I7,A6]
def A8j (t:PTerm) (oc:TV):List TV:=[.int .i64 t.kind,.int .i64 t.n,.int .i64 t.m,.int .i64 t.val.kind,.int .i64 t.val.n,.sl .fz (t.val.list.map C9),oc,.sl .nl []]
theorem B9s {N b:Nat} (L:RFits F O) (e:PTerm) (hks:e.kids=[]) (hN:5<=N) (a:TAct) (σ:Sto) (s2:Nat) (oc:TV) (hoc:(oc=.sl .nl []/\e.odds=[])\/oc=.sl (.own 3 1) (e.odds.map encI))
  (hdf:a.df=[]) (h1:a.tm.get 1=some (.bx 0 (A8j e oc) 28)) (h2:a.tm.get 2=some (.bx s2 I7 28)) (h3:a.tm.get 3=some (.sl .nl [])):
  Tw A6g b (A4 F O N) N (fun ex a' σ'=>a'.df=[]/\σ'=σ/\ex=.normal/\A0O e=e/\a'.tm.get 1=some (.bx 0 (A8j e oc) 28)/\a'.tm.get 2=some (.bx s2 I7 28)) [] (B6 A6g b (A4 F O N) N C4 a σ):=by
 obtain ⟨tm,df,clk⟩:=a;simp only at hdf h1 h2 h3;subst hdf;obtain ⟨N,rfl⟩:∃n,N=n+1:=⟨N - 1,by omega⟩;have hal:=B4O (O:=O) L.h44 N b σ (by omega);unfold A8j at*;unfold I7 at h2;unfold A0O;rw [hks];rcases hoc with ⟨rfl,ho⟩|rfl
 ·by_cases k7:e.kind=7
  ·simp [C4,h1,h2,h3,k7,I7,A6]
  by_cases k10:e.kind=10
  ·simp [C4,h1,h2,h3,k10,I7,A6]
  by_cases k11:e.kind=11
  ·simp [C4,h1,h2,h3,k11,I7,A6]
  by_cases k12:e.kind=12
  ·simp [C4,h1,h2,h3,k12,I7,A6,hal]
  by_cases k8:e.kind=8
  ·simp [C4,h1,h2,h3,k8,I7,A6]
  simp [C4,h1,h2,h3,k7,k10,k11,k12,k8,I7,A6]
 ·by_cases k7:e.kind=7
  ·simp [C4,h1,h2,h3,k7,I7,A6]
  by_cases k10:e.kind=10
  ·simp [C4,h1,h2,h3,k10,I7,A6]
  by_cases k11:e.kind=11
  ·simp [C4,h1,h2,h3,k11,I7,A6]
  by_cases k12:e.kind=12
  ·simp [C4,h1,h2,h3,k12,I7,A6,hal]
  by_cases k8:e.kind=8
  ·simp [C4,h1,h2,h3,k8,I7,A6]
  simp [C4,h1,h2,h3,k7,k10,k11,k12,k8,I7,A6]
theorem A8k (h15:F 15=some f1015) (L:RFits F O):∀(M N:Nat) (e:PTerm) (b:Nat) (σ:Sto),E3 e<=M->2*M+100100<=N->OkTm e->cntT e<=3000->Lt 1000000 e->
  A4 F O N b 15 [.agg (A5 e)] σ=some (.ret (.agg (A5 (lessT e))),σ)
 |0,N,e,b,σ,h,_,_,_,_=>by rw [B5] at h;omega
 |M+1,N,e,b,σ,h,hN,he,hc,hl=>by
  have ih:=A8k h15 L M;have hs:=B5 e;have hcd:=J8 e;have hkl:e.kids.length<=F7 e.kids:=by
   generalize e.kids=l
   induction l with
   |nil=>exact Nat.le_refl _
   |cons x l ihl=>simp only [F7,List.length_cons];have:=J8 x;omega
  have hol:=hl.odds;obtain ⟨N,rfl⟩:∃n,N=n+1:=⟨N - 1,by omega⟩;refine A3 h15 ?_;simp [B7e,A0 e];apply E2
  ·apply B9r (σ:=σ) e he (by omega) (by omega)
   ·exact fun x hx b σ=>ih N x b σ (by have:=D9 _ _ hx;omega) (by omega) (he.sub x hx) (by have:=O1 _ _ hx;omega) (hl.sub x hx)
   ·rfl
   ·simp [A0 e]
   ·simp;rfl
   ·simp
  rintro ex ⟨tm,df,clk⟩ σ1 ⟨rfl,rfl,hdf,h1,h2,v,hB,h3⟩;simp only at hdf h1 h2 h3;subst hdf;obtain ⟨e',he'⟩:∃e',e'=PTerm.mk e.kind e.n e.m e.val e.odds (e.kids.map lessT):=⟨_,rfl⟩;have hle:lessT e=A0O e':=by rw [he'];exact A1Z e
  rw [hle];have hok':OkTm e':=by
   rw [he'];exact .mk he.kind he.n he.m he.val he.olen he.odds (by rw [List.length_map];exact he.len) fun x hx=>by
    obtain ⟨y,hy,rfl⟩:=List.mem_map.1 hx;exact (A0o _ y (Nat.le_refl _)).2.2.1 (he.sub y hy)
  have hks':e'.kids=e.kids.map lessT:=by rw [he'];rfl
  have f1:e'.kind=e.kind:=by rw [he'];rfl
  have f2:e'.n=e.n:=by rw [he'];rfl
  have f3:e'.m=e.m:=by rw [he'];rfl
  have f4:e'.val=e.val:=by rw [he'];rfl
  have f5:e'.odds=e.odds:=by rw [he'];rfl
  have hN':∀x∈e'.kids,E3 x+100020<=N/\cntT x<=3000:=fun x hx=>by
   rw [hks'] at hx;obtain ⟨y,hy,rfl⟩:=List.mem_map.1 hx;have:=A0o _ y (Nat.le_refl _);have:=D9 _ _ hy;have:=O1 _ _ hy;omega
  rw [<-hks'] at hB;have hkl':e'.kids.length<=1000000:=by rw [hks',List.length_map];omega
  have hkl2:e'.kids.length+20<=N:=by rw [hks',List.length_map];have:=H8 e.kids;omega
  clear hks' hle he';rw [A0,<-f1,<-f2,<-f3,<-f4,<-f5] at h1;rw [<-f5] at hol;generalize hks:e'.kids=ks at hB;rcases ho:e'.odds with _|⟨z,zs⟩
  ·have hoc:((.sl .nl []:TV)=.sl .nl []/\e'.odds=[])\/(.sl .nl []:TV)=.sl (.own 3 1) (e'.odds.map encI):=.inl ⟨rfl,ho⟩;rw [ho] at h1;rcases hB with _|_
   ·simp [h1,h2,h3,ho,encI];apply E2
    ·apply B9s (s2:=_) L e' hks (by omega)
     ·exact hoc
     ·rfl
     ·simp [A8j,ho,encI]
     ·simp [h2,I7];rfl
     ·simp [h3]
    rintro ex ⟨tm,df,clk⟩ σ2 ⟨hdf,rfl,rfl,hct,h1,h2⟩;simp only at hdf h1 h2;subst hdf;rw [hct];unfold A8j at h1;unfold I7 at h2;simp [h1,h2,A0 e',hks,ho,Y1]
   ·rw [<-hks] at h3;simp [h1,h2,h3,ho,encI];apply E2
    ·apply B3e (s2:=_) L e' hok' hkl' hN' hkl2
     ·exact hoc
     ·rfl
     ·simp [E4,ho,encI]
     ·simp [h2,I7];rfl
     ·simp
    rintro ex ⟨tm,df,clk⟩ σ2 ⟨hdf,rfl,hq⟩;simp only at hdf hq;subst hdf;rcases hq with ⟨rfl,h2⟩|⟨rfl,hct,⟨oc',hoc',h1⟩,h2⟩
    ·rw [A0] at h2;simp [h2,A0 (A0O e')]
    ·rw [hct];unfold E4 at h1;unfold I7 at h2;rcases hoc' with rfl|rfl
     ·simp [h1,h2,A0 e',ho,Y1]
     ·simp [h1,h2,A0 e',ho,Y1]
  ·have hoc:((.sl (.own 3 1) (e'.odds.map encI):TV)=.sl .nl []/\e'.odds=[])\/(.sl (.own 3 1) (e'.odds.map encI):TV)=.sl (.own 3 1) (e'.odds.map encI):=.inr rfl;have hz:zs.length<=1073741823:=by rw [ho] at hol;simp at hol;omega
   have hE:encI z=[.int .i64 z]:=rfl;rw [ho] at h1;simp only [List.map_cons,hE] at h1;have hEl:∀x:Int,(encI x).length=1:=fun _=>rfl
   rcases hB with _|_
   ·simp [h1,h2,h3,ho,hE,hz,hEl];apply E2
    ·apply B9s (s2:=_) L e' hks (by omega)
     ·exact hoc
     ·rfl
     ·simp [A8j,ho,hE,hz,hEl]
     ·simp [h2,I7];rfl
     ·simp [h3]
    rintro ex ⟨tm,df,clk⟩ σ2 ⟨hdf,rfl,rfl,hct,h1,h2⟩;simp only at hdf h1 h2;subst hdf;rw [hct];unfold A8j at h1;unfold I7 at h2;simp [h1,h2,A0 e',hks,ho,Y1]
   ·rw [<-hks] at h3;simp [h1,h2,h3,ho,hE,hz,hEl];apply E2
    ·apply B3e (s2:=_) L e' hok' hkl' hN' hkl2
     ·exact hoc
     ·rfl
     ·simp [E4,ho,hE,hz,hEl]
     ·simp [h2,I7];rfl
     ·simp
    rintro ex ⟨tm,df,clk⟩ σ2 ⟨hdf,rfl,hq⟩;simp only at hdf hq;subst hdf;rcases hq with ⟨rfl,h2⟩|⟨rfl,hct,⟨oc',hoc',h1⟩,h2⟩
    ·rw [A0] at h2;simp [h2,A0 (A0O e')]
    ·rw [hct];unfold E4 at h1;unfold I7 at h2;rcases hoc' with rfl|rfl
     ·simp [h1,h2,A0 e',ho,Y1]
     ·simp [h1,h2,A0 e',ho,Y1]
end
section
open Go Go.Xe Go.Xt
def OT (f:FuncId) (args:List TV):Option TV:=
 if f=75 then some (.agg []) else if f=76 then some (.agg [.bool true]) else match args with
 |[]=>if f=8 then some (.bool true) else none
 |_=>none
theorem Lt.mono {B C:Nat} (hBC:B<=C):∀n (e:PTerm),E3 e<=n->Lt B e->Lt C e
 |0,e,hn,_=>by have:=B5 e;omega
 |n+1,e,hn,h=>Lt.of (Nat.le_trans h.val hBC) (Nat.le_trans h.odds hBC) fun x hx=>Lt.mono hBC n x (by have:=B5 e;have:=D9 _ x hx;omega) (h.sub x hx)
end
section
open Go Go.Xe Go.Xt
variable {F:FuncId->Option TFun} {O:FuncId->List TV->Option TV}
theorem C4E (hF:F 165=some f149) (G:FuncId) (cap:List TV) (N:Nat) (S:QTyp->Bool) (b:Nat) (σ:Sto) (l:List QTyp) (hl:l.length<=maxLen) (hn:l.length<N)
  (hc:∀x∈l,∀b,A4 F O N b G (.agg (B7 x)::cap) σ=some (.ret (.bool (S x)),σ)):
  ∃r:Int,A4 F O (N+1) b 165 [.sl .fz (l.map B7),.func G [] cap] σ=some (.ret (.int .i64 r),σ)/\decide (0<=r)=l.any S:=by
 suffices hh:∃e' σ',A4 F O (N+1) b 165 [.sl .fz (l.map B7),.func G [] cap] σ=some (e',σ')/\∃r:Int,e'=.ret (.int .i64 r)/\σ'=σ/\decide (0<=r)=l.any S by
  obtain ⟨e',σ',q1,r,rfl,rfl,q2⟩:=hh;exact ⟨r,q1,q2⟩
 refine D5 hF ?_;simp [x149];obtain ⟨I,hI⟩:∃I:Nat->TAct->Sto->Prop,I=(fun j a σ'=>a.df=[]/\σ'=σ/\(l.drop j).any S=l.any S/\a.tm.get 0=some (.sl .fz (l.map B7))/\a.tm.get 1=some (.func G [] cap)/\a.tm.get 7=some (.int .i64 (l.length:Int))/\a.tm.get 8=some (.int .i64 j)):=⟨_,rfl⟩
 obtain ⟨R,hR⟩:∃R:TEx->TAct->Sto->Prop,R=(fun ex a σ'=>a.df=[]/\σ'=σ/\(ex=.exit 0/\l.any S=false\/ex=.ret/\l.any S=true/\∃r:Int,0<=r/\a.tm.get 4=some (.int .i64 r))):=⟨_,rfl⟩;refine A9 I l.length R ?_ ?_ ?_ ?_ ?_
 ·rw [hI];simp
 ·omega
 ·rw [hI];rintro j ⟨tm,df,clk⟩ σ' hj ⟨rfl,rfl,hd,h0,h1,h7,h8⟩;rw [<-hI];have hw:=C8 hj hl;rw [A55 hj] at hd;have hcc:=hc l[j] (List.getElem_mem hj) σ'.length;rw [A1] at hcc;cases hs:S l[j] with
  |true=>
   rw [hs] at hd hcc;simp [h0,h1,h7,h8,hj,hcc,hw,A1];rw [hR];exact ⟨rfl,rfl,.inr ⟨rfl,by simpa using hd.symm,j,by omega,by simp⟩⟩
  |false=>
   rw [hs] at hd hcc;simp [h0,h1,h7,h8,hj,hcc,hw,A1];rw [hI]
   simpa [h0,h1,h7] using hd
 ·rw [hI];rintro ⟨tm,df,clk⟩ σ' ⟨rfl,rfl,hd,h0,h1,h7,h8⟩;rw [List.drop_of_length_le (Nat.le_refl _)] at hd;simp [h0,h1,h7,h8];rw [hR];exact ⟨rfl,rfl,.inl ⟨rfl,hd.symm⟩⟩
 ·rw [hR];rintro ex ⟨tm,df,clk⟩ σ' ⟨rfl,rfl,⟨rfl,h⟩|⟨rfl,h,r,hr,h4⟩⟩
  ·simp [h]
  ·simp [h,h4,hr]
theorem D3a (hF:F 119=some f95) (hI:F 165=some f149) (G:FuncId) (cap:List TV) (N:Nat) (S:QTyp->Bool) (b:Nat) (σ:Sto) (l:List QTyp) (hl:l.length<=maxLen) (hn:l.length<N)
  (hc:∀x∈l,∀b,A4 F O N b G (.agg (B7 x)::cap) σ=some (.ret (.bool (S x)),σ)):
  A4 F O (N+2) b 119 [.sl .fz (l.map B7),.func G [] cap] σ=some (.ret (.bool (l.any S)),σ):=by
 obtain ⟨r,hq,hr⟩:=C4E (O:=O) hI G cap N S σ.length σ l hl hn hc;refine A3 hF ?_;simp [x95,hq,<-hr]
theorem C4F (hF:F 237=some f157) (G:FuncId) (cap:List TV) (N:Nat) (S:PVal->Bool) (b:Nat) (σ:Sto) (l:List PVal) (hl:l.length<=maxLen) (hn:l.length<N)
  (hc:∀x∈l,∀b,A4 F O N b G (.agg (C9 x)::cap) σ=some (.ret (.bool (S x)),σ)):
  ∃r:Int,A4 F O (N+1) b 237 [.sl .fz (l.map C9),.func G [] cap] σ=some (.ret (.int .i64 r),σ)/\decide (0<=r)=l.any S:=by
 suffices hh:∃e' σ',A4 F O (N+1) b 237 [.sl .fz (l.map C9),.func G [] cap] σ=some (e',σ')/\∃r:Int,e'=.ret (.int .i64 r)/\σ'=σ/\decide (0<=r)=l.any S by
  obtain ⟨e',σ',q1,r,rfl,rfl,q2⟩:=hh;exact ⟨r,q1,q2⟩
 refine D5 hF ?_;simp [x157];obtain ⟨I,hI⟩:∃I:Nat->TAct->Sto->Prop,I=(fun j a σ'=>a.df=[]/\σ'=σ/\(l.drop j).any S=l.any S/\a.tm.get 0=some (.sl .fz (l.map C9))/\a.tm.get 1=some (.func G [] cap)/\a.tm.get 7=some (.int .i64 (l.length:Int))/\a.tm.get 8=some (.int .i64 j)):=⟨_,rfl⟩
 obtain ⟨R,hR⟩:∃R:TEx->TAct->Sto->Prop,R=(fun ex a σ'=>a.df=[]/\σ'=σ/\(ex=.exit 0/\l.any S=false\/ex=.ret/\l.any S=true/\∃r:Int,0<=r/\a.tm.get 4=some (.int .i64 r))):=⟨_,rfl⟩;refine A9 I l.length R ?_ ?_ ?_ ?_ ?_
 ·rw [hI];simp
 ·omega
 ·rw [hI];rintro j ⟨tm,df,clk⟩ σ' hj ⟨rfl,rfl,hd,h0,h1,h7,h8⟩;rw [<-hI];have hw:=C8 hj hl;rw [A55 hj] at hd;have hcc:=hc l[j] (List.getElem_mem hj) σ'.length;rw [A2] at hcc;cases hs:S l[j] with
  |true=>
   rw [hs] at hd hcc;simp [h0,h1,h7,h8,hj,hcc,hw,A2];rw [hR];exact ⟨rfl,rfl,.inr ⟨rfl,by simpa using hd.symm,j,by omega,by simp⟩⟩
  |false=>
   rw [hs] at hd hcc;simp [h0,h1,h7,h8,hj,hcc,hw,A2];rw [hI]
   simpa [h0,h1,h7] using hd
 ·rw [hI];rintro ⟨tm,df,clk⟩ σ' ⟨rfl,rfl,hd,h0,h1,h7,h8⟩;rw [List.drop_of_length_le (Nat.le_refl _)] at hd;simp [h0,h1,h7,h8];rw [hR];exact ⟨rfl,rfl,.inl ⟨rfl,hd.symm⟩⟩
 ·rw [hR];rintro ex ⟨tm,df,clk⟩ σ' ⟨rfl,rfl,⟨rfl,h⟩|⟨rfl,h,r,hr,h4⟩⟩
  ·simp [h]
  ·simp [h,h4,hr]
theorem D3b (hF:F 226=some f103) (hI:F 237=some f157) (G:FuncId) (cap:List TV) (N:Nat) (S:PVal->Bool) (b:Nat) (σ:Sto) (l:List PVal) (hl:l.length<=maxLen) (hn:l.length<N)
  (hc:∀x∈l,∀b,A4 F O N b G (.agg (C9 x)::cap) σ=some (.ret (.bool (S x)),σ)):
  A4 F O (N+2) b 226 [.sl .fz (l.map C9),.func G [] cap] σ=some (.ret (.bool (l.any S)),σ):=by
 obtain ⟨r,hq,hr⟩:=C4F (O:=O) hI G cap N S σ.length σ l hl hn hc;refine A3 hF ?_;simp [x103,hq,<-hr]
theorem C1f (h96:F 120=some f96) (N:Nat) (x:QTyp) (left:Int) (hl:I64 left) (h1:1<=left) (b k ver:Nat) (σ:Sto) (hk:σ.at k=some ⟨ver,.cells [.int .i64 left] 3⟩)
  (ih:∀b,A4 F O N b 97 [.agg (B7 x),.int .i64 (left - 1)] σ=some (.ret (.bool (C7 (left - 1).toNat x)),σ)):
  A4 F O (N+1) b 120 [.agg (B7 x),.ptr k 0] σ=some (.ret (.bool (!(C7 (left - 1).toNat x))),σ):=by
 have hc:=ih σ.length;have hw:IntKind.i64.wrap (left - 1)=left - 1:=by
  unfold I64 at hl;rw [D7]<;>omega
 rw [A1] at hc;refine A3 h96 ?_;generalize (left - 1).toNat=n1 at hc ⊢;cases hm:x.nl<;>(rw [hm] at hc;simp only [B3] at hc;simp [x96,A1,hm,B3,hk,hw,hc])
theorem G0 (σ:Sto) (o:TObj):Sto.at (σ++[some o]) σ.length=some o:=by simp [Sto.at]
theorem B9t (h56:F 97=some f56) (h96:F 120=some f96) (h95:F 119=some f95) (h149:F 165=some f149):∀(N:Nat) (t:QTyp) (left:Int) (b:Nat) (σ:Sto),szQ t<=N->OkQ t->I64 left->
  A4 F O N b 97 [.agg (B7 t),.int .i64 left] σ=some (.ret (.bool (C7 left.toNat t)),σ)
 |0,t,left,b,σ,h,_,_=>by rw [F3] at h;omega
 |1,t,left,b,σ,h,_,_=>by rw [F3] at h;omega
 |2,t,left,b,σ,h,_,_=>by rw [F3] at h;omega
 |3,t,left,b,σ,h,_,_=>by rw [F3] at h;omega
 |N+4,t,left,b,σ,h,ht,hl=>by
  have hs:=F3 t;have hk:=A1k t.list;refine A3 h56 ?_
  by_cases h1:left<1
  ·have e0:left.toNat=0:=by omega
   cases hm:t.nl<;>simp [x56,A1,hm,B3,h1,e0,C7,G0]
  obtain ⟨n,hn⟩:∃n:Nat,left.toNat=n+1:=⟨left.toNat - 1,by omega⟩;have hn2:(left - 1).toNat=n:=by omega
  have hl2:I64 (left - 1):=by unfold I64 at hl ⊢;omega
  have hany:∀σ1:Sto,∀k ver b,σ1.at k=some ⟨ver,.cells [.int .i64 left] 3⟩->A4 F O (N+3) b 119 [.sl .fz (t.list.map B7),.func 120 [] [.ptr k 0]] σ1=some (.ret (.bool (t.list.any fun x=> !(C7 n x))),σ1):=fun σ1 k ver b hat=>by
   rw [<-hn2];exact D3a (O:=O) h95 h149 120 [.ptr k 0] (N+1) (fun x=> !(C7 (left - 1).toNat x)) b σ1 t.list ht.len (by omega) (fun x hx b=>C1f h96 N x left hl (by omega) b k ver σ1 hat (fun b=>B9t h56 h96 h95 h149 N x (left - 1) b σ1 (by have:=O8 _ _ hx;omega) (ht.sub x hx) hl2))
  have hp:=G0 σ ⟨0,.cells [.int .i64 left] 3⟩;have hc:=hany _ _ _ σ.length hp;have hall:(!(t.list.any fun x=> !(C7 n x)))=t.list.all (C7 n):=by
   generalize t.list=l
   induction l with
   |nil=>rfl
   |cons a l ih=>rw [List.any_cons,List.all_cons,<-ih];cases C7 n a<;>simp
  generalize (t.list.any fun x=> !(C7 n x))=v at hc hall;rw [hn];cases hm:t.nl with
  |true=>
   have hnil:=ht.nl hm;simp [hnil] at hall
   by_cases k1:t.kind=1
   ·simp [x56,A1,hm,B3,h1,hp,k1,C7,hnil]
   by_cases k2:t.kind=2
   ·simp [x56,A1,hm,B3,h1,hp,k2,C7,hnil]
   by_cases k3:t.kind=3
   ·simp [x56,A1,hm,B3,h1,hp,k3,C7,hnil]
   by_cases k4:t.kind=4
   ·simp [x56,A1,hm,B3,h1,hp,k4,C7,hnil]
   simp [x56,A1,hm,B3,h1,hp,k1,k2,k3,k4,C7,hnil]
  |false=>
   by_cases k1:t.kind=1
   ·simp [x56,A1,hm,B3,h1,hp,k1,C7]
   by_cases k2:t.kind=2
   ·simp [x56,A1,hm,B3,h1,hp,k2,C7]
   by_cases k3:t.kind=3
   ·by_cases l2:(t.list.length:Int)<2
    ·have l2':¬2<=t.list.length:=by omega
     simp [x56,A1,hm,B3,h1,hp,k3,C7,l2,l2']
    by_cases l4:(4:Int)<(t.list.length:Int)
    ·have l4':¬t.list.length<=4:=by omega
     simp [x56,A1,hm,B3,h1,hp,k3,C7,l2,l4,l4']
    have l2':2<=t.list.length:=by omega
    have l4':t.list.length<=4:=by omega
    simp [x56,A1,hm,B3,h1,hp,k3,C7,l2,l4,l2',l4',hc,<-hall]
   by_cases k4:t.kind=4
   ·by_cases l1:(t.list.length:Int)=1
    ·have l1':t.list.length=1:=by omega
     simp [x56,A1,hm,B3,h1,hp,k4,C7,l1',hc,<-hall]
    ·have l1':t.list.length≠1:=by omega
     simp [x56,A1,hm,B3,h1,hp,k4,C7,l1,l1']
   simp [x56,A1,hm,B3,h1,hp,k1,k2,k3,k4,C7]
set_option maxHeartbeats 2000000 in
theorem B5U (h58:F 116=some f58):∀(N:Nat) (t:QTyp) (d:Int) (b:Nat) (σ:Sto),szQ t<=N->OkQ t->1<=d->d<=41->
  A4 F O N b 116 [.agg (B7 t),.int .i64 d] σ=some (.ret (.bool (C7 (41 - d).toNat t)),σ)
 |0,t,d,b,σ,h,_,_,_=>by rw [F3] at h;omega
 |N+1,t,d,b,σ,h,ht,hd1,hd2=>by
  have ih:∀(x:QTyp) (d:Int) (b:Nat) (σ:Sto),szQ x<=N->OkQ x->1<=d->d<=41->A4 F O N b 116 [.agg (B7 x),.int .i64 d] σ=some (.ret (.bool (C7 (41 - d).toNat x)),σ):=B5U h58 N
  have hs:=F3 t;have hk:=A1k t.list;refine A3 h58 ?_;have hlen:=ht.len;have hfine:∀fn:Bool,fn=(decide ((t.kind=1\/t.kind=2)/\t.list.length=0\/t.kind=3/\2<=t.list.length/\t.list.length<=4\/t.kind=4/\t.list.length=1))->fn=false->∀n,C7 n t=false:=fun fn h1 h2 n=>by
   subst h1;have h2:=of_decide_eq_false h2;cases n with
   |zero=>rfl
   |succ n=>
    unfold C7
    by_cases k12:t.kind=1\/t.kind=2
    ·rw [if_pos k12];apply decide_eq_false;exact fun e=>h2 (.inl ⟨k12,e⟩)
    rw [if_neg k12]
    by_cases k3:t.kind=3
    ·rw [if_pos k3,decide_eq_false (fun e=>h2 (.inr (.inl ⟨k3,e⟩)))];rfl
    rw [if_neg k3]
    by_cases k4:t.kind=4
    ·rw [if_pos k4,decide_eq_false (fun e=>h2 (.inr (.inr ⟨k4,e⟩)))];rfl
    rw [if_neg k4]
  by_cases hf:((t.kind=1\/t.kind=2)/\t.list.length=0\/t.kind=3/\2<=t.list.length/\t.list.length<=4\/t.kind=4/\t.list.length=1)
  case neg=>
   have hz:=hfine _ rfl (decide_eq_false hf);rw [hz]
   by_cases k1:t.kind=1
   ·have e1:t.list.length≠0:=fun e=>hf (.inl ⟨.inl k1,e⟩)
    have e2:(t.list.length:Int)≠0:=by omega
    cases hm:t.nl with
    |true=>exact absurd (by rw [ht.nl hm];rfl) e1
    |false=>simp [x58,A6,A1,hm,B3,k1,e1,e2]
   by_cases k2:t.kind=2
   ·have e1:t.list.length≠0:=fun e=>hf (.inl ⟨.inr k2,e⟩)
    have e2:(t.list.length:Int)≠0:=by omega
    cases hm:t.nl with
    |true=>exact absurd (by rw [ht.nl hm];rfl) e1
    |false=>simp [x58,A6,A1,hm,B3,k2,e1,e2]
   by_cases k3:t.kind=3
   ·by_cases l2:(2:Int)<=(t.list.length:Int)
    ·have l4:¬(t.list.length:Int)<=4:=fun e=>hf (.inr (.inl ⟨k3,by omega,by omega⟩))
     have l2':2<=t.list.length:=by omega
     have l4':¬t.list.length<=4:=by omega
     cases hm:t.nl<;>simp [x58,A6,A1,hm,B3,k3,l2,l4,l2',l4']
    ·have l2':¬2<=t.list.length:=by omega
     cases hm:t.nl<;>simp [x58,A6,A1,hm,B3,k3,l2,l2']
   by_cases k4:t.kind=4
   ·have e1:t.list.length≠1:=fun e=>hf (.inr (.inr ⟨k4,e⟩))
    have e2:(t.list.length:Int)≠1:=by omega
    cases hm:t.nl<;>simp [x58,A6,A1,hm,B3,k4,e1,e2]
   cases hm:t.nl<;>simp [x58,A6,A1,hm,B3,k1,k2,k3,k4]
  by_cases h40:40<d
  case pos=>
   have:(41 - d).toNat=0:=by omega
   rw [this]
   by_cases k1:t.kind=1
   ·have e1:t.list.length=0:=by omega
    cases hm:t.nl<;>simp [x58,A6,A1,hm,B3,k1,e1,h40,C7]
   by_cases k2:t.kind=2
   ·have e1:t.list.length=0:=by omega
    cases hm:t.nl<;>simp [x58,A6,A1,hm,B3,k2,e1,h40,C7]
   by_cases k3:t.kind=3
   ·have l2:2<=t.list.length/\t.list.length<=4:=by omega
    have l2'':(2:Int)<=(t.list.length:Int):=by omega
    have l4':(t.list.length:Int)<=4:=by omega
    cases hm:t.nl<;>simp [x58,A6,A1,hm,B3,k3,C7,l2.1,l2.2,l2'',l4',h40]
   have k4:t.kind=4:=by omega
   have e1:t.list.length=1:=by omega
   cases hm:t.nl<;>simp [x58,A6,A1,hm,B3,k4,e1,h40,C7]
  obtain ⟨n,hn⟩:∃n:Nat,(41 - d).toNat=n+1:=⟨(41 - d).toNat - 1,by omega⟩;have hn2:(41 - (d+1)).toNat=n:=by omega
  have hwd:IntKind.i64.wrap (d+1)=d+1:=by rw [D7]<;>omega
  rw [hn];have hk12:t.kind=1\/t.kind=2->t.list=[]/\C7 (n+1) t=t.list.all (C7 n):=fun k=>by
   have e1:t.list.length=0:=by omega
   have e2:=List.eq_nil_of_length_eq_zero e1;refine ⟨e2,?_⟩;unfold C7;rw [if_pos k,e2];rfl
  by_cases k1:t.kind=1
  ·obtain ⟨e2,e3⟩:=hk12 (.inl k1);rw [e3];cases hm:t.nl<;>
   ·simp [x58,A6,A1,hm,B3,k1,e2,h40];refine A9 (I:=fun j a σ'=>a.df=[]/\σ'=σ/\a.tm.get 5=some (.int .i64 0)/\a.tm.get 7=some (.int .i64 j)) 0
     (R:=fun ex a σ'=>ex=.exit 0/\a.df=[]/\σ'=σ) ?_ ?_ ?_ ?_ ?_
    ·simp
    ·omega
    ·rintro j ⟨tm,df,clk⟩ σ' hj;omega
    ·rintro ⟨tm,df,clk⟩ σ' ⟨rfl,rfl,g5,g7⟩;simp at g7;simp [g5,g7]
    ·rintro ex ⟨tm,df,clk⟩ σ' ⟨rfl,rfl,rfl⟩;simp
  by_cases k2:t.kind=2
  ·obtain ⟨e2,e3⟩:=hk12 (.inr k2);rw [e3];cases hm:t.nl<;>
   ·simp [x58,A6,A1,hm,B3,k2,e2,h40];refine A9 (I:=fun j a σ'=>a.df=[]/\σ'=σ/\a.tm.get 5=some (.int .i64 0)/\a.tm.get 7=some (.int .i64 j)) 0
     (R:=fun ex a σ'=>ex=.exit 0/\a.df=[]/\σ'=σ) ?_ ?_ ?_ ?_ ?_
    ·simp
    ·omega
    ·rintro j ⟨tm,df,clk⟩ σ' hj;omega
    ·rintro ⟨tm,df,clk⟩ σ' ⟨rfl,rfl,g5,g7⟩;simp at g7;simp [g5,g7]
    ·rintro ex ⟨tm,df,clk⟩ σ' ⟨rfl,rfl,rfl⟩;simp
  by_cases k3:t.kind=3
  ·have l2:2<=t.list.length/\t.list.length<=4:=by omega
   have l2'':(2:Int)<=(t.list.length:Int):=by omega
   have l4':(t.list.length:Int)<=4:=by omega
   cases hm:t.nl with
   |true=>rw [ht.nl hm] at l2;simp at l2
   |false=>
    simp [x58,A6,A1,hm,B3,k3,C7,l2.1,l2.2,l2'',l4',h40];obtain ⟨I,hI⟩:∃I:Nat->TAct->Sto->Prop,I=(fun j a σ'=>a.df=[]/\σ'=σ/\(t.list.drop j).all (C7 n)=t.list.all (C7 n)/\a.tm.get 1=some (.int .i64 d)/\a.tm.get 2=some (.bx 0 (B7 t) 66)/\a.tm.get 5=some (.int .i64 (t.list.length:Int))/\a.tm.get 7=some (.int .i64 j)):=⟨_,rfl⟩
    obtain ⟨R,hR⟩:∃R:TEx->TAct->Sto->Prop,R=(fun ex a σ'=>a.df=[]/\σ'=σ/\(ex=.exit 0/\t.list.all (C7 n)=true\/ex=.ret/\t.list.all (C7 n)=false/\a.tm.get 4=some (.bool false))):=⟨_,rfl⟩;refine A9 I t.list.length R ?_ ?_ ?_ ?_ ?_
    ·rw [hI];exact ⟨rfl,rfl,by simp,by simp,by simp [A1,hm,B3,k3],by simp [k3],by simp⟩
    ·omega
    ·rw [hI];rintro j ⟨tm,df,clk⟩ σ' hj ⟨rfl,rfl,hd,g1,g2,g5,g7⟩;rw [<-hI];have hw:=C8 hj ht.len;rw [A0A hj] at hd;have hcc:=ih t.list[j] (d+1) σ'.length σ' (by have:=O8 _ _ (List.getElem_mem hj);omega) (ht.sub _ (List.getElem_mem hj)) (by omega) (by omega);rw [hn2] at hcc;rw [A1,hm] at g2;simp only [B3] at g2;cases hs:C7 n t.list[j] with
     |true=>
      rw [hs] at hd hcc;cases hmj:(t.list[j]).nl<;>
      ·rw [A1,hmj] at hcc;simp only [B3] at hcc;simp [g1,g2,g5,g7,hj,hcc,hw,hwd,A1,hmj,B3];rw [hI]
       simpa [g1,g2,g5,A1,hm,B3] using hd
     |false=>
      rw [hs] at hd hcc;cases hmj:(t.list[j]).nl<;>
      ·rw [A1,hmj] at hcc;simp only [B3] at hcc;simp [g1,g2,g5,g7,hj,hcc,hw,hwd,A1,hmj,B3];rw [hR]
       simpa using hd.symm
    ·rw [hI];rintro ⟨tm,df,clk⟩ σ' ⟨rfl,rfl,hd,g1,g2,g5,g7⟩;rw [List.drop_of_length_le (Nat.le_refl _)] at hd;simp [g1,g5,g7];rw [hR];exact ⟨rfl,rfl,.inl ⟨rfl,hd.symm⟩⟩
    ·rw [hR];rintro ex ⟨tm,df,clk⟩ σ' ⟨rfl,rfl,⟨rfl,h⟩|⟨rfl,h,h4⟩⟩
     ·simp [h]
     ·simp [h,h4]
  have k4:t.kind=4:=by omega
  have e1:t.list.length=1:=by omega
  have e2:(t.list.length:Int)=1:=by omega
  cases hm:t.nl with
  |true=>rw [ht.nl hm] at e1;simp at e1
  |false=>
   simp [x58,A6,A1,hm,B3,k4,C7,e1,h40];obtain ⟨I,hI⟩:∃I:Nat->TAct->Sto->Prop,I=(fun j a σ'=>a.df=[]/\σ'=σ/\(t.list.drop j).all (C7 n)=t.list.all (C7 n)/\a.tm.get 1=some (.int .i64 d)/\a.tm.get 2=some (.bx 0 (B7 t) 66)/\a.tm.get 5=some (.int .i64 (t.list.length:Int))/\a.tm.get 7=some (.int .i64 j)):=⟨_,rfl⟩
   obtain ⟨R,hR⟩:∃R:TEx->TAct->Sto->Prop,R=(fun ex a σ'=>a.df=[]/\σ'=σ/\(ex=.exit 0/\t.list.all (C7 n)=true\/ex=.ret/\t.list.all (C7 n)=false/\a.tm.get 4=some (.bool false))):=⟨_,rfl⟩;refine A9 I t.list.length R ?_ ?_ ?_ ?_ ?_
   ·rw [hI];exact ⟨rfl,rfl,by simp,by simp,by simp [A1,hm,B3,k4,e1],by simp [k4,e1],by simp⟩
   ·omega
   ·rw [hI];rintro j ⟨tm,df,clk⟩ σ' hj ⟨rfl,rfl,hd,g1,g2,g5,g7⟩;rw [<-hI];have hw:=C8 hj ht.len;rw [A0A hj] at hd;have hcc:=ih t.list[j] (d+1) σ'.length σ' (by have:=O8 _ _ (List.getElem_mem hj);omega) (ht.sub _ (List.getElem_mem hj)) (by omega) (by omega);rw [hn2] at hcc;rw [A1,hm] at g2;simp only [B3] at g2;cases hs:C7 n t.list[j] with
    |true=>
     rw [hs] at hd hcc;cases hmj:(t.list[j]).nl<;>
     ·rw [A1,hmj] at hcc;simp only [B3] at hcc;simp [g1,g2,g5,g7,hj,hcc,hw,hwd,A1,hmj,B3];rw [hI]
      simpa [g1,g2,g5,A1,hm,B3] using hd
    |false=>
     rw [hs] at hd hcc;cases hmj:(t.list[j]).nl<;>
     ·rw [A1,hmj] at hcc;simp only [B3] at hcc;simp [g1,g2,g5,g7,hj,hcc,hw,hwd,A1,hmj,B3];rw [hR]
      simpa using hd.symm
   ·rw [hI];rintro ⟨tm,df,clk⟩ σ' ⟨rfl,rfl,hd,g1,g2,g5,g7⟩;rw [List.drop_of_length_le (Nat.le_refl _)] at hd;simp [g1,g5,g7];rw [hR];exact ⟨rfl,rfl,.inl ⟨rfl,hd.symm⟩⟩
   ·rw [hR];rintro ex ⟨tm,df,clk⟩ σ' ⟨rfl,rfl,⟨rfl,h⟩|⟨rfl,h,h4⟩⟩
    ·simp [h]
    ·simp [h,h4]
theorem A6m (h28:F 62=some f28) (h56:F 97=some f56) (h96:F 120=some f96) (h95:F 119=some f95) (h149:F 165=some f149) (N:Nat) (t:QTyp) (b:Nat) (σ:Sto) (h:szQ t<=N) (ht:OkQ t):
  A4 F O (N+1) b 62 [.agg (B7 t)] σ=some (.ret (.bool (C7 40 t)),σ):=by
 have hc:=B9t (O:=O) h56 h96 h95 h149 N t 40 σ.length σ h ht (by unfold I64;omega);have e:(40:Int).toNat=40:=rfl;rw [e] at hc;refine A3 h28 ?_;cases hm:t.nl<;>(rw [A1,hm] at hc;simp only [B3] at hc;simp [x28,A1,hm,B3,hc])
theorem A8l (h30:F 91=some f30) (h58:F 116=some f58) (N:Nat) (t:QTyp) (b:Nat) (σ:Sto) (h:szQ t<=N) (ht:OkQ t):
  A4 F O (N+1) b 91 [.agg (B7 t)] σ=some (.ret (.bool (C7 40 t)),σ):=by
 have hc:=B5U (O:=O) h58 N t 1 σ.length σ h ht (by omega) (by omega);have e:(41 - 1:Int).toNat=40:=rfl;rw [e] at hc;refine A3 h30 ?_;cases hm:t.nl<;>(rw [A1,hm] at hc;simp only [B3] at hc;simp [x30,A1,hm,B3,hc])
mutual
def sV:PVal->Nat
 |.mk _ _ l=>sVs l+1
def sVs:List PVal->Nat
 |[]=>0
 |t::l=>sV t+sVs l
end
theorem B4Q (v:PVal):sV v=sVs v.list+1:=by cases v;simp only [sV,PVal.list]
theorem B0k (h105:F 234=some f105):∀(N:Nat) (v:PVal) (n:Nat) (b:Nat) (σ:Sto),szV v<=N->OkV v->n<=1000->
  A4 F O N b 234 [.agg (C9 v),.int .i64 (n:Int)] σ=some (.ret (.int .i64 ((min (n+sV v) 1001:Nat):Int)),σ)
 |0,v,n,b,σ,h,_,_=>by rw [D6] at h;omega
 |N+1,v,n,b,σ,h,hv,hn=>by
  have ih:=B0k h105 N;have hs:=D6 v;have hk:=R8 v.list;have hd:=B4Q v;have hw1:IntKind.i64.wrap ((n:Int)+1)=((n+1:Nat):Int):=by rw [D7]<;>omega
  suffices hh:∃e' σ',A4 F O (N+1) b 234 [.agg (C9 v),.int .i64 (n:Int)] σ=some (e',σ')/\∃r:Nat,e'=.ret (.int .i64 (r:Int))/\σ'=σ/\r=min (n+sV v) 1001 by
   obtain ⟨e',σ',q1,r',rfl,rfl,rfl⟩:=hh;exact q1
  refine D5 h105 ?_;simp [x105,A2,hw1];obtain ⟨I,hI⟩:∃I:Nat->TAct->Sto->Prop,I=(fun j a σ'=>a.df=[]/\σ'=σ/\∃acc:Nat,min (acc+sVs (v.list.drop j)) 1001=min (n+sV v) 1001/\acc<=1001/\a.tm.get 1=some (.int .i64 (acc:Int))/\a.tm.get 2=some (.bx 0 (C9 v) 24)/\a.tm.get 5=some (.int .i64 j)):=⟨_,rfl⟩
  obtain ⟨R,hR⟩:∃R:TEx->TAct->Sto->Prop,R=(fun ex a σ'=>ex=.exit 0/\a.df=[]/\σ'=σ/\a.tm.get 1=some (.int .i64 ((min (n+sV v) 1001:Nat):Int))):=⟨_,rfl⟩;refine A9 I v.list.length R ?_ ?_ ?_ ?_ ?_
  ·rw [hI];exact ⟨rfl,rfl,n+1,by rw [List.drop_zero];omega,by omega,by simp,by simp [A2],by simp⟩
  ·omega
  ·rw [hI];rintro j ⟨tm,df,clk⟩ σ' hj ⟨rfl,rfl,acc,hacc,hle,g1,g2,g5⟩;rw [<-hI];have hw:=C8 hj hv.len;have hdr:sVs (v.list.drop j)=sV v.list[j]+sVs (v.list.drop (j+1)):=by rw [List.drop_eq_getElem_cons hj];rfl
   rw [A2] at g2
   by_cases ha:(acc:Int)<=1000
   ·have hcc:=ih v.list[j] acc σ'.length σ' (by have:=G9 _ _ (List.getElem_mem hj);omega) (hv.sub _ (List.getElem_mem hj)) (by omega);rw [A2] at hcc;generalize hr:min (acc+sV v.list[j]) 1001=r at hcc;have ha':acc<=1000:=by omega
    simp [g1,g2,g5,hj,ha,ha',hcc,hw,A2];rw [hI];exact ⟨rfl,rfl,r,by omega,by omega,by simp,by simp [g2,A2],by simp⟩
   ·have ha':¬acc<=1000:=by omega
    simp [g1,g2,g5,hj,ha,ha'];rw [hR];exact ⟨rfl,rfl,rfl,by simp [g1];omega⟩
  ·rw [hI];rintro ⟨tm,df,clk⟩ σ' ⟨rfl,rfl,acc,hacc,hle,g1,g2,g5⟩;rw [List.drop_of_length_le (Nat.le_refl _)] at hacc;have e0:sVs ([]:List PVal)=0:=rfl;rw [e0] at hacc;rw [A2] at g2;simp [g1,g2,g5];rw [hR];exact ⟨rfl,rfl,rfl,by simp [g1];omega⟩
  ·rw [hR];rintro ex ⟨tm,df,clk⟩ σ' ⟨rfl,rfl,rfl,g1⟩;simp [g1]
theorem B7f (h63:F 223=some f63) (h105:F 234=some f105) (N:Nat) (v:PVal) (b:Nat) (σ:Sto) (h:szV v<=N) (hv:OkV v):
  A4 F O (N+1) b 223 [.agg (C9 v)] σ=some (.ret (.int .i64 ((min (sV v) 1001:Nat):Int)),σ):=by
 have hc:=B0k (O:=O) h105 N v 0 σ.length σ h hv (by omega);rw [A2,Nat.zero_add] at hc;generalize min (sV v) 1001=r at hc ⊢;have e0:((0:Nat):Int)=0:=rfl;rw [e0] at hc;refine A3 h63 ?_;simp [x63,A2,hc]
theorem B3f (h61:F 168=some f61):∀(N:Nat) (v:PVal) (b:Nat) (σ:Sto),szV v<=N->OkV v->
  A4 F O N b 168 [.agg (C9 v)] σ=some (.ret (.int .i64 ((min (sV v) 1001:Nat):Int)),σ)
 |0,v,b,σ,h,_=>by rw [D6] at h;omega
 |N+1,v,b,σ,h,hv=>by
  have ih:=B3f h61 N;have hs:=D6 v;have hk:=R8 v.list;have hd:=B4Q v
  suffices hh:∃e' σ',A4 F O (N+1) b 168 [.agg (C9 v)] σ=some (e',σ')/\∃r:Nat,e'=.ret (.int .i64 (r:Int))/\σ'=σ/\r=min (sV v) 1001 by
   obtain ⟨e',σ',q1,r',rfl,rfl,rfl⟩:=hh;exact q1
  refine D5 h61 ?_;simp [x61,A2];obtain ⟨I,hI⟩:∃I:Nat->TAct->Sto->Prop,I=(fun j a σ'=>a.df=[]/\σ'=σ/\∃acc:Nat,min (acc+sVs (v.list.drop j)) 1001=min (sV v) 1001/\acc<=1000/\a.tm.get 3=some (.int .i64 (acc:Int))/\a.tm.get 7=some (.sl .fz (v.list.map C9))/\a.tm.get 8=some (.int .i64 (v.list.length:Int))/\a.tm.get 9=some (.int .i64 j)):=⟨_,rfl⟩
  obtain ⟨R,hR⟩:∃R:TEx->TAct->Sto->Prop,R=(fun ex a σ'=>ex=.exit 0/\a.df=[]/\σ'=σ/\a.tm.get 3=some (.int .i64 ((min (sV v) 1001:Nat):Int))):=⟨_,rfl⟩;refine A9 I v.list.length R ?_ ?_ ?_ ?_ ?_
  ·rw [hI];exact ⟨rfl,rfl,1,by rw [List.drop_zero];omega,by omega,by simp,by simp,by simp,by simp⟩
  ·omega
  ·rw [hI];rintro j ⟨tm,df,clk⟩ σ' hj ⟨rfl,rfl,acc,hacc,hle,g3,g7,g8,g9⟩;rw [<-hI];have hw:=C8 hj hv.len;have hdr:sVs (v.list.drop j)=sV v.list[j]+sVs (v.list.drop (j+1)):=by rw [List.drop_eq_getElem_cons hj];rfl
   have hcc:=ih v.list[j] σ'.length σ' (by have:=G9 _ _ (List.getElem_mem hj);omega) (hv.sub _ (List.getElem_mem hj));rw [A2] at hcc;generalize hr:min (sV v.list[j]) 1001=r at hcc;have hwa:IntKind.i64.wrap ((acc:Int)+(r:Int))=((acc+r:Nat):Int):=by rw [D7]<;>omega
   obtain ⟨m,hm⟩:∃m,m=acc+r:=⟨_,rfl⟩;rw [<-hm] at hwa;have hin:A0t [.int .i64 (m:Int),.int .i64 1001]=some [(.i64,(m:Int)),(.i64,1001)]:=rfl
   by_cases h1:(1001:Int)<(m:Int)
   ·simp [g3,g7,g8,g9,hj,hcc,hw,hwa,A2,hin,G7,h1];rw [hR];refine ⟨rfl,rfl,rfl,?_⟩;have:min (sV v) 1001=1001:=by omega
    simp [this]
   ·by_cases ha:(1000:Int)<(m:Int)
    ·simp [g3,g7,g8,g9,hj,hcc,hw,hwa,A2,hin,G7,h1,ha];rw [hR];refine ⟨rfl,rfl,rfl,?_⟩;have:min (sV v) 1001=m:=by omega
     simp [this]
    ·simp [g3,g7,g8,g9,hj,hcc,hw,hwa,A2,hin,G7,h1,ha];rw [hI];exact ⟨rfl,rfl,m,by omega,by omega,by simp,by simp [g7],by simp [g8],by simp⟩
  ·rw [hI];rintro ⟨tm,df,clk⟩ σ' ⟨rfl,rfl,acc,hacc,hle,g3,g7,g8,g9⟩;rw [List.drop_of_length_le (Nat.le_refl _)] at hacc;have e0:sVs ([]:List PVal)=0:=rfl;rw [e0] at hacc;simp [g3,g7,g8,g9];rw [hR];exact ⟨rfl,rfl,rfl,by simp [g3];omega⟩
  ·rw [hR];rintro ex ⟨tm,df,clk⟩ σ' ⟨rfl,rfl,rfl,g1⟩;simp [g1]
theorem D3c (hF:F 225=some f32) (G N:Nat) (S:QTyp->PVal->Bool) (b:Nat) (σ:Sto) (l:List QTyp) (m:List PVal) (md:Bool) (hmd:md=true->l=[]) (hl:l.length<=maxLen) (hm:m.length<=maxLen) (hn:l.length<N)
  (hc:∀x∈l,∀y∈m,∀b,A4 F O N b G [.agg (B7 x),.agg (C9 y)] σ=some (.ret (.bool (S x y)),σ)):
  A4 F O (N+1) b 225 [.sl (B3 md) (l.map B7),.sl .fz (m.map C9),.func G [] []] σ=some (.ret (.bool (H0 S l m)),σ):=by
 refine A3 hF ?_
 by_cases hlm:(l.length:Int)=(m.length:Int)
 case neg=>
  have hne:l.length≠m.length:=by omega
  cases md<;>simp [x32,B3,hlm,hne,X4 hne]
 have hlm':l.length=m.length:=by omega
 cases md with
 |true=>
  have hl0:=hmd rfl;subst hl0;have hm0:m=[]:=List.eq_nil_of_length_eq_zero (by simpa using hlm'.symm);subst hm0;simp [x32,B3];refine A9 (I:=fun j a σ'=>a.df=[]/\σ'=σ/\a.tm.get 16=some (.int .i64 0)/\a.tm.get 17=some (.int .i64 j)) 0
   (R:=fun ex a σ'=>ex=.exit 0/\a.df=[]/\σ'=σ) ?_ ?_ ?_ ?_ ?_
  ·simp
  ·omega
  ·rintro j ⟨tm,df,clk⟩ σ' hj;omega
  ·rintro ⟨tm,df,clk⟩ σ' ⟨rfl,rfl,g5,g7⟩;simp at g7;simp [g5,g7]
  ·rintro ex ⟨tm,df,clk⟩ σ' ⟨rfl,rfl,rfl⟩;simp [H0]
 |false=>
  simp [x32,B3,hlm'];obtain ⟨I,hI⟩:∃I:Nat->TAct->Sto->Prop,I=(fun j a σ'=>a.df=[]/\σ'=σ/\H0 S (l.drop j) (m.drop j)=H0 S l m/\a.tm.get 1=some (.sl .fz (m.map C9))/\a.tm.get 2=some (.func G [] [])/\a.tm.get 15=some (.sl .fz (l.map B7))/\a.tm.get 16=some (.int .i64 (m.length:Int))/\a.tm.get 17=some (.int .i64 j)):=⟨_,rfl⟩
  obtain ⟨R,hR⟩:∃R:TEx->TAct->Sto->Prop,R=(fun ex a σ'=>a.df=[]/\σ'=σ/\(ex=.exit 0/\H0 S l m=true\/ex=.ret/\H0 S l m=false/\a.tm.get 6=some (.bool false))):=⟨_,rfl⟩;refine A9 I m.length R ?_ ?_ ?_ ?_ ?_
  ·rw [hI];simp
  ·omega
  ·rw [hI];rintro j ⟨tm,df,clk⟩ σ' hj ⟨rfl,rfl,hd,h1,h2,h15,h16,h17⟩;rw [<-hI];have hjl:j<l.length:=by omega
   have hw:=C8 hj hm;rw [S0 hjl hj] at hd;have hcc:=hc l[j] (List.getElem_mem hjl) m[j] (List.getElem_mem hj) σ'.length;rw [A2] at hcc;cases hs:S l[j] m[j] with
   |true=>
    rw [hs] at hd hcc;cases hmj:(l[j]).nl<;>
    ·rw [A1,hmj] at hcc;simp only [B3] at hcc;simp [h1,h2,h15,h16,h17,hj,hjl,hcc,hw,A1,A2,hmj,B3];rw [hI]
     simpa [h1,h2,h15,h16] using hd
   |false=>
    rw [hs] at hd hcc;cases hmj:(l[j]).nl<;>
    ·rw [A1,hmj] at hcc;simp only [B3] at hcc;simp [h1,h2,h15,h16,h17,hj,hjl,hcc,hw,A1,A2,hmj,B3];rw [hR]
     simpa using hd.symm
  ·rw [hI];rintro ⟨tm,df,clk⟩ σ' ⟨rfl,rfl,hd,h1,h2,h15,h16,h17⟩;rw [X0 (by omega) (by omega)] at hd;simp [h1,h2,h15,h16,h17];rw [hR];exact ⟨rfl,rfl,.inl ⟨rfl,hd.symm⟩⟩
  ·rw [hR];rintro ex ⟨tm,df,clk⟩ σ' ⟨rfl,rfl,⟨rfl,h⟩|⟨rfl,h,h6⟩⟩
   ·simp [h]
   ·simp [h,h6]
mutual
def hasV:PVal->QTyp->Bool
 |.mk k n l,t=>decide (k=t.kind)&&(if t.kind=1 then decide (n=0\/n=1)&&decide (l.length=0) else if t.kind=2 then decide (-2147483648<=n/\n<=2147483647)&&decide (l.length=0)
   else if t.kind=3 then decide (n=0)&&B3g l t.list else decide (n=0)&&(decide (l.length<=32)&&hasAll l t.list))
def B3g:List PVal->List QTyp->Bool
 |[],[]=>true
 |a::l,b::m=>hasV a b&&B3g l m
 |_,_=>false
def hasAll:List PVal->List QTyp->Bool
 |[],_=>true
 |a::l,ts=>(match ts with|x::_=>hasV a x|[]=>false)&&hasAll l ts
end
theorem A8m:∀(l:List PVal) (m:List QTyp),B3g l m=H0 (fun t v=>hasV v t) m l
 |[],[]=>rfl
 |[],_::_=>rfl
 |_::_,[]=>rfl
 |a::l,b::m=>by simp only [B3g,H0,A8m l m]
theorem A5G (x:QTyp) (r:List QTyp):∀(l:List PVal),hasAll l (x::r)=l.all (fun v=>hasV v x)
 |[]=>rfl
 |a::l=>by simp only [hasAll,List.all_cons,A5G x r l]
theorem A57 (v:PVal) (t:QTyp):hasV v t=(decide (v.kind=t.kind)&&(if t.kind=1 then decide (v.n=0\/v.n=1)&&decide (v.list.length=0) else if t.kind=2 then decide (-2147483648<=v.n/\v.n<=2147483647)&&decide (v.list.length=0)
   else if t.kind=3 then decide (v.n=0)&&B3g v.list t.list else decide (v.n=0)&&(decide (v.list.length<=32)&&hasAll v.list t.list))):=by
 cases v;simp only [hasV,PVal.kind,PVal.n,PVal.list];rfl
def Gd (t:QTyp):Prop:=(t.kind=1\/t.kind=2)\/∃n,C7 n t=true
theorem Gd.sub {t:QTyp} (h:Gd t) (k:t.kind=3\/t.kind=4):∀x∈t.list,Gd x:=by
 rcases h with h|⟨n,h⟩
 ·omega
 ·cases n with
  |zero=>simp [C7] at h
  |succ n=>
   unfold C7 at h;rw [if_neg (by omega)] at h;intro x hx;refine .inr ⟨n,?_⟩;split at h
   ·simp only [Bool.and_eq_true] at h;exact List.all_eq_true.1 h.2 x hx
   ·split at h
    ·simp only [Bool.and_eq_true] at h;exact List.all_eq_true.1 h.2 x hx
    ·cases h
theorem Gd.len {t:QTyp} (h:Gd t) (k1:t.kind≠1) (k2:t.kind≠2):t.kind=3/\2<=t.list.length\/t.kind=4/\∃x,t.list=[x]:=by
 rcases h with h|⟨n,h⟩
 ·omega
 ·cases n with
  |zero=>simp [C7] at h
  |succ n=>
   unfold C7 at h;rw [if_neg (by omega)] at h;split at h
   ·rename_i k3;simp only [Bool.and_eq_true,decide_eq_true_eq] at h;exact .inl ⟨k3,h.1.1⟩
   ·split at h
    ·rename_i k4;simp only [Bool.and_eq_true,decide_eq_true_eq] at h
     exact .inr ⟨k4,by
      match t.list,h.1 with
      |[x],_=>exact ⟨x,rfl⟩⟩
    ·cases h
theorem C4G (h104:F 227=some f104) (N:Nat) (v:PVal) (kd:Int) (x:QTyp) (r:List QTyp) (b k ver:Nat) (σ:Sto) (hk:σ.at k=some ⟨ver,.cells [.int .i64 kd,.sl .fz ((x::r).map B7)] 66⟩)
  (ih:∀b,A4 F O N b 208 [.agg (B7 x),.agg (C9 v)] σ=some (.ret (.bool (hasV v x)),σ)):
  A4 F O (N+1) b 227 [.agg (C9 v),.ptr k 0] σ=some (.ret (.bool (!(hasV v x))),σ):=by
 have hc:=ih σ.length;rw [A2] at hc;refine A3 h104 ?_;generalize hasV v x=hv at hc ⊢;cases hm:x.nl<;>(rw [A1,hm] at hc;simp only [B3] at hc;simp only [List.map_cons,A1 x,hm,B3] at hk;simp [x104,A2,hk,hc])
structure HFits (F:FuncId->Option TFun):Prop where
 h60:F 208=some f60
 h104:F 227=some f104
 h103:F 226=some f103
 h157:F 237=some f157
 h32:F 225=some f32
set_option maxHeartbeats 1000000 in
theorem B9u (V:HFits F):∀(N:Nat) (v:PVal) (t:QTyp) (b:Nat) (σ:Sto),szV v<=N->szQ t<=N->OkV v->OkQ t->Gd t->
  A4 F O N b 208 [.agg (B7 t),.agg (C9 v)] σ=some (.ret (.bool (hasV v t)),σ)
 |0,v,t,b,σ,h,_,_,_,_=>by rw [D6] at h;omega
 |1,v,t,b,σ,h,_,_,_,_=>by rw [D6] at h;omega
 |2,v,t,b,σ,h,_,_,_,_=>by rw [D6] at h;omega
 |3,v,t,b,σ,h,_,_,_,_=>by rw [D6] at h;omega
 |N+4,v,t,b,σ,h,hq,hv,ht,hg=>by
  have hs:=D6 v;have hk:=R8 v.list;have hs2:=F3 t;have hk2:=A1k t.list;refine A3 V.h60 ?_;rw [A57]
  by_cases hkd:v.kind=t.kind
  case neg=>cases hm:t.nl<;>simp [x60,A1,A2,hm,B3,hkd,G0]
  have hkd':decide (v.kind=t.kind)=true:=decide_eq_true hkd;rw [hkd',Bool.true_and]
  by_cases k1:t.kind=1
  ·rw [if_pos k1];have kv:v.kind=1:=by omega
   by_cases n0:v.n=0
   ·cases hm:t.nl<;>simp [x60,A1,A2,hm,B3,k1,kv,G0,n0]
   by_cases n1:v.n=1
   ·cases hm:t.nl<;>simp [x60,A1,A2,hm,B3,k1,kv,G0,n1]
   cases hm:t.nl<;>simp [x60,A1,A2,hm,B3,k1,kv,G0,n0,n1]
  rw [if_neg k1]
  by_cases k2:t.kind=2
  ·rw [if_pos k2];have kv:v.kind=2:=by omega
   by_cases n0:-2147483648<=v.n
   ·by_cases n1:v.n<=2147483647
    ·cases hm:t.nl<;>simp [x60,A1,A2,hm,B3,k2,kv,G0,n0,n1]
    ·cases hm:t.nl<;>simp [x60,A1,A2,hm,B3,k2,kv,G0,n0,n1]
   ·cases hm:t.nl<;>simp [x60,A1,A2,hm,B3,k2,kv,G0,n0]
  rw [if_neg k2];have hnl:t.nl=false:=by
   cases hm:t.nl with
   |false=>rfl
   |true=>
    rcases hg.len k1 k2 with ⟨_,h3⟩|⟨_,x,h4⟩
    ·rw [ht.nl hm] at h3;simp at h3
    ·rw [ht.nl hm] at h4;cases h4
  rcases hg.len k1 k2 with ⟨k3,h3⟩|⟨k4,x,h4⟩
  ·rw [if_pos k3,A8m];have kv:v.kind=3:=by omega
   by_cases n0:v.n=0
   ·have hc:∀σ1 b,A4 F O (N+3) b 225 [.sl .fz (t.list.map B7),.sl .fz (v.list.map C9),.func 208 [] []] σ1=some (.ret (.bool (H0 (fun t v=>hasV v t) t.list v.list)),σ1):=fun σ1 b=>
     D3c (O:=O) V.h32 208 (N+2) (fun t v=>hasV v t) b σ1 t.list v.list false (fun e=>by cases e) ht.len hv.len (by omega) (fun x hx y hy b=>B9u V (N+2) y x b σ1 (by have:=G9 _ _ hy;omega) (by have:=O8 _ _ hx;omega) (hv.sub y hy) (ht.sub x hx) (hg.sub (.inl k3) x hx))
    simp [x60,A1,A2,hnl,B3,k3,kv,G0,n0,hc]
   ·simp [x60,A1,A2,hnl,B3,k3,kv,G0,n0]
  ·have k3:t.kind≠3:=by omega
   rw [if_neg k3,h4,A5G];have kv:v.kind=4:=by omega
   by_cases n0:v.n=0
   case neg=>simp [x60,A1,A2,hnl,B3,k4,kv,G0,n0]
   by_cases l32:(v.list.length:Int)<=32
   case neg=>
    have l32':¬v.list.length<=32:=by omega
    simp [x60,A1,A2,hnl,B3,k4,kv,G0,n0,l32,l32']
   have l32':v.list.length<=32:=by omega
   have hxm:x∈t.list:=by rw [h4];simp
   have hp:=G0 σ ⟨0,.cells [.int .i64 t.kind,.sl .fz ([x].map B7)] 66⟩;have hc:=D3b (O:=O) V.h103 V.h157 227 [.ptr σ.length 0] (N+1) (fun y=> !(hasV y x)) σ.length _ v.list hv.len (by omega) (fun y hy b=>C4G V.h104 N y t.kind x [] b σ.length 0 _ hp (fun b=>B9u V N y x b _ (by have:=G9 _ _ hy;omega) (by have:=O8 _ _ hxm;omega) (hv.sub y hy) (ht.sub x hxm) (hg.sub (.inr k4) x hxm)))
   have hall:(!(v.list.any fun y=> !(hasV y x)))=v.list.all (fun y=>hasV y x):=by
    generalize v.list=l
    induction l with
    |nil=>rfl
    |cons a l ih=>rw [List.any_cons,List.all_cons,<-ih];cases hasV a x<;>simp
   generalize (v.list.any fun y=> !(hasV y x))=w at hc hall;rw [k4] at hc hp;simp only [List.map_cons,List.map_nil] at hc hp;simp [x60,A1 t,A2,hnl,B3,k4,kv,h4,hp,n0,l32,l32',hc,<-hall]
set_option maxHeartbeats 1000000 in
theorem D0O (h62:F 235=some f62):∀(N:Nat) (v:PVal) (t:QTyp) (b:Nat) (σ:Sto),szV v<=N->szQ t<=N->OkV v->OkQ t->Gd t->
  A4 F O N b 235 [.agg (B7 t),.agg (C9 v)] σ=some (.ret (.bool (hasV v t)),σ)
 |0,v,t,b,σ,h,_,_,_,_=>by rw [D6] at h;omega
 |N+1,v,t,b,σ,h,hq,hv,ht,hg=>by
  have ih:∀(x:PVal) (u:QTyp) (b:Nat) (σ:Sto),szV x<=N->szQ u<=N->OkV x->OkQ u->Gd u->A4 F O N b 235 [.agg (B7 u),.agg (C9 x)] σ=some (.ret (.bool (hasV x u)),σ):=D0O h62 N
  have hs:=D6 v;have hk:=R8 v.list;have hs2:=F3 t;refine A3 h62 ?_;have hvd:=A57 v t
  by_cases hkd:v.kind=t.kind
  case neg=>rw [hvd];cases hm:t.nl<;>simp [x62,A6,A1,A2,hm,B3,hkd]
  have hkd':decide (v.kind=t.kind)=true:=decide_eq_true hkd;rw [hkd',Bool.true_and] at hvd;rw [hvd]
  by_cases k1:t.kind=1
  ·rw [if_pos k1];have kv:v.kind=1:=by omega
   by_cases l0:(v.list.length:Int)=0
   case neg=>
    have l0':v.list.length≠0:=by omega
    cases hm:t.nl<;>simp [x62,A6,A1,A2,hm,B3,k1,kv,l0,l0']
   have l0':v.list.length=0:=by omega
   by_cases n0:v.n=0
   ·cases hm:t.nl<;>simp [x62,A6,A1,A2,hm,B3,k1,kv,n0,l0']
   by_cases n1:v.n=1
   ·cases hm:t.nl<;>simp [x62,A6,A1,A2,hm,B3,k1,kv,n1,l0']
   cases hm:t.nl<;>simp [x62,A6,A1,A2,hm,B3,k1,kv,n0,n1,l0']
  rw [if_neg k1]
  by_cases k2:t.kind=2
  ·rw [if_pos k2];have kv:v.kind=2:=by omega
   by_cases l0:(v.list.length:Int)=0
   case neg=>
    have l0':v.list.length≠0:=by omega
    cases hm:t.nl<;>simp [x62,A6,A1,A2,hm,B3,k2,kv,l0,l0']
   have l0':v.list.length=0:=by omega
   by_cases n0:-2147483648<=v.n
   ·by_cases n1:v.n<=2147483647
    ·cases hm:t.nl<;>simp [x62,A6,A1,A2,hm,B3,k2,kv,n0,n1,l0']
    ·cases hm:t.nl<;>simp [x62,A6,A1,A2,hm,B3,k2,kv,n0,n1,l0']
   ·cases hm:t.nl<;>simp [x62,A6,A1,A2,hm,B3,k2,kv,n0,l0']
  rw [if_neg k2];have hnl:t.nl=false:=by
   cases hm:t.nl with
   |false=>rfl
   |true=>
    rcases hg.len k1 k2 with ⟨_,h3⟩|⟨_,x,h4⟩
    ·rw [ht.nl hm] at h3;simp at h3
    ·rw [ht.nl hm] at h4;cases h4
  rcases hg.len k1 k2 with ⟨k3,h3⟩|⟨k4,x0,h0⟩
  ·rw [if_pos k3,A8m];have hk34:t.kind=3\/t.kind=4:=.inl k3;have kv:v.kind=3:=by omega
   by_cases n0:v.n=0
   case neg=>simp [x62,A6,A1,A2,hnl,B3,k3,kv,n0]
   by_cases hlm:(v.list.length:Int)=(t.list.length:Int)
   case neg=>
    have hne:t.list.length≠v.list.length:=by omega
    have hne':v.list.length≠t.list.length:=by omega
    simp [x62,A6,A1,A2,hnl,B3,k3,kv,n0,hlm,hne',X4 hne]
   have hlm':v.list.length=t.list.length:=by omega
   obtain ⟨x0,r0,h0⟩:∃x r,t.list=x::r:=by
    match t.list,h3 with
    |x::r,_=>exact ⟨x,r,rfl⟩
   simp [x62,A6,A1,A2,hnl,B3,k3,kv,n0,hlm'];obtain ⟨I,hI⟩:∃I:Nat->TAct->Sto->Prop,I=(fun j a σ'=>a.df=[]/\σ'=σ/\H0 (fun t v=>hasV v t) (t.list.drop j) (v.list.drop j)=H0 (fun t v=>hasV v t) t.list v.list/\a.tm.get 2=some (.bx 0 (B7 t) 66)/\a.tm.get 3=some (.bx 2 (C9 v) 24)/\a.tm.get 5=some (.int .i64 (v.list.length:Int))/\a.tm.get 6=some (.int .i64 j)):=⟨_,rfl⟩
   obtain ⟨R,hR⟩:∃R:TEx->TAct->Sto->Prop,R=(fun ex a σ'=>a.df=[]/\σ'=σ/\(ex=.exit 1/\H0 (fun t v=>hasV v t) t.list v.list=true\/ex=.ret/\H0 (fun t v=>hasV v t) t.list v.list=false/\a.tm.get 4=some (.bool false))):=⟨_,rfl⟩;refine A9 I v.list.length R ?_ ?_ ?_ ?_ ?_
   ·rw [hI];exact ⟨rfl,rfl,by simp,by simp [A1,hnl,B3,k3],by simp [A2,kv,n0],by simp [hlm'],by simp⟩
   ·omega
   ·rw [hI];rintro j ⟨tm,df,clk⟩ σ' hj ⟨rfl,rfl,hd,g2,g3,g5,g6⟩;rw [<-hI];have hw:=C8 hj hv.len;rw [S0 (f:=fun t v=>hasV v t) (show j<t.list.length by omega) hj] at hd;have hcm:(t.list[j]'(by omega))∈t.list:=List.getElem_mem _
    have hcc:=ih v.list[j] (t.list[j]'(by omega)) σ'.length σ' (by have:=G9 _ _ (List.getElem_mem hj);omega) (by have:=O8 _ _ hcm;omega) (hv.sub _ (List.getElem_mem hj)) (ht.sub _ hcm) (hg.sub hk34 _ hcm);rw [A2] at hcc;rw [A1,hnl] at g2;rw [A2] at g3;simp only [B3] at g2;have e0:(t.list.map B7)[0]? =some (B7 x0):=by rw [h0];rfl
    have e0':(t.list.map B7)[0]'(by rw [h0];simp)=B7 x0:=by simp [h0]
    have hpos:0<t.list.length:=by rw [h0];simp
    cases hs:hasV v.list[j] (t.list[j]'(by omega)) with
    |true=>
     rw [hs] at hd hcc;cases hm0:x0.nl<;>cases hmj:((t.list[j]'(by omega))).nl<;>first
     |(exfalso;rw [hm0] at hmj;cases hmj;done)
     |(rw [A1,hmj] at hcc
       simp only [B3] at hcc;simp [g2,g3,g5,g6,hj,hpos,e0,e0',hcc,hw,A1,A2,hm0,hmj,B3,k3,(show j<t.list.length by omega)];rw [hI]
       exact ⟨rfl,rfl,by simpa using hd,by simp [g2,A1,hnl,B3],by simp [g3,A2],by simp [g5],by simp⟩)
    |false=>
     rw [hs] at hd hcc;cases hm0:x0.nl<;>cases hmj:((t.list[j]'(by omega))).nl<;>first
     |(exfalso;rw [hm0] at hmj;cases hmj;done)
     |(rw [A1,hmj] at hcc
       simp only [B3] at hcc;simp [g2,g3,g5,g6,hj,hpos,e0,e0',hcc,hw,A1,A2,hm0,hmj,B3,k3,(show j<t.list.length by omega)];rw [hR]
       exact ⟨rfl,rfl,.inr ⟨rfl,by rw [<-hd,Bool.false_and],by simp⟩⟩)
   ·rw [hI];rintro ⟨tm,df,clk⟩ σ' ⟨rfl,rfl,hd,g2,g3,g5,g6⟩;rw [X0 (by omega) (by omega)] at hd;simp [g5,g6];rw [hR];exact ⟨rfl,rfl,.inl ⟨rfl,hd.symm⟩⟩
   ·rw [hR];rintro ex ⟨tm,df,clk⟩ σ' ⟨rfl,rfl,⟨rfl,h⟩|⟨rfl,h,h4⟩⟩
    ·simp [h]
    ·simp [h,h4]
  ·have k3:t.kind≠3:=by omega
   have hk34:t.kind=3\/t.kind=4:=.inr k4;rw [if_neg k3];have hall:hasAll v.list t.list=v.list.all (fun y=>hasV y x0):=by rw [h0,A5G]
   rw [hall];have kv:v.kind=4:=by omega
   by_cases n0:v.n=0
   case neg=>simp [x62,A6,A1,A2,hnl,B3,k4,kv,n0]
   by_cases l32:(32:Int)<(v.list.length:Int)
   ·have l32':¬v.list.length<=32:=by omega
    simp [x62,A6,A1,A2,hnl,B3,k4,kv,n0,l32,l32']
   have l32':v.list.length<=32:=by omega
   simp [x62,A6,A1,A2,hnl,B3,k4,kv,n0,l32,l32'];obtain ⟨I,hI⟩:∃I:Nat->TAct->Sto->Prop,I=(fun j a σ'=>a.df=[]/\σ'=σ/\(v.list.drop j).all (fun y=>hasV y x0)=v.list.all (fun y=>hasV y x0)/\a.tm.get 2=some (.bx 0 (B7 t) 66)/\a.tm.get 3=some (.bx 2 (C9 v) 24)/\a.tm.get 5=some (.int .i64 (v.list.length:Int))/\a.tm.get 6=some (.int .i64 j)):=⟨_,rfl⟩
   obtain ⟨R,hR⟩:∃R:TEx->TAct->Sto->Prop,R=(fun ex a σ'=>a.df=[]/\σ'=σ/\(ex=.exit 1/\v.list.all (fun y=>hasV y x0)=true\/ex=.ret/\v.list.all (fun y=>hasV y x0)=false/\a.tm.get 4=some (.bool false))):=⟨_,rfl⟩;refine A9 I v.list.length R ?_ ?_ ?_ ?_ ?_
   ·rw [hI];exact ⟨rfl,rfl,by simp,by simp [A1,hnl,B3,k4],by simp [A2,kv,n0],by simp [n0],by simp⟩
   ·omega
   ·rw [hI];rintro j ⟨tm,df,clk⟩ σ' hj ⟨rfl,rfl,hd,g2,g3,g5,g6⟩;rw [<-hI];have hw:=C8 hj hv.len;rw [A0A hj] at hd;have hcm:x0∈t.list:=by rw [h0];simp
    have hcc:=ih v.list[j] x0 σ'.length σ' (by have:=G9 _ _ (List.getElem_mem hj);omega) (by have:=O8 _ _ hcm;omega) (hv.sub _ (List.getElem_mem hj)) (ht.sub _ hcm) (hg.sub hk34 _ hcm);rw [A2] at hcc;rw [A1,hnl] at g2;rw [A2] at g3;simp only [B3] at g2;have e0:(t.list.map B7)[0]? =some (B7 x0):=by rw [h0];rfl
    have e0':(t.list.map B7)[0]'(by rw [h0];simp)=B7 x0:=by simp [h0]
    have hpos:0<t.list.length:=by rw [h0];simp
    cases hs:hasV v.list[j] x0 with
    |true=>
     rw [hs] at hd hcc;cases hm0:x0.nl<;>cases hmj:(x0).nl<;>first
     |(exfalso;rw [hm0] at hmj;cases hmj;done)
     |(rw [A1,hmj] at hcc
       simp only [B3] at hcc;simp [g2,g3,g5,g6,hj,hpos,e0,e0',hcc,hw,A1,A2,hm0,hmj,B3,k4];rw [hI]
       exact ⟨rfl,rfl,by simpa using hd,by simp [g2,A1,hnl,B3],by simp [g3,A2],by simp [g5],by simp⟩)
    |false=>
     rw [hs] at hd hcc;cases hm0:x0.nl<;>cases hmj:(x0).nl<;>first
     |(exfalso;rw [hm0] at hmj;cases hmj;done)
     |(rw [A1,hmj] at hcc
       simp only [B3] at hcc;simp [g2,g3,g5,g6,hj,hpos,e0,e0',hcc,hw,A1,A2,hm0,hmj,B3,k4];rw [hR]
       exact ⟨rfl,rfl,.inr ⟨rfl,by rw [<-hd,Bool.false_and],by simp⟩⟩)
   ·rw [hI];rintro ⟨tm,df,clk⟩ σ' ⟨rfl,rfl,hd,g2,g3,g5,g6⟩;rw [List.drop_of_length_le (Nat.le_refl _)] at hd;simp [g5,g6];rw [hR];exact ⟨rfl,rfl,.inl ⟨rfl,hd.symm⟩⟩
   ·rw [hR];rintro ex ⟨tm,df,clk⟩ σ' ⟨rfl,rfl,⟨rfl,h⟩|⟨rfl,h,h4⟩⟩
    ·simp [h]
    ·simp [h,h4]
mutual
theorem B1r:∀t,szQ (A2E t)=szT t
 |.mk k l=>by simp only [A2E,szQ,szT,B3h l]
theorem B3h:∀l,A0N (A6j l)=A1c l
 |[]=>rfl
 |t::l=>by simp only [A6j,A0N,A1c,B1r t,B3h l]
end
end
section
open Go Go.Xe Go.Xt
def Q6 (k:Int) (l:List QTyp):QTyp:=.mk k false l
mutual
def T8:QTyp->QTyp->Option QTyp
 |.mk k nl l,.mk k' nl' l'=>if k=0 then some (Q6 k' l') else if k'=0 then some (Q6 k l) else if k=k'/\l.length=l'.length then (H1 l l').map (Q6 k) else none
def H1:List QTyp->List QTyp->Option (List QTyp)
 |a::l,b::m=>match T8 a b with
  |some x=>(H1 l m).map (x:: ·)
  |none=>none
 |_,_=>some []
end
mutual
def K7:QTyp->Nat
 |.mk k _ l=>if k=0 then 1 else M4 l+1
def M4:List QTyp->Nat
 |[]=>0
 |t::l=>max (K7 t) (M4 l)
end
mutual
def E7:QTyp->QTyp
 |.mk k _ l=>if k=0 then Q6 1 [] else Q6 k (M0 l)
def M0:List QTyp->List QTyp
 |[]=>[]
 |t::l=>E7 t::M0 l
end
def N3 (f:PVal->Option QTyp):List PVal->Option (List QTyp)
 |[]=>some []
 |x::l=>match f x with
  |some t=>(N3 f l).map (t:: ·)
  |none=>none
def K8 (f:PVal->Option QTyp) (acc:QTyp):List PVal->Option QTyp
 |[]=>some acc
 |x::l=>match f x with
  |some t=>match T8 acc t with
   |some a=>K8 f a l
   |none=>none
  |none=>none
def P2:Nat->PVal->Option QTyp
 |0,_=>none
 |n+1,v=>if v.kind=1\/v.kind=2 then (if hasV v (Q6 v.kind [])=true then some (Q6 v.kind []) else none)
  else if v.kind=3/\v.n=0/\2<=v.list.length/\v.list.length<=4 then (N3 (P2 n) v.list).map (Q6 3)
  else if v.kind=4/\v.n=0/\v.list.length<=32 then (K8 (P2 n) (.mk 0 true []) v.list).map (fun a=>Q6 4 [a])
  else none
def A0T:Nat->PVal->Option QTyp
 |0,_=>none
 |n+1,v=>if v.kind=1\/v.kind=2 then (if hasV v (Q6 v.kind [])=true then some (Q6 v.kind []) else none)
  else if v.kind=3/\v.n=0/\2<=v.list.length/\v.list.length<=4 then (N3 (A0T n) v.list).map (Q6 3)
  else if v.kind=4/\v.n=0/\v.list.length<=32/\n≠0 then (K8 (A0T n) (.mk 0 true []) v.list).map (fun a=>Q6 4 [a])
  else none
theorem A20 (t:QTyp):1<=K7 t:=by
 cases t with
 |mk k b l=>unfold K7;split<;>omega
theorem A21 {k:Int} (hk:k≠0) (l:List QTyp):K7 (Q6 k l)=M4 l+1:=by
 unfold Q6 K7;rw [if_neg hk]
theorem B0l (k:Int) (b:Bool) (l:List QTyp):K7 (Q6 k l)=K7 (.mk k b l):=by unfold Q6 K7;rfl
mutual
theorem A3m:∀(a b x:QTyp),T8 a b=some x->K7 x=max (K7 a) (K7 b)
 |.mk k nl l,.mk k' nl' l',x,h=>by
  unfold T8 at h
  by_cases h0:k=0
  ·rw [if_pos h0] at h;cases h;rw [B0l k' nl' l'];have:=A20 (.mk k' nl' l');have e:K7 (.mk k nl l)=1:=by unfold K7;rw [if_pos h0]
   omega
  rw [if_neg h0] at h
  by_cases h1:k'=0
  ·rw [if_pos h1] at h;cases h;rw [B0l k nl l];have:=A20 (.mk k nl l);have e:K7 (.mk k' nl' l')=1:=by unfold K7;rw [if_pos h1]
   omega
  rw [if_neg h1] at h;split at h
  ·rename_i hh;obtain ⟨y,hy,rfl⟩:=Option.map_eq_some_iff.1 h;have:=A8n l l' y hh.2 hy;have e1:K7 (.mk k nl l)=M4 l+1:=by unfold K7;rw [if_neg h0]
   have e2:K7 (.mk k' nl' l')=M4 l'+1:=by unfold K7;rw [if_neg h1]
   rw [A21 h0,e1,e2,this];omega
  ·cases h
theorem A8n:∀(l m y:List QTyp),l.length=m.length->H1 l m=some y->M4 y=max (M4 l) (M4 m)
 |[],[],y,_,h=>by simp only [H1] at h;cases h;rfl
 |[],_::_,y,hl,h=>by simp at hl
 |_::_,[],y,hl,h=>by simp at hl
 |a::l,b::m,y,hl,h=>by
  simp only [H1] at h;split at h
  ·rename_i x hx;obtain ⟨z,hz,rfl⟩:=Option.map_eq_some_iff.1 h;have h1:=A3m a b x hx;have h2:=A8n l m z (by simpa using hl) hz;simp only [M4,h1,h2];omega
  ·cases h
end
def Cut (n:Nat) (f g:PVal->Option QTyp):Prop:=∀v,(f v=none->g v=none)/\∀t,f v=some t->(K7 t<=n->g v=some t)/\(¬K7 t<=n->g v=none)
theorem B3i {n:Nat} {f g:PVal->Option QTyp} (h:Cut n f g):∀l,(N3 f l=none->N3 g l=none)/\∀ts,N3 f l=some ts->(M4 ts<=n->N3 g l=some ts)/\(¬M4 ts<=n->N3 g l=none)
 |[]=>⟨fun e=>(by cases e),fun ts e=>by (cases e);exact ⟨fun _=>rfl,fun e=>absurd (Nat.zero_le _) e⟩⟩
 |x::l=>by
  obtain ⟨i1,i2⟩:=B3i h l;obtain ⟨x1,x2⟩:=h x;cases hf:f x with
  |none=>
   have hg:=x1 hf;refine ⟨fun _=>by simp only [N3,hg],fun ts e=> ?_⟩;simp only [N3,hf] at e;cases e
  |some t=>
   obtain ⟨x3,x4⟩:=x2 t hf;cases hm:N3 f l with
   |none=>
    have hg:=i1 hm;refine ⟨fun _=> ?_,fun ts e=> ?_⟩
    ·simp only [N3];cases g x with
     |none=>rfl
     |some y=>simp only [hg,Option.map_none]
    ·simp only [N3,hf,hm,Option.map_none] at e;cases e
   |some ts'=>
    obtain ⟨i3,i4⟩:=i2 ts' hm;refine ⟨fun e=>(by simp only [N3,hf,hm,Option.map_some] at e;cases e),fun ts e=> ?_⟩;simp only [N3,hf,hm,Option.map_some] at e;cases e;refine ⟨fun hn=> ?_,fun hn=> ?_⟩
    ·simp only [M4,Nat.max_le] at hn;simp only [N3,x3 hn.1,i3 hn.2,Option.map_some]
    ·simp only [M4,Nat.max_le] at hn
     by_cases h1:K7 t<=n
     ·have h2:¬M4 ts'<=n:=fun e=>hn ⟨h1,e⟩
      simp only [N3,x3 h1,i4 h2,Option.map_none]
     ·simp only [N3,x4 h1]
theorem B3j {f:PVal->Option QTyp}:∀(l:List PVal) (acc a:QTyp),K8 f acc l=some a->K7 acc<=K7 a
 |[],acc,a,h=>by simp only [K8] at h;cases h;exact Nat.le_refl _
 |x::l,acc,a,h=>by
  simp only [K8] at h;split at h
  ·rename_i t ht;split at h
   ·rename_i a' ha';have:=A3m _ _ _ ha';have:=B3j l a' a h;omega
   ·cases h
  ·cases h
theorem B0m {n:Nat} {f g:PVal->Option QTyp} (h:Cut n f g):∀(l:List PVal) (acc:QTyp),K7 acc<=n->(K8 f acc l=none->K8 g acc l=none)/\∀a,K8 f acc l=some a->(K7 a<=n->K8 g acc l=some a)/\(¬K7 a<=n->K8 g acc l=none)
 |[],acc,ha=>⟨fun e=>(by cases e),fun a e=>by simp only [K8] at e;(cases e);exact ⟨fun _=>rfl,fun e=>absurd ha e⟩⟩
 |x::l,acc,ha=>by
  obtain ⟨x1,x2⟩:=h x;cases hf:f x with
  |none=>
   have hg:=x1 hf;refine ⟨fun _=>by simp only [K8,hg],fun ts e=> ?_⟩;simp only [K8,hf] at e;cases e
  |some t=>
   obtain ⟨x3,x4⟩:=x2 t hf
   by_cases h1:K7 t<=n
   ·have hg:=x3 h1;simp only [K8,hf,hg];cases hj:T8 acc t with
    |none=>exact ⟨fun _=>rfl,fun a e=>by cases e⟩
    |some a'=>
     have:=A3m _ _ _ hj;exact B0m h l a' (by omega)
   ·have hg:=x4 h1;simp only [K8,hf,hg];refine ⟨fun _=>trivial,fun a e=>⟨fun hn=> ?_,fun _=>trivial⟩⟩;split at e
    ·rename_i a' hj;have:=A3m _ _ _ hj;have:=B3j l a' a e;omega
    ·cases e
theorem A8o:∀n,Cut n (P2 n) (A0T n)
 |0,v=>⟨fun _=>rfl,fun t e=>by simp only [P2] at e;cases e⟩
 |n+1,v=>by
  have ih:=A8o n;unfold P2 A0T
  by_cases k12:v.kind=1\/v.kind=2
  ·simp only [if_pos k12];refine ⟨fun e=>e,fun t e=>⟨fun _=>e,fun hn=> ?_⟩⟩;split at e
   ·cases e;rw [A21 (by omega)] at hn;simp [M4] at hn
   ·cases e
  simp only [if_neg k12]
  by_cases k3:v.kind=3/\v.n=0/\2<=v.list.length/\v.list.length<=4
  ·simp only [if_pos k3];obtain ⟨m1,m2⟩:=B3i ih v.list;cases hm:N3 (P2 n) v.list with
   |none=>rw [m1 hm];exact ⟨fun _=>rfl,fun t e=>by cases e⟩
   |some ts=>
    obtain ⟨m3,m4⟩:=m2 ts hm;refine ⟨fun e=>(by cases e),fun t e=> ?_⟩;simp only [Option.map_some] at e;cases e;rw [A21 (by omega)];exact ⟨fun hn=>by rw [m3 (by omega)];rfl,fun hn=>by rw [m4 (by omega)];rfl⟩
  simp only [if_neg k3]
  by_cases k4:v.kind=4/\v.n=0/\v.list.length<=32
  ·simp only [if_pos k4]
   by_cases n0:n=0
   ·subst n0;rw [if_neg (fun e=>e.2.2.2 rfl)];refine ⟨fun _=>rfl,fun t e=>⟨fun hn=> ?_,fun _=>rfl⟩⟩;obtain ⟨a,ha,rfl⟩:=Option.map_eq_some_iff.1 e;rw [A21 (by omega)] at hn;have:=A20 a;simp only [M4] at hn;omega
   ·rw [if_pos ⟨k4.1,k4.2.1,k4.2.2,n0⟩];obtain ⟨m1,m2⟩:=B0m ih v.list (.mk 0 true []) (by have e:K7 (.mk 0 true [])=1:=rfl;omega);cases hm:K8 (P2 n) (.mk 0 true []) v.list with
    |none=>rw [m1 hm];exact ⟨fun _=>rfl,fun t e=>by cases e⟩
    |some a=>
     obtain ⟨m3,m4⟩:=m2 a hm;refine ⟨fun e=>(by cases e),fun t e=> ?_⟩;simp only [Option.map_some] at e;cases e;rw [A21 (by omega)];have h1:=A20 a;have e2:M4 [a]=K7 a:=by simp only [M4];omega
     rw [e2];exact ⟨fun hn=>by rw [m3 (by omega)];rfl,fun hn=>by rw [m4 (by omega)];rfl⟩
  ·have k4':¬(v.kind=4/\v.n=0/\v.list.length<=32/\n≠0):=fun e=>k4 ⟨e.1,e.2.1,e.2.2.1⟩
   simp only [if_neg k4,if_neg k4'];exact ⟨fun _=>trivial,fun t e=>by cases e⟩
mutual
def wfQ:QTyp->Bool
 |.mk k _ l=>decide (k=0)||(decide ((k=1\/k=2)/\l.length=0\/k=3/\2<=l.length/\l.length<=4\/k=4/\l.length=1)&&A4d l)
def A4d:List QTyp->Bool
 |[]=>true
 |t::l=>wfQ t&&A4d l
end
theorem A30:∀l,M0 l=l.map E7
 |[]=>rfl
 |t::l=>by simp only [M0,List.map_cons,A30 l]
mutual
theorem A58:∀(t:QTyp) (m:Nat),wfQ t=true->C7 m (E7 t)=decide (K7 t<=m)
 |.mk k b l,m,h=>by
  have hn:=A20 (.mk k b l);cases m with
  |zero=>
   have:¬K7 (.mk k b l)<=0:=by omega
   simp [C7,this]
  |succ m=>
   have ihl:=A3T l m;unfold E7 K7
   by_cases k0:k=0
   ·simp only [if_pos k0];have:(1:Nat)<=m+1:=by omega
    simp [C7,Q6,QTyp.kind,QTyp.list,this]
   simp only [if_neg k0];unfold wfQ at h;simp only [decide_eq_false k0,Bool.false_or,Bool.and_eq_true,decide_eq_true_eq] at h;obtain ⟨hc,hw⟩:=h;have ih:=ihl hw;have hlen:(M0 l).length=l.length:=by rw [A30,List.length_map]
   have e:decide (M4 l+1<=m+1)=decide (M4 l<=m):=decide_eq_decide.2 ⟨fun h=>by omega,fun h=>by omega⟩;rw [e,<-ih];have k1:(Q6 k (M0 l)).kind=k:=rfl;have k2:(Q6 k (M0 l)).list=M0 l:=rfl;unfold C7;rw [k1,k2,hlen];rcases hc with ⟨hk,hl⟩|⟨hk,h2,h4⟩|⟨hk,h1⟩
   ·have:M0 l=[]:=List.eq_nil_of_length_eq_zero (by omega);rw [if_pos hk,this,hl];rfl
   ·rw [if_neg (by omega),if_pos hk,decide_eq_true ⟨h2,h4⟩,Bool.true_and]
   ·rw [if_neg (by omega),if_neg (by omega),if_pos hk,decide_eq_true h1,Bool.true_and]
theorem A3T:∀(l:List QTyp) (m:Nat),A4d l=true->(M0 l).all (C7 m)=decide (M4 l<=m)
 |[],m,_=>by simp [M0,M4]
 |t::l,m,h=>by
  unfold A4d at h;rw [Bool.and_eq_true] at h;simp only [M0,List.all_cons,A58 t m h.1,A3T l m h.2,M4]
  by_cases h1:K7 t<=m<;>by_cases h2:M4 l<=m<;>simp [h1,h2,Nat.max_le]
end
theorem A6L {k:Int} {l:List QTyp} (h:(k=1\/k=2)/\l.length=0\/k=3/\2<=l.length/\l.length<=4\/k=4/\l.length=1) (hw:A4d l=true):wfQ (Q6 k l)=true:=by
 unfold Q6 wfQ;rw [decide_eq_true h,hw];simp
theorem B5W (k:Int) (b:Bool) (l:List QTyp):wfQ (Q6 k l)=wfQ (.mk k b l):=by unfold Q6 wfQ;rfl
mutual
theorem A6M:∀(a b x:QTyp),T8 a b=some x->wfQ a=true->wfQ b=true->wfQ x=true
 |.mk k nl l,.mk k' nl' l',x,h,ha,hb=>by
  unfold T8 at h
  by_cases h0:k=0
  ·rw [if_pos h0] at h;cases h;rw [B5W k' nl' l'];exact hb
  rw [if_neg h0] at h
  by_cases h1:k'=0
  ·rw [if_pos h1] at h;cases h;rw [B5W k nl l];exact ha
  rw [if_neg h1] at h;split at h
  ·rename_i hh;obtain ⟨y,hy,rfl⟩:=Option.map_eq_some_iff.1 h;unfold wfQ at ha hb;simp only [decide_eq_false h0,decide_eq_false h1,Bool.false_or,Bool.and_eq_true,decide_eq_true_eq] at ha hb;obtain ⟨w1,w2⟩:=B3k l l' y hh.2 hy ha.2 hb.2;refine A6L ?_ w1;rw [w2];exact ha.1
  ·cases h
theorem B3k:∀(l m y:List QTyp),l.length=m.length->H1 l m=some y->A4d l=true->A4d m=true->A4d y=true/\y.length=l.length
 |[],[],y,_,h,_,_=>by simp only [H1] at h;cases h;exact ⟨rfl,rfl⟩
 |[],_::_,y,hl,h,_,_=>by simp at hl
 |_::_,[],y,hl,h,_,_=>by simp at hl
 |a::l,b::m,y,hl,h,ha,hb=>by
  simp only [H1] at h;unfold A4d at ha hb;rw [Bool.and_eq_true] at ha hb;split at h
  ·rename_i x hx;obtain ⟨z,hz,rfl⟩:=Option.map_eq_some_iff.1 h;have h1:=A6M a b x hx ha.1 hb.1;obtain ⟨h2,h3⟩:=B3k l m z (by simpa using hl) hz ha.2 hb.2;exact ⟨by unfold A4d;rw [h1,h2];rfl,by simp [h3]⟩
  ·cases h
end
theorem B5X {f:PVal->Option QTyp} (hf:∀v t,f v=some t->wfQ t=true):∀(l:List PVal) (ts:List QTyp),N3 f l=some ts->A4d ts=true/\ts.length=l.length
 |[],ts,h=>by simp only [N3] at h;cases h;exact ⟨rfl,rfl⟩
 |x::l,ts,h=>by
  simp only [N3] at h;split at h
  ·rename_i t ht;obtain ⟨z,hz,rfl⟩:=Option.map_eq_some_iff.1 h;obtain ⟨h2,h3⟩:=B5X hf l z hz;exact ⟨by unfold A4d;rw [hf x t ht,h2];rfl,by simp [h3]⟩
  ·cases h
theorem B3l {f:PVal->Option QTyp} (hf:∀v t,f v=some t->wfQ t=true):∀(l:List PVal) (acc a:QTyp),wfQ acc=true->K8 f acc l=some a->wfQ a=true
 |[],acc,a,ha,h=>by simp only [K8] at h;cases h;exact ha
 |x::l,acc,a,ha,h=>by
  simp only [K8] at h;split at h
  ·rename_i t ht;split at h
   ·rename_i a' ha';exact B3l hf l a' a (A6M _ _ _ ha' ha (hf x t ht)) h
   ·cases h
  ·cases h
theorem A8p:∀(n:Nat) (v:PVal) (t:QTyp),P2 n v=some t->wfQ t=true
 |0,v,t,h=>by simp only [P2] at h;cases h
 |n+1,v,t,h=>by
  have ih:=A8p n;unfold P2 at h
  by_cases k12:v.kind=1\/v.kind=2
  ·rw [if_pos k12] at h;split at h
   ·cases h;exact A6L (.inl ⟨k12,rfl⟩) rfl
   ·cases h
  rw [if_neg k12] at h;split at h
  ·rename_i k3;obtain ⟨ts,hm,rfl⟩:=Option.map_eq_some_iff.1 h;obtain ⟨h1,h2⟩:=B5X ih v.list ts hm;exact A6L (.inr (.inl ⟨rfl,by omega,by omega⟩)) h1
  ·split at h
   ·obtain ⟨a,hm,rfl⟩:=Option.map_eq_some_iff.1 h;have h1:=B3l ih v.list _ a rfl hm;exact A6L (.inr (.inr ⟨rfl,rfl⟩)) (by unfold A4d;rw [h1];rfl)
   ·cases h
theorem B7g (v:PVal):(match P2 40 v with|some t=>C7 40 (E7 t)|none=>false)=(A0T 40 v).isSome:=by
 obtain ⟨h1,h2⟩:=A8o 40 v;cases hs:P2 40 v with
 |none=>simp [h1 hs]
 |some t=>
  obtain ⟨h3,h4⟩:=h2 t hs;simp only [A58 t 40 (A8p 40 v t hs)]
  by_cases hn:K7 t<=40
  ·simp [hn,h3 hn]
  ·simp [hn,h4 hn]
end
section
open Go Go.Xe Go.Xt
variable {F:FuncId->Option TFun} {O:FuncId->List TV->Option TV}
theorem A31 (t:QTyp):E7 t=if t.kind=0 then Q6 1 [] else Q6 t.kind (t.list.map E7):=by
 cases t;simp only [E7,QTyp.kind,QTyp.list,A30];rfl
mutual
theorem B1s (n:Nat):∀t,below.belows n (B7 t)=true
 |.mk k b l=>by cases b<;>simp [B7,B3,below,below.belows,A3n n l]
theorem A3n (n:Nat):∀l,below.belowss n (A3S l)=true
 |[]=>by simp [A3S,below.belowss]
 |t::l=>by simp [A3S,below.belowss,B1s n t,A3n n l]
end
theorem B3m:∀(l:List QTyp),A4d l=true->∀x∈l,wfQ x=true
 |[],_,x,hx=>by cases hx
 |a::l,h,x,hx=>by
  unfold A4d at h;rw [Bool.and_eq_true] at h;rcases List.mem_cons.1 hx with rfl|hx
  ·exact h.1
  ·exact B3m l h.2 x hx
theorem B1t {t:QTyp} (h:wfQ t=true) (k0:t.kind≠0):t.list.length<=4/\∀x∈t.list,wfQ x=true:=by
 cases t with
 |mk k b l=>
  have k0:k≠0:=k0;unfold wfQ at h;simp only [decide_eq_false k0,Bool.false_or,Bool.and_eq_true,decide_eq_true_eq] at h;exact ⟨by show l.length<=4;omega,B3m l h.2⟩
theorem B3n (h151:F 167=some f151):∀(N:Nat) (t:QTyp) (b:Nat) (σ:Sto),szQ t<=N->OkQ t->wfQ t=true->
  A4 F O N b 167 [.agg (B7 t)] σ=some (.ret (.agg (B7 (E7 t))),σ)
 |0,t,b,σ,h,_,_=>by rw [F3] at h;omega
 |N+1,t,b,σ,h,ht,hwf=>by
  have ih:=B3n h151 N;have hs:=F3 t;have hk:=A1k t.list;refine A3 h151 ?_;rw [A31]
  by_cases k0:t.kind=0
  ·rw [if_pos k0];have e1:B7 (Q6 1 [])=[.int .i64 1,.sl .fz []]:=by rw [A1];rfl
   rw [e1];cases hm:t.nl<;>simp [x151,A1,hm,B3,k0]
  rw [if_neg k0];obtain ⟨h4,hsub⟩:=B1t hwf k0;have e2:B7 (Q6 t.kind (t.list.map E7))=[.int .i64 t.kind,.sl .fz ((t.list.map E7).map B7)]:=by rw [A1];rfl
  rw [e2];cases hm:t.nl with
  |true=>
   have hnil:=ht.nl hm;simp [x151,A1 t,hm,B3,k0,hnil];refine A9 (I:=fun j a σ'=>a.df=[]/\σ'=σ/\a.tm.get 2=some (.bx 2 [.int .i64 0,.sl .nl []] 66)/\a.tm.get 3=some (.bx 3 [.int .i64 t.kind,.sl .nl []] 66)/\a.tm.get 15=some (.int .i64 0)/\a.tm.get 16=some (.int .i64 j)) 0
    (R:=fun ex a σ'=>ex=.exit 0/\a.df=[]/\σ'=σ/\a.tm.get 2=some (.bx 2 [.int .i64 0,.sl .nl []] 66)/\a.tm.get 3=some (.bx 3 [.int .i64 t.kind,.sl .nl []] 66)) ?_ ?_ ?_ ?_ ?_
   ·simp
   ·omega
   ·rintro j ⟨tm,df,clk⟩ σ' hj;omega
   ·rintro ⟨tm,df,clk⟩ σ' ⟨rfl,rfl,g2,g3,g5,g7⟩;simp at g7;simp [g2,g3,g5,g7]
   ·rintro ex ⟨tm,df,clk⟩ σ' ⟨rfl,rfl,rfl,g2,g3⟩;simp [g2,g3]
  |false=>
   simp [x151,A1 t,hm,B3,k0];obtain ⟨I,hI⟩:∃I:Nat->TAct->Sto->Prop,I=(fun j a σ'=>a.df=[]/\σ'=σ/\∃lst,Xt.Bld 66 2 (((tk t.list j).map E7).map B7) lst/\a.tm.get 2=some (.bx 2 [.int .i64 0,.sl .nl []] 66)/\a.tm.get 3=some (.bx 3 [.int .i64 t.kind,lst] 66)/\a.tm.get 14=some (.sl .fz (t.list.map B7))/\a.tm.get 15=some (.int .i64 (t.list.length:Int))/\a.tm.get 16=some (.int .i64 j)):=⟨_,rfl⟩
   obtain ⟨R,hR⟩:∃R:TEx->TAct->Sto->Prop,R=(fun ex a σ'=>ex=.exit 0/\a.df=[]/\σ'=σ/\∃lst,Xt.Bld 66 2 ((t.list.map E7).map B7) lst/\a.tm.get 2=some (.bx 2 [.int .i64 0,.sl .nl []] 66)/\a.tm.get 3=some (.bx 3 [.int .i64 t.kind,lst] 66)):=⟨_,rfl⟩;refine A9 I t.list.length R ?_ ?_ ?_ ?_ ?_
   ·rw [hI];exact ⟨rfl,rfl,_,by rw [C11];exact .nl,by simp,by simp,by simp,by simp,by simp⟩
   ·omega
   ·rw [hI];rintro j ⟨tm,df,clk⟩ σ' hj ⟨rfl,rfl,lst,hb,g2,g3,g14,g15,g16⟩;rw [<-hI];have hw:=C8 hj ht.len;have hcc:=ih t.list[j] σ'.length σ' (by have:=O8 _ _ (List.getElem_mem hj);omega) (ht.sub _ (List.getElem_mem hj)) (hsub _ (List.getElem_mem hj));have e3:B7 (E7 t.list[j])=[.int .i64 (E7 t.list[j]).kind,.sl (B3 (E7 t.list[j]).nl) ((E7 t.list[j]).list.map B7)]:=A1 _
    have e4:(E7 t.list[j]).nl=false:=by rw [A31];split<;>rfl
    rw [e4] at e3;simp only [B3] at e3;rw [e3] at hcc;have hsucc:((tk t.list (j+1)).map E7).map B7=((tk t.list j).map E7).map B7++[B7 (E7 t.list[j])]:=by rw [C12 hj];simp
    rw [e3] at hsucc;have hd1:(((tk t.list j).map E7).map B7).length<=1073741823:=by rw [List.length_map,List.length_map,C4u (by omega)];omega
    have hd2:((((tk t.list j).map E7).map B7).all fun c=>decide (c.length=2))=true:=by
     rw [List.all_eq_true];intro c hc;obtain ⟨q,_,rfl⟩:=List.mem_map.1 hc;rw [A1];rfl
    generalize ((tk t.list j).map E7).map B7=done at hb hsucc hd1 hd2;rcases hb.inv with ⟨rfl,rfl⟩|rfl
    ·cases hmj:(t.list[j]).nl<;>
     ·rw [A1,hmj] at hcc;simp only [B3] at hcc;simp [g2,g3,g14,g15,g16,hj,hcc,hw,A1 t.list[j],hmj,B3];rw [hI];exact ⟨rfl,rfl,_,by rw [hsucc];exact .own _,by simp [g2],by simp,by simp [g14],by simp [g15],by simp⟩
    ·cases hmj:(t.list[j]).nl<;>
     ·rw [A1,hmj] at hcc;simp only [B3] at hcc;simp [g2,g3,g14,g15,g16,hj,hcc,hw,hd1,hd2,A1 t.list[j],hmj,B3];rw [hI];exact ⟨rfl,rfl,_,by rw [hsucc];exact .own _,by simp [g2],by simp,by simp [g14],by simp [g15],by simp⟩
   ·rw [hI];rintro ⟨tm,df,clk⟩ σ' ⟨rfl,rfl,lst,hb,g2,g3,g14,g15,g16⟩;rw [C4t] at hb;simp [g2,g3,g15,g16];rw [hR];exact ⟨rfl,rfl,rfl,lst,hb,by simp [g2],by simp [g3]⟩
   ·rw [hR];rintro ex ⟨tm,df,clk⟩ σ' ⟨rfl,rfl,rfl,lst,hb,g2,g3⟩;have hbl:below.belowss σ'.length ((t.list.map E7).map B7)=true:=by rw [<-A51];exact A3n _ _
    have e5:(t.list.map E7).map B7=t.list.map (fun x=>B7 (E7 x)):=by rw [List.map_map];rfl
    rw [e5] at hb hbl;generalize t.list.map (fun x=>B7 (E7 x))=done at hb hbl ⊢;rcases hb.inv with ⟨rfl,rfl⟩|rfl
    ·simp [g2,g3]
    ·simp [g2,g3,hbl]
theorem B0n (a b:QTyp):T8 a b=if a.kind=0 then some (Q6 b.kind b.list) else if b.kind=0 then some (Q6 a.kind a.list) else if a.kind=b.kind/\a.list.length=b.list.length then (H1 a.list b.list).map (Q6 a.kind) else none:=by
 cases a;cases b;simp only [T8,QTyp.kind,QTyp.list];rfl
mutual
def fzQ:QTyp->Bool
 |.mk k b l=>(!b||decide (k=0))&&B7i l
def B7i:List QTyp->Bool
 |[]=>true
 |t::l=>fzQ t&&B7i l
end
theorem B3o:∀(l:List QTyp),B7i l=true->∀x∈l,fzQ x=true
 |[],_,x,hx=>by cases hx
 |a::l,h,x,hx=>by
  unfold B7i at h;rw [Bool.and_eq_true] at h;rcases List.mem_cons.1 hx with rfl|hx
  ·exact h.1
  ·exact B3o l h.2 x hx
theorem B1u {t:QTyp} (h:fzQ t=true) (k0:t.kind≠0):t.nl=false:=by
 cases t with
 |mk k b l=>
  have k0:k≠0:=k0;unfold fzQ at h;rw [Bool.and_eq_true,decide_eq_false k0,Bool.or_false] at h;have:=h.1;cases b
  ·rfl
  ·cases this
theorem A6N {t:QTyp} (h:fzQ t=true):∀x∈t.list,fzQ x=true:=by
 cases t with
 |mk k b l=>unfold fzQ at h;rw [Bool.and_eq_true] at h;exact B3o l h.2
theorem A6n {l m:List QTyp} {j:Nat} (hj:j<l.length) (hj':j<m.length):H1 (l.drop j) (m.drop j)=match T8 l[j] m[j] with
  |some x=>(H1 (l.drop (j+1)) (m.drop (j+1))).map (x:: ·)
  |none=>none:=by
 rw [List.drop_eq_getElem_cons hj,List.drop_eq_getElem_cons hj'];simp only [H1]<;>(cases T8 l[j] m[j]<;>rfl)
theorem A8q {l m:List QTyp} {j:Nat} (hj:l.length<=j):H1 (l.drop j) (m.drop j)=some []:=by
 rw [List.drop_of_length_le hj];unfold H1;rfl
def A22 (call:Option (TEnd×Sto)) (σ:Sto) (o:Option QTyp):Prop:=
 ∃q:QTyp,q.nl=false/\call=some (.ret (.tuple [.agg (B7 q),.bool o.isSome]),σ)/\∀x,o=some x->q=x
theorem I6 {call:Option (TEnd×Sto)} {σ:Sto} {x:QTyp} (h:x.nl=false) (hc:call=some (.ret (.tuple [.agg (B7 x),.bool true]),σ)):A22 call σ (some x):=
 ⟨x,h,hc,fun y hy=>by cases hy;rfl⟩
theorem F2 {call:Option (TEnd×Sto)} {σ:Sto} {x:QTyp} (h:x.nl=false) (hc:call=some (.ret (.tuple [.agg (B7 x),.bool false]),σ)):A22 call σ none:=
 ⟨x,h,hc,fun y hy=>by cases hy⟩
theorem H3 (n:Nat) (l:List QTyp):below.belowss n (l.map B7)=true:=by rw [<-A51];exact A3n n l
@[simp] theorem B3p (k:Int) (l:List QTyp):(Q6 k l).kind=k:=rfl
@[simp] theorem C4H (k:Int) (l:List QTyp):(Q6 k l).nl=false:=rfl
@[simp] theorem A32 (k:Int) (l:List QTyp):(Q6 k l).list=l:=rfl
theorem eq0:B7 (Q6 0 [])=[.int .i64 0,.sl .fz []]:=by rw [A1];rfl
set_option maxHeartbeats 4000000 in
theorem B9v (hF:F 209=some f178):∀(N:Nat) (a c:QTyp) (b:Nat) (σ:Sto),szQ a<=N->szQ c<=N->OkQ a->OkQ c->wfQ a=true->fzQ a=true->fzQ c=true->
  A22 (A4 F O N b 209 [.agg (B7 a),.agg (B7 c)] σ) σ (T8 a c)
 |0,a,c,b,σ,h,_,_,_,_,_,_=>by rw [F3] at h;omega
 |N+1,a,c,b,σ,h,h',ha,hc,hwf,hfa,hfc=>by
  have ih:=B9v hF N;have hs:=F3 a;have hs':=F3 c;have hk:=A1k a.list;rw [B0n]
  by_cases k0:a.kind=0
  ·rw [if_pos k0];refine I6 rfl (A3 hF ?_);have hcn:=hc.nl;cases hna:a.nl<;>cases hnc:c.nl<;>rw [hnc] at hcn<;>simp at hcn<;>simp [x178,A6,A1,hna,hnc,B3,k0,H3,eq0,hcn]
  rw [if_neg k0];have hna:=B1u hfa k0
  by_cases c0:c.kind=0
  ·rw [if_pos c0];refine I6 rfl (A3 hF ?_);cases hnc:c.nl<;>simp [x178,A6,A1,hna,hnc,B3,k0,c0,H3,eq0]
  rw [if_neg c0];have hnc:=B1u hfc c0
  by_cases hkk:a.kind=c.kind
  case neg=>
   rw [if_neg (fun h=>hkk h.1)];refine F2 (x:=a) hna (A3 hF ?_);simp [x178,A6,A1,hna,hnc,B3,k0,c0,hkk,H3,eq0]
  by_cases hll:a.list.length=c.list.length
  case neg=>
   rw [if_neg (fun h=>hll h.2)];have hll':¬(a.list.length:Int)=(c.list.length:Int):=by omega
   refine F2 (x:=a) hna (A3 hF ?_);simp [x178,A6,A1,hna,hnc,B3,k0,c0,hkk,hll',H3,eq0]
  rw [if_pos ⟨hkk,hll⟩];have c0':c.kind≠0:=c0
  suffices ∃e σ',A4 F O (N+1) b 209 [.agg (B7 a),.agg (B7 c)] σ=some (e,σ')/\A22 (some (e,σ')) σ ((H1 a.list c.list).map (Q6 a.kind)) by
   obtain ⟨e,σ',h1,h2⟩:=this;rw [h1];exact h2
  refine D5 hF ?_;simp [x178,A6,A1,hna,hnc,B3,k0,c0,hkk,hll,H3,eq0];have hca:c.kind=a.kind:=hkk.symm
  obtain ⟨I,hI⟩:∃I:Nat->TAct->Sto->Prop,I=(fun j a' σ'=>a'.df=[]/\σ'=σ/\∃done lst,H1 a.list c.list=(H1 (a.list.drop j) (c.list.drop j)).map (done++ ·)/\done.length=j/\Xt.Bld 66 2 (done.map B7) lst/\a'.tm.get 2=some (.bx 0 (B7 a) 66)/\a'.tm.get 3=some (.bx 2 (B7 c) 66)/\a'.tm.get 4=some (.bx 4 [.int .i64 0,.sl .nl []] 66)/\a'.tm.get 6=some (.bx 5 [.int .i64 c.kind,lst] 66)/\a'.tm.get 42=some (.int .i64 j)/\a'.tm.get 41=some (.int .i64 (c.list.length:Int))):=⟨_,rfl⟩
  obtain ⟨R,hR⟩:∃R:TEx->TAct->Sto->Prop,R=(fun ex a' σ'=>a'.df=[]/\σ'=σ/\(ex=.exit 1/\(∃done lst,H1 a.list c.list=some done/\Xt.Bld 66 2 (done.map B7) lst/\a'.tm.get 4=some (.bx 4 [.int .i64 0,.sl .nl []] 66)/\a'.tm.get 6=some (.bx 5 [.int .i64 c.kind,lst] 66))\/ex=.ret/\H1 a.list c.list=none/\a'.tm.get 4=some (.bx 4 (B7 a) 66)/\a'.tm.get 5=some (.bool false))):=⟨_,rfl⟩
  refine A9 I a.list.length R ?_ ?_ ?_ ?_ ?_
  ·rw [hI];exact ⟨rfl,rfl,[],_,by rw [List.drop_zero,List.drop_zero];cases H1 a.list c.list<;>simp,rfl,.nl,by simp [A1,hna,B3,hkk],by simp [A1,hnc,B3],by simp,by simp,by simp,by simp⟩
  ·omega
  ·rw [hI];rintro j ⟨tm,df,clk⟩ σ' hj ⟨rfl,rfl,done,lst,hd,hdl,hb,g2,g3,g4,g6,gc,gl⟩;rw [<-hI];have hw:=C8 hj ha.len;have hj':j<c.list.length:=by omega
   obtain ⟨h4,hsub⟩:=B1t hwf k0;obtain ⟨q,hqn,hq,hqx⟩:=ih a.list[j] c.list[j] σ'.length σ' (by have:=O8 _ _ (List.getElem_mem hj);omega) (by have:=O8 _ _ (List.getElem_mem hj');omega) (ha.sub _ (List.getElem_mem hj)) (hc.sub _ (List.getElem_mem hj')) (hsub _ (List.getElem_mem hj)) (A6N hfa _ (List.getElem_mem hj)) (A6N hfc _ (List.getElem_mem hj'))
   have eq':B7 q=[.int .i64 q.kind,.sl .fz (q.list.map B7)]:=by rw [A1,hqn];rfl
   rw [A1 a.list[j],A1 c.list[j],eq'] at hq;rw [A1 a,hna] at g2;rw [A1 c,hnc] at g3;simp only [B3] at hq g2 g3;rw [A6n hj hj'] at hd;cases hjo:T8 a.list[j] c.list[j] with
   |none=>
    rw [hjo] at hd hq;simp at hd hq;cases hnj:(a.list[j]).nl<;>cases hnj':(c.list[j]).nl<;>
    simp only [hnj,hnj'] at hq<;>
    simp [g2,g3,g4,g6,gc,gl,hj,hj',hq,hw,A1 a.list[j],A1 c.list[j],hnj,hnj',B3]<;>
    rw [hR]<;>
    exact ⟨rfl,rfl,.inr ⟨rfl,hd,by simp [A1,hna,B3,hkk],by simp⟩⟩
   |some x=>
    rw [hjo] at hd hq;have hxq:=hqx x hjo;subst hxq;simp at hq;have hd1:(done.map B7).length<=1073741823:=by rw [List.length_map];omega
    have hd2:((done.map B7).all fun c=>decide (c.length=2))=true:=by
     grind [A1]
    have hd':H1 a.list c.list=(H1 (a.list.drop (j+1)) (c.list.drop (j+1))).map ((done++[q])++ ·):=by
     rw [hd];cases H1 (a.list.drop (j+1)) (c.list.drop (j+1))<;>simp
    have hsucc:(done++[q]).map B7=done.map B7++[[.int .i64 q.kind,.sl .fz (q.list.map B7)]]:=by rw [List.map_append,<-eq'];rfl
    have hlen:(done++[q]).length=j+1:=by simp [hdl]
    generalize hdn:done.map B7=dn at hb hsucc hd1 hd2;rcases hb.inv with ⟨rfl,rfl⟩|rfl
    ·cases hnj:(a.list[j]).nl<;>cases hnj':(c.list[j]).nl<;>
     simp only [hnj,hnj'] at hq<;>
     simp [g2,g3,g4,g6,gc,gl,hj,hj',hq,hw,A1 a.list[j],A1 c.list[j],hnj,hnj',B3]<;>
     rw [hI]<;>
     exact ⟨rfl,rfl,done++[q],_,hd',hlen,by rw [hsucc];exact .own _,by simp [g2,A1,hna,B3],by simp [g3,A1,hnc,B3],by simp [g4],by simp,by simp,by simp [gl]⟩
    ·cases hnj:(a.list[j]).nl<;>cases hnj':(c.list[j]).nl<;>
     simp only [hnj,hnj'] at hq<;>
     simp [g2,g3,g4,g6,gc,gl,hj,hj',hq,hw,hd1,hd2,A1 a.list[j],A1 c.list[j],hnj,hnj',B3]<;>
     rw [hI]<;>
     exact ⟨rfl,rfl,done++[q],_,hd',hlen,by rw [hsucc];exact .own _,by simp [g2,A1,hna,B3],by simp [g3,A1,hnc,B3],by simp [g4],by simp,by simp,by simp [gl]⟩
  ·rw [hI];rintro ⟨tm,df,clk⟩ σ' ⟨rfl,rfl,done,lst,hd,hdl,hb,g2,g3,g4,g6,gc,gl⟩;rw [A8q (by omega)] at hd;have e0:done++[]=done:=List.append_nil _;simp [g2,g3,gc,gl,hll,A1,hna,B3];rw [hR];exact ⟨rfl,rfl,.inl ⟨rfl,done,lst,by rw [hd];simp,hb,by simp [g4],by simp [g6]⟩⟩
  ·rw [hR];rintro ex ⟨tm,df,clk⟩ σ' ⟨rfl,rfl,⟨rfl,done,lst,hd,hb,g4,g6⟩|⟨rfl,hd,g4,g5⟩⟩
   ·rw [hd];have hbl:=H3 σ'.length done;rcases hb.inv with ⟨hn,rfl⟩|rfl
    ·have hn':done=[]:=List.map_eq_nil_iff.1 hn;subst hn';simp [g4,g6];exact I6 (x:=Q6 c.kind []) rfl (by rw [A1];rfl)
    ·simp [g4,g6,hbl];exact I6 (x:=Q6 c.kind done) rfl (by rw [A1];rfl)
   ·rw [hd];simp [g4,g5,B1s,A1 a,hna,B3,H3,eq0];grind [F2,A1,B3]
set_option maxHeartbeats 4000000 in
theorem B9w (hF:F 236=some f190):∀(N:Nat) (a c:QTyp) (b:Nat) (σ:Sto),szQ a<=N->szQ c<=N->OkQ a->OkQ c->wfQ a=true->fzQ a=true->fzQ c=true->
  A22 (A4 F O N b 236 [.agg (B7 a),.agg (B7 c)] σ) σ (T8 a c)
 |0,a,c,b,σ,h,_,_,_,_,_,_=>by rw [F3] at h;omega
 |N+1,a,c,b,σ,h,h',ha,hc,hwf,hfa,hfc=>by
  have ih:=B9w hF N;have hs:=F3 a;have hs':=F3 c;have hk:=A1k a.list;rw [B0n]
  by_cases k0:a.kind=0
  ·rw [if_pos k0];refine I6 rfl (A3 hF ?_);have hcn:=hc.nl;cases hna:a.nl<;>cases hnc:c.nl<;>rw [hnc] at hcn<;>simp at hcn<;>simp [x190,A6,A1,hna,hnc,B3,k0,H3,eq0,hcn]
  rw [if_neg k0];have hna:=B1u hfa k0
  by_cases c0:c.kind=0
  ·rw [if_pos c0];refine I6 rfl (A3 hF ?_);cases hnc:c.nl<;>simp [x190,A6,A1,hna,hnc,B3,k0,c0,H3,eq0]
  rw [if_neg c0];have hnc:=B1u hfc c0
  by_cases hkk:a.kind=c.kind
  case neg=>
   rw [if_neg (fun h=>hkk h.1)];refine F2 (x:=(Q6 0 [])) rfl (A3 hF ?_);simp [x190,A6,A1,hna,hnc,B3,k0,c0,hkk,H3,eq0]
  by_cases hll:a.list.length=c.list.length
  case neg=>
   rw [if_neg (fun h=>hll h.2)];have hll':¬(a.list.length:Int)=(c.list.length:Int):=by omega
   refine F2 (x:=(Q6 0 [])) rfl (A3 hF ?_);simp [x190,A6,A1,hna,hnc,B3,k0,c0,hkk,hll',H3,eq0]
  rw [if_pos ⟨hkk,hll⟩];have c0':c.kind≠0:=c0
  suffices ∃e σ',A4 F O (N+1) b 236 [.agg (B7 a),.agg (B7 c)] σ=some (e,σ')/\A22 (some (e,σ')) σ ((H1 a.list c.list).map (Q6 a.kind)) by
   obtain ⟨e,σ',h1,h2⟩:=this;rw [h1];exact h2
  refine D5 hF ?_;simp [x190,A6,A1,hna,hnc,B3,k0,c0,hkk,hll,H3,eq0];have hca:c.kind=a.kind:=hkk.symm
  obtain ⟨I,hI⟩:∃I:Nat->TAct->Sto->Prop,I=(fun j a' σ'=>a'.df=[]/\σ'=σ/\∃done lst,H1 a.list c.list=(H1 (a.list.drop j) (c.list.drop j)).map (done++ ·)/\done.length=j/\Xt.Bld 66 2 (done.map B7) lst/\a'.tm.get 2=some (.bx 0 (B7 a) 66)/\a'.tm.get 3=some (.bx 2 (B7 c) 66)/\a'.tm.get 4=some (.bx 4 [.int .i64 0,.sl .nl []] 66)/\a'.tm.get 6=some (.bx 5 [.int .i64 c.kind,lst] 66)/\a'.tm.get 7=some (.int .i64 j)/\True):=⟨_,rfl⟩
  obtain ⟨R,hR⟩:∃R:TEx->TAct->Sto->Prop,R=(fun ex a' σ'=>a'.df=[]/\σ'=σ/\(ex=.exit 0/\(∃done lst,H1 a.list c.list=some done/\Xt.Bld 66 2 (done.map B7) lst/\a'.tm.get 4=some (.bx 4 [.int .i64 0,.sl .nl []] 66)/\a'.tm.get 6=some (.bx 5 [.int .i64 c.kind,lst] 66))\/ex=.ret/\H1 a.list c.list=none/\a'.tm.get 4=some (.bx 4 [TV.int .i64 0,TV.sl .nl []] 66)/\a'.tm.get 5=some (.bool false))):=⟨_,rfl⟩
  refine A9 I a.list.length R ?_ ?_ ?_ ?_ ?_
  ·rw [hI];exact ⟨rfl,rfl,[],_,by rw [List.drop_zero,List.drop_zero];cases H1 a.list c.list<;>simp,rfl,.nl,by simp [A1,hna,B3,hkk],by simp [A1,hnc,B3],by simp,by simp,by simp,by simp⟩
  ·omega
  ·rw [hI];rintro j ⟨tm,df,clk⟩ σ' hj ⟨rfl,rfl,done,lst,hd,hdl,hb,g2,g3,g4,g6,gc,gl⟩;rw [<-hI];have hw:=C8 hj ha.len;have hj':j<c.list.length:=by omega
   obtain ⟨h4,hsub⟩:=B1t hwf k0;obtain ⟨q,hqn,hq,hqx⟩:=ih a.list[j] c.list[j] σ'.length σ' (by have:=O8 _ _ (List.getElem_mem hj);omega) (by have:=O8 _ _ (List.getElem_mem hj');omega) (ha.sub _ (List.getElem_mem hj)) (hc.sub _ (List.getElem_mem hj')) (hsub _ (List.getElem_mem hj)) (A6N hfa _ (List.getElem_mem hj)) (A6N hfc _ (List.getElem_mem hj'))
   have eq':B7 q=[.int .i64 q.kind,.sl .fz (q.list.map B7)]:=by rw [A1,hqn];rfl
   rw [A1 a.list[j],A1 c.list[j],eq'] at hq;rw [A1 a,hna] at g2;rw [A1 c,hnc] at g3;simp only [B3] at hq g2 g3;rw [A6n hj hj'] at hd;cases hjo:T8 a.list[j] c.list[j] with
   |none=>
    rw [hjo] at hd hq;simp at hd hq;cases hnj:(a.list[j]).nl<;>cases hnj':(c.list[j]).nl<;>
    simp only [hnj,hnj'] at hq<;>
    simp [g2,g3,g4,g6,gc,gl,hj,hj',hq,hw,A1 a.list[j],A1 c.list[j],hnj,hnj',B3]<;>
    rw [hR]<;>
    exact ⟨rfl,rfl,.inr ⟨rfl,hd,by simp [A1,hna,B3,hkk],by simp⟩⟩
   |some x=>
    rw [hjo] at hd hq;have hxq:=hqx x hjo;subst hxq;simp at hq;have hd1:(done.map B7).length<=1073741823:=by rw [List.length_map];omega
    have hd2:((done.map B7).all fun c=>decide (c.length=2))=true:=by
     grind [A1]
    have hd':H1 a.list c.list=(H1 (a.list.drop (j+1)) (c.list.drop (j+1))).map ((done++[q])++ ·):=by
     rw [hd];cases H1 (a.list.drop (j+1)) (c.list.drop (j+1))<;>simp
    have hsucc:(done++[q]).map B7=done.map B7++[[.int .i64 q.kind,.sl .fz (q.list.map B7)]]:=by rw [List.map_append,<-eq'];rfl
    have hlen:(done++[q]).length=j+1:=by simp [hdl]
    generalize hdn:done.map B7=dn at hb hsucc hd1 hd2;rcases hb.inv with ⟨rfl,rfl⟩|rfl
    ·cases hnj:(a.list[j]).nl<;>cases hnj':(c.list[j]).nl<;>
     simp only [hnj,hnj'] at hq<;>
     simp [g2,g3,g4,g6,gc,gl,hj,hj',hq,hw,A1 a.list[j],A1 c.list[j],hnj,hnj',B3]<;>
     rw [hI]<;>
     exact ⟨rfl,rfl,done++[q],_,hd',hlen,by rw [hsucc];exact .own _,by simp [g2,A1,hna,B3],by simp [g3,A1,hnc,B3],by simp [g4],by simp,by simp,by simp [gl]⟩
    ·cases hnj:(a.list[j]).nl<;>cases hnj':(c.list[j]).nl<;>
     simp only [hnj,hnj'] at hq<;>
     simp [g2,g3,g4,g6,gc,gl,hj,hj',hq,hw,hd1,hd2,A1 a.list[j],A1 c.list[j],hnj,hnj',B3]<;>
     rw [hI]<;>
     exact ⟨rfl,rfl,done++[q],_,hd',hlen,by rw [hsucc];exact .own _,by simp [g2,A1,hna,B3],by simp [g3,A1,hnc,B3],by simp [g4],by simp,by simp,by simp [gl]⟩
  ·rw [hI];rintro ⟨tm,df,clk⟩ σ' ⟨rfl,rfl,done,lst,hd,hdl,hb,g2,g3,g4,g6,gc,gl⟩;rw [A8q (by omega)] at hd;have e0:done++[]=done:=List.append_nil _;simp [g2,g3,gc,gl,hll,A1,hna,B3];rw [hR];exact ⟨rfl,rfl,.inl ⟨rfl,done,lst,by rw [hd];simp,hb,by simp [g4],by simp [g6]⟩⟩
  ·rw [hR];rintro ex ⟨tm,df,clk⟩ σ' ⟨rfl,rfl,⟨rfl,done,lst,hd,hb,g4,g6⟩|⟨rfl,hd,g4,g5⟩⟩
   ·rw [hd];have hbl:=H3 σ'.length done;rcases hb.inv with ⟨hn,rfl⟩|rfl
    ·have hn':done=[]:=List.map_eq_nil_iff.1 hn;subst hn';simp [g4,g6];exact I6 (x:=Q6 c.kind []) rfl (by rw [A1];rfl)
    ·simp [g4,g6,hbl];exact I6 (x:=Q6 c.kind done) rfl (by rw [A1];rfl)
   ·rw [hd];simp [g4,g5,B1s,eq0,hna,B3,H3,eq0];exact F2 (x:=(Q6 0 [])) rfl (by simp [eq0,hna,B3])
end
section
open Go Go.Xe Go.Xt
mutual
def nfQ:QTyp->Bool
 |.mk k b l=>(!b||decide (k=0/\l.length=0))&&(decide (0<=k/\k<=4/\l.length<=4)&&A2q l)
def A2q:List QTyp->Bool
 |[]=>true
 |t::l=>nfQ t&&A2q l
end
theorem B3q:∀(l:List QTyp),A2q l=true->∀x∈l,nfQ x=true
 |[],_,x,hx=>by cases hx
 |a::l,h,x,hx=>by
  unfold A2q at h;rw [Bool.and_eq_true] at h;rcases List.mem_cons.1 hx with rfl|hx
  ·exact h.1
  ·exact B3q l h.2 x hx
theorem A3o {k:Int} {l:List QTyp} (h:0<=k/\k<=4/\l.length<=4) (hw:A2q l=true):nfQ (Q6 k l)=true:=by
 unfold Q6 nfQ;rw [decide_eq_true h,hw];rfl
theorem C2l:∀(n:Nat) (t:QTyp),szQ t<=n->nfQ t=true->OkQ t
 |0,t,h,_=>by rw [F3] at h;omega
 |n+1,.mk k b l,h,hw=>by
  rw [F3] at h;unfold nfQ at hw;simp only [Bool.and_eq_true,decide_eq_true_eq] at hw;obtain ⟨hb,hk,hl⟩:=hw;have h4:(4:Nat)<=maxLen:=by decide
  refine .mk ⟨by omega,by omega⟩ (fun e=> ?_) (by omega) fun x hx=> ?_
  case refine_1=>
   subst e;simp only [Bool.not_true,Bool.false_or,decide_eq_true_eq] at hb;exact List.length_eq_zero_iff.1 hb.2
  have:=O8 _ _ hx;simp only [QTyp.list] at h;exact C2l n x (by omega) (B3q l hl x hx)
theorem B7j {t:QTyp} (h:nfQ t=true):OkQ t:=C2l _ t (Nat.le_refl _) h
mutual
theorem B3r:∀t,nfQ t=true->fzQ t=true
 |.mk k b l,h=>by
  unfold nfQ at h;simp only [Bool.and_eq_true] at h;unfold fzQ;rw [B9x l h.2.2,Bool.and_true];have:=h.1;cases b
  ·rfl
  ·simp only [Bool.not_true,Bool.false_or,decide_eq_true_eq] at this ⊢;exact this.1
theorem B9x:∀l,A2q l=true->B7i l=true
 |[],_=>rfl
 |t::l,h=>by
  unfold A2q at h;simp only [Bool.and_eq_true] at h;unfold B7i;rw [B3r t h.1,B9x l h.2];rfl
end
theorem B5Z {k:Int} {b:Bool} {l:List QTyp} (h:nfQ (.mk k b l)=true):nfQ (Q6 k l)=true:=by
 unfold nfQ at h;simp only [Bool.and_eq_true,decide_eq_true_eq] at h;exact A3o h.2.1 h.2.2
theorem B60 (k:Int) (b:Bool) (l:List QTyp):szQ (Q6 k l)=szQ (.mk k b l):=by unfold Q6 szQ;rfl
mutual
theorem A6O:∀(a b x:QTyp),T8 a b=some x->nfQ a=true->nfQ b=true->nfQ x=true/\szQ x<=szQ a+szQ b
 |.mk k nl l,.mk k' nl' l',x,h,ha,hb=>by
  unfold T8 at h
  by_cases h0:k=0
  ·rw [if_pos h0] at h;cases h;exact ⟨B5Z hb,by rw [B60 k' nl' l'];omega⟩
  rw [if_neg h0] at h
  by_cases h1:k'=0
  ·rw [if_pos h1] at h;cases h;exact ⟨B5Z ha,by rw [B60 k nl l];omega⟩
  rw [if_neg h1] at h;split at h
  ·rename_i hh;obtain ⟨y,hy,rfl⟩:=Option.map_eq_some_iff.1 h;unfold nfQ at ha hb;simp only [Bool.and_eq_true,decide_eq_true_eq] at ha hb;obtain ⟨w1,w2,w3⟩:=B3s l l' y hh.2 hy ha.2.2 hb.2.2;refine ⟨A3o (by omega) w1,?_⟩;rw [F3,F3,F3];simp only [QTyp.list,Q6];omega
  ·cases h
theorem B3s:∀(l m y:List QTyp),l.length=m.length->H1 l m=some y->A2q l=true->A2q m=true->A2q y=true/\y.length=l.length/\A0N y<=A0N l+A0N m
 |[],[],y,_,h,_,_=>by simp only [H1] at h;cases h;exact ⟨rfl,rfl,Nat.zero_le _⟩
 |[],_::_,y,hl,h,_,_=>by simp at hl
 |_::_,[],y,hl,h,_,_=>by simp at hl
 |a::l,b::m,y,hl,h,ha,hb=>by
  simp only [H1] at h;unfold A2q at ha hb;rw [Bool.and_eq_true] at ha hb;split at h
  ·rename_i x hx;obtain ⟨z,hz,rfl⟩:=Option.map_eq_some_iff.1 h;have h1:=A6O a b x hx ha.1 hb.1;obtain ⟨h2,h3,h4⟩:=B3s l m z (by simpa using hl) hz ha.2 hb.2;exact ⟨by unfold A2q;rw [h1.1,h2];rfl,by simp [h3],by have:=h1.2;simp only [A0N];omega⟩
  ·cases h
end
def Nf (v:PVal) (t:QTyp):Prop:=wfQ t=true/\nfQ t=true/\szQ t<=3*szV v
theorem B61 {f:PVal->Option QTyp} (hf:∀v t,f v=some t->Nf v t):∀(l:List PVal) (ts:List QTyp),N3 f l=some ts->A2q ts=true/\ts.length=l.length/\A0N ts<=3*A10 l
 |[],ts,h=>by simp only [N3] at h;cases h;exact ⟨rfl,rfl,Nat.zero_le _⟩
 |x::l,ts,h=>by
  simp only [N3] at h;split at h
  ·rename_i t ht;obtain ⟨z,hz,rfl⟩:=Option.map_eq_some_iff.1 h;obtain ⟨h2,h3,h4⟩:=B61 hf l z hz;obtain ⟨h5,h6,h7⟩:=hf x t ht;exact ⟨by unfold A2q;rw [h6,h2];rfl,by simp [h3],by simp only [A0N,A10];omega⟩
  ·cases h
theorem B3t {f:PVal->Option QTyp} (hf:∀v t,f v=some t->Nf v t):∀(l:List PVal) (acc a:QTyp),nfQ acc=true->K8 f acc l=some a->nfQ a=true/\szQ a<=szQ acc+3*A10 l
 |[],acc,a,ha,h=>by simp only [K8] at h;cases h;exact ⟨ha,by omega⟩
 |x::l,acc,a,ha,h=>by
  simp only [K8] at h;split at h
  ·rename_i t ht;split at h
   ·rename_i a' ha';obtain ⟨h5,h6,h7⟩:=hf x t ht;obtain ⟨h8,h9⟩:=A6O _ _ _ ha' ha h6;obtain ⟨h1,h2⟩:=B3t hf l a' a h8 h;exact ⟨h1,by simp only [A10];omega⟩
   ·cases h
  ·cases h
theorem B9y {f:PVal->Option QTyp} (hf:∀v t,f v=some t->Nf v t) {v:PVal} {t:QTyp} (hl:v.list.length<=4) (h:(N3 f v.list).map (Q6 3)=some t):nfQ t=true/\szQ t<=3*szV v:=by
 obtain ⟨ts,hm,rfl⟩:=Option.map_eq_some_iff.1 h;obtain ⟨h1,h2,h3⟩:=B61 hf v.list ts hm;have:=D6 v;exact ⟨A3o (by omega) h1,by rw [F3];simp only [A32];omega⟩
theorem C1g {f:PVal->Option QTyp} (hf:∀v t,f v=some t->Nf v t) {v:PVal} {t:QTyp} (h:(K8 f (.mk 0 true []) v.list).map (fun a=>Q6 4 [a])=some t):nfQ t=true/\szQ t<=3*szV v:=by
 obtain ⟨a,hm,rfl⟩:=Option.map_eq_some_iff.1 h;obtain ⟨h1,h2⟩:=B3t hf v.list _ a rfl hm;have:=D6 v;have e:szQ (.mk 0 true [])=4:=by rw [F3];rfl
 refine ⟨A3o ⟨by omega,by omega,by simp⟩ (by unfold A2q;rw [h1];rfl),?_⟩;rw [F3];simp only [A32,A0N];omega
theorem C1h {k:Int} (v:PVal) (h:k=1\/k=2):nfQ (Q6 k [])=true/\szQ (Q6 k [])<=3*szV v:=by
 have:=D6 v;exact ⟨A3o ⟨by omega,by omega,by simp⟩ rfl,by rw [F3];simp only [A32,A0N];omega⟩
theorem A59:∀(n:Nat) (v:PVal) (t:QTyp),P2 n v=some t->Nf v t
 |0,v,t,h=>by simp only [P2] at h;cases h
 |n+1,v,t,h=>by
  have ih:=A59 n;have hw:=A8p _ _ _ h;unfold P2 at h
  by_cases k12:v.kind=1\/v.kind=2
  ·rw [if_pos k12] at h;split at h
   ·cases h;exact ⟨hw,C1h v k12⟩
   ·cases h
  rw [if_neg k12] at h;split at h
  ·rename_i k3;exact ⟨hw,B9y ih k3.2.2.2 h⟩
  ·split at h
   ·exact ⟨hw,C1g ih h⟩
   ·cases h
theorem C1i (n:Nat) (v:PVal) (t:QTyp) (h:A0T n v=some t):Nf v t:=by
 obtain ⟨h1,h2⟩:=A8o n v;cases hs:P2 n v with
 |none=>rw [h1 hs] at h;cases h
 |some u=>
  obtain ⟨h3,h4⟩:=h2 u hs
  by_cases hn:K7 u<=n
  ·rw [h3 hn] at h;cases h;exact A59 n v _ hs
  ·rw [h4 hn] at h;cases h
theorem B0o {f:PVal->Option QTyp} {l:List PVal} {j:Nat} (hj:j<l.length):N3 f (l.drop j)=match f l[j] with
  |some x=>(N3 f (l.drop (j+1))).map (x:: ·)
  |none=>none:=by
 rw [List.drop_eq_getElem_cons hj];simp only [N3]<;>(cases f l[j]<;>rfl)
theorem B3u {f:PVal->Option QTyp} {l:List PVal} {j:Nat} (hj:l.length<=j):N3 f (l.drop j)=some []:=by
 rw [List.drop_of_length_le hj];rfl
theorem A8r {f:PVal->Option QTyp} {acc:QTyp} {l:List PVal} {j:Nat} (hj:j<l.length):K8 f acc (l.drop j)=match f l[j] with
  |some x=>match T8 acc x with
   |some a=>K8 f a (l.drop (j+1))
   |none=>none
  |none=>none:=by
 rw [List.drop_eq_getElem_cons hj];simp only [K8]<;>(cases f l[j] with
 |none=>rfl
 |some x=>cases T8 acc x<;>rfl)
theorem B0p {f:PVal->Option QTyp} {acc:QTyp} {l:List PVal} {j:Nat} (hj:l.length<=j):K8 f acc (l.drop j)=some acc:=by
 rw [List.drop_of_length_le hj];rfl
theorem B0q {l:List PVal} {j:Nat} (hj:j<l.length):A10 (l.drop j)=szV l[j]+1+A10 (l.drop (j+1)):=by
 rw [List.drop_eq_getElem_cons hj];simp only [A10]
end
section
open Go Go.Xe Go.Xt
variable {F:FuncId->Option TFun} {O:FuncId->List TV->Option TV}
structure SFits (F:FuncId->Option TFun):Prop where
 has:HFits F
 h150:F 166=some f150
 h178:F 209=some f178
theorem A5a {call:Option (TEnd×Sto)} {σ:Sto} {o:Option QTyp} (h:∃e σ',call=some (e,σ')/\A22 (some (e,σ')) σ o):A22 call σ o:=by
 obtain ⟨e,σ',h1,h2⟩:=h;rw [h1];exact h2
theorem B0r (v:PVal) {k:Int} (h:k=1\/k=2):hasV v (.mk k true [])=hasV v (Q6 k []):=by
 rw [A57,A57];simp only [QTyp.kind,B3p];rcases h with rfl|rfl<;>rfl
set_option maxHeartbeats 2000000 in
theorem B62 (V:SFits F):∀(N:Nat) (v:PVal) (n:Nat) (left:Int) (b:Nat) (σ:Sto),3*szV v<=N->OkV v->left=n->n<=40->
  A22 (A4 F O N b 166 [.agg (C9 v),.int .i64 left] σ) σ (P2 n v)
 |0,v,n,left,b,σ,h,_,_,_=>by rw [D6] at h;omega
 |N+1,v,n,left,b,σ,h,hv,hl,hn=>by
  have hs:=D6 v;have hk:=R8 v.list;cases n with
  |zero=>
   have hlt:left<1:=by omega
   refine F2 (x:=Q6 v.kind []) rfl (A3 V.h150 ?_);simp [x150,A6,A1,A2,B3,hlt]
  |succ n=>
  have hlt:¬left<1:=by omega
  have hsub:IntKind.i64.wrap (left - 1)=(n:Int):=by rw [D7]<;>omega
  have ih:=fun (x:PVal) (b:Nat) (σ:Sto) (h:3*szV x<=N) (hx:OkV x)=>B62 V N x n (n:Int) b σ h hx rfl (by omega)
  unfold P2
  by_cases k12:v.kind=1\/v.kind=2
  ·rw [if_pos k12];have hc:=B9u (O:=O) V.has N v (.mk v.kind true []) σ.length σ (by omega) (by rw [F3];simp only [QTyp.list,A0N];omega) hv (.mk hv.kind (fun _=>rfl) (Nat.zero_le _) (fun _ h=>by cases h)) (.inl k12);rw [B0r v k12,A2,A1] at hc;simp only [QTyp.kind,QTyp.nl,QTyp.list,B3,List.map_nil] at hc;cases hh:hasV v (Q6 v.kind []) with
   |true=>
    rw [hh] at hc;refine I6 rfl (A3 V.h150 ?_);rcases k12 with k1|k1<;>rw [k1] at hc<;>simp [x150,A6,A1,A2,B3,hlt,k1,hc]
   |false=>
    rw [hh] at hc;refine F2 (x:=Q6 v.kind []) rfl (A3 V.h150 ?_);rcases k12 with k1|k1<;>rw [k1] at hc<;>simp [x150,A6,A1,A2,B3,hlt,k1,hc]
  rw [if_neg k12];have k1:v.kind≠1:=fun h=>k12 (.inl h)
  have k2:v.kind≠2:=fun h=>k12 (.inr h)
  by_cases c3:v.kind=3/\v.n=0/\2<=v.list.length/\v.list.length<=4
  ·rw [if_pos c3];obtain ⟨k3,n0,l2,l4⟩:=c3;have l2':(2:Int)<=(v.list.length:Int):=by omega
   have l4':(v.list.length:Int)<=4:=by omega
   refine A5a (D5 V.h150 ?_);simp [x150,A6,A1,A2,B3,hlt,k3,n0,l2,l4,l2',l4'];obtain ⟨f,hf⟩:∃f,f=P2 n:=⟨_,rfl⟩;rw [<-hf] at ih ⊢
   obtain ⟨I,hI⟩:∃I:Nat->TAct->Sto->Prop,I=(fun j a' σ'=>a'.df=[]/\σ'=σ/\∃done lst,N3 f v.list=(N3 f (v.list.drop j)).map (done++ ·)/\done.length=j/\Xt.Bld 66 2 (done.map B7) lst/\a'.tm.get 1=some (.int .i64 left)/\a'.tm.get 4=some (.bx 2 [.int .i64 0,.sl .nl []] 66)/\a'.tm.get 6=some (.bx 3 [.int .i64 3,lst] 66)/\a'.tm.get 58=some (.sl .fz (v.list.map C9))/\a'.tm.get 59=some (.int .i64 (v.list.length:Int))/\a'.tm.get 60=some (.int .i64 j)):=⟨_,rfl⟩
   obtain ⟨R,hR⟩:∃R:TEx->TAct->Sto->Prop,R=(fun ex a' σ'=>a'.df=[]/\σ'=σ/\(ex=.exit 1/\(∃done lst,N3 f v.list=some done/\Xt.Bld 66 2 (done.map B7) lst/\a'.tm.get 4=some (.bx 2 [.int .i64 0,.sl .nl []] 66)/\a'.tm.get 6=some (.bx 3 [.int .i64 3,lst] 66))\/ex=.ret/\N3 f v.list=none/\(∃q,a'.tm.get 4=some (.bx 2 (B7 (.mk 3 q [])) 66)\/∃done,a'.tm.get 4=some (.bx 2 (B7 (Q6 3 done)) 66))/\a'.tm.get 5=some (.bool false))):=⟨_,rfl⟩
   refine A9 I v.list.length R ?_ ?_ ?_ ?_ ?_
   ·rw [hI];exact ⟨rfl,rfl,[],_,by rw [List.drop_zero];cases N3 f v.list<;>simp,rfl,.nl,by simp,by simp,by simp,by simp,by simp,by simp⟩
   ·omega
   ·rw [hI];rintro j ⟨tm,df,clk⟩ σ' hj ⟨rfl,rfl,done,lst,hd,hdl,hb,g1,g4,g6,g58,g59,g60⟩;rw [<-hI];have hw:=C8 hj hv.len;obtain ⟨q,hqn,hq,hqx⟩:=ih v.list[j] σ'.length σ' (by have:=G9 _ _ (List.getElem_mem hj);omega) (hv.sub _ (List.getElem_mem hj));have eq':B7 q=[.int .i64 q.kind,.sl .fz (q.list.map B7)]:=by rw [A1,hqn];rfl
    rw [A2 v.list[j],eq'] at hq;rw [B0o hj] at hd;cases hjo:f v.list[j] with
    |none=>
     rw [hjo] at hd hq;simp at hd hq;generalize hdn:done.map B7=dn at hb;rcases hb.inv with ⟨rfl,rfl⟩|rfl
     ·simp [g1,g4,g6,g58,g59,g60,hj,hq,hw,hsub,A2 v.list[j]];rw [hR];exact ⟨rfl,rfl,.inr ⟨rfl,hd,⟨true,.inl (by simp [A1,QTyp.kind,QTyp.nl,QTyp.list,B3])⟩,by simp⟩⟩
     ·simp [g1,g4,g6,g58,g59,g60,hj,hq,hw,hsub,A2 v.list[j]];rw [hR];exact ⟨rfl,rfl,.inr ⟨rfl,hd,⟨true,.inr ⟨done,by simp [A1 (Q6 3 done),B3,hdn]⟩⟩,by simp⟩⟩
    |some x=>
     rw [hjo] at hd hq;have hxq:=hqx x hjo;subst hxq;simp at hq;have hd1:(done.map B7).length<=1073741823:=by rw [List.length_map];omega
     have hd2:((done.map B7).all fun c=>decide (c.length=2))=true:=by
      rw [List.all_eq_true];intro c hc;obtain ⟨q,_,rfl⟩:=List.mem_map.1 hc;rw [A1];rfl
     have hd':N3 f v.list=(N3 f (v.list.drop (j+1))).map ((done++[q])++ ·):=by
      rw [hd];cases N3 f (v.list.drop (j+1))<;>simp
     have hsucc:(done++[q]).map B7=done.map B7++[[.int .i64 q.kind,.sl .fz (q.list.map B7)]]:=by rw [List.map_append,<-eq'];rfl
     have hlen:(done++[q]).length=j+1:=by simp [hdl]
     generalize hdn:done.map B7=dn at hb hsucc hd1 hd2;rcases hb.inv with ⟨rfl,rfl⟩|rfl
     ·simp [g1,g4,g6,g58,g59,g60,hj,hq,hw,hsub,A2 v.list[j]];rw [hI];exact ⟨rfl,rfl,done++[q],_,hd',hlen,by rw [hsucc];exact .own _,by simp [g1],by simp [g4],by simp,by simp [g58],by simp [g59],by simp⟩
     ·simp [g1,g4,g6,g58,g59,g60,hj,hq,hw,hsub,hd1,hd2,A2 v.list[j]];rw [hI];exact ⟨rfl,rfl,done++[q],_,hd',hlen,by rw [hsucc];exact .own _,by simp [g1],by simp [g4],by simp,by simp [g58],by simp [g59],by simp⟩
   ·rw [hI];rintro ⟨tm,df,clk⟩ σ' ⟨rfl,rfl,done,lst,hd,hdl,hb,g1,g4,g6,g58,g59,g60⟩;rw [B3u (by omega)] at hd;simp [g59,g60];rw [hR];exact ⟨rfl,rfl,.inl ⟨rfl,done,lst,by rw [hd];simp,hb,by simp [g4],by simp [g6]⟩⟩
   ·rw [hR];rintro ex ⟨tm,df,clk⟩ σ' ⟨rfl,rfl,⟨rfl,done,lst,hd,hb,g4,g6⟩|⟨rfl,hd,g4,g5⟩⟩
    ·rw [hd];have hbl:=H3 σ'.length done;rcases hb.inv with ⟨hn,rfl⟩|rfl
     ·have hn':done=[]:=List.map_eq_nil_iff.1 hn;subst hn';simp [g4,g6];exact I6 (x:=Q6 3 []) rfl (by rw [A1];rfl)
     ·simp [g4,g6,hbl];exact I6 (x:=Q6 3 done) rfl (by rw [A1];rfl)
    ·rw [hd];rcases g4 with ⟨q,g4|⟨done,g4⟩⟩
     ·cases q<;>
      ·simp only [B7,A3S,B3] at g4;simp [g4,g5];exact F2 (x:=Q6 3 []) rfl (by rw [A1];rfl)
     ·have hbl:=H3 σ'.length done;rw [A1] at g4;simp only [B3p,C4H,A32,B3] at g4;simp [g4,g5,hbl];exact F2 (x:=Q6 3 done) rfl (by rw [A1];rfl)
  rw [if_neg c3]
  by_cases c4:v.kind=4/\v.n=0/\v.list.length<=32
  ·rw [if_pos c4];obtain ⟨k4,n0,l32⟩:=c4;have l32':(v.list.length:Int)<=32:=by omega
   refine A5a (D5 V.h150 ?_);simp [x150,A6,A1,A2,B3,hlt,k4,n0,l32,l32'];obtain ⟨f,hf⟩:∃f,f=P2 n:=⟨_,rfl⟩;have hnf:=A59 n;rw [<-hf] at ih hnf ⊢
   obtain ⟨I,hI⟩:∃I:Nat->TAct->Sto->Prop,I=(fun j a' σ'=>a'.df=[]/\σ'=σ/\∃acc,K8 f (.mk 0 true []) v.list=K8 f acc (v.list.drop j)/\wfQ acc=true/\nfQ acc=true/\szQ acc+3*A10 (v.list.drop j)<=4+3*A10 v.list/\a'.tm.get 1=some (.int .i64 left)/\a'.tm.get 4=some (.bx 2 [.int .i64 0,.sl .nl []] 66)/\a'.tm.get 6=some (.bx 3 [.int .i64 4,.sl .nl []] 66)/\a'.tm.get 11=some (.bx 6 [.int .i64 acc.kind,.sl (B3 acc.nl) (acc.list.map B7)] 66)/\a'.tm.get 98=some (.sl .fz (v.list.map C9))/\a'.tm.get 99=some (.int .i64 (v.list.length:Int))/\a'.tm.get 100=some (.int .i64 j)):=⟨_,rfl⟩
   obtain ⟨R,hR⟩:∃R:TEx->TAct->Sto->Prop,R=(fun ex a' σ'=>a'.df=[]/\σ'=σ/\(ex=.exit 3/\(∃acc,K8 f (.mk 0 true []) v.list=some acc/\a'.tm.get 4=some (.bx 2 [.int .i64 0,.sl .nl []] 66)/\a'.tm.get 6=some (.bx 3 [.int .i64 4,.sl .nl []] 66)/\a'.tm.get 11=some (.bx 6 [.int .i64 acc.kind,.sl (B3 acc.nl) (acc.list.map B7)] 66))\/ex=.ret/\K8 f (.mk 0 true []) v.list=none/\a'.tm.get 4=some (.bx 2 [.int .i64 4,.sl .nl []] 66)/\a'.tm.get 5=some (.bool false))):=⟨_,rfl⟩
   refine A9 I v.list.length R ?_ ?_ ?_ ?_ ?_
   ·rw [hI];exact ⟨rfl,rfl,.mk 0 true [],by rw [List.drop_zero],rfl,rfl,by rw [List.drop_zero,F3];simp [A0N,QTyp.list],by simp,by simp,by simp,by simp [QTyp.kind,QTyp.nl,QTyp.list,B3],by simp,by simp,by simp⟩
   ·omega
   ·rw [hI];rintro j ⟨tm,df,clk⟩ σ' hj ⟨rfl,rfl,acc,hd,hwf,hacc,hsz,g1,g4,g6,g11,g98,g99,g100⟩;rw [<-hI];have hw:=C8 hj hv.len;have hsd:=B0q hj;have hp:=D6 v.list[j];obtain ⟨q,hqn,hq,hqx⟩:=ih v.list[j] σ'.length σ' (by have:=G9 _ _ (List.getElem_mem hj);omega) (hv.sub _ (List.getElem_mem hj));have eq':B7 q=[.int .i64 q.kind,.sl .fz (q.list.map B7)]:=by rw [A1,hqn];rfl
    rw [A2 v.list[j],eq'] at hq;rw [A8r hj] at hd;cases hjo:f v.list[j] with
    |none=>
     rw [hjo] at hd hq;simp at hd hq;simp [g1,g4,g6,g98,g99,g100,hj,hq,hw,hsub,A2 v.list[j]];rw [hR];exact ⟨rfl,rfl,.inr ⟨rfl,hd,by simp,by simp⟩⟩
    |some x=>
     rw [hjo] at hd hq;have hxq:=hqx x hjo;subst hxq;simp at hq hd;obtain ⟨hq1,hq2,hq3⟩:=hnf _ _ hjo;have hjc:A22 (A4 F O N σ'.length 209 [.agg [.int .i64 acc.kind,.sl (B3 acc.nl) (acc.list.map B7)],.agg (B7 q)] σ') σ' (T8 acc q):=by
      have:=B9v (O:=O) V.h178 N acc q σ'.length σ' (by omega) (by omega) (B7j hacc) (B7j hq2) hwf (B3r _ hacc) (B3r _ hq2);rw [A1 acc] at this;exact this
     obtain ⟨r,hrn,hr,hrx⟩:=hjc;have er':B7 r=[.int .i64 r.kind,.sl .fz (r.list.map B7)]:=by rw [A1,hrn];rfl
     rw [eq',er'] at hr;cases hjq:T8 acc q with
     |none=>
      rw [hjq] at hr hd;simp at hr hd;cases hmd:acc.nl<;>
      ·simp only [hmd,B3] at g11 hr;simp [g1,g4,g6,g11,g98,g99,g100,hj,hq,hr,hw,hsub,A2 v.list[j]];rw [hR];exact ⟨rfl,rfl,.inr ⟨rfl,hd,by simp,by simp⟩⟩
     |some y=>
      rw [hjq] at hr hd;have hxr:=hrx y hjq;subst hxr;simp at hr hd;obtain ⟨hr1,hr2⟩:=A6O _ _ _ hjq hacc hq2;have hr3:=A6M _ _ _ hjq hwf hq1;cases hmd:acc.nl<;>
      ·simp only [hmd,B3] at g11 hr;simp [g1,g4,g6,g11,g98,g99,g100,hj,hq,hr,hw,hsub,A2 v.list[j]];rw [hI];exact ⟨rfl,rfl,r,hd,hr3,hr1,by omega,by simp [g1],by simp [g4],by simp [g6],by simp [hrn,B3],by simp [g98],by simp [g99],by simp⟩
   ·rw [hI];rintro ⟨tm,df,clk⟩ σ' ⟨rfl,rfl,acc,hd,hwf,hacc,hsz,g1,g4,g6,g11,g98,g99,g100⟩;rw [B0p (by omega)] at hd;simp [g99,g100];rw [hR];exact ⟨rfl,rfl,.inl ⟨rfl,acc,hd,by simp [g4],by simp [g6],by simp [g11]⟩⟩
   ·rw [hR];rintro ex ⟨tm,df,clk⟩ σ' ⟨rfl,rfl,⟨rfl,acc,hd,g4,g6,g11⟩|⟨rfl,hd,g4,g5⟩⟩
    ·rw [hd];have hbl:=H3 σ'.length acc.list;cases hmd:acc.nl<;>
     ·simp only [hmd,B3] at g11;simp [g4,g6,g11,hbl];exact I6 (x:=Q6 4 [acc]) rfl (by rw [A1];simp [A1 acc,hmd,B3])
    ·rw [hd];simp [g4,g5];exact F2 (x:=Q6 4 []) rfl (by rw [A1];rfl)
  rw [if_neg c4];refine F2 (x:=Q6 v.kind []) rfl (A3 V.h150 ?_)
  by_cases k3:v.kind=3
  ·by_cases n0:v.n=0
   ·by_cases l2:2<=v.list.length
    ·have l4:¬v.list.length<=4:=fun h=>c3 ⟨k3,n0,l2,h⟩
     have l4':¬(v.list.length:Int)<=4:=by omega
     have l2':(2:Int)<=(v.list.length:Int):=by omega
     simp [x150,A6,A1,A2,B3,hlt,k3,n0,l2,l4,l2',l4']
    ·have l2':¬(2:Int)<=(v.list.length:Int):=by omega
     simp [x150,A6,A1,A2,B3,hlt,k3,n0,l2,l2']
   ·simp [x150,A6,A1,A2,B3,hlt,k3,n0]
  by_cases k4:v.kind=4
  ·by_cases n0:v.n=0
   ·have l4:¬v.list.length<=32:=fun h=>c4 ⟨k4,n0,h⟩
    have l4':¬(v.list.length:Int)<=32:=by omega
    simp [x150,A6,A1,A2,B3,hlt,k4,n0,l4,l4']
   ·simp [x150,A6,A1,A2,B3,hlt,k4,n0]
  simp [x150,A6,A1,A2,B3,hlt,k1,k2,k3,k4]
structure PFits (F:FuncId->Option TFun):Prop where
 h62:F 235=some f62
 h179:F 224=some f179
 h190:F 236=some f190
set_option maxHeartbeats 4000000 in
theorem B9z (V:PFits F):∀(N:Nat) (v:PVal) (n:Nat) (deep:Int) (b:Nat) (σ:Sto),3*szV v<=N->szV v<=100000->OkV v->deep=41 - (n:Int)->n<=40->
  A22 (A4 F O N b 224 [.agg (C9 v),.int .i64 deep] σ) σ (A0T n v)
 |0,v,n,deep,b,σ,h,_,_,_,_=>by rw [D6] at h;omega
 |N+1,v,n,deep,b,σ,h,hbig,hv,hl,hn=>by
  have hs:=D6 v;have hk:=R8 v.list;cases n with
  |zero=>
   have hlt:(40:Int)<deep:=by omega
   refine F2 (x:=Q6 0 []) rfl (A3 V.h179 ?_);simp [x179,A6,A1,A2,B3,hlt]
  |succ n=>
  have hlt:¬(40:Int)<deep:=by omega
  have hsub:IntKind.i64.wrap (deep+1)=41 - (n:Int):=by rw [D7]<;>omega
  have ih:=fun (x:PVal) (b:Nat) (σ:Sto) (h:3*szV x<=N) (hg:szV x<=100000) (hx:OkV x)=>B9z V N x n (41 - (n:Int)) b σ h hg hx rfl (by omega)
  unfold A0T
  by_cases k12:v.kind=1\/v.kind=2
  ·rw [if_pos k12];have hc:=D0O (O:=O) V.h62 N v (.mk v.kind true []) σ.length σ (by omega) (by rw [F3];simp only [QTyp.list,A0N];omega) hv (.mk hv.kind (fun _=>rfl) (Nat.zero_le _) (fun _ h=>by cases h)) (.inl k12);rw [B0r v k12,A2,A1] at hc;simp only [QTyp.kind,QTyp.nl,QTyp.list,B3,List.map_nil] at hc;cases hh:hasV v (Q6 v.kind []) with
   |true=>
    rw [hh] at hc;refine I6 rfl (A3 V.h179 ?_);rcases k12 with k1|k1<;>rw [k1] at hc<;>simp [x179,A6,A1,A2,B3,hlt,k1,hc]
   |false=>
    rw [hh] at hc;refine F2 (x:=Q6 v.kind []) rfl (A3 V.h179 ?_);rcases k12 with k1|k1<;>rw [k1] at hc<;>simp [x179,A6,A1,A2,B3,hlt,k1,hc]
  rw [if_neg k12];have k1:v.kind≠1:=fun h=>k12 (.inl h)
  have k2:v.kind≠2:=fun h=>k12 (.inr h)
  by_cases k3:v.kind=3
  ·refine A5a (D5 V.h179 ?_);have k4:¬v.kind=4:=by omega
   simp [x179,A6,A1,A2,B3,hlt,k3];have hcond:A0T (n+1) v=if v.n=0/\2<=v.list.length/\v.list.length<=4 then (N3 (A0T n) v.list).map (Q6 3) else none:=by
    unfold A0T;rw [if_neg k12];simp [k3,k4]
   obtain ⟨G,hG⟩:∃G:Option QTyp,G=if v.n=0/\2<=v.list.length/\v.list.length<=4 then (N3 (A0T n) v.list).map (Q6 3) else none:=⟨_,rfl⟩
   rw [<-hG];obtain ⟨f,hf⟩:∃f,f=A0T n:=⟨_,rfl⟩;rw [<-hf] at ih hG
   obtain ⟨I,hI⟩:∃I:Nat->TAct->Sto->Prop,I=(fun j a' σ'=>a'.df=[]/\σ'=σ/\∃done lst,N3 f v.list=(N3 f (v.list.drop j)).map (done++ ·)/\done.length=j/\Xt.Bld 66 2 (done.map B7) lst/\a'.tm.get 1=some (.int .i64 deep)/\a'.tm.get 2=some (.bx 0 (C9 v) 24)/\a'.tm.get 4=some (.bx 2 [.int .i64 0,.sl .nl []] 66)/\a'.tm.get 7=some (.bx 3 [.int .i64 3,lst] 66)/\a'.tm.get 8=some (.int .i64 j)):=⟨_,rfl⟩
   obtain ⟨R,hR⟩:∃R:TEx->TAct->Sto->Prop,R=(fun ex a' σ'=>a'.df=[]/\σ'=σ/\(ex=.exit 1/\(∃done lst,N3 f v.list=some done/\Xt.Bld 66 2 (done.map B7) lst/\a'.tm.get 2=some (.bx 0 (C9 v) 24)/\a'.tm.get 4=some (.bx 2 [.int .i64 0,.sl .nl []] 66)/\a'.tm.get 7=some (.bx 3 [.int .i64 3,lst] 66))\/ex=.ret/\N3 f v.list=none/\a'.tm.get 4=some (.bx 2 [.int .i64 0,.sl .nl []] 66)/\a'.tm.get 5=some (.bool false))):=⟨_,rfl⟩
   refine A9 I v.list.length R ?_ ?_ ?_ ?_ ?_
   ·rw [hI];exact ⟨rfl,rfl,[],_,by rw [List.drop_zero];cases N3 f v.list<;>simp,rfl,.nl,by simp,by simp [A2,k3],by simp,by simp,by simp⟩
   ·omega
   ·rw [hI];rintro j ⟨tm,df,clk⟩ σ' hj ⟨rfl,rfl,done,lst,hd,hdl,hb,g1,g2,g4,g7,g8⟩;rw [<-hI];have hw:=C8 hj hv.len;obtain ⟨q,hqn,hq,hqx⟩:=ih v.list[j] σ'.length σ' (by have:=G9 _ _ (List.getElem_mem hj);omega) (by have:=G9 _ _ (List.getElem_mem hj);omega) (hv.sub _ (List.getElem_mem hj));have eq':B7 q=[.int .i64 q.kind,.sl .fz (q.list.map B7)]:=by rw [A1,hqn];rfl
    rw [A2 v.list[j],eq'] at hq;rw [B0o hj] at hd;rw [A2] at g2;cases hjo:f v.list[j] with
    |none=>
     rw [hjo] at hd hq;simp at hd hq;generalize hdn:done.map B7=dn at hb;rcases hb.inv with ⟨rfl,rfl⟩|rfl<;>
     ·simp [g1,g2,g4,g7,g8,hj,hq,hw,hsub,A2 v.list[j]];rw [hR];exact ⟨rfl,rfl,.inr ⟨rfl,hd,by simp,by simp⟩⟩
    |some x=>
     rw [hjo] at hd hq;have hxq:=hqx x hjo;subst hxq;simp at hq;have hd1:(done.map B7).length<=1073741823:=by rw [List.length_map];omega
     have hd2:((done.map B7).all fun c=>decide (c.length=2))=true:=by
      rw [List.all_eq_true];intro c hc;obtain ⟨q,_,rfl⟩:=List.mem_map.1 hc;rw [A1];rfl
     have hd':N3 f v.list=(N3 f (v.list.drop (j+1))).map ((done++[q])++ ·):=by
      rw [hd];cases N3 f (v.list.drop (j+1))<;>simp
     have hsucc:(done++[q]).map B7=done.map B7++[[.int .i64 q.kind,.sl .fz (q.list.map B7)]]:=by rw [List.map_append,<-eq'];rfl
     have hlen:(done++[q]).length=j+1:=by simp [hdl]
     generalize hdn:done.map B7=dn at hb hsucc hd1 hd2;rcases hb.inv with ⟨rfl,rfl⟩|rfl
     ·simp [g1,g2,g4,g7,g8,hj,hq,hw,hsub,A2 v.list[j]];rw [hI];exact ⟨rfl,rfl,done++[q],_,hd',hlen,by rw [hsucc];exact .own _,by simp [g1],by simp [g2,A2 v],by simp [g4],by simp,by simp⟩
     ·simp [g1,g2,g4,g7,g8,hj,hq,hw,hsub,hd1,hd2,A2 v.list[j]];rw [hI];exact ⟨rfl,rfl,done++[q],_,hd',hlen,by rw [hsucc];exact .own _,by simp [g1],by simp [g2,A2 v],by simp [g4],by simp,by simp⟩
   ·rw [hI];rintro ⟨tm,df,clk⟩ σ' ⟨rfl,rfl,done,lst,hd,hdl,hb,g1,g2,g4,g7,g8⟩;rw [B3u (by omega)] at hd;have g2':=g2;rw [A2] at g2;simp [g2,g8];rw [hR];exact ⟨rfl,rfl,.inl ⟨rfl,done,lst,by rw [hd];simp,hb,by simp [g2,A2 v],by simp [g4],by simp [g7]⟩⟩
   ·rw [hR];rintro ex ⟨tm,df,clk⟩ σ' ⟨rfl,rfl,⟨rfl,done,lst,hd,hb,g2,g4,g7⟩|⟨rfl,hd,g4,g5⟩⟩
    ·rw [hd] at hG;rw [hG];have hbl:=H3 σ'.length done;have e0:B7 (Q6 3 done)=[.int .i64 3,.sl .fz (done.map B7)]:=by rw [A1];rfl
     rw [A2] at g2;have hdone:B7 (Q6 3 done)=[.int .i64 3,.sl .fz (done.map B7)]:=by rw [A1];rfl
     have fin:∀bb:Bool,A22 (some (TEnd.ret (.tuple [.agg [.int .i64 3,.sl .fz (done.map B7)],.bool bb]),σ')) σ' (if bb=true then some (Q6 3 done) else none):=by
      intro bb;rw [<-hdone];cases bb
      ·exact F2 rfl rfl
      ·exact I6 rfl rfl
     by_cases n0:v.n=0
     case neg=>
      rw [if_neg (fun e=>n0 e.1)];have fin':=fin false;generalize hdn:done.map B7=dn at hb hbl fin';rcases hb.inv with ⟨rfl,rfl⟩|rfl<;>
      ·simp [g2,g4,g7,n0,hbl,A6];exact fin'
     by_cases l2:2<=v.list.length
     case neg=>
      have l2':¬(2:Int)<=(v.list.length:Int):=by omega
      rw [if_neg (fun e=>l2 e.2.1)];have fin':=fin false;generalize hdn:done.map B7=dn at hb hbl fin';rcases hb.inv with ⟨rfl,rfl⟩|rfl<;>
      ·simp [g2,g4,g7,n0,l2,l2',hbl,A6];exact fin'
     have l2':(2:Int)<=(v.list.length:Int):=by omega
     by_cases l4:v.list.length<=4
     case neg=>
      have l4':¬(v.list.length:Int)<=4:=by omega
      rw [if_neg (fun e=>l4 e.2.2)];have fin':=fin false;generalize hdn:done.map B7=dn at hb hbl fin';rcases hb.inv with ⟨rfl,rfl⟩|rfl<;>
      ·simp [g2,g4,g7,n0,l2,l2',l4,l4',hbl,A6];exact fin'
     have l4':(v.list.length:Int)<=4:=by omega
     rw [if_pos ⟨n0,l2,l4⟩];have fin':=fin true;simp only [Option.map_some];generalize hdn:done.map B7=dn at hb hbl fin';rcases hb.inv with ⟨rfl,rfl⟩|rfl<;>
     ·simp [g2,g4,g7,n0,l2,l2',l4,l4',hbl,A6];exact fin'
    ·have hG':G=none:=by rw [hG,hd];split<;>rfl
     rw [hG'];simp [g4,g5];exact F2 (x:=Q6 0 []) rfl (by rw [A1];rfl)
  have c3:¬(v.kind=3/\v.n=0/\2<=v.list.length/\v.list.length<=4):=fun e=>k3 e.1
  rw [if_neg c3]
  by_cases k4:v.kind=4
  case neg=>
   rw [if_neg (fun e=>k4 e.1)];refine F2 (x:=Q6 0 []) rfl (A3 V.h179 ?_);simp [x179,A6,A1,A2,B3,hlt,k1,k2,k3,k4]
  by_cases n0:v.n=0
  case neg=>
   rw [if_neg (fun e=>n0 e.2.1)];refine F2 (x:=Q6 0 []) rfl (A3 V.h179 ?_);simp [x179,A6,A1,A2,B3,hlt,k4,n0]
  by_cases l32:v.list.length<=32
  case neg=>
   have l32':(32:Int)<(v.list.length:Int):=by omega
   rw [if_neg (fun e=>l32 e.2.2.1)];refine F2 (x:=Q6 0 []) rfl (A3 V.h179 ?_);simp [x179,A6,A1,A2,B3,hlt,k4,n0,l32,l32']
  have l32':¬(32:Int)<(v.list.length:Int):=by omega
  by_cases nn:n=0
  ·have hd40:deep=40:=by omega
   rw [if_neg (fun e=>e.2.2.2 nn)];refine F2 (x:=Q6 0 []) rfl (A3 V.h179 ?_);simp [x179,A6,A1,A2,B3,hlt,k4,n0,l32,l32',hd40]
  have hd40:¬deep=40:=by omega
  rw [if_pos ⟨k4,n0,l32,nn⟩];refine A5a (D5 V.h179 ?_);simp [x179,A6,A1,A2,B3,hlt,k4,n0,l32,l32',hd40];obtain ⟨f,hf⟩:∃f,f=A0T n:=⟨_,rfl⟩;have hnf:=C1i n;rw [<-hf] at ih hnf ⊢
  obtain ⟨I,hI⟩:∃I:Nat->TAct->Sto->Prop,I=(fun j a' σ'=>a'.df=[]/\σ'=σ/\∃acc,K8 f (.mk 0 true []) v.list=K8 f acc (v.list.drop j)/\wfQ acc=true/\nfQ acc=true/\szQ acc+3*A10 (v.list.drop j)<=4+3*A10 v.list/\a'.tm.get 1=some (.int .i64 deep)/\a'.tm.get 2=some (.bx 0 (C9 v) 24)/\a'.tm.get 4=some (.bx 2 [.int .i64 0,.sl .nl []] 66)/\a'.tm.get 11=some (.bx 3 [.int .i64 acc.kind,.sl (B3 acc.nl) (acc.list.map B7)] 66)/\a'.tm.get 12=some (.int .i64 j)):=⟨_,rfl⟩
  obtain ⟨R,hR⟩:∃R:TEx->TAct->Sto->Prop,R=(fun ex a' σ'=>a'.df=[]/\σ'=σ/\(ex=.exit 3/\(∃acc,K8 f (.mk 0 true []) v.list=some acc/\a'.tm.get 2=some (.bx 0 (C9 v) 24)/\a'.tm.get 4=some (.bx 2 [.int .i64 0,.sl .nl []] 66)/\a'.tm.get 11=some (.bx 3 [.int .i64 acc.kind,.sl (B3 acc.nl) (acc.list.map B7)] 66))\/ex=.ret/\K8 f (.mk 0 true []) v.list=none/\a'.tm.get 4=some (.bx 2 [.int .i64 0,.sl .nl []] 66)/\a'.tm.get 5=some (.bool false))):=⟨_,rfl⟩
  refine A9 I v.list.length R ?_ ?_ ?_ ?_ ?_
  ·rw [hI];exact ⟨rfl,rfl,.mk 0 true [],by rw [List.drop_zero],rfl,rfl,by rw [List.drop_zero,F3];simp [A0N,QTyp.list],by simp,by simp [A2,k4,n0],by simp,by simp [QTyp.kind,QTyp.nl,QTyp.list,B3],by simp⟩
  ·omega
  ·rw [hI];rintro j ⟨tm,df,clk⟩ σ' hj ⟨rfl,rfl,acc,hd,hwf,hacc,hsz,g1,g2,g4,g11,g12⟩;rw [<-hI];have hw:=C8 hj hv.len;have hsd:=B0q hj;have hp:=D6 v.list[j];obtain ⟨q,hqn,hq,hqx⟩:=ih v.list[j] σ'.length σ' (by have:=G9 _ _ (List.getElem_mem hj);omega) (by have:=G9 _ _ (List.getElem_mem hj);omega) (hv.sub _ (List.getElem_mem hj))
   have eq':B7 q=[.int .i64 q.kind,.sl .fz (q.list.map B7)]:=by rw [A1,hqn];rfl
   rw [A2 v.list[j],eq'] at hq;rw [A8r hj] at hd;rw [A2] at g2;cases hjo:f v.list[j] with
   |none=>
    rw [hjo] at hd hq;simp at hd hq;simp [g1,g2,g4,g11,g12,hj,hq,hw,hsub,A2 v.list[j]];rw [hR];exact ⟨rfl,rfl,.inr ⟨rfl,hd,by simp,by simp⟩⟩
   |some x=>
    rw [hjo] at hd hq;have hxq:=hqx x hjo;subst hxq;simp at hq hd;obtain ⟨hq1,hq2,hq3⟩:=hnf _ _ hjo;have hjc:A22 (A4 F O N σ'.length 236 [.agg [.int .i64 acc.kind,.sl (B3 acc.nl) (acc.list.map B7)],.agg (B7 q)] σ') σ' (T8 acc q):=by
     have:=B9w (O:=O) V.h190 N acc q σ'.length σ' (by omega) (by omega) (B7j hacc) (B7j hq2) hwf (B3r _ hacc) (B3r _ hq2);rw [A1 acc] at this;exact this
    obtain ⟨r,hrn,hr,hrx⟩:=hjc;have er':B7 r=[.int .i64 r.kind,.sl .fz (r.list.map B7)]:=by rw [A1,hrn];rfl
    rw [eq',er'] at hr;cases hjq:T8 acc q with
    |none=>
     rw [hjq] at hr hd;simp at hr hd;cases hmd:acc.nl<;>
     ·simp only [hmd,B3] at g11 hr;simp [g1,g2,g4,g11,g12,hj,hq,hr,hw,hsub,A2 v.list[j]];rw [hR];exact ⟨rfl,rfl,.inr ⟨rfl,hd,by simp,by simp⟩⟩
    |some y=>
     rw [hjq] at hr hd;have hxr:=hrx y hjq;subst hxr;simp at hr hd;obtain ⟨hr1,hr2⟩:=A6O _ _ _ hjq hacc hq2;have hr3:=A6M _ _ _ hjq hwf hq1;cases hmd:acc.nl<;>
     ·simp only [hmd,B3] at g11 hr;simp [g1,g2,g4,g11,g12,hj,hq,hr,hw,hsub,A2 v.list[j]];rw [hI];exact ⟨rfl,rfl,r,hd,hr3,hr1,by omega,by simp [g1],by simp [g2,A2 v],by simp [g4],by simp [hrn,B3],by simp⟩
  ·rw [hI];rintro ⟨tm,df,clk⟩ σ' ⟨rfl,rfl,acc,hd,hwf,hacc,hsz,g1,g2,g4,g11,g12⟩;rw [B0p (by omega)] at hd;have g2':=g2;rw [A2] at g2;simp [g2,g12];rw [hR];exact ⟨rfl,rfl,.inl ⟨rfl,acc,hd,by simp [g2,A2 v],by simp [g4],by simp [g11]⟩⟩
  ·rw [hR];rintro ex ⟨tm,df,clk⟩ σ' ⟨rfl,rfl,⟨rfl,acc,hd,g2,g4,g11⟩|⟨rfl,hd,g4,g5⟩⟩
   ·rw [hd];have hbl:=H3 σ'.length acc.list;rw [A2,k4] at g2;cases hmd:acc.nl<;>
    ·simp only [hmd,B3] at g11;simp [g2,g4,g11,hbl];exact I6 (x:=Q6 4 [acc]) rfl (by rw [A1];simp [A1 acc,hmd,B3])
   ·rw [hd];simp [g4,g5];exact F2 (x:=Q6 0 []) rfl (by rw [A1];rfl)
mutual
theorem B0s:∀t:QTyp,nfQ t=true->nfQ (E7 t)=true/\szQ (E7 t)<=szQ t
 |.mk k b l,h=>by
  unfold nfQ at h;simp only [Bool.and_eq_true,decide_eq_true_eq] at h;unfold E7;split
  ·exact ⟨rfl,by rw [F3,F3];simp only [A32,A0N];omega⟩
  ·obtain ⟨h1,h2,h3⟩:=A8s l h.2.2;exact ⟨A3o (by omega) h1,by rw [F3,F3];simp only [Q6,QTyp.list];omega⟩
theorem A8s:∀l:List QTyp,A2q l=true->A2q (M0 l)=true/\(M0 l).length=l.length/\A0N (M0 l)<=A0N l
 |[],_=>⟨rfl,rfl,Nat.le_refl _⟩
 |t::l,h=>by
  unfold A2q at h;rw [Bool.and_eq_true] at h;obtain ⟨a1,a2⟩:=B0s t h.1;obtain ⟨b1,b2,b3⟩:=A8s l h.2;unfold M0;exact ⟨by unfold A2q;rw [a1,b1];rfl,by simp [b2],by simp only [A0N];omega⟩
end
structure VFitsR (F:FuncId->Option TFun):Prop where
 s:SFits F
 p:PFits F
 h98:F 122=some f98
 h153:F 204=some f153
 h151:F 167=some f151
 h28:F 62=some f28
 h56:F 97=some f56
 h96:F 120=some f96
 h95:F 119=some f95
 h149:F 165=some f149
 h61:F 168=some f61
 h63:F 223=some f63
 h105:F 234=some f105
def A5J (v:PVal):Bool:=(A0T 40 v).isSome&&decide (sV v<=1000)
theorem C4I:(∀v,szV v+1=5*sV v)/\∀l,A10 l=5*sVs l:=by
 have h:∀n,(∀v,szV v<=n->szV v+1=5*sV v)/\∀l,A10 l<=n->A10 l=5*sVs l:=by
  intro n
  induction n with
  |zero=>
   refine ⟨fun v h=>(by rw [D6] at h;omega),fun l h=> ?_⟩;cases l with
   |nil=>rfl
   |cons x l=>simp only [A10] at h;omega
  |succ n ih=>
   have h1:∀v,szV v<=n+1->szV v+1=5*sV v:=fun v h=>by
    rw [D6] at h ⊢;have:=ih.2 v.list (by omega);rw [B4Q];omega
   refine ⟨h1,fun l=> ?_⟩
   induction l with
   |nil=>exact fun _=>rfl
   |cons x l il=>
    intro h;simp only [A10,sVs] at h ⊢;have:=h1 x (by omega);have:=il (by omega);omega
 exact ⟨fun v=>(h _).1 v (Nat.le_refl _),fun l=>(h _).2 l (Nat.le_refl _)⟩
theorem C1j (V:VFitsR F) (N:Nat) (v:PVal) (b:Nat) (σ:Sto) (h:3*szV v<=N) (hv:OkV v):
  A4 F O (N+3) b 122 [.agg (C9 v)] σ=some (.ret (.bool (A5J v)),σ):=by
 obtain ⟨q,hqn,hq,hqx⟩:=B62 (O:=O) V.s (N+2) v 40 40 σ.length σ (by omega) hv rfl (Nat.le_refl _);have hsz:=B3f (O:=O) V.h61 (N+2) v σ.length σ (by omega) hv;have hl:=B7g v;have eq':B7 q=[.int .i64 q.kind,.sl .fz (q.list.map B7)]:=by rw [A1,hqn];rfl
 rw [A2,eq'] at hq;rw [A2] at hsz;refine A3 V.h98 ?_;unfold A5J;rw [<-hl];cases hs:P2 40 v with
 |none=>
  rw [hs] at hq;simp at hq;simp [x98,A2,hq,A6]
 |some x=>
  rw [hs] at hq;have hxq:=hqx x hs;subst hxq;simp at hq;obtain ⟨hq1,hq2,hq3⟩:=A59 40 v _ hs;obtain ⟨hc1,hc2⟩:=B0s q hq2;have hcl:=B3n (O:=O) V.h151 (N+2) q σ.length σ (by omega) (B7j hq2) hq1;have hcn:(E7 q).nl=false:=by rw [A31];split<;>rfl
  have ec:B7 (E7 q)=[.int .i64 (E7 q).kind,.sl .fz ((E7 q).list.map B7)]:=by rw [A1,hcn];rfl
  have htr:=A6m (O:=O) V.h28 V.h56 V.h96 V.h95 V.h149 (N+1) (E7 q) σ.length σ (by omega) (B7j hc1);rw [eq',ec] at hcl;rw [ec] at htr;simp only [];cases hrt:C7 40 (E7 q) with
  |false=>rw [hrt] at htr;simp [x98,A2,hq,hcl,htr,A6]
  |true=>
   rw [hrt] at htr
   by_cases hle:sV v<=1000
   ·have e1:min (sV v) 1001=sV v:=by omega
    rw [e1] at hsz;have hle':(sV v:Int)<=1000:=by omega
    simp [x98,A2,hq,hcl,htr,hsz,hle,hle',A6]
   ·have e1:min (sV v) 1001=1001:=by omega
    rw [e1] at hsz;simp [x98,A2,hq,hcl,htr,hsz,hle,A6]
theorem B9A (V:VFitsR F) (N:Nat) (v:PVal) (b:Nat) (σ:Sto) (h:3*szV v<=N) (hv:OkV v):
  A4 F O (N+3) b 204 [.agg (C9 v)] σ=some (.ret (.bool (A5J v)),σ):=by
 have hsz:=B7f (O:=O) V.h63 V.h105 (N+1) v σ.length σ (by omega) hv;rw [A2] at hsz;refine A3 V.h153 ?_;unfold A5J
 by_cases hle:sV v<=1000
 ·have e1:min (sV v) 1001=sV v:=by omega
  rw [e1] at hsz;have hle':¬(1000:Int)<(sV v:Int):=by omega
  have hzz:=C4I.1 v;obtain ⟨q,hqn,hq,hqx⟩:=B9z (O:=O) V.p (N+2) v 40 1 σ.length σ (by omega) (by omega) hv rfl (Nat.le_refl _);have eq':B7 q=[.int .i64 q.kind,.sl .fz (q.list.map B7)]:=by rw [A1,hqn];rfl
  rw [A2,eq'] at hq;cases ho:(A0T 40 v).isSome<;>(rw [ho] at hq;simp [x153,A2,hsz,hq,hle,hle'])
 ·have e1:min (sV v) 1001=1001:=by omega
  rw [e1] at hsz;simp [x153,A2,hsz,hle]
theorem A6P {n:Int} {len:Nat} (h0:0<=n) (h1:n<(len:Int)):∃i:Nat,n=(i:Int)/\i<len:=⟨n.toNat,by omega,by omega⟩
def A0e (l:List Int):Bool:=decide (∀x∈l,1<=x/\x<=1000)
def L8 (c:PCore) (t:PTerm):Int:=
 if t.kind=1\/t.kind=2 then 0
 else if t.kind=3 then (if h:0<=t.n/\t.n<(c.funs.length:Int) then (c.funs[t.n.toNat]'(by omega)).params else -2)
 else if t.kind=4 then min (max (t.kids.length:Int) 2) 4
 else if t.kind=5 then min (t.kids.length:Int) 32
 else if t.kind=6 then (if t.n<1\/13<t.n then -2 else if 12<=t.n then 1 else 2)
 else if t.kind=7\/t.kind=10 then 2
 else if t.kind=8\/t.kind=9 then 3
 else if t.kind=11 then 1
 else if t.kind=12 then min (max (t.odds.length:Int) 1) 64
 else -2
def V7 (c:PCore) (slots:Int):List TV:=E9 c++[.int .i64 slots]
theorem C4J (h97:F 121=some f97) (N:Nat) (c:PCore) (t:PTerm) (ver k:Nat) (slots:Int) (b:Nat) (σ:Sto) (hk:σ.at k=some ⟨ver,.cells (V7 c slots) 78⟩):
  A4 F O (N+1) b 121 [.ptr k 0,.agg (A5 t)] σ=some (.ret (.int .i64 (L8 c t)),σ):=by
 refine A3 h97 ?_;unfold V7 at hk;rw [A7] at hk;simp only [List.cons_append,List.nil_append] at hk;unfold L8
 by_cases k1:t.kind=1
 ·simp [x97,A6,A0,k1]
 by_cases k2:t.kind=2
 ·simp [x97,A6,A0,k2]
 rw [if_neg (fun e=>e.elim k1 k2)]
 by_cases k3:t.kind=3
 ·rw [if_pos k3]
  by_cases h0:0<=t.n
  case neg=>
   have h0':t.n<0:=by omega
   rw [dif_neg (fun e=>h0 e.1)];simp [x97,A6,A0,k3,h0',hk]
  have h0':¬t.n<0:=by omega
  by_cases h1:t.n<(c.funs.length:Int)
  case neg=>
   have h1':(c.funs.length:Int)<=t.n:=by omega
   rw [dif_neg (fun e=>h1 e.2)];simp [x97,A6,A0,k3,h0',h1',hk]
  rw [dif_pos ⟨h0,h1⟩];obtain ⟨i,hi,hil⟩:=A6P h0 h1;have h1':¬c.funs.length<=i:=by omega
  have h0i:¬(i:Int)<0:=by omega
  simp only [hi,Int.toNat_natCast];simp [x97,A6,A0,k3,hi,h0i,h1',hil,hk,B9 c.funs[i]]
 rw [if_neg k3]
 by_cases k4:t.kind=4
 ·rw [if_pos k4];simp [x97,A6,A0,k4,hk,G7,A0t]
  by_cases h1:(t.kids.length:Int)<2
  ·have h2:¬(4:Int)<2:=by omega
   simp only [decide_eq_true h1,decide_eq_false h2];omega
  ·by_cases h2:(4:Int)<(t.kids.length:Int)
   ·simp only [decide_eq_false h1,decide_eq_true h2];omega
   ·simp only [decide_eq_false h1,decide_eq_false h2];omega
 rw [if_neg k4]
 by_cases k5:t.kind=5
 ·rw [if_pos k5];simp [x97,A6,A0,k5,hk,G7,A0t]
  by_cases h2:(32:Int)<(t.kids.length:Int)
  ·simp only [decide_eq_true h2];omega
  ·simp only [decide_eq_false h2];omega
 rw [if_neg k5]
 by_cases k6:t.kind=6
 ·rw [if_pos k6]
  by_cases h1:t.n<1
  ·rw [if_pos (.inl h1)];simp [x97,A6,A0,k6,hk,h1]
  by_cases h2:13<t.n
  ·rw [if_pos (.inr h2)];simp [x97,A6,A0,k6,hk,h1,h2]
  rw [if_neg (by omega)]
  by_cases h3:12<=t.n
  ·rw [if_pos h3];simp [x97,A6,A0,k6,hk,h1,h2,h3]
  ·rw [if_neg h3];simp [x97,A6,A0,k6,hk,h1,h2,h3]
 rw [if_neg k6]
 by_cases k7:t.kind=7
 ·simp [x97,A6,A0,k7,hk]
 by_cases k10:t.kind=10
 ·simp [x97,A6,A0,k10,hk]
 rw [if_neg (fun e=>e.elim k7 k10)]
 by_cases k8:t.kind=8
 ·simp [x97,A6,A0,k8,hk]
 by_cases k9:t.kind=9
 ·simp [x97,A6,A0,k9,hk]
 rw [if_neg (fun e=>e.elim k8 k9)]
 by_cases k11:t.kind=11
 ·simp [x97,A6,A0,k11,hk]
 rw [if_neg k11]
 by_cases k12:t.kind=12
 ·rw [if_pos k12];simp [x97,A6,A0,k12,hk,G7,A0t]
  by_cases h1:(t.odds.length:Int)<1
  ·have h2:¬(64:Int)<1:=by omega
   simp only [decide_eq_true h1,decide_eq_false h2];omega
  ·by_cases h2:(64:Int)<(t.odds.length:Int)
   ·simp only [decide_eq_false h1,decide_eq_true h2];omega
   ·simp only [decide_eq_false h1,decide_eq_false h2];omega
 rw [if_neg k12];simp [x97,A6,A0,k1,k2,k3,k4,k5,k6,k7,k8,k9,k10,k11,k12,hk]
theorem D0P (h100:F 124=some f100) (N:Nat) (x:Int) (b:Nat) (σ:Sto):A4 F O (N+1) b 124 [.int .i64 x] σ=some (.ret (.bool (decide (x<1\/1000<x))),σ):=by
 refine A3 h100 ?_
 by_cases h1:x<1
 ·simp [x100,A6,h1]
 by_cases h2:1000<x
 ·simp [x100,A6,h1,h2]
 ·simp [x100,A6,h1,h2]
theorem C4K (hF:F 169=some f152) (h100:F 124=some f100) (N:Nat) (b:Nat) (σ:Sto) (l:List Int) (hl:l.length<=maxLen) (hn:l.length<N):
  ∃r:Int,A4 F O (N+1) b 169 [.sl .fz (l.map encI),.func 124 [] []] σ=some (.ret (.int .i64 r),σ)/\decide (0<=r)=l.any (fun x=>decide (x<1\/1000<x)):=by
 suffices hh:∃e' σ',A4 F O (N+1) b 169 [.sl .fz (l.map encI),.func 124 [] []] σ=some (e',σ')/\∃r:Int,e'=.ret (.int .i64 r)/\σ'=σ/\decide (0<=r)=l.any (fun x=>decide (x<1\/1000<x)) by
  obtain ⟨e',σ',q1,r,rfl,rfl,q2⟩:=hh;exact ⟨r,q1,q2⟩
 refine D5 hF ?_;simp [x152];obtain ⟨S,hS⟩:∃S:Int->Bool,S=(fun x=>decide (x<1\/1000<x)):=⟨_,rfl⟩;have hS2:(fun x:Int=>decide (x<1)||decide (1000<x))=S:=by rw [hS];funext x;simp
 simp only [hS2];obtain ⟨I,hI⟩:∃I:Nat->TAct->Sto->Prop,I=(fun j a σ'=>a.df=[]/\σ'=σ/\(l.drop j).any S=l.any S/\a.tm.get 0=some (.sl .fz (l.map encI))/\a.tm.get 1=some (.func 124 [] [])/\a.tm.get 7=some (.int .i64 (l.length:Int))/\a.tm.get 8=some (.int .i64 j)):=⟨_,rfl⟩
 obtain ⟨R,hR⟩:∃R:TEx->TAct->Sto->Prop,R=(fun ex a σ'=>a.df=[]/\σ'=σ/\(ex=.exit 0/\l.any S=false\/ex=.ret/\l.any S=true/\∃r:Int,0<=r/\a.tm.get 4=some (.int .i64 r))):=⟨_,rfl⟩;refine A9 I l.length R ?_ ?_ ?_ ?_ ?_
 ·rw [hI];simp
 ·omega
 ·rw [hI];rintro j ⟨tm,df,clk⟩ σ' hj ⟨rfl,rfl,hd,h0,h1,h7,h8⟩;rw [<-hI];have hw:=C8 hj hl;rw [A55 hj] at hd;cases N with
  |zero=>omega
  |succ N=>
  have hcc:=D0P (O:=O) h100 N l[j] σ'.length σ';have hSj:decide (l[j]<1\/1000<l[j])=S l[j]:=by rw [hS]
  rw [hSj] at hcc;cases hs:S l[j] with
  |true=>
   rw [hs] at hd hcc;simp [h0,h1,h7,h8,hj,hcc,hw,encI];rw [hR];exact ⟨rfl,rfl,.inr ⟨rfl,by simpa using hd.symm,j,by omega,by simp⟩⟩
  |false=>
   rw [hs] at hd hcc;simp [h0,h1,h7,h8,hj,hcc,hw,encI];rw [hI]
   simpa [h0,h1,h7] using hd
 ·rw [hI];rintro ⟨tm,df,clk⟩ σ' ⟨rfl,rfl,hd,h0,h1,h7,h8⟩;rw [List.drop_of_length_le (Nat.le_refl _)] at hd;simp [h0,h1,h7,h8];rw [hR];exact ⟨rfl,rfl,.inl ⟨rfl,hd.symm⟩⟩
 ·rw [hR];rintro ex ⟨tm,df,clk⟩ σ' ⟨rfl,rfl,⟨rfl,h⟩|⟨rfl,h,r,hr,h4⟩⟩
  ·simp [h]
  ·simp [h,h4,hr]
theorem B9B (l:List Int):l.any (fun x=>decide (x<1\/1000<x))= !A0e l:=by
 unfold A0e
 induction l with
 |nil=>rfl
 |cons a l ih=>
  rw [List.any_cons,ih]
  by_cases h:1<=a/\a<=1000
  ·have e:¬(a<1\/1000<a):=by omega
   rw [decide_eq_false e,Bool.false_or];simp [h]
  ·have e:a<1\/1000<a:=by omega
   have e2:¬∀x∈a::l,1<=x/\x<=1000:=fun hh=>h (hh a (by simp))
   rw [decide_eq_true e,decide_eq_false e2];rfl
theorem anyI (hF:F 123=some f99) (hI:F 169=some f152) (h100:F 124=some f100) (N:Nat) (b:Nat) (σ:Sto) (l:List Int) (hl:l.length<=maxLen) (hn:l.length<N):
  A4 F O (N+2) b 123 [.sl .fz (l.map encI),.func 124 [] []] σ=some (.ret (.bool (!A0e l)),σ):=by
 obtain ⟨r,hq,hr⟩:=C4K (O:=O) hI h100 N σ.length σ l hl hn;rw [B9B] at hr;refine A3 hF ?_;simp [x99,hq];exact hr
@[simp] def C2m:Ann:=fun d=>if d=2 then 1 else if d=5 then 3 else 0
def f101k:TFun:=⟨x101,C2m,true,false⟩
@[simp] theorem D0Q:f101k.an=C2m:=rfl
@[simp] theorem C4L:f101k.fn.body=x101.body:=rfl
@[simp] theorem C4M:f101k.keep=true:=rfl
@[simp] theorem C6U:f101k.fn.results=[.tmp 2]:=rfl
def bcells (l:List Bool):List TV:=l.map TV.bool
theorem A3p {σ:Sto} {k:Nat} (τ:Sto) (h:k<σ.length):Sto.at (σ++τ) k=σ.at k:=by
 simp only [Sto.at,List.getElem?_append_left h]
theorem A6o (l:List Bool):A1S 1 l.length (bcells l)=l.map K0:=by
 induction l with
 |nil=>rfl
 |cons x l ih=>simp only [bcells,List.map_cons,List.length_cons,A1S] at ih ⊢;simp [ih,K0]
theorem B3v (l:List Bool):(l.map K0).flatten=bcells l:=by
 induction l with
 |nil=>rfl
 |cons x l ih=>simp only [List.map_cons,List.flatten_cons,ih];rfl
theorem B9C (h101:F 125=some f101k) (N:Nat) (k ver cap:Nat) (l:List Bool) (b:Nat) (σ:Sto) (hk:σ.at k=some ⟨ver,.cells (bcells l) 4⟩) (hl:l≠[]) (hl2:l.length<=1000):
  ∃cp,A4 F O (N+1) b 125 [.ref k 0 1 l.length cap] σ=some (.ret (.ref (σ.length+1) 0 1 l.length cp),σ++[some ⟨0,.cells [] 4⟩,some ⟨0,.cells (bcells l) 4⟩]):=by
 suffices hh:∃e' σ',A4 F O (N+1) b 125 [.ref k 0 1 l.length cap] σ=some (e',σ')/\∃cp,e'=.ret (.ref (σ.length+1) 0 1 l.length cp)/\σ'=σ++[some ⟨0,.cells [] 4⟩,some ⟨0,.cells (bcells l) 4⟩] by
  obtain ⟨e',σ',q1,cp,rfl,rfl⟩:=hh;exact ⟨cp,q1⟩
 refine D5 h101 ?_;have h1:=A3p (σ:=σ) [some ⟨0,.cells [] 4⟩] (Sto.lt hk);rw [hk] at h1;have h2:(l.map K0).isEmpty=false:=by cases l<;>simp_all
 have h3:((l.map K0).all fun c=>decide (c.length=1))=true:=by
  rw [List.all_eq_true];intro c hc;obtain ⟨q,_,rfl⟩:=List.mem_map.1 hc;rfl
 have h4:0<l.length:=by cases l<;>simp_all
 have h5:l.length<=1073741824:=by omega
 have h6:(bcells l).length=l.length:=by simp [bcells]
 have h7:((bcells l).take l.length).any D1=false:=by
  rw [<-h6,List.take_length];unfold bcells;rw [List.any_eq_false];intro x hx;obtain ⟨q,_,rfl⟩:=List.mem_map.1 hx;simp [D1]
 have h8:=A6o l;have h9:=B3v l;have hp:=G0 σ ⟨0,.cells [] 4⟩;generalize hb:bcells l=bl at*;simp [x101,hk,h1,h2,h3,h4,h5,h6,h7,h8,h9,hp]
def C4N:XCode:=(by exact fun x _=>x:V0 (gT x57.body [1,1,1,1,1])) _ (by conv=>lhs;cbv)
def B7k:XCode:=(by exact fun x _=>x:V1 (fun a=>pT (gT x57.body [1,1,1,1]) [1] a)) _ (by intros;conv=>lhs;cbv) C4N
theorem L4:x57=(by exact fun x _=>x:V1 (fun a=>({x57 with body:=pT (x57.body) [1,1,1,1] a}:XFun))) _ (by intros;conv=>lhs;cbv) B7k:=rfl
def D2 (f:List Bool->PTerm->Bool) (bd inner:List Bool):List PTerm->Bool
 |[]=>true
 |k::r=>f (if r.length=0 then inner else bd) k&&D2 f bd inner r
theorem A33 {f:List Bool->PTerm->Bool} {bd inner:List Bool} {l:List PTerm} {j:Nat} (hj:j<l.length):D2 f bd inner (l.drop j)=(f (if j+1=l.length then inner else bd) l[j]&&D2 f bd inner (l.drop (j+1))):=by
 rw [List.drop_eq_getElem_cons hj];grind [D2]
theorem A5b {σ σ':Sto} (h:σ'.take σ.length=σ) {k:Nat} {o:TObj} (hk:σ.at k=some o):σ'.at k=some o:=by
 grind [Sto.lt,Sto.at]
set_option maxHeartbeats 1000000 in
theorem B9D (N:Nat) (R:List Bool->PTerm->Bool) (t:PTerm) (ht:OkTm t) (bd inner:List Bool) (left:Int) (hl1:1<=left) (hl2:left<=200) (p kb ki:Nat) (cap cap':Nat) (look:TObj) (vb vi:Nat) (σ0:Sto)
  (hp:σ0.at p=some look) (hb:σ0.at kb=some ⟨vb,.cells (bcells bd) 4⟩) (hN:t.kids.length<N) (hbl:bd.length=inner.length)
  (ih:∀x∈t.kids,∀(bd':List Bool) (kb' cap' ver b:Nat) (σ:Sto),σ.at p=some look->σ.at kb'=some ⟨ver,.cells (bcells bd') 4⟩->bd'.length=bd.length->
   A4 F O N b 98 [.ptr p 0,.agg (A5 x),.ref kb' 0 1 bd'.length cap',.int .i64 (left - 1)] σ=some (.ret (.bool (R bd' x)),σ))
  (a:TAct) (σ:Sto) (hdf:a.df=[]) (g0:a.tm.get 0=some (.ptr p 0)) (g2:a.tm.get 2=some (.ref kb 0 1 bd.length cap)) (g3:a.tm.get 3=some (.int .i64 left)) (g5:a.tm.get 5=some (.bx 0 (A5 t) 28))
  (g9:a.tm.get 9=some (.ref ki 0 1 inner.length cap')) (htk:σ.take σ0.length=σ0) (hi:σ.at ki=some ⟨vi,.cells (bcells inner) 4⟩):
  Tw a57 σ0.length (A4 F O N) N (Fin f57 σ0.length fun e σ'=>e=.ret (.bool (D2 R bd inner t.kids))/\σ'=σ0) [] (B6 a57 σ0.length (A4 F O N) N C4N a σ):=by
 obtain ⟨tm,df,clk⟩:=a;simp only at hdf g0 g2 g3 g5 g9;subst hdf;have hsub:IntKind.i64.wrap (left - 1)=left - 1:=by rw [D7]<;>omega
 have g5':=g5;rw [A0] at g5;simp [C4N,g0,g2,g3,g5,g9]
 obtain ⟨I,hI⟩:∃I:Nat->TAct->Sto->Prop,I=(fun j a' σ'=>a'.df=[]/\σ'=σ/\D2 R bd inner (t.kids.drop j)=D2 R bd inner t.kids/\a'.tm.get 0=some (.ptr p 0)/\a'.tm.get 2=some (.ref kb 0 1 bd.length cap)/\a'.tm.get 3=some (.int .i64 left)/\a'.tm.get 5=some (.bx 0 (A5 t) 28)/\a'.tm.get 9=some (.ref ki 0 1 inner.length cap')/\a'.tm.get 172=some (.sl .fz (t.kids.map A5))/\a'.tm.get 173=some (.int .i64 (t.kids.length:Int))/\a'.tm.get 174=some (.int .i64 j)):=⟨_,rfl⟩
 obtain ⟨Q,hQ⟩:∃R':TEx->TAct->Sto->Prop,R'=(fun ex a' σ'=>a'.df=[]/\σ'=σ/\(ex=.exit 3/\D2 R bd inner t.kids=true\/ex=.ret/\D2 R bd inner t.kids=false/\a'.tm.get 8=some (.bool false))):=⟨_,rfl⟩;refine A9 I t.kids.length Q ?_ hN ?_ ?_ ?_
 ·rw [hI];exact ⟨rfl,rfl,by rw [List.drop_zero],by simp [g0],by simp [g2],by simp [g3],by simp [g5'],by simp [g9],by simp,by simp,by simp⟩
 ·rw [hI];rintro j ⟨tm,df,clk⟩ σ' hj ⟨rfl,rfl,hd,g0,g2,g3,g5,g9,g172,g173,g174⟩;rw [<-hI];have hw:=C8 hj ht.len;rw [A33 hj] at hd;have g5':=g5;rw [A0] at g5;have hws:IntKind.i64.wrap ((t.kids.length:Int) - 1)=(t.kids.length:Int) - 1:=by rw [D7]<;>(have:=ht.len;unfold maxLen at this;omega)
  by_cases hlast:j+1=t.kids.length
  ·have hcc:=ih t.kids[j] (List.getElem_mem hj) inner ki cap' vi σ0.length σ' (A5b htk hp) hi hbl.symm;rw [A0] at hcc;have hlast':((j:Int)=(t.kids.length:Int) - 1)=True:=eq_true (by omega);rw [if_pos hlast] at hd;cases hr:R inner t.kids[j] with
   |true=>
    rw [hr] at hd hcc;simp [g0,g2,g3,g5,g9,g172,g173,g174,hj,hw,hws,hsub,hcc,hlast',A0 t.kids[j]];rw [hI];exact ⟨rfl,rfl,by simpa using hd,by simp [g0],by simp [g2],by simp [g3],by simp [g5'],by simp [g9],by simp [g172],by simp [g173],by simp⟩
   |false=>
    rw [hr] at hd hcc;simp [g0,g2,g3,g5,g9,g172,g173,g174,hj,hw,hws,hsub,hcc,hlast',A0 t.kids[j]];rw [hQ];exact ⟨rfl,rfl,.inr ⟨rfl,by simpa using hd.symm,by simp⟩⟩
  ·have hcc:=ih t.kids[j] (List.getElem_mem hj) bd kb cap vb σ0.length σ' (A5b htk hp) (A5b htk hb) rfl;rw [A0] at hcc;have hlast':¬(j:Int)=(t.kids.length:Int) - 1:=by omega
   rw [if_neg hlast] at hd;cases hr:R bd t.kids[j] with
   |true=>
    rw [hr] at hd hcc;simp [g0,g2,g3,g5,g9,g172,g173,g174,hj,hw,hws,hsub,hcc,hlast',A0 t.kids[j]];rw [hI];exact ⟨rfl,rfl,by simpa using hd,by simp [g0],by simp [g2],by simp [g3],by simp [g5'],by simp [g9],by simp [g172],by simp [g173],by simp⟩
   |false=>
    rw [hr] at hd hcc;simp [g0,g2,g3,g5,g9,g172,g173,g174,hj,hw,hws,hsub,hcc,hlast',A0 t.kids[j]];rw [hQ];exact ⟨rfl,rfl,.inr ⟨rfl,by simpa using hd.symm,by simp⟩⟩
 ·rw [hI];rintro ⟨tm,df,clk⟩ σ' ⟨rfl,rfl,hd,g0,g2,g3,g5,g9,g172,g173,g174⟩;rw [List.drop_of_length_le (Nat.le_refl _)] at hd;simp [g173,g174];rw [hQ];exact ⟨rfl,rfl,.inl ⟨rfl,by rw [<-hd];rfl⟩⟩
 ·rw [hQ];rintro ex ⟨tm,df,clk⟩ σ' ⟨rfl,rfl,⟨rfl,h⟩|⟨rfl,h,g8⟩⟩
  ·simp [h,htk]
  ·simp [h,g8,htk]

end
end Go.Xe.YtlgknghehgmodaaGreatDoor
