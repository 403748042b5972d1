/-
  A part of the proof: it is imported by YtlgknghehgmodaaGreatDoorTop. Nothing here is a claim of its own.
-/
import Derived.Test.YtlgknghehgmodaaGreatDoorK6
set_option linter.unusedVariables false
set_option linter.unusedSimpArgs false
set_option linter.unusedSectionVars false
set_option maxRecDepth 100000
namespace Go.Xe.YtlgknghehgmodaaGreatDoor
section
open Go Go.Xe Go.Xt
variable {F:FuncId->Option TFun} {O:FuncId->List TV->Option TV}
def A11 (bd:List Bool) (f:Nat):Nat->Bool
 |0=>false
 |n+1=>(bd[f]? ==some true)||A11 bd (f+1) n
def F5 (bd:List Bool) (f:Nat) (v:Bool):Nat->List Bool
 |0=>bd
 |n+1=>(F5 bd f v n).set (f+n) v
@[simp] theorem A5c (bd:List Bool) (f:Nat) (v:Bool):∀n,(F5 bd f v n).length=bd.length
 |0=>rfl
 |n+1=>by simp [F5,A5c bd f v n]
theorem Q9 {α:Type} {l:List α} {i n:Nat} {x:α} (h:n<=i):(l.set i x).take n=l.take n:=by
 rw [List.take_set,List.set_eq_of_length_le (by simp;omega)]
theorem P3 (l:List Bool) (o:Nat) (v:Bool) (h:o<l.length):putAt (bcells l) o [.bool v]=bcells (l.set o v):=by
 unfold putAt bcells;rw [List.map_set];simp only [List.length_cons,List.length_nil];rw [List.set_eq_take_append_cons_drop,if_pos (by simpa using h)];simp
theorem A2r {l:List Bool} {o:Nat} (h:o<l.length):(bcells l)[o]? =some (.bool l[o]):=by
 unfold bcells;simp [h]
set_option maxHeartbeats 2000000 in
theorem C4O (h101:F 125=some f101k) (N:Nat) (R:List Bool->PTerm->Bool) (t:PTerm) (ht:OkTm t) (bd:List Bool) (left:Int) (hl1:1<=left) (hl2:left<=200) (p kb:Nat) (cap:Nat) (c:PCore) (vl vb:Nat) (σ0:Sto)
  (hp:σ0.at p=some ⟨vl,.cells (V7 c (bd.length:Int)) 78⟩) (hb:σ0.at kb=some ⟨vb,.cells (bcells bd) 4⟩) (hN:t.kids.length<N) (hbl:bd.length<=1000)
  (ih:∀x∈t.kids,∀(bd':List Bool) (kb' cap' ver b:Nat) (σ:Sto),σ.at p=some ⟨vl,.cells (V7 c (bd.length:Int)) 78⟩->σ.at kb'=some ⟨ver,.cells (bcells bd') 4⟩->bd'.length=bd.length->
   A4 F O N b 98 [.ptr p 0,.agg (A5 x),.ref kb' 0 1 bd'.length cap',.int .i64 (left - 1)] σ=some (.ret (.bool (R bd' x)),σ))
  (fr:Int) (n:Nat) (hn:n<=4) (hfr:I64 fr) (hn4:5<=N)
  (a:TAct) (hdf:a.df=[]) (g0:a.tm.get 0=some (.ptr p 0)) (g2:a.tm.get 2=some (.ref kb 0 1 bd.length cap)) (g3:a.tm.get 3=some (.int .i64 left)) (g5:a.tm.get 5=some (.bx 0 (A5 t) 28))
  (g9:a.tm.get 9=some (.ref kb 0 1 bd.length cap)) (g10:a.tm.get 10=some (.int .i64 fr)) (g11:a.tm.get 11=some (.int .i64 (n:Int))):
  Tw a57 σ0.length (A4 F O N) N (Fin f57 σ0.length fun e σ'=>e=.ret (.bool (if n=0 then D2 R bd bd t.kids else (decide (0<=fr/\fr<=(bd.length:Int) - n)&& !A11 bd fr.toNat n)&&D2 R bd (F5 bd fr.toNat true n) t.kids))/\σ'=σ0) [] (B6 a57 σ0.length (A4 F O N) N B7k a σ0):=by
 by_cases n0:n=0
 ·subst n0;obtain ⟨tm,df,clk⟩:=a;simp only at hdf g0 g2 g3 g5 g9 g10 g11;subst hdf;simp only [if_pos];simp [B7k,g11];exact B9D N R t ht bd bd left hl1 hl2 p kb kb cap cap _ vb vb σ0 hp hb hN rfl ih _ _ rfl (by simp [g0]) (by simp [g2]) (by simp [g3]) (by simp [g5]) (by simp [g9]) (by simp) hb
 rw [if_neg n0];obtain ⟨tm,df,clk⟩:=a;simp only at hdf g0 g2 g3 g5 g9 g10 g11;subst hdf;have hn1:(0:Int)<(n:Int):=by omega
 have hn1':0<n:=by omega
 have hlk:=hp;unfold V7 at hlk;rw [A7] at hlk;simp only [List.cons_append,List.nil_append] at hlk;have hws:IntKind.i64.wrap ((bd.length:Int) - n)=(bd.length:Int) - n:=by rw [D7]<;>omega
 by_cases f0:0<=fr
 case neg=>
  have f0':fr<0:=by omega
  rw [decide_eq_false (fun e=>f0 e.1)];simp [B7k,g0,g2,g3,g9,g10,g11,hn1,hn1',f0',A6]
 have f0':¬fr<0:=by omega
 by_cases f1:fr<=(bd.length:Int) - n
 case neg=>
  have f1':(bd.length:Int) - n<fr:=by omega
  rw [decide_eq_false (fun e=>f1 e.2)];simp [B7k,g0,g2,g3,g9,g10,g11,hn1,hn1',f0',f1',hlk,hws,A6]
 have f1':¬(bd.length:Int) - n<fr:=by omega
 rw [decide_eq_true ⟨f0,f1⟩,Bool.true_and];obtain ⟨f,hf⟩:∃f:Nat,fr=(f:Int):=⟨fr.toNat,by omega⟩;subst hf;rw [Int.toNat_natCast];have hne:bd≠[]:=by rintro rfl;simp at f1;omega
 cases N with
 |zero=>omega
 |succ M=>
 obtain ⟨cp,hcl⟩:=B9C (O:=O) h101 M kb vb cap bd σ0.length σ0 hb hne hbl;simp [B7k,g0,g2,g3,g9,g10,g11,hn1,hn1',f0',f1',hlk,hws,hcl,A6]
 obtain ⟨I,hI⟩:∃I:Nat->TAct->Sto->Prop,I=(fun j a' σ'=>a'.df=[]/\σ'.take σ0.length=σ0/\(∃ver,σ'.at (σ0.length+1)=some ⟨ver,.cells (bcells (F5 bd f true j)) 4⟩)/\A11 bd (f+j) (n - j)=A11 bd f n/\a'.tm.get 0=some (.ptr p 0)/\a'.tm.get 2=some (.ref kb 0 1 bd.length cap)/\a'.tm.get 3=some (.int .i64 left)/\a'.tm.get 5=some (.bx 0 (A5 t) 28)/\a'.tm.get 9=some (.ref (σ0.length+1) 0 1 bd.length cp)/\a'.tm.get 10=some (.int .i64 (f:Int))/\a'.tm.get 155=some (.int .i64 (n:Int))/\a'.tm.get 156=some (.int .i64 j)):=⟨_,rfl⟩
 obtain ⟨Q,hQ⟩:∃R':TEx->TAct->Sto->Prop,R'=(fun ex a' σ'=>a'.df=[]/\σ'.take σ0.length=σ0/\(ex=.exit 1/\A11 bd f n=false/\(∃ver,σ'.at (σ0.length+1)=some ⟨ver,.cells (bcells (F5 bd f true n)) 4⟩)/\a'.tm.get 0=some (.ptr p 0)/\a'.tm.get 2=some (.ref kb 0 1 bd.length cap)/\a'.tm.get 3=some (.int .i64 left)/\a'.tm.get 5=some (.bx 0 (A5 t) 28)/\a'.tm.get 9=some (.ref (σ0.length+1) 0 1 bd.length cp)\/ex=.ret/\A11 bd f n=true/\a'.tm.get 8=some (.bool false))):=⟨_,rfl⟩
 refine A9 I n Q ?_ (by omega) ?_ ?_ ?_
 ·rw [hI];exact ⟨rfl,by simp,⟨0,by simp [Sto.at,F5]⟩,by rw [Nat.add_zero,Nat.sub_zero],by simp [g0],by simp [g2],by simp [g3],by simp [g5],by simp,by simp [g10],by simp,by simp⟩
 ·rw [hI];rintro j ⟨tm,df,clk⟩ σ' hj ⟨rfl,htk,⟨ver,hv⟩,hd,g0,g2,g3,g5,g9,g10,g155,g156⟩;rw [<-hI];have hj':(j:Int)<(n:Int):=by omega
  have hw:IntKind.i64.wrap ((j:Int)+1)=((j+1:Nat):Int):=by rw [D7]<;>omega
  obtain ⟨m,hm⟩:∃m,m=f+j:=⟨_,rfl⟩;have hwf:IntKind.i64.wrap ((f:Int)+(j:Int))=(m:Int):=by rw [D7]<;>omega
  have hfj:m<bd.length:=by omega
  have e1:n - j=(n - (j+1))+1:=by omega
  rw [e1] at hd;simp only [A11] at hd;rw [<-hm] at hd;rw [List.getElem?_eq_getElem hfj] at hd;have hfj2:m+1<=bd.length:=by omega
  have hbt:=A5b htk hb;have hgb:=A2r hfj;have hfl:m<(F5 bd f true j).length:=by simpa using hfj
  have hpb:=P3 (F5 bd f true j) m true hfl;have hle:(bcells (F5 bd f true j)).length=bd.length:=by simp [bcells]
  have hle2:(bcells bd).length=bd.length:=by simp [bcells]
  generalize hbv:bd[m]=bv at hd hgb;generalize hB1:bcells bd=B1 at hbt hgb hle2;generalize hB2:bcells (F5 bd f true j)=B2 at hv hpb hle;cases bv with
  |true=>
   simp at hd;simp [g0,g2,g3,g5,g9,g10,g155,g156,hj,hj',hw,hwf,hfj,hbt,hgb];rw [hQ];exact ⟨rfl,htk,.inr ⟨rfl,hd,by simp⟩⟩
  |false=>
   simp at hd;simp [g0,g2,g3,g5,g9,g10,g155,g156,hj,hj',hw,hwf,hfj,hbt,hgb,hv,hle,hfj2];rw [hI];refine ⟨rfl,by rw [Q9 (by omega)];exact htk,⟨ver+1,?_⟩,by rw [<-hd,show f+(j+1)=m+1 by omega],by simp [g0],by simp [g2],by simp [g3],by simp [g5],by simp [g9],by simp [g10],by simp [g155],by simp⟩;simp only [F5];rw [<-hm,<-hpb];have hlt:=Sto.lt hv;simp [Sto.at,hlt]
 ·rw [hI];rintro ⟨tm,df,clk⟩ σ' ⟨rfl,htk,hv,hd,g0,g2,g3,g5,g9,g10,g155,g156⟩;rw [Nat.sub_self] at hd;simp [g155,g156];rw [hQ];exact ⟨rfl,htk,.inl ⟨rfl,hd.symm,hv,by simp [g0],by simp [g2],by simp [g3],by simp [g5],by simp [g9]⟩⟩
 ·rw [hQ];rintro ex ⟨tm,df,clk⟩ σ' ⟨rfl,htk,⟨rfl,hd,⟨ver,hv⟩,g0,g2,g3,g5,g9⟩|⟨rfl,hd,g8⟩⟩
  ·rw [hd];simp;exact B9D (M+1) R t ht bd (F5 bd f true n) left hl1 hl2 p kb (σ0.length+1) cap cp _ vb ver σ0 hp hb hN (by simp) ih _ _ rfl (by simp [g0]) (by simp [g2]) (by simp [g3]) (by simp [g5]) (by simp [g9]) htk hv
  ·rw [hd];simp [g8,htk]
def A6p (l:List Int):Bool:=match l with
 |[x,y]=>decide (0<=x/\x<=y/\1<=y/\y<=1000)
 |_=>false
def A23 (bd:List Bool) (fr:Int) (n:Nat):Bool:=decide (0<=fr/\fr<=(bd.length:Int) - n)&& !A11 bd fr.toNat n
def M1 (c:PCore) (bd:List Bool) (t:PTerm):Bool:=
 if t.kind=1 then A5J t.val
 else if t.kind=2 then decide (0<=t.n)&&(bd[t.n.toNat]? ==some true)
 else if t.kind=7 then decide (1<=t.m/\t.m<=4)&&A23 bd t.n t.m.toNat
 else if t.kind=9 then A23 bd t.n 2
 else if t.kind=11 then A6p t.odds
 else if t.kind=12 then decide (t.odds.length=t.kids.length)&&(decide (0<=t.n/\t.n<c.sites)&&A0e t.odds)
 else true
def A1m (c:PCore) (bd:List Bool) (t:PTerm):Bool:=decide (L8 c t=(t.kids.length:Int))&&M1 c bd t
def bindN (t:PTerm):Nat:=if t.kind=9 then 2 else if t.kind=7 then t.m.toNat else 0
def E6 (c:PCore):Nat->List Bool->PTerm->Bool
 |0,_,_=>false
 |left+1,bd,t=>A1m c bd t&&D2 (E6 c left) bd (F5 bd t.n.toNat true (bindN t)) t.kids
structure TFits (F:FuncId->Option TFun):Prop where
 v:VFitsR F
 h57:F 98=some f57
 h97:F 121=some f97
 h99:F 123=some f99
 h152:F 169=some f152
 h100:F 124=some f100
 h101:F 125=some f101k
theorem B3w (V:TFits F) (c:PCore):∀(N:Nat) (t:PTerm) (left:Nat) (bd:List Bool) (b p kb vl vb cap:Nat) (σ:Sto),3*E3 t<=N->OkTm t->left<=200->
  σ.at p=some ⟨vl,.cells (V7 c (bd.length:Int)) 78⟩->σ.at kb=some ⟨vb,.cells (bcells bd) 4⟩->bd.length<=1000->
  A4 F O N b 98 [.ptr p 0,.agg (A5 t),.ref kb 0 1 bd.length cap,.int .i64 (left:Int)] σ=some (.ret (.bool (E6 c left bd t)),σ)
 |0,t,left,bd,b,p,kb,vl,vb,cap,σ,h,_,_,_,_,_=>by rw [B5] at h;omega
 |N+1,t,left,bd,b,p,kb,vl,vb,cap,σ,h,ht,hleft,hp,hb,hbl=>by
  have hs:=B5 t;have hvs:=D6 t.val;have hks:=H8 t.kids;obtain ⟨M,hM⟩:∃M,N=M+4:=⟨N - 4,by omega⟩;refine A3 V.h57 ?_;cases left with
  |zero=>
   unfold E6;simp [x57,A6,A0]
  |succ left=>
  have hl1:¬((left:Int)+1<1):=by omega
  have hkd:=C4J (O:=O) V.h97 (M+3) c t vl p (bd.length:Int) σ.length σ hp;rw [<-hM] at hkd;have htd:=A0 t;rw [htd] at hkd;have hlk:=hp;unfold V7 at hlk;rw [A7] at hlk;simp only [List.cons_append,List.nil_append] at hlk;unfold E6 A1m;obtain ⟨R,hR⟩:∃R,R=E6 c left:=⟨_,rfl⟩
  have ih:∀x∈t.kids,∀(bd':List Bool) (kb' cap' ver b:Nat) (σ':Sto),σ'.at p=some ⟨vl,.cells (V7 c (bd.length:Int)) 78⟩->σ'.at kb'=some ⟨ver,.cells (bcells bd') 4⟩->bd'.length=bd.length->
    A4 F O N b 98 [.ptr p 0,.agg (A5 x),.ref kb' 0 1 bd'.length cap',.int .i64 (((left+1:Nat):Int) - 1)] σ'=some (.ret (.bool (R bd' x)),σ'):=by
   intro x hx bd' kb' cap' ver b σ' h1 h2 h3;have:=D9 _ _ hx;rw [show (((left+1:Nat):Int) - 1)=(left:Int) by omega,hR];exact B3w V c N x left bd' b p kb' vl ver cap' σ' (by omega) (ht.sub x hx) (by omega) (by rw [h3];exact h1) h2 (by omega)
  rw [<-hR];have main:=fun (fr:Int) (n:Nat) (hn:n<=4) (hfr:I64 fr) (a:TAct)=>C4O (O:=O) V.h101 N R t ht bd ((left+1:Nat):Int) (by omega) (by omega) p kb cap c vl vb σ hp hb (by omega) hbl ih fr n hn hfr (by omega) a
  by_cases hkl:L8 c t=(t.kids.length:Int)
  case neg=>
   rw [decide_eq_false hkl];simp [L4,A6,htd,hl1,hkd,hkl]
  rw [decide_eq_true hkl,Bool.true_and];rw [hkl] at hkd;obtain ⟨Z,hZ⟩:∃Z,Z=(M1 c bd t&&D2 R bd (F5 bd t.n.toNat true (bindN t)) t.kids):=⟨_,rfl⟩;rw [<-hZ];unfold M1 bindN at hZ
  by_cases k1:t.kind=1
  ·have hkk:t.kids=[]:=by
    unfold L8 at hkl;rw [if_pos (.inl k1)] at hkl;exact List.length_eq_zero_iff.1 (by omega)
   have hr:=C1j (O:=O) V.v (M+1) t.val σ.length σ (by omega) ht.val;rw [show M+1+3=N by omega,A2] at hr;rw [if_pos k1,hkk] at hZ;simp only [D2,Bool.and_true] at hZ;rw [<-hZ] at hr;rw [k1] at hkd;simp [L4,A6,htd,hl1,hkd,k1,hr]
  rw [if_neg k1] at hZ
  by_cases k2:t.kind=2
  ·have hkk:t.kids=[]:=by
    unfold L8 at hkl;rw [if_pos (.inr k2)] at hkl;exact List.length_eq_zero_iff.1 (by omega)
   rw [if_pos k2,hkk] at hZ;simp only [D2,Bool.and_true] at hZ;rw [k2] at hkd
   by_cases h0:0<=t.n
   case neg=>
    rw [decide_eq_false h0,Bool.false_and] at hZ;simp [L4,A6,htd,hl1,hkd,k2,h0,hZ]
   rw [decide_eq_true h0,Bool.true_and] at hZ
   by_cases h1:t.n<(bd.length:Int)
   case neg=>
    have e:bd[t.n.toNat]? =none:=List.getElem?_eq_none (by omega);rw [e] at hZ;have hZ':Z=false:=by rw [hZ];rfl
    simp [L4,A6,htd,hl1,hkd,k2,h0,h1,hlk,hZ']
   obtain ⟨i,hi,hil⟩:=A6P h0 h1;have hgb:=A2r hil;have hle:(bcells bd).length=bd.length:=by simp [bcells]
   have h0':(0:Int)<=(i:Int):=by omega
   rw [hi,Int.toNat_natCast,List.getElem?_eq_getElem hil] at hZ;have hZ':bd[i]=Z:=by rw [hZ];cases bd[i]<;>rfl
   rw [hZ'] at hgb;rw [hi] at hkd;generalize bcells bd=B at hb hgb hle;simp [L4,A6,htd,hl1,hkd,k2,hi,h0',hil,hlk,hb,hgb]
  rw [if_neg k2] at hZ
  by_cases k7:t.kind=7
  ·have k9:¬t.kind=9:=by omega
   rw [if_pos k7,if_neg k9,if_pos k7] at hZ;rw [k7] at hkd
   by_cases h1:t.m<1
   ·rw [decide_eq_false (by omega),Bool.false_and,Bool.false_and] at hZ;simp [L4,A6,htd,hl1,hkd,k7,h1,hZ]
   by_cases h2:4<t.m
   ·rw [decide_eq_false (by omega),Bool.false_and,Bool.false_and] at hZ;simp [L4,A6,htd,hl1,hkd,k7,h1,h2,hZ]
   rw [decide_eq_true (by omega),Bool.true_and] at hZ;simp [L4,A6,htd,hl1,hkd,k7,h1,h2];have hz:Z=(if t.m.toNat=0 then D2 R bd bd t.kids else (decide (0<=t.n/\t.n<=(bd.length:Int) - (t.m.toNat:Int))&& !A11 bd t.n.toNat t.m.toNat)&&D2 R bd (F5 bd t.n.toNat true t.m.toNat) t.kids):=by
    rw [if_neg (by omega),hZ];rfl
   rw [hz];refine main t.n t.m.toNat (by omega) ht.n _ rfl ?_ ?_ ?_ ?_ ?_ ?_ ?_
   all_goals first|(simp [htd,k7];done)|(simp [htd,k7];omega)
  rw [if_neg k7] at hZ
  by_cases k9:t.kind=9
  ·rw [if_pos k9,if_pos k9] at hZ;rw [k9] at hkd;simp [L4,A6,htd,hl1,hkd,k9];have hz:Z=(if 2=0 then D2 R bd bd t.kids else (decide (0<=t.n/\t.n<=(bd.length:Int) - ((2:Nat):Int))&& !A11 bd t.n.toNat 2)&&D2 R bd (F5 bd t.n.toNat true 2) t.kids):=by
    rw [if_neg (by omega),hZ];rfl
   rw [hz];refine main t.n 2 (by omega) ht.n _ rfl ?_ ?_ ?_ ?_ ?_ ?_ ?_
   all_goals first|(simp [htd,k9];done)|(simp [htd,k9];omega)
  rw [if_neg k9,if_neg k9,if_neg k7] at hZ;simp only [F5] at hZ;have plain:=main 0 0 (by omega) (by unfold I64;omega);rw [if_pos rfl] at plain
  by_cases k11:t.kind=11
  ·rw [if_pos k11] at hZ;rw [k11] at hkd
   by_cases hlen:t.odds.length=2
   case neg=>
    have hZ':Z=false:=by
     rw [hZ];unfold A6p;split
     ·rename_i x y he;rw [he] at hlen;exact absurd rfl hlen
     ·rfl
    have hlen':¬(t.odds.length:Int)=2:=by omega
    simp [L4,A6,htd,hl1,hkd,k11,hlen,hlen',hZ']
   obtain ⟨x,y,hxy⟩:=C2V hlen;rw [hxy] at hZ hkd htd;simp only [A6p] at hZ;simp only [List.map_cons,List.map_nil,encI] at htd hkd
   by_cases h1:x<0
   ·rw [decide_eq_false (by omega),Bool.false_and] at hZ;simp [L4,A6,htd,hl1,hkd,k11,h1,hZ]
   by_cases h2:y<x
   ·rw [decide_eq_false (by omega),Bool.false_and] at hZ;simp [L4,A6,htd,hl1,hkd,k11,h1,h2,hZ]
   by_cases h3:y<1
   ·rw [decide_eq_false (by omega),Bool.false_and] at hZ;simp [L4,A6,htd,hl1,hkd,k11,h1,h2,h3,hZ]
   by_cases h4:1000<y
   ·rw [decide_eq_false (by omega),Bool.false_and] at hZ;simp [L4,A6,htd,hl1,hkd,k11,h1,h2,h3,h4,hZ]
   rw [decide_eq_true (by omega),Bool.true_and] at hZ;rw [<-hZ] at plain;simp [L4,A6,htd,hl1,hkd,k11,h1,h2,h3,h4];refine plain _ rfl ?_ ?_ ?_ ?_ ?_ ?_ ?_
   all_goals simp [htd,k11]
  rw [if_neg k11] at hZ
  by_cases k12:t.kind=12
  ·rw [if_pos k12] at hZ;rw [k12] at hkd;have hany:=anyI (O:=O) V.h99 V.h152 V.h100 (M+2) σ.length σ t.odds ht.olen (by omega);rw [show M+2+2=N by omega] at hany
   by_cases h1:t.odds.length=t.kids.length
   case neg=>
    have h1':¬(t.odds.length:Int)=(t.kids.length:Int):=by omega
    rw [decide_eq_false h1,Bool.false_and,Bool.false_and] at hZ;simp [L4,A6,htd,hl1,hkd,k12,h1,h1',hZ]
   rw [decide_eq_true h1,Bool.true_and] at hZ
   by_cases h2:t.n<0
   ·rw [decide_eq_false (by omega),Bool.false_and,Bool.false_and] at hZ;simp [L4,A6,htd,hl1,hkd,k12,h1,h2,hZ]
   by_cases h3:c.sites<=t.n
   ·rw [decide_eq_false (by omega),Bool.false_and,Bool.false_and] at hZ;simp [L4,A6,htd,hl1,hkd,k12,h1,h2,h3,hlk,hZ]
   rw [decide_eq_true (by omega),Bool.true_and] at hZ;cases ho:A0e t.odds with
   |false=>
    rw [ho] at hany hZ;simp [L4,A6,htd,hl1,hkd,k12,h1,h2,h3,hlk,hany,hZ]
   |true=>
    rw [ho] at hany hZ;rw [Bool.true_and] at hZ;rw [<-hZ] at plain;simp [L4,A6,htd,hl1,hkd,k12,h1,h2,h3,hlk,hany];refine plain _ rfl ?_ ?_ ?_ ?_ ?_ ?_ ?_
    all_goals simp [htd,k12]
  rw [if_neg k12,Bool.true_and] at hZ;rw [<-hZ] at plain;simp [L4,A6,htd,hl1,hkd,k1,k2,k7,k9,k11,k12];refine plain _ rfl ?_ ?_ ?_ ?_ ?_ ?_ ?_
  all_goals simp [htd]
def B1v (c:PCore) (kb cap:Nat) (bd:List Bool):List TV:=E9 c++[.int .i64 (bd.length:Int),.ref kb 0 1 bd.length cap]
theorem C4P (h155:F 206=some f155) (N:Nat) (l:List Int) (b:Nat) (σ:Sto):A4 F O (N+1) b 206 [.sl .fz (l.map encI)] σ=some (.ret (.bool (A6p l)),σ):=by
 refine A3 h155 ?_
 by_cases hlen:l.length=2
 case neg=>
  have hZ':A6p l=false:=by
   unfold A6p;split
   ·rename_i x y;exact absurd rfl hlen
   ·rfl
  have hlen':¬(l.length:Int)=2:=by omega
  simp [x155,A6,hlen,hlen',hZ']
 obtain ⟨x,y,rfl⟩:=C2V hlen;simp only [A6p]
 by_cases h1:0<=x
 case neg=>rw [decide_eq_false (by omega)];simp [x155,A6,encI,h1]
 by_cases h2:x<=y
 case neg=>rw [decide_eq_false (by omega)];simp [x155,A6,encI,h1,h2]
 by_cases h3:1<=y
 case neg=>rw [decide_eq_false (by omega)];simp [x155,A6,encI,h1,h2,h3]
 by_cases h4:y<=1000
 case neg=>rw [decide_eq_false (by omega)];simp [x155,A6,encI,h1,h2,h3,h4]
 rw [decide_eq_true (by omega)];simp [x155,A6,encI,h1,h2,h3,h4]
theorem B4R {l:List Int} {j:Nat} (hj:j<l.length):A0e (l.drop j)=(decide (1<=l[j]/\l[j]<=1000)&&A0e (l.drop (j+1))):=by
 rw [List.drop_eq_getElem_cons hj];unfold A0e;simp only [List.mem_cons,forall_eq_or_imp,Bool.decide_and]
theorem C4Q (h156:F 207=some f156) (N:Nat) (l:List Int) (hl:l.length<=maxLen) (hN:l.length<N) (b:Nat) (σ:Sto):
  A4 F O (N+1) b 207 [.sl .fz (l.map encI)] σ=some (.ret (.bool (A0e l&&decide (1<=l.length/\l.length<=64))),σ):=by
 refine A3 h156 ?_;obtain ⟨Z,hZ⟩:∃Z,Z=(A0e l&&decide (1<=l.length/\l.length<=64)):=⟨_,rfl⟩;rw [<-hZ];simp [x156];obtain ⟨I,hI⟩:∃I:Nat->TAct->Sto->Prop,I=(fun j a σ'=>a.df=[]/\σ'=σ/\A0e (l.drop j)=A0e l/\a.tm.get 0=some (.sl .fz (l.map encI))/\a.tm.get 3=some (.int .i64 j)):=⟨_,rfl⟩
 obtain ⟨R,hR⟩:∃R:TEx->TAct->Sto->Prop,R=(fun ex a σ'=>a.df=[]/\σ'=σ/\(ex=.exit 0/\A0e l=true/\a.tm.get 0=some (.sl .fz (l.map encI))\/ex=.ret/\A0e l=false/\a.tm.get 2=some (.bool false))):=⟨_,rfl⟩;refine A9 I l.length R ?_ hN ?_ ?_ ?_
 ·rw [hI];simp
 ·rw [hI];rintro j ⟨tm,df,clk⟩ σ' hj ⟨rfl,rfl,hd,h0,h3⟩;rw [<-hI];have hw:=C8 hj hl;rw [B4R hj] at hd
  by_cases h1:l[j]<1
  ·rw [decide_eq_false (by omega),Bool.false_and] at hd;simp [h0,h3,hj,hw,encI,h1,A6];rw [hR];exact ⟨rfl,rfl,.inr ⟨rfl,hd.symm,by simp⟩⟩
  by_cases h2:1000<l[j]
  ·rw [decide_eq_false (by omega),Bool.false_and] at hd;simp [h0,h3,hj,hw,encI,h1,h2,A6];rw [hR];exact ⟨rfl,rfl,.inr ⟨rfl,hd.symm,by simp⟩⟩
  rw [decide_eq_true (by omega),Bool.true_and] at hd;simp [h0,h3,hj,hw,encI,h1,h2,A6];rw [hI];exact ⟨rfl,rfl,hd,by simp [h0],by simp⟩
 ·rw [hI];rintro ⟨tm,df,clk⟩ σ' ⟨rfl,rfl,hd,h0,h3⟩;rw [List.drop_of_length_le (Nat.le_refl _)] at hd;simp [h0,h3];rw [hR];exact ⟨rfl,rfl,.inl ⟨rfl,by rw [<-hd];rfl,by simp [h0]⟩⟩
 ·rw [hR];rintro ex ⟨tm,df,clk⟩ σ' ⟨rfl,rfl,⟨rfl,h,h0⟩|⟨rfl,h,h2⟩⟩
  ·rw [h,Bool.true_and] at hZ
   by_cases h1:1<=l.length
   ·have h1':(1:Int)<=(l.length:Int):=by omega
    by_cases h2:l.length<=64
    ·have h2':(l.length:Int)<=64:=by omega
     rw [decide_eq_true (by omega)] at hZ;simp [h0,h1,h1',h2,h2',hZ]
    ·have h2':¬(l.length:Int)<=64:=by omega
     rw [decide_eq_false (by omega)] at hZ;simp [h0,h1,h1',h2,h2',hZ]
   ·have h1':¬(1:Int)<=(l.length:Int):=by omega
    rw [decide_eq_false (by omega)] at hZ;simp [h0,h1,h1',hZ,A6]
  ·rw [h,Bool.false_and] at hZ;simp [h2,hZ]
def B63 (t:PTerm):Int:=if t.kind=9 then 2 else if t.kind≠7\/t.m<0 then 0 else if 4<t.m then 4 else t.m
theorem B9E (h45:F 78=some f45) (N:Nat) (t:PTerm) (b:Nat) (σ:Sto):A4 F O (N+1) b 78 [.agg (A5 t)] σ=some (.ret (.int .i64 (B63 t)),σ):=by
 refine A3 h45 ?_;unfold B63
 by_cases k9:t.kind=9
 ·rw [if_pos k9];simp [x45,A6,A0,k9]
 rw [if_neg k9]
 by_cases k7:t.kind=7
 case neg=>rw [if_pos (.inl k7)];simp [x45,A6,A0,k9,k7]
 by_cases h1:t.m<0
 ·rw [if_pos (.inr h1)];simp [x45,A6,A0,k7,h1]
 rw [if_neg (by omega)]
 by_cases h2:4<t.m
 ·rw [if_pos h2];simp [x45,A6,A0,k7,h1,h2]
 ·rw [if_neg h2];simp [x45,A6,A0,k7,h1,h2]
theorem C4R (h154:F 205=some f154) (N:Nat) (c:PCore) (bd:List Bool) (p kb vl vb cap:Nat) (fr:Int) (hfr:I64 fr) (n:Nat) (hn:n<=4) (hN:n<N) (hbl:bd.length<=1000) (b:Nat) (σ:Sto)
  (hp:σ.at p=some ⟨vl,.cells (B1v c kb cap bd) 147⟩) (hb:σ.at kb=some ⟨vb,.cells (bcells bd) 4⟩):
  A4 F O (N+1) b 205 [.ptr p 0,.int .i64 fr,.int .i64 (n:Int)] σ=some (.ret (.bool (A23 bd fr n)),σ):=by
 refine A3 h154 ?_;unfold B1v at hp;rw [A7] at hp;simp only [List.cons_append,List.nil_append] at hp;obtain ⟨Z,hZ⟩:∃Z,Z=A23 bd fr n:=⟨_,rfl⟩;rw [<-hZ];unfold A23 at hZ;have hws:IntKind.i64.wrap ((bd.length:Int) - n)=(bd.length:Int) - n:=by rw [D7]<;>omega
 by_cases f0:0<=fr
 case neg=>
  have f0':fr<0:=by omega
  rw [decide_eq_false (fun e=>f0 e.1),Bool.false_and] at hZ;simp [x154,A6,f0',hZ]
 have f0':¬fr<0:=by omega
 by_cases f1:fr<=(bd.length:Int) - n
 case neg=>
  have f1':(bd.length:Int) - n<fr:=by omega
  rw [decide_eq_false (fun e=>f1 e.2),Bool.false_and] at hZ;simp [x154,A6,f0',f1',hp,hws,hZ]
 have f1':¬(bd.length:Int) - n<fr:=by omega
 rw [decide_eq_true ⟨f0,f1⟩,Bool.true_and] at hZ;obtain ⟨f,hf⟩:∃f:Nat,fr=(f:Int):=⟨fr.toNat,by omega⟩;subst hf;rw [Int.toNat_natCast] at hZ;obtain ⟨mx,hmx⟩:∃mx,mx=f+n:=⟨_,rfl⟩;have hwe:IntKind.i64.wrap ((f:Int)+n)=(mx:Int):=by rw [D7]<;>omega
 simp [x154,A6,f0',f1',hp,hws];obtain ⟨I,hI⟩:∃I:Nat->TAct->Sto->Prop,I=(fun j a' σ'=>a'.df=[]/\σ'=σ/\A11 bd (f+j) (n - j)=A11 bd f n/\a'.tm.get 0=some (.ptr p 0)/\a'.tm.get 1=some (.int .i64 (f:Int))/\a'.tm.get 2=some (.int .i64 (n:Int))/\∃m,m=f+j/\a'.tm.get 7=some (.int .i64 (m:Int))):=⟨_,rfl⟩
 obtain ⟨Q,hQ⟩:∃R':TEx->TAct->Sto->Prop,R'=(fun ex a' σ'=>a'.df=[]/\σ'=σ/\(ex=.exit 0/\A11 bd f n=false\/ex=.ret/\A11 bd f n=true/\a'.tm.get 6=some (.bool false))):=⟨_,rfl⟩;refine A9 I n Q ?_ hN ?_ ?_ ?_
 ·rw [hI];exact ⟨rfl,rfl,by rw [Nat.add_zero,Nat.sub_zero],by simp,by simp,by simp,f,rfl,by simp⟩
 ·rw [hI];rintro j ⟨tm,df,clk⟩ σ' hj ⟨rfl,rfl,hd,g0,g1,g2,m,hm,g7⟩;rw [<-hI];have hmm:m<mx:=by omega
  have hw:IntKind.i64.wrap ((m:Int)+1)=((m+1:Nat):Int):=by rw [D7]<;>omega
  have hfj:m<bd.length:=by omega
  have e1:n - j=(n - (j+1))+1:=by omega
  rw [e1] at hd;simp only [A11] at hd;rw [<-hm,List.getElem?_eq_getElem hfj] at hd;have hgb:=A2r hfj;have hle:(bcells bd).length=bd.length:=by simp [bcells]
  generalize hbv:bd[m]=bv at hd hgb;generalize bcells bd=B at hb hgb hle;cases bv with
  |true=>
   simp at hd;simp [g0,g1,g2,g7,hmm,hw,hwe,hfj,hp,hb,hgb];rw [hQ];exact ⟨rfl,rfl,.inr ⟨rfl,hd,by simp⟩⟩
  |false=>
   simp at hd;simp [g0,g1,g2,g7,hmm,hw,hwe,hfj,hp,hb,hgb];rw [hI];exact ⟨rfl,rfl,by rw [<-hd,show f+(j+1)=m+1 by omega],by simp [g0],by simp [g1],by simp [g2],m+1,by omega,by simp⟩
 ·rw [hI];rintro ⟨tm,df,clk⟩ σ' ⟨rfl,rfl,hd,g0,g1,g2,m,hm,g7⟩;rw [Nat.sub_self] at hd;have hmm:m=mx:=by omega
  simp [g1,g2,g7,hwe,hmm];rw [hQ];exact ⟨rfl,rfl,.inl ⟨rfl,hd.symm⟩⟩
 ·rw [hQ];rintro ex ⟨tm,df,clk⟩ σ' ⟨rfl,rfl,⟨rfl,hd⟩|⟨rfl,hd,g6⟩⟩
  ·rw [hd] at hZ;simp [hZ]
  ·rw [hd] at hZ;simp [g6,hZ]
structure JFits (F:FuncId->Option TFun):Prop where
 v:VFitsR F
 h102:F 164=some f102
 h154:F 205=some f154
 h155:F 206=some f155
 h156:F 207=some f156
 h45:F 78=some f45
 h59:F 117=some f59
set_option maxHeartbeats 2000000 in
theorem B9F (V:JFits F) (N:Nat) (c:PCore) (bd:List Bool) (p kb vl vb cap:Nat) (t:PTerm) (ht:OkTm t) (hN:3*E3 t<=N) (hbl:bd.length<=1000) (b:Nat) (σ:Sto)
  (hp:σ.at p=some ⟨vl,.cells (B1v c kb cap bd) 147⟩) (hb:σ.at kb=some ⟨vb,.cells (bcells bd) 4⟩):
  A4 F O (N+1) b 164 [.ptr p 0,.agg (A5 t)] σ=some (.ret (.bool (A1m c bd t)),σ):=by
 have hs:=B5 t;have hvs:=D6 t.val;obtain ⟨M,hM⟩:∃M,N=M+6:=⟨N - 6,by omega⟩;have htd:=A0 t;have hfree:=fun (fr:Int) (hfr:I64 fr) (n:Nat) (hn:n<=4)=>C4R (O:=O) V.h154 (M+5) c bd p kb vl vb cap fr hfr n hn (by omega) hbl σ.length σ hp hb
 rw [show M+5+1=N by omega] at hfree;refine A3 V.h102 ?_;obtain ⟨Z,hZ⟩:∃Z,Z=A1m c bd t:=⟨_,rfl⟩;rw [<-hZ];unfold A1m at hZ;have hlk:=hp;unfold B1v at hlk;rw [A7] at hlk;simp only [List.cons_append,List.nil_append] at hlk
 by_cases k1:t.kind=1
 ·have ek:L8 c t=0:=by unfold L8;simp [k1]
  have ex:M1 c bd t=A5J t.val:=by unfold M1;simp [k1]
  rw [ek,ex] at hZ
  by_cases l0:(t.kids.length:Int)=0
  case neg=>
   have l0':¬t.kids.length=0:=by omega
   rw [decide_eq_false (by omega),Bool.false_and] at hZ;simp [x102,A6,htd,k1,l0,l0',hZ]
  have l0':t.kids.length=0:=by omega
  rw [decide_eq_true (by omega),Bool.true_and] at hZ;have hr:=B9A (O:=O) V.v (M+3) t.val σ.length σ (by omega) ht.val;rw [show M+3+3=N by omega,A2,<-hZ] at hr;simp [x102,A6,htd,k1,l0,l0',hr]
 by_cases k2:t.kind=2
 ·have ek:L8 c t=0:=by unfold L8;simp [k2]
  have ex:M1 c bd t=(decide (0<=t.n)&&(bd[t.n.toNat]? ==some true)):=by unfold M1;simp [k2]
  rw [ek,ex] at hZ
  by_cases l0:(t.kids.length:Int)=0
  case neg=>
   have l0':¬t.kids.length=0:=by omega
   rw [decide_eq_false (by omega),Bool.false_and] at hZ;simp [x102,A6,htd,k2,l0,l0',hZ]
  have l0':t.kids.length=0:=by omega
  rw [decide_eq_true (by omega),Bool.true_and] at hZ
  by_cases h0:0<=t.n
  case neg=>
   rw [decide_eq_false h0,Bool.false_and] at hZ;simp [x102,A6,htd,k2,l0,l0',h0,hZ]
  rw [decide_eq_true h0,Bool.true_and] at hZ
  by_cases h1:t.n<(bd.length:Int)
  case neg=>
   have e:bd[t.n.toNat]? =none:=List.getElem?_eq_none (by omega);rw [e] at hZ;have hZ':Z=false:=by rw [hZ];rfl
   simp [x102,A6,htd,k2,l0,l0',h0,h1,hlk,hZ']
  obtain ⟨i,hi,hil⟩:=A6P h0 h1;have hgb:=A2r hil;have hle:(bcells bd).length=bd.length:=by simp [bcells]
  have h0':(0:Int)<=(i:Int):=by omega
  rw [hi,Int.toNat_natCast,List.getElem?_eq_getElem hil] at hZ;have hZ':bd[i]=Z:=by rw [hZ];cases bd[i]<;>rfl
  rw [hZ'] at hgb;generalize bcells bd=B at hb hgb hle;simp [x102,A6,htd,k2,l0,l0',hi,h0',hil,hlk,hb,hgb]
 by_cases k3:t.kind=3
 ·have ex:M1 c bd t=true:=by unfold M1;simp [k3]
  rw [ex,Bool.and_true] at hZ;unfold L8 at hZ;rw [if_neg (by omega),if_pos k3] at hZ
  by_cases h0:0<=t.n
  case neg=>
   rw [dif_neg (fun e=>h0 e.1),decide_eq_false (by omega)] at hZ;simp [x102,A6,htd,k3,h0,hZ]
  by_cases h1:t.n<(c.funs.length:Int)
  case neg=>
   rw [dif_neg (fun e=>h1 e.2),decide_eq_false (by omega)] at hZ;simp [x102,A6,htd,k3,h0,h1,hlk,hZ]
  rw [dif_pos ⟨h0,h1⟩] at hZ;obtain ⟨i,hi,hil⟩:=A6P h0 h1;have h0':(0:Int)<=(i:Int):=by omega
  simp only [hi,Int.toNat_natCast] at hZ
  by_cases he:(t.kids.length:Int)=c.funs[i].params
  ·have he2:c.funs[i].params=(t.kids.length:Int):=he.symm;rw [decide_eq_true he2] at hZ;simp [x102,A6,htd,k3,hi,h0',hil,hlk,B9 c.funs[i],he,hZ]
  ·have he2:¬c.funs[i].params=(t.kids.length:Int):=fun e=>he e.symm
   rw [decide_eq_false he2] at hZ;simp [x102,A6,htd,k3,hi,h0',hil,hlk,B9 c.funs[i],he,hZ]
 by_cases k4:t.kind=4
 ·have ek:L8 c t=min (max (t.kids.length:Int) 2) 4:=by unfold L8;simp [k4]
  have ex:M1 c bd t=true:=by unfold M1;simp [k4]
  rw [ek,ex,Bool.and_true] at hZ
  by_cases h1:(2:Int)<=(t.kids.length:Int)
  ·have h1':2<=t.kids.length:=by omega
   by_cases h2:(t.kids.length:Int)<=4
   ·have h2':t.kids.length<=4:=by omega
    rw [decide_eq_true (by omega)] at hZ;simp [x102,A6,htd,k4,h1,h1',h2,h2',hZ]
   ·have h2':¬t.kids.length<=4:=by omega
    rw [decide_eq_false (by omega)] at hZ;simp [x102,A6,htd,k4,h1,h1',h2,h2',hZ]
  ·have h1':¬2<=t.kids.length:=by omega
   rw [decide_eq_false (by omega)] at hZ;simp [x102,A6,htd,k4,h1,h1',hZ]
 by_cases k5:t.kind=5
 ·have ek:L8 c t=min (t.kids.length:Int) 32:=by unfold L8;simp [k5]
  have ex:M1 c bd t=true:=by unfold M1;simp [k5]
  rw [ek,ex,Bool.and_true] at hZ
  by_cases h2:(t.kids.length:Int)<=32
  ·have h2':t.kids.length<=32:=by omega
   rw [decide_eq_true (by omega)] at hZ;simp [x102,A6,htd,k5,h2,h2',hZ]
  ·have h2':¬t.kids.length<=32:=by omega
   rw [decide_eq_false (by omega)] at hZ;simp [x102,A6,htd,k5,h2,h2',hZ]
 by_cases k6:t.kind=6
 ·have ex:M1 c bd t=true:=by unfold M1;simp [k6]
  have ek:L8 c t=if t.n<1\/13<t.n then -2 else if 12<=t.n then 1 else 2:=by unfold L8;simp [k6]
  rw [ek,ex,Bool.and_true] at hZ
  by_cases h1:1<=t.n
  case neg=>
   rw [if_pos (.inl (by omega)),decide_eq_false (by omega)] at hZ;simp [x102,A6,htd,k6,h1,hZ]
  by_cases h2:t.n<=13
  case neg=>
   rw [if_pos (.inr (by omega)),decide_eq_false (by omega)] at hZ;simp [x102,A6,htd,k6,h1,h2,hZ]
  rw [if_neg (by omega)] at hZ
  by_cases l1:(t.kids.length:Int)=1
  ·have l1':t.kids.length=1:=by omega
   by_cases n12:t.n=12
   ·rw [if_pos (by omega),decide_eq_true (by omega)] at hZ;simp [x102,A6,htd,k6,l1',n12,hZ]
   by_cases n13:t.n=13
   ·rw [if_pos (by omega),decide_eq_true (by omega)] at hZ;simp [x102,A6,htd,k6,l1',n13,hZ]
   rw [if_neg (by omega),decide_eq_false (by omega)] at hZ;simp [x102,A6,htd,k6,h1,h2,l1',n12,n13,hZ]
  have l1':¬t.kids.length=1:=by omega
  by_cases n12:t.n=12
  ·rw [if_pos (by omega),decide_eq_false (by omega)] at hZ;simp [x102,A6,htd,k6,l1,l1',n12,hZ]
  by_cases n13:t.n=13
  ·rw [if_pos (by omega),decide_eq_false (by omega)] at hZ;simp [x102,A6,htd,k6,l1,l1',n13,hZ]
  rw [if_neg (by omega)] at hZ
  by_cases l2:(t.kids.length:Int)=2
  ·have l2':t.kids.length=2:=by omega
   rw [decide_eq_true (by omega)] at hZ;simp [x102,A6,htd,k6,h1,h2,l2',n12,n13,hZ]
  ·have l2':¬t.kids.length=2:=by omega
   rw [decide_eq_false (by omega)] at hZ;simp [x102,A6,htd,k6,h1,h2,l1,l1',l2,l2',n12,n13,hZ]
 by_cases k7:t.kind=7
 ·have ek:L8 c t=2:=by unfold L8;simp [k7]
  have ex:M1 c bd t=(decide (1<=t.m/\t.m<=4)&&A23 bd t.n t.m.toNat):=by unfold M1;simp only [k7];rfl
  rw [ek,ex] at hZ
  by_cases l2:(t.kids.length:Int)=2
  case neg=>
   have l2':¬t.kids.length=2:=by omega
   rw [decide_eq_false (by omega),Bool.false_and] at hZ;simp [x102,A6,htd,k7,l2,l2',hZ]
  have l2':t.kids.length=2:=by omega
  rw [decide_eq_true (by omega),Bool.true_and] at hZ
  by_cases h1:1<=t.m
  case neg=>
   rw [decide_eq_false (by omega),Bool.false_and] at hZ;simp [x102,A6,htd,k7,l2',h1,hZ]
  by_cases h2:t.m<=4
  case neg=>
   rw [decide_eq_false (by omega),Bool.false_and] at hZ;simp [x102,A6,htd,k7,l2',h1,h2,hZ]
  rw [decide_eq_true (by omega),Bool.true_and] at hZ;have hf:=hfree t.n ht.n t.m.toNat (by omega);rw [show ((t.m.toNat:Nat):Int)=t.m by omega,<-hZ] at hf;simp [x102,A6,htd,k7,l2',h1,h2,hf]
 by_cases k8:t.kind=8
 ·have ek:L8 c t=3:=by unfold L8;simp [k8]
  have ex:M1 c bd t=true:=by unfold M1;simp [k8]
  rw [ek,ex,Bool.and_true] at hZ
  by_cases l3:(t.kids.length:Int)=3
  ·have l3':t.kids.length=3:=by omega
   rw [decide_eq_true (by omega)] at hZ;simp [x102,A6,htd,k8,l3',hZ]
  ·have l3':¬t.kids.length=3:=by omega
   rw [decide_eq_false (by omega)] at hZ;simp [x102,A6,htd,k8,l3,l3',hZ]
 by_cases k9:t.kind=9
 ·have ek:L8 c t=3:=by unfold L8;simp [k9]
  have ex:M1 c bd t=A23 bd t.n 2:=by unfold M1;simp only [k9];rfl
  rw [ek,ex] at hZ
  by_cases l3:(t.kids.length:Int)=3
  case neg=>
   have l3':¬t.kids.length=3:=by omega
   rw [decide_eq_false (by omega),Bool.false_and] at hZ;simp [x102,A6,htd,k9,l3,l3',hZ]
  have l3':t.kids.length=3:=by omega
  rw [decide_eq_true (by omega),Bool.true_and] at hZ;have hf:=hfree t.n ht.n 2 (by omega);rw [<-hZ] at hf;have e2:((2:Nat):Int)=2:=rfl;rw [e2] at hf;simp [x102,A6,htd,k9,l3',hf]
 by_cases k10:t.kind=10
 ·have ek:L8 c t=2:=by unfold L8;simp [k10]
  have ex:M1 c bd t=true:=by unfold M1;simp [k10]
  rw [ek,ex,Bool.and_true] at hZ
  by_cases l2:(t.kids.length:Int)=2
  ·have l2':t.kids.length=2:=by omega
   rw [decide_eq_true (by omega)] at hZ;simp [x102,A6,htd,k10,l2',hZ]
  ·have l2':¬t.kids.length=2:=by omega
   rw [decide_eq_false (by omega)] at hZ;simp [x102,A6,htd,k10,l2,l2',hZ]
 by_cases k11:t.kind=11
 ·have ek:L8 c t=1:=by unfold L8;simp [k11]
  have ex:M1 c bd t=A6p t.odds:=by unfold M1;simp only [k11];rfl
  rw [ek,ex] at hZ
  by_cases l1:(t.kids.length:Int)=1
  case neg=>
   have l1':¬t.kids.length=1:=by omega
   rw [decide_eq_false (by omega),Bool.false_and] at hZ;simp [x102,A6,htd,k11,l1,l1',hZ]
  have l1':t.kids.length=1:=by omega
  rw [decide_eq_true (by omega),Bool.true_and] at hZ;have ho:=C4P (O:=O) V.h155 (M+5) t.odds σ.length σ;rw [show M+5+1=N by omega,<-hZ] at ho;simp [x102,A6,htd,k11,l1',ho]
 by_cases k12:t.kind=12
 ·have ek:L8 c t=min (max (t.odds.length:Int) 1) 64:=by unfold L8;simp [k12]
  have ex:M1 c bd t=(decide (t.odds.length=t.kids.length)&&(decide (0<=t.n/\t.n<c.sites)&&A0e t.odds)):=by unfold M1;simp only [k12];rfl
  rw [ek,ex] at hZ
  by_cases h1:t.odds.length=t.kids.length
  case neg=>
   have h1':¬(t.kids.length:Int)=(t.odds.length:Int):=by omega
   have h1'':¬t.kids.length=t.odds.length:=by omega
   rw [decide_eq_false h1,Bool.false_and,Bool.and_false] at hZ;simp [x102,A6,htd,k12,h1',h1'',hZ]
  rw [decide_eq_true h1,Bool.true_and] at hZ;have ha:=C4Q (O:=O) V.h156 (M+5) t.odds ht.olen (by omega) σ.length σ;rw [show M+5+1=N by omega] at ha;have hde:decide (min (max (t.odds.length:Int) 1) 64=(t.kids.length:Int))=decide (1<=t.odds.length/\t.odds.length<=64):=by
   apply decide_eq_decide.2;omega
  rw [hde] at hZ;have hZ2:Z=((A0e t.odds&&decide (1<=t.odds.length/\t.odds.length<=64))&&decide (0<=t.n/\t.n<c.sites)):=by
   rw [hZ];cases A0e t.odds<;>cases decide (1<=t.odds.length/\t.odds.length<=64)<;>cases decide (0<=t.n/\t.n<c.sites)<;>rfl
  generalize (A0e t.odds&&decide (1<=t.odds.length/\t.odds.length<=64))=A at ha hZ2;cases A with
  |false=>
   rw [Bool.false_and] at hZ2;simp [x102,A6,htd,k12,h1,ha,hZ2]
  |true=>
   rw [Bool.true_and] at hZ2
   by_cases h2:0<=t.n
   case neg=>
    rw [decide_eq_false (fun e=>h2 e.1)] at hZ2;simp [x102,A6,htd,k12,h1,ha,h2,hZ2]
   by_cases h3:t.n<c.sites
   ·rw [decide_eq_true ⟨h2,h3⟩] at hZ2;simp [x102,A6,htd,k12,h1,ha,h2,h3,hlk,hZ2]
   ·rw [decide_eq_false (fun e=>h3 e.2)] at hZ2;simp [x102,A6,htd,k12,h1,ha,h2,h3,hlk,hZ2]
 have ek:L8 c t=-2:=by unfold L8;simp [k1,k2,k3,k4,k5,k6,k7,k8,k9,k10,k11,k12]
 rw [ek,decide_eq_false (by omega),Bool.false_and] at hZ;simp [x102,A6,htd,k1,k2,k3,k4,k5,k6,k7,k8,k9,k10,k11,k12,hZ]
theorem A8t (bd:List Bool) (f:Nat) (v:Bool):∀(n i:Nat),(F5 bd f v n)[i]? =if f<=i/\i<f+n/\i<bd.length then some v else bd[i]?
 |0,i=>by rw [if_neg (by omega)];rfl
 |n+1,i=>by
  simp only [F5,List.getElem?_set,A5c]
  by_cases h:f+n=i
  ·grind
  ·rw [if_neg h,A8t bd f v n i];grind
theorem B3x (bd:List Bool):∀(n f i:Nat),A11 bd f n=false->f<=i->i<f+n->i<bd.length->bd[i]? =some false
 |0,f,i,_,_,_,_=>by omega
 |n+1,f,i,h,h1,h2,h3=>by
  simp only [A11,Bool.or_eq_false_iff] at h
  by_cases hi:f=i
  ·simp_all
  ·exact B3x bd n (f+1) i h.2 (by omega) (by omega) h3
theorem C1k (bd:List Bool) (f n:Nat) (h:A11 bd f n=false):F5 (F5 bd f true n) f false n=bd:=by
 apply List.ext_getElem?;intro i;rw [A8t,A8t,A5c]
 by_cases hi:f<=i/\i<f+n/\i<bd.length
 ·rw [if_pos hi,B3x bd n f i h hi.1 hi.2.1 hi.2.2]
 grind
theorem at_set {σ:Sto} {k:Nat} {o x:TObj} (h:σ.at k=some o):Sto.at (σ.set k (some x)) k=some x:=by
 grind [Sto.lt,Sto.at]
def J (v:Nat) (l:List Bool):Option TObj:=some ⟨v,.cells (bcells l) 4⟩
set_option maxHeartbeats 4000000 in
theorem B3y (V:JFits F) (c:PCore):∀(N:Nat) (t:PTerm) (left:Nat) (bd:List Bool) (b p kb vl vb cap:Nat) (σ:Sto),3*E3 t+8<=N->OkTm t->left<=200->kb≠p->
  σ.at p=some ⟨vl,.cells (E9 c++[.int .i64 (bd.length:Int),.ref kb 0 1 bd.length cap]) 147⟩->σ.at kb=some ⟨vb,.cells (bcells bd) 4⟩->bd.length<=1000->
  ∃v' bd',bd'.length=bd.length/\(E6 c left bd t=true->bd'=bd)/\A4 F O N b 117 [.ptr p 0,.agg (A5 t),.int .i64 (left:Int)] σ=some (.ret (.bool (E6 c left bd t)),σ.set kb (J v' bd'))
 |0,t,left,bd,b,p,kb,vl,vb,cap,σ,h,_,_,_,_,_,_=>by rw [B5] at h;omega
 |N+1,t,left,bd,b,p,kb,vl,vb,cap,σ,h,ht,hleft,hkp,hp,hb,hbl=>by
  have hs:=B5 t;have hvs:=D6 t.val;have hks:=H8 t.kids;obtain ⟨M,hM⟩:∃M,N=M+1:=⟨N - 1,by omega⟩;have hsame:σ.set kb (J vb bd)=σ:=Sto.set_same hb;cases left with
  |zero=>
   refine ⟨vb,bd,rfl,fun _=>rfl,?_⟩;rw [hsame];refine A3 V.h59 ?_;unfold E6;simp [x59,A6,A0]
  |succ left=>
  obtain ⟨left',hleft'⟩:∃left':Int,left'=((left+1:Nat):Int):=⟨_,rfl⟩;have hl1:¬left'<1:=by omega
  have hsub:IntKind.i64.wrap (left' - 1)=(left:Int):=by rw [D7]<;>omega
  have htd:=A0 t;have hsh:=B9F (O:=O) V M c bd p kb vl vb cap t ht (by omega) hbl σ.length σ hp hb;rw [<-hM,htd] at hsh;obtain ⟨Rf,hRf⟩:∃R,R=E6 c left:=⟨_,rfl⟩;have ih:∀x∈t.kids,∀(l:List Bool) (v b:Nat) (σ':Sto),σ'.at p=some ⟨vl,.cells (E9 c++[.int .i64 (bd.length:Int),.ref kb 0 1 bd.length cap]) 147⟩->σ'.at kb=J v l->l.length=bd.length->
    ∃v' bd',bd'.length=l.length/\(Rf l x=true->bd'=l)/\A4 F O N b 117 [.ptr p 0,.agg (A5 x),.int .i64 (left:Int)] σ'=some (.ret (.bool (Rf l x)),σ'.set kb (J v' bd')):=by
   intro x hx l v b σ' h1 h2 h3;have:=D9 _ _ hx;rw [hRf];exact B3y V c N x left l b p kb vl v cap σ' (by omega) (ht.sub x hx) (by omega) hkp (by rw [h3];exact h1) h2 (by omega)
  rw [<-hleft'];unfold E6;rw [<-hRf];cases hhd:A1m c bd t with
  |false=>
   rw [hhd] at hsh;refine ⟨vb,bd,rfl,fun _=>rfl,?_⟩;rw [hsame];refine A3 V.h59 ?_;simp [x59,A6,htd,hl1,hsh]
  |true=>
  rw [hhd] at hsh;rw [Bool.true_and];have hbind:B63 t=(bindN t:Int)/\bindN t<=4/\(bindN t≠0->0<=t.n/\t.n+(bindN t:Int)<=(bd.length:Int)/\A11 bd t.n.toNat (bindN t)=false):=by
   unfold A1m at hhd;grind [B63,bindN,M1,A23]
  obtain ⟨inner,hinner⟩:∃inner,inner=F5 bd t.n.toNat true (bindN t):=⟨_,rfl⟩;rw [<-hinner]
  suffices hh:∃e σ',A4 F O (N+1) b 117 [.ptr p 0,.agg (A5 t),.int .i64 left'] σ=some (e,σ')/\(e=.ret (.bool (D2 Rf bd inner t.kids))/\∃v' bd',bd'.length=bd.length/\(D2 Rf bd inner t.kids=true->bd'=bd)/\σ'=σ.set kb (J v' bd')) by
   obtain ⟨e,σ',q1,rfl,v',bd',q2,q3,rfl⟩:=hh;exact ⟨v',bd',q2,q3,q1⟩
  refine D5 V.h59 ?_;simp [x59,A6,htd,hl1,hsh];obtain ⟨I,hI⟩:∃I:Nat->TAct->Sto->Prop,I=(fun j a' σ'=>a'.df=[]/\(∃v,σ'=σ.set kb (J v bd))/\D2 Rf bd inner (t.kids.drop j)=D2 Rf bd inner t.kids/\a'.tm.get 0=some (.ptr p 0)/\a'.tm.get 2=some (.int .i64 left')/\a'.tm.get 4=some (.bx 0 (A5 t) 28)/\a'.tm.get 7=some (.int .i64 j)):=⟨_,rfl⟩
  obtain ⟨Q,hQ⟩:∃R':TEx->TAct->Sto->Prop,R'=(fun ex a' σ'=>a'.df=[]/\(ex=.exit 0/\D2 Rf bd inner t.kids=true/\(∃v,σ'=σ.set kb (J v bd))\/ex=.ret/\D2 Rf bd inner t.kids=false/\a'.tm.get 6=some (.bool false)/\∃v' bd',bd'.length=bd.length/\σ'=σ.set kb (J v' bd'))):=⟨_,rfl⟩;refine A9 I t.kids.length Q ?_ (by omega) ?_ ?_ ?_
  ·rw [hI];exact ⟨rfl,⟨vb,hsame.symm⟩,by rw [List.drop_zero],by simp,by simp,by simp [htd],by simp⟩
  ·rw [hI];rintro j ⟨tm,df,clk⟩ σ' hj ⟨rfl,⟨v,rfl⟩,hd,g0,g2,g4,g7⟩;rw [<-hI];have hw:=C8 hj ht.len;rw [A33 hj] at hd;have g4':=g4;rw [A0] at g4;have hws:IntKind.i64.wrap ((t.kids.length:Int) - 1)=(t.kids.length:Int) - 1:=by rw [D7]<;>(have:=ht.len;unfold maxLen at this;omega)
   by_cases hlast:j+1=t.kids.length
   ·have hlast':((j:Int)=(t.kids.length:Int) - 1)=True:=eq_true (by omega);rw [if_pos hlast] at hd;obtain ⟨kn,hkd⟩:∃kn,kn=bindN t:=⟨_,rfl⟩;rw [<-hkd] at hbind hinner;obtain ⟨e8,hk4,hkn⟩:=hbind;have hkz:F5 bd t.n.toNat true kn=inner:=hinner.symm;have hbi:=B9E (O:=O) V.h45 M t (σ.set kb (J v bd)).length (σ.set kb (J v bd));rw [<-hM,htd] at hbi;have hti:=ht.n
    have hwk:IntKind.i64.wrap (t.n+(kn:Int))=t.n+(kn:Int):=by
     grind [I64,D7]
    rw [e8] at hbi;have e8:(kn:Int)=(kn:Int):=rfl;have hSl:(σ.set kb (J v bd)).length=σ.length:=by simp
    rw [hSl] at hbi;simp [g0,g2,g4,g7,hj,hws,hlast',hbi];obtain ⟨I2,hI2⟩:∃I:Nat->TAct->Sto->Prop,I=(fun i a' σ''=>a'.df=[]/\(∃v,σ''=σ.set kb (J v (F5 bd t.n.toNat true i)))/\a'.tm.get 0=some (.ptr p 0)/\a'.tm.get 2=some (.int .i64 left')/\a'.tm.get 4=some (.bx 0 (A5 t) 28)/\a'.tm.get 7=some (.int .i64 j)/\a'.tm.get 8=some (.int .i64 (kn:Int))/\a'.tm.get 9=some (.int .i64 (t.n+i))):=⟨_,rfl⟩
    obtain ⟨R2,hR2⟩:∃R:TEx->TAct->Sto->Prop,R=(fun ex a' σ''=>ex=.exit 2/\a'.df=[]/\(∃v,σ''=σ.set kb (J v (F5 bd t.n.toNat true kn)))/\a'.tm.get 0=some (.ptr p 0)/\a'.tm.get 2=some (.int .i64 left')/\a'.tm.get 4=some (.bx 0 (A5 t) 28)/\a'.tm.get 7=some (.int .i64 j)/\a'.tm.get 8=some (.int .i64 (kn:Int))):=⟨_,rfl⟩;refine A9 I2 kn R2 ?_ (by omega) ?_ ?_ ?_
    ·rw [hI2];exact ⟨rfl,⟨v,rfl⟩,by simp [g0],by simp [g2],by simp [g4'],by simp [g7],by simp [e8],by simp⟩
    ·rw [hI2];rintro i ⟨tm,df,clk⟩ σ'' hi ⟨rfl,⟨v,rfl⟩,g0,g2,g4,g7,g8,g9⟩;rw [<-hI2];obtain ⟨f0,f1,f2⟩:=hkn (by omega);obtain ⟨f,hf⟩:∃f:Nat,t.n=(f:Int):=⟨t.n.toNat,by omega⟩;obtain ⟨m,hm⟩:∃m,m=f+i:=⟨_,rfl⟩;have hm':t.n+(i:Int)=(m:Int):=by omega
     have hmt:t.n.toNat+i=m:=by omega
     have hml:m<bd.length:=by omega
     have hlt:t.n+(i:Int)<t.n+(kn:Int):=by omega
     rw [hm'] at g9 hlt;have hw1:IntKind.i64.wrap ((m:Int)+1)=t.n+((i+1:Nat):Int):=by rw [D7]<;>omega
     have hap:=A05 (o:=J v (F5 bd t.n.toNat true i)) (σ:=σ) hkp;rw [hp] at hap;have hab:Sto.at (σ.set kb (J v (F5 bd t.n.toNat true i))) kb=J v (F5 bd t.n.toNat true i):=at_set hb;have hle:(bcells (F5 bd t.n.toNat true i)).length=bd.length:=by simp [bcells]
     have hpb:=P3 (F5 bd t.n.toNat true i) m true (by simpa using hml);have hm2:m+1<=bd.length:=by omega
     have g4':=g4;rw [A0] at g4;rw [A7] at hap;simp only [List.cons_append,List.nil_append] at hap;generalize hS:σ.set kb (J v (F5 bd t.n.toNat true i))=S at hap hab;have hSs:∀y,S.set kb y=σ.set kb y:=fun y=>by rw [<-hS,List.set_set]
     unfold J at hab;generalize bcells (F5 bd t.n.toNat true i)=B at hab hle hpb;simp [g0,g2,g4,g7,g8,g9,hwk,hlt,hap,hab,hle,hml,hm2,hSs,hw1];rw [hI2];refine ⟨rfl,⟨v+1,?_⟩,by simp [g0],by simp [g2],by simp [g4'],by simp [g7],by simp [g8],by simp⟩;simp_all [J,F5]
    ·simp_all
    ·rw [hR2];rintro ex ⟨tm,df,clk⟩ σ'' ⟨rfl,rfl,⟨v,rfl⟩,g0,g2,g4,g7,g8⟩;have hap:=A05 (o:=J v (F5 bd t.n.toNat true kn)) (σ:=σ) hkp;rw [hp] at hap;have hab:Sto.at (σ.set kb (J v (F5 bd t.n.toNat true kn))) kb=J v (F5 bd t.n.toNat true kn):=at_set hb;have g4':=g4;rw [A0] at g4
     obtain ⟨v',bd',hl',hr',hcc⟩:=ih t.kids[j] (List.getElem_mem hj) (F5 bd t.n.toNat true kn) v σ.length _ hap hab (by simp);rw [List.set_set,A0] at hcc;generalize hS:σ.set kb (J v (F5 bd t.n.toNat true kn))=S at hcc;rw [<-hinner] at hcc;have hSl:S.length=σ.length:=by rw [<-hS];simp
     cases hr:Rf inner t.kids[j] with
     |false=>
      rw [hr] at hd hcc;simp [g0,g2,g4,g7,g8,hj,hsub,hcc,hSl,A0 t.kids[j]];rw [hQ];exact ⟨rfl,.inr ⟨rfl,by simpa using hd.symm,by simp,v',bd',by rw [hl'];simp,rfl⟩⟩
     |true=>
      rw [hr] at hd hcc;have hbd:=hr' (by rw [<-hinner];exact hr);rw [hbd] at hcc;simp [g0,g2,g4,g7,g8,hj,hsub,hcc,hSl,A0 t.kids[j]]
      obtain ⟨I3,hI3⟩:∃I:Nat->TAct->Sto->Prop,I=(fun i a' σ''=>a'.df=[]/\(∃v,σ''=σ.set kb (J v (F5 (F5 bd t.n.toNat true kn) t.n.toNat false i)))/\a'.tm.get 0=some (.ptr p 0)/\a'.tm.get 2=some (.int .i64 left')/\a'.tm.get 4=some (.bx 0 (A5 t) 28)/\a'.tm.get 7=some (.int .i64 j)/\a'.tm.get 8=some (.int .i64 (kn:Int))/\a'.tm.get 10=some (.int .i64 (t.n+i))):=⟨_,rfl⟩
      obtain ⟨R3,hR3⟩:∃R:TEx->TAct->Sto->Prop,R=(fun ex a' σ''=>ex=.exit 4/\a'.df=[]/\(∃v,σ''=σ.set kb (J v bd))/\a'.tm.get 0=some (.ptr p 0)/\a'.tm.get 2=some (.int .i64 left')/\a'.tm.get 4=some (.bx 0 (A5 t) 28)/\a'.tm.get 7=some (.int .i64 j)):=⟨_,rfl⟩;refine A9 I3 kn R3 ?_ (by omega) ?_ ?_ ?_
      ·rw [hI3];exact ⟨rfl,⟨v',rfl⟩,by simp [g0],by simp [g2],by simp [g4'],by simp [g7],by simp [g8],by simp⟩
      ·rw [hI3];rintro i ⟨tm,df,clk⟩ σ'' hi ⟨rfl,⟨v,rfl⟩,g0,g2,g4,g7,g8,g9⟩;rw [<-hI3];obtain ⟨f0,f1,f2⟩:=hkn (by omega);obtain ⟨f,hf⟩:∃f:Nat,t.n=(f:Int):=⟨t.n.toNat,by omega⟩;obtain ⟨m,hm⟩:∃m,m=f+i:=⟨_,rfl⟩;have hm':t.n+(i:Int)=(m:Int):=by omega
       have hmt:t.n.toNat+i=m:=by omega
       have hml:m<bd.length:=by omega
       have hlt:t.n+(i:Int)<t.n+(kn:Int):=by omega
       rw [hm'] at g9 hlt;have hw1:IntKind.i64.wrap ((m:Int)+1)=t.n+((i+1:Nat):Int):=by rw [D7]<;>omega
       have hap:=A05 (o:=J v (F5 (F5 bd t.n.toNat true kn) t.n.toNat false i)) (σ:=σ) hkp;rw [hp] at hap;have hab:Sto.at (σ.set kb (J v (F5 (F5 bd t.n.toNat true kn) t.n.toNat false i))) kb=J v (F5 (F5 bd t.n.toNat true kn) t.n.toNat false i):=at_set hb;have hle:(bcells (F5 (F5 bd t.n.toNat true kn) t.n.toNat false i)).length=bd.length:=by simp [bcells]
       have hpb:=P3 (F5 (F5 bd t.n.toNat true kn) t.n.toNat false i) m false (by simpa using hml);have hm2:m+1<=bd.length:=by omega
       have g4':=g4;rw [A0] at g4;rw [A7] at hap;simp only [List.cons_append,List.nil_append] at hap;generalize hS:σ.set kb (J v (F5 (F5 bd t.n.toNat true kn) t.n.toNat false i))=S at hap hab;have hSs:∀y,S.set kb y=σ.set kb y:=fun y=>by rw [<-hS,List.set_set]
       unfold J at hab;generalize bcells (F5 (F5 bd t.n.toNat true kn) t.n.toNat false i)=B at hab hle hpb;simp [g0,g2,g4,g7,g8,g9,hwk,hlt,hap,hab,hle,hml,hm2,hSs,hw1];rw [hI3];refine ⟨rfl,⟨v+1,?_⟩,by simp [g0],by simp [g2],by simp [g4'],by simp [g7],by simp [g8],by simp⟩;simp_all [J,F5]
      ·rw [hI3];rintro ⟨tm,df,clk⟩ σ'' ⟨rfl,⟨v,rfl⟩,g0,g2,g4,g7,g8,g9⟩;have g4':=g4;rw [A0] at g4;have hres:F5 (F5 bd t.n.toNat true kn) t.n.toNat false kn=bd:=by
        by_cases h0:kn=0
        ·rw [h0];rfl
        grind [C1k]
       rw [hres];simp [g0,g2,g4,g7,g8,g9,hwk];rw [hR3];exact ⟨rfl,rfl,⟨v,rfl⟩,by simp [g0],by simp [g2],by simp [g4'],by simp [g7]⟩
      simp_all
   ·have hlast':¬(j:Int)=(t.kids.length:Int) - 1:=by omega
    rw [if_neg hlast] at hd;obtain ⟨kn,hkd⟩:∃kn:Nat,kn=0:=⟨_,rfl⟩;have e8:(kn:Int)=0:=by omega
    have hk4:kn<=4:=by omega
    have hkn:kn≠0->0<=t.n/\t.n+(kn:Int)<=(bd.length:Int)/\A11 bd t.n.toNat kn=false:=fun h=>absurd hkd h
    have hkz:bd=F5 bd t.n.toNat true kn:=by rw [hkd];rfl
    have hti:=ht.n;have hwk:IntKind.i64.wrap (t.n+(kn:Int))=t.n+(kn:Int):=by
     grind [I64,D7]
    simp [g0,g2,g4,g7,hj,hws,hlast'];obtain ⟨I2,hI2⟩:∃I:Nat->TAct->Sto->Prop,I=(fun i a' σ''=>a'.df=[]/\(∃v,σ''=σ.set kb (J v (F5 bd t.n.toNat true i)))/\a'.tm.get 0=some (.ptr p 0)/\a'.tm.get 2=some (.int .i64 left')/\a'.tm.get 4=some (.bx 0 (A5 t) 28)/\a'.tm.get 7=some (.int .i64 j)/\a'.tm.get 8=some (.int .i64 (kn:Int))/\a'.tm.get 9=some (.int .i64 (t.n+i))):=⟨_,rfl⟩
    obtain ⟨R2,hR2⟩:∃R:TEx->TAct->Sto->Prop,R=(fun ex a' σ''=>ex=.exit 2/\a'.df=[]/\(∃v,σ''=σ.set kb (J v (F5 bd t.n.toNat true kn)))/\a'.tm.get 0=some (.ptr p 0)/\a'.tm.get 2=some (.int .i64 left')/\a'.tm.get 4=some (.bx 0 (A5 t) 28)/\a'.tm.get 7=some (.int .i64 j)/\a'.tm.get 8=some (.int .i64 (kn:Int))):=⟨_,rfl⟩;refine A9 I2 kn R2 ?_ (by omega) ?_ ?_ ?_
    ·rw [hI2];exact ⟨rfl,⟨v,rfl⟩,by simp [g0],by simp [g2],by simp [g4'],by simp [g7],by simp [e8],by simp⟩
    ·grind
    ·rw [hI2];rintro ⟨tm,df,clk⟩ σ'' ⟨rfl,⟨v,rfl⟩,g0,g2,g4,g7,g8,g9⟩;have g4':=g4;rw [A0] at g4;simp [g0,g2,g4,g7,g8,g9,hwk];rw [hR2];exact ⟨rfl,rfl,⟨v,rfl⟩,by simp [g0],by simp [g2],by simp [g4'],by simp [g7],by simp [g8]⟩
    ·rw [hR2];rintro ex ⟨tm,df,clk⟩ σ'' ⟨rfl,rfl,⟨v,rfl⟩,g0,g2,g4,g7,g8⟩;have hap:=A05 (o:=J v (F5 bd t.n.toNat true kn)) (σ:=σ) hkp;rw [hp] at hap;have hab:Sto.at (σ.set kb (J v (F5 bd t.n.toNat true kn))) kb=J v (F5 bd t.n.toNat true kn):=at_set hb;have g4':=g4;rw [A0] at g4
     obtain ⟨v',bd',hl',hr',hcc⟩:=ih t.kids[j] (List.getElem_mem hj) (F5 bd t.n.toNat true kn) v σ.length _ hap hab (by simp);rw [List.set_set,A0] at hcc;generalize hS:σ.set kb (J v (F5 bd t.n.toNat true kn))=S at hcc;rw [<-hkz] at hcc;have hSl:S.length=σ.length:=by rw [<-hS];simp
     cases hr:Rf bd t.kids[j] with
     |false=>
      rw [hr] at hd hcc;simp [g0,g2,g4,g7,g8,hj,hsub,hcc,hSl,A0 t.kids[j]];rw [hQ];exact ⟨rfl,.inr ⟨rfl,by simpa using hd.symm,by simp,v',bd',by rw [hl'];simp,rfl⟩⟩
     |true=>
      rw [hr] at hd hcc;have hbd:=hr' (by rw [<-hkz];exact hr);rw [hbd] at hcc;simp [g0,g2,g4,g7,g8,hj,hsub,hcc,hSl,A0 t.kids[j]]
      obtain ⟨I3,hI3⟩:∃I:Nat->TAct->Sto->Prop,I=(fun i a' σ''=>a'.df=[]/\(∃v,σ''=σ.set kb (J v (F5 (F5 bd t.n.toNat true kn) t.n.toNat false i)))/\a'.tm.get 0=some (.ptr p 0)/\a'.tm.get 2=some (.int .i64 left')/\a'.tm.get 4=some (.bx 0 (A5 t) 28)/\a'.tm.get 7=some (.int .i64 j)/\a'.tm.get 8=some (.int .i64 (kn:Int))/\a'.tm.get 10=some (.int .i64 (t.n+i))):=⟨_,rfl⟩
      obtain ⟨R3,hR3⟩:∃R:TEx->TAct->Sto->Prop,R=(fun ex a' σ''=>ex=.exit 4/\a'.df=[]/\(∃v,σ''=σ.set kb (J v bd))/\a'.tm.get 0=some (.ptr p 0)/\a'.tm.get 2=some (.int .i64 left')/\a'.tm.get 4=some (.bx 0 (A5 t) 28)/\a'.tm.get 7=some (.int .i64 j)):=⟨_,rfl⟩;refine A9 I3 kn R3 ?_ (by omega) ?_ ?_ ?_
      ·rw [hI3];exact ⟨rfl,⟨v',rfl⟩,by simp [g0],by simp [g2],by simp [g4'],by simp [g7],by simp [g8],by simp⟩
      ·grind
      ·rw [hI3];rintro ⟨tm,df,clk⟩ σ'' ⟨rfl,⟨v,rfl⟩,g0,g2,g4,g7,g8,g9⟩;have g4':=g4;rw [A0] at g4;have hres:F5 (F5 bd t.n.toNat true kn) t.n.toNat false kn=bd:=by
        by_cases h0:kn=0
        ·rw [h0];rfl
        grind
       rw [hres];simp [g0,g2,g4,g7,g8,g9,hwk];rw [hR3];exact ⟨rfl,rfl,⟨v,rfl⟩,by simp [g0],by simp [g2],by simp [g4'],by simp [g7]⟩
      ·rw [hR3];rintro ex ⟨tm,df,clk⟩ σ'' ⟨rfl,rfl,⟨v,rfl⟩,g0,g2,g4,g7⟩;simp [g7,hw];rw [hI];exact ⟨rfl,⟨v,rfl⟩,by simpa using hd,by simp [g0],by simp [g2],by simp [g4],by simp⟩
  ·rw [hI];rintro ⟨tm,df,clk⟩ σ' ⟨rfl,hv,hd,g0,g2,g4,g7⟩;rw [List.drop_of_length_le (Nat.le_refl _)] at hd;rw [A0] at g4;simp [g4,g7];rw [hQ];exact ⟨rfl,.inl ⟨rfl,by rw [<-hd];rfl,hv⟩⟩
  ·rw [hQ];rintro ex ⟨tm,df,clk⟩ σ' ⟨rfl,⟨rfl,h,v,rfl⟩|⟨rfl,h,g6,v',bd',h1,rfl⟩⟩
   ·simp [h];grind
   ·simp [h,g6];grind
def N7 (s n:Nat):List Bool:=F5 (List.replicate s false) 0 true n
def T9 (c:PCore) (d:PBody):Bool:=decide (0<=d.params/\d.params<=8/\d.params<=d.slots/\d.slots<=1000)&&E6 c 200 (N7 d.slots.toNat d.params.toNat) d.term
theorem A0p:∀s,A4P [TV.bool false] s=bcells (List.replicate s false)
 |0=>rfl
 |s+1=>by simp only [A4P,A0p s];rfl
theorem A6Q {σ τ:Sto} {o:TObj}:Sto.at (σ++some o::τ) σ.length=some o:=by simp [Sto.at]
theorem A0B {σ τ:Sto} {o x:Option TObj}:(σ++o::τ).set σ.length x=σ++x::τ:=by simp
structure BFits (F:FuncId->Option TFun):Prop where
 t:TFits F
 h29:F 63=some f29
set_option maxHeartbeats 1000000 in
theorem B64 (V:BFits F) (c:PCore) (N:Nat) (d:PBody) (s0:Int) (b p vl:Nat) (σ:Sto) (hN:3*E3 d.term+10<=N) (hd:OkTm d.term)
  (hp:σ.at p=some ⟨vl,.cells (V7 c s0) 78⟩):
  ∃v' s',A4 F O (N+1) b 63 [.ptr p 0,.agg (G4 d)] σ=some (.ret (.bool (T9 c d)),σ.set p (some ⟨v',.cells (V7 c s') 78⟩)):=by
 have hsame:=Sto.set_same hp;have hpl:=Sto.lt hp;obtain ⟨Z,hZ⟩:∃Z,Z=T9 c d:=⟨_,rfl⟩;rw [<-hZ];unfold T9 at hZ
 by_cases h1:0<=d.params
 case neg=>
  have h1':d.params<0:=by omega
  rw [decide_eq_false (by omega),Bool.false_and] at hZ;refine ⟨vl,s0,?_⟩;rw [hsame];refine A3 V.h29 ?_;simp [x29,A6,B9,h1',hZ]
 have h1':¬d.params<0:=by omega
 by_cases h2:d.params<=8
 case neg=>
  have h2':8<d.params:=by omega
  rw [decide_eq_false (by omega),Bool.false_and] at hZ;refine ⟨vl,s0,?_⟩;rw [hsame];refine A3 V.h29 ?_;simp [x29,A6,B9,h1',h2',hZ]
 have h2':¬8<d.params:=by omega
 by_cases h3:d.params<=d.slots
 case neg=>
  have h3':d.slots<d.params:=by omega
  rw [decide_eq_false (by omega),Bool.false_and] at hZ;refine ⟨vl,s0,?_⟩;rw [hsame];refine A3 V.h29 ?_;simp [x29,A6,B9,h1',h2',h3',hZ]
 have h3':¬d.slots<d.params:=by omega
 by_cases h4:d.slots<=1000
 case neg=>
  have h4':1000<d.slots:=by omega
  rw [decide_eq_false (by omega),Bool.false_and] at hZ;refine ⟨vl,s0,?_⟩;rw [hsame];refine A3 V.h29 ?_;simp [x29,A6,B9,h1',h2',h3',h4',hZ]
 have h4':¬1000<d.slots:=by omega
 rw [decide_eq_true (by omega),Bool.true_and] at hZ;obtain ⟨s,hs⟩:∃s:Nat,d.slots=(s:Int):=⟨d.slots.toNat,by omega⟩;obtain ⟨n,hn⟩:∃n:Nat,d.params=(n:Int):=⟨d.params.toNat,by omega⟩;rw [hs,hn] at h3' hZ;rw [hn] at h1' h2';rw [hs] at h4';rw [Int.toNat_natCast,Int.toNat_natCast] at hZ;have hns:n<=s:=by omega
 have hlk:=hp;unfold V7 at hlk;rw [A7] at hlk;simp only [List.cons_append,List.nil_append] at hlk
 suffices hh:∃e σ',A4 F O (N+1) b 63 [.ptr p 0,.agg (G4 d)] σ=some (e,σ')/\(e=.ret (.bool Z)/\∃v' s',σ'=σ.set p (some ⟨v',.cells (V7 c s') 78⟩)) by
  obtain ⟨e,σ',q1,rfl,v',s',rfl⟩:=hh;exact ⟨v',s',q1⟩
 refine D5 V.h29 ?_;have hb1:s<=281474976710656:=by omega
 have hb2:s<=9223372036854775807:=by omega
 simp [x29,A6,B9,hs,hn,h1',h2',h3',h4',hb1,hb2];obtain ⟨B,hB⟩:∃B:List TV,B=[.int .i64 (n:Int),.int .i64 (s:Int),.int .i64 d.term.kind,.int .i64 d.term.n,.int .i64 d.term.m,.int .i64 d.term.val.kind,.int .i64 d.term.val.n,.sl .fz (d.term.val.list.map C9),.sl .fz (d.term.odds.map encI),.sl .fz (d.term.kids.map A5)]:=⟨_,rfl⟩
 obtain ⟨I,hI⟩:∃I:Nat->TAct->Sto->Prop,I=(fun j a' σ'=>a'.df=[]/\σ'.take σ.length=σ/\(∃ver,σ'.at σ.length=some ⟨ver,.cells (bcells (N7 s j)) 4⟩)/\a'.tm.get 0=some (.ptr p 0)/\a'.tm.get 3=some (.bx 0 B 38)/\(∃cap,a'.tm.get 5=some (.ref σ.length 0 1 s cap))/\a'.tm.get 31=some (.int .i64 (n:Int))/\a'.tm.get 32=some (.int .i64 j)):=⟨_,rfl⟩
 obtain ⟨Q,hQ⟩:∃R':TEx->TAct->Sto->Prop,R'=(fun ex a' σ'=>ex=.exit 0/\a'.df=[]/\σ'.take σ.length=σ/\(∃ver,σ'.at σ.length=some ⟨ver,.cells (bcells (N7 s n)) 4⟩)/\a'.tm.get 0=some (.ptr p 0)/\a'.tm.get 3=some (.bx 0 B 38)/\(∃cap,a'.tm.get 5=some (.ref σ.length 0 1 s cap))):=⟨_,rfl⟩;refine A9 I n Q ?_ (by omega) ?_ ?_ ?_
 ·rw [hI];exact ⟨rfl,by simp,⟨0,by rw [A6Q];simp only [N7,F5,A0p]⟩,by simp,by simp [hB],⟨_,by simp;rfl⟩,by simp,by simp⟩
 ·rw [hI];rintro j ⟨tm,df,clk⟩ σ' hj ⟨rfl,htk,⟨ver,hv⟩,g0,g3,⟨cap,g5⟩,g31,g32⟩;rw [<-hI];have hj':(j:Int)<(n:Int):=by omega
  have hjs:j<s:=by omega
  have hj1:j+1<=s:=by omega
  have hw:IntKind.i64.wrap ((j:Int)+1)=((j+1:Nat):Int):=by rw [D7]<;>omega
  have hle:(bcells (N7 s j)).length=s:=by simp [bcells,N7]
  have hpb:=P3 (N7 s j) j true (by simp [N7];exact hjs);have hlt:=Sto.lt hv;generalize hB2:bcells (N7 s j)=B2 at hv hle hpb;simp [g0,g3,g5,g31,g32,hj,hj',hjs,hj1,hw,hv,hle];rw [hI];refine ⟨rfl,by rw [Q9 (Nat.le_refl _)];exact htk,⟨ver+1,?_⟩,by simp [g0],by simp [g3],⟨cap,by simp [g5]⟩,by simp [g31],by simp⟩;have e:N7 s (j+1)=(N7 s j).set j true:=by simp only [N7,F5,Nat.zero_add]
  rw [e,<-hpb];simp [Sto.at,hlt]
 ·rw [hI];rintro ⟨tm,df,clk⟩ σ' ⟨rfl,htk,hv,g0,g3,g5,g31,g32⟩;obtain ⟨cap,g5⟩:=g5;simp [g31,g32];rw [hQ];exact ⟨rfl,rfl,htk,hv,by simp [g0],by simp [g3],⟨cap,by simp [g5]⟩⟩
 ·rw [hQ];rintro ex ⟨tm,df,clk⟩ σ' ⟨rfl,rfl,htk,⟨ver,hv⟩,g0,g3,⟨cap,g5⟩⟩;have hpx:=A5b htk hlk;rw [hB] at g3;obtain ⟨X,hX⟩:∃X:Option TObj,X=some ⟨vl+1,.cells (V7 c (s:Int)) 78⟩:=⟨_,rfl⟩;have hpl':p<σ'.length:=Sto.lt hpx;have hSp:Sto.at (σ'.set p X) p=some ⟨vl+1,.cells (V7 c (s:Int)) 78⟩:=by rw [hX];simp [Sto.at,hpl']
  have hSb:Sto.at (σ'.set p X) σ.length=some ⟨ver,.cells (bcells (N7 s n)) 4⟩:=by rw [A05 (by omega)];exact hv
  have hil:(N7 s n).length=s:=by simp [N7]
  have hcc:=B3w (O:=O) V.t c N d.term 200 (N7 s n) σ.length p σ.length (vl+1) ver cap (σ'.set p X) (by omega) hd (by omega) (by rw [hil];exact hSp) hSb (by omega);rw [hil,<-hZ,A0] at hcc;have hX':=hX;unfold V7 at hX';rw [A7] at hX';simp only [List.cons_append,List.nil_append] at hX';have e200:((200:Nat):Int)=200:=rfl;rw [e200] at hcc;simp [g0,g3,g5,hpx,<-hX',hcc];refine ⟨vl+1,s,?_⟩
  rw [<-hX,List.take_set,htk]
@[simp] def D0R:Ann:=fun d=>if d=32 then 3 else a31 d
def f31k:TFun:=⟨x31,D0R,false,false⟩
@[simp] theorem D2c:f31k.an=D0R:=rfl
@[simp] theorem C6V:f31k.fn.body=x31.body:=rfl
@[simp] theorem C6W:f31k.keep=false:=rfl
@[simp] theorem D0S:f31k.fn.results=[.tmp 4]:=rfl
structure DFits (F:FuncId->Option TFun):Prop where
 j:JFits F
 h31:F 92=some f31k
set_option maxHeartbeats 1000000 in
theorem B65 (V:DFits F) (c:PCore) (N:Nat) (d:PBody) (b:Nat) (σ:Sto) (hN:3*E3 d.term+10<=N) (hd:OkTm d.term):
  A4 F O (N+1) b 92 [.agg (E9 c),.agg (G4 d)] σ=some (.ret (.bool (T9 c d)),σ):=by
 obtain ⟨Z,hZ⟩:∃Z,Z=T9 c d:=⟨_,rfl⟩;rw [<-hZ];unfold T9 at hZ
 by_cases h1:0<=d.params
 case neg=>
  have h1':d.params<0:=by omega
  rw [decide_eq_false (by omega),Bool.false_and] at hZ;refine A3 V.h31 ?_;simp [x31,A6,B9,A7,h1',hZ]
 have h1':¬d.params<0:=by omega
 by_cases h2:d.params<=8
 case neg=>
  have h2':8<d.params:=by omega
  rw [decide_eq_false (by omega),Bool.false_and] at hZ;refine A3 V.h31 ?_;simp [x31,A6,B9,A7,h1',h2',hZ]
 have h2':¬8<d.params:=by omega
 by_cases h3:d.params<=d.slots
 case neg=>
  have h3':d.slots<d.params:=by omega
  rw [decide_eq_false (by omega),Bool.false_and] at hZ;refine A3 V.h31 ?_;simp [x31,A6,B9,A7,h1',h2',h3',hZ]
 have h3':¬d.slots<d.params:=by omega
 by_cases h4:d.slots<=1000
 case neg=>
  have h4':1000<d.slots:=by omega
  rw [decide_eq_false (by omega),Bool.false_and] at hZ;refine A3 V.h31 ?_;simp [x31,A6,B9,A7,h1',h2',h3',h4',hZ]
 have h4':¬1000<d.slots:=by omega
 rw [decide_eq_true (by omega),Bool.true_and] at hZ;obtain ⟨s,hs⟩:∃s:Nat,d.slots=(s:Int):=⟨d.slots.toNat,by omega⟩;obtain ⟨n,hn⟩:∃n:Nat,d.params=(n:Int):=⟨d.params.toNat,by omega⟩;rw [hs,hn] at h3' hZ;rw [hn] at h1' h2';rw [hs] at h4';rw [Int.toNat_natCast,Int.toNat_natCast] at hZ;have hns:n<=s:=by omega
 refine A3 V.h31 ?_;have hb1:s<=281474976710656:=by omega
 have hb2:s<=9223372036854775807:=by omega
 obtain ⟨EC,hEC⟩:∃EC:List TV,EC=E9 c:=⟨_,rfl⟩;rw [A7] at hEC;obtain ⟨B,hB⟩:∃B:List TV,B=[.int .i64 (n:Int),.int .i64 (s:Int),.int .i64 d.term.kind,.int .i64 d.term.n,.int .i64 d.term.m,.int .i64 d.term.val.kind,.int .i64 d.term.val.n,.sl .fz (d.term.val.list.map C9),.sl .fz (d.term.odds.map encI),.sl .fz (d.term.kids.map A5)]:=⟨_,rfl⟩;simp [x31,A6,B9,A7,hs,hn,h1',h2',h3',h4',hb1,hb2]
 obtain ⟨I,hI⟩:∃I:Nat->TAct->Sto->Prop,I=(fun j a' σ'=>a'.df=[]/\σ'.take σ.length=σ/\(∃ver,σ'.at σ.length=some ⟨ver,.cells (bcells (N7 s j)) 4⟩)/\(∃cap,σ'.at (σ.length+1)=some ⟨0,.cells (E9 c++[.int .i64 (s:Int),.ref σ.length 0 1 s cap]) 147⟩)/\a'.tm.get 3=some (.bx 2 B 38)/\a'.tm.get 5=some (.ptr (σ.length+1) 0)/\a'.tm.get 6=some (.int .i64 j)):=⟨_,rfl⟩
 obtain ⟨Q,hQ⟩:∃R':TEx->TAct->Sto->Prop,R'=(fun ex a' σ'=>ex=.exit 0/\a'.df=[]/\σ'.take σ.length=σ/\(∃ver,σ'.at σ.length=some ⟨ver,.cells (bcells (N7 s n)) 4⟩)/\(∃cap,σ'.at (σ.length+1)=some ⟨0,.cells (E9 c++[.int .i64 (s:Int),.ref σ.length 0 1 s cap]) 147⟩)/\a'.tm.get 3=some (.bx 2 B 38)/\a'.tm.get 5=some (.ptr (σ.length+1) 0)):=⟨_,rfl⟩;refine A9 I n Q ?_ (by omega) ?_ ?_ ?_
 ·rw [hI];exact ⟨rfl,by simp,⟨0,by rw [A6Q];simp only [N7,F5,A0p]⟩,⟨_,by simp [Sto.at,A7];rfl⟩,by simp [hB],by simp,by simp⟩
 ·rw [hI];rintro j ⟨tm,df,clk⟩ σ' hj ⟨rfl,htk,⟨ver,hv⟩,⟨cap,hjd⟩,g3,g5,g6⟩;rw [<-hI];have hj':(j:Int)<(n:Int):=by omega
  have hjs:j<s:=by omega
  have hj1:j+1<=s:=by omega
  have hw:IntKind.i64.wrap ((j:Int)+1)=((j+1:Nat):Int):=by rw [D7]<;>omega
  have hle:(bcells (N7 s j)).length=s:=by simp [bcells,N7]
  have hpb:=P3 (N7 s j) j true (by simp [N7];exact hjs);have hlt:=Sto.lt hv;have hjd':=hjd;rw [A7] at hjd;simp only [List.cons_append,List.nil_append] at hjd;have g3':=g3;rw [hB] at g3;generalize hB2:bcells (N7 s j)=B2 at hv hle hpb;simp [g3,g5,g6,hj,hj',hjs,hj1,hw,hv,hle,hjd];rw [hI]
  refine ⟨rfl,by rw [Q9 (Nat.le_refl _)];exact htk,⟨ver+1,?_⟩,⟨cap,by rw [A05 (by omega)];exact hjd'⟩,by simp [g3'],by simp [g5],by simp⟩;have e:N7 s (j+1)=(N7 s j).set j true:=by simp only [N7,F5,Nat.zero_add]
  rw [e,<-hpb];simp [Sto.at,hlt]
 ·rw [hI];rintro ⟨tm,df,clk⟩ σ' ⟨rfl,htk,hv,hjd,g3,g5,g6⟩;have g3':=g3;rw [hB] at g3;simp [g3,g6];rw [hQ];exact ⟨rfl,rfl,htk,hv,hjd,by simp [g3'],by simp [g5]⟩
 ·rw [hQ];rintro ex ⟨tm,df,clk⟩ σ' ⟨rfl,rfl,htk,⟨ver,hv⟩,⟨cap,hjd⟩,g3,g5⟩;rw [hB] at g3;have hil:(N7 s n).length=s:=by simp [N7]
  obtain ⟨v',bd',_,_,hcc⟩:=B3y (O:=O) V.j c N d.term 200 (N7 s n) σ.length (σ.length+1) σ.length 0 ver cap σ' (by omega) hd (by omega) (by omega) (by rw [hil];exact hjd) hv (by omega);rw [<-hZ,A0] at hcc;have e200:((200:Nat):Int)=200:=rfl;rw [e200] at hcc;simp [g3,g5,hcc];rw [Q9 (Nat.le_refl _),htk]
def tyB (t:PTyp):Bool:=C7 40 (A2E t)
def V8 (c:PCore):Bool:=decide (c.types.length<=8/\c.funs.length<=40/\0<=c.sites/\c.sites<=100000/\c.query.params=(c.types.length:Int))&&(c.types.all tyB&&(c.funs.all (T9 c)&&T9 c c.query))
structure CFits (F:FuncId->Option TFun):Prop where
 v:BFits F
 r:DFits F
 h9:F 26=some f9
 h10:F 52=some f10
 h30:F 91=some f30
 h58:F 116=some f58
structure Lim (M:Nat) (c:PCore):Prop where
 types:A1c c.types<M
 funs:∀f∈c.funs,3*E3 f.term+10<=M
 flen:c.funs.length<M
 query:3*E3 c.query.term+10<=M
set_option maxHeartbeats 1000000 in
theorem B66 (V:CFits F) (M:Nat) (c:PCore) (b:Nat) (σ:Sto) (hM:Lim M c) (ho:OkC c):
  A4 F O (M+2) b 26 [.agg (E9 c)] σ=some (.ret (.bool (V8 c)),σ):=by
 have htl:=A0w c.types;obtain ⟨Z,hZ⟩:∃Z,Z=V8 c:=⟨_,rfl⟩;rw [<-hZ];unfold V8 at hZ;refine A3 V.h9 ?_
 by_cases h1:c.types.length<=8
 case neg=>
  have h1':(8:Int)<(c.types.length:Int):=by omega
  rw [decide_eq_false (by omega),Bool.false_and] at hZ;simp [x9,A6,A7,h1',hZ]
 have h1':¬(8:Int)<(c.types.length:Int):=by omega
 by_cases h2:c.funs.length<=40
 case neg=>
  have h2':(40:Int)<(c.funs.length:Int):=by omega
  rw [decide_eq_false (by omega),Bool.false_and] at hZ;simp [x9,A6,A7,h1',h2',hZ]
 have h2':¬(40:Int)<(c.funs.length:Int):=by omega
 by_cases h3:0<=c.sites
 case neg=>
  have h3':c.sites<0:=by omega
  rw [decide_eq_false (by omega),Bool.false_and] at hZ;simp [x9,A6,A7,h1',h2',h3',hZ]
 have h3':¬c.sites<0:=by omega
 by_cases h4:c.sites<=100000
 case neg=>
  have h4':100000<c.sites:=by omega
  rw [decide_eq_false (by omega),Bool.false_and] at hZ;simp [x9,A6,A7,h1',h2',h3',h4',hZ]
 have h4':¬100000<c.sites:=by omega
 by_cases h5:c.query.params=(c.types.length:Int)
 case neg=>
  rw [decide_eq_false (fun e=>h5 e.2.2.2.2),Bool.false_and] at hZ;simp [x9,A6,A7,h1',h2',h3',h4',h5,hZ]
 rw [decide_eq_true ⟨h1,h2,h3,h4,h5⟩,Bool.true_and] at hZ;obtain ⟨EC,hEC⟩:∃EC:List TV,EC=E9 c:=⟨_,rfl⟩;have hEC':=hEC;rw [A7] at hEC;simp [x9,A6,<-hEC'];simp [x9,A6,hEC,h1',h2',h3',h4',h5]
 obtain ⟨I,hI⟩:∃I:Nat->TAct->Sto->Prop,I=(fun j a σ'=>a.df=[]/\σ'=σ/\(c.types.drop j).all tyB=c.types.all tyB/\a.tm.get 1=some (.bx 0 EC 40)/\a.tm.get 38=some (.sl .fz (c.types.map K2))/\a.tm.get 39=some (.int .i64 (c.types.length:Int))/\a.tm.get 40=some (.int .i64 j)):=⟨_,rfl⟩
 obtain ⟨R,hR⟩:∃R:TEx->TAct->Sto->Prop,R=(fun ex a σ'=>a.df=[]/\σ'=σ/\(ex=.exit 0/\c.types.all tyB=true/\a.tm.get 1=some (.bx 0 EC 40)\/ex=.ret/\c.types.all tyB=false/\a.tm.get 2=some (.bool false))):=⟨_,rfl⟩;refine A9 I c.types.length R ?_ (by have:=hM.types;omega) ?_ ?_ ?_
 ·rw [hI];exact ⟨rfl,rfl,by rw [List.drop_zero],by simp [hEC,h5],by simp,by simp,by simp⟩
 ·rw [hI];rintro j ⟨tm,df,clk⟩ σ' hj ⟨rfl,rfl,hd,g1,g38,g39,g40⟩;rw [<-hI];have hw:=C8 hj ho.tlen;rw [A0A hj] at hd;have hsz:=A02 _ _ (List.getElem_mem hj);have hcc:=A6m (O:=O) V.v.t.v.h28 V.v.t.v.h56 V.v.t.v.h96 V.v.t.v.h95 V.v.t.v.h149 M (A2E c.types[j]) σ'.length σ' (by rw [B1r];have:=hM.types;omega) (B1j _ _ (Nat.le_refl _) (ho.types _ (List.getElem_mem hj)));rw [A80,F6] at hcc
  have et:C7 40 (A2E c.types[j])=tyB c.types[j]:=rfl;rw [et] at hcc;cases hs:tyB c.types[j] with
  |false=>
   rw [hs] at hd hcc;simp [g1,g38,g39,g40,hj,hw,hcc,F6 c.types[j]];rw [hR];exact ⟨rfl,rfl,.inr ⟨rfl,by simpa using hd.symm,by simp⟩⟩
  |true=>
   rw [hs] at hd hcc;simp [g1,g38,g39,g40,hj,hw,hcc,F6 c.types[j]];rw [hI];exact ⟨rfl,rfl,by simpa using hd,by simp [g1],by simp [g38],by simp [g39],by simp⟩
 ·rw [hI];rintro ⟨tm,df,clk⟩ σ' ⟨rfl,rfl,hd,g1,g38,g39,g40⟩;rw [List.drop_of_length_le (Nat.le_refl _)] at hd;simp [g39,g40];rw [hR];exact ⟨rfl,rfl,.inl ⟨rfl,by rw [<-hd];rfl,by simp [g1]⟩⟩
 ·rw [hR];rintro ex ⟨tm,df,clk⟩ σ' ⟨rfl,rfl,⟨rfl,h,g1⟩|⟨rfl,h,g2⟩⟩
  case inr=>
   rw [h,Bool.false_and] at hZ;simp [g2,hZ]
  rw [h,Bool.true_and] at hZ;have g1':=g1;rw [hEC] at g1;simp [g1]
  obtain ⟨I2,hI2⟩:∃I:Nat->TAct->Sto->Prop,I=(fun j a σ2=>a.df=[]/\(∃v s,σ2=σ'++[some ⟨v,.cells (V7 c s) 78⟩])/\(c.funs.drop j).all (T9 c)=c.funs.all (T9 c)/\a.tm.get 1=some (.bx 0 EC 40)/\a.tm.get 5=some (.ptr σ'.length 0)/\a.tm.get 52=some (.sl .fz (c.funs.map G4))/\a.tm.get 53=some (.int .i64 (c.funs.length:Int))/\a.tm.get 54=some (.int .i64 j)):=⟨_,rfl⟩
  obtain ⟨R2,hR2⟩:∃R:TEx->TAct->Sto->Prop,R=(fun ex a σ2=>a.df=[]/\(∃v s,σ2=σ'++[some ⟨v,.cells (V7 c s) 78⟩])/\(ex=.exit 2/\c.funs.all (T9 c)=true/\a.tm.get 1=some (.bx 0 EC 40)/\a.tm.get 5=some (.ptr σ'.length 0)\/ex=.ret/\c.funs.all (T9 c)=false/\a.tm.get 2=some (.bool false))):=⟨_,rfl⟩;refine A9 I2 c.funs.length R2 ?_ (by have:=hM.flen;omega) ?_ ?_ ?_
  ·rw [hI2];exact ⟨rfl,⟨0,0,by simp [V7,A7]⟩,by rw [List.drop_zero],by simp [g1'],by simp,by simp,by simp,by simp⟩
  ·rw [hI2];rintro j ⟨tm,df,clk⟩ σ2 hj ⟨rfl,⟨v,s,rfl⟩,hd,g1,g5,g52,g53,g54⟩;rw [<-hI2];have hw:=C8 hj ho.flen;rw [A0A hj] at hd;have hp:=A6Q (σ:=σ') (τ:=[]) (o:=⟨v,.cells (V7 c s) 78⟩);obtain ⟨v',s',hcc⟩:=B64 (O:=O) V.v c M c.funs[j] s σ'.length σ'.length v (σ'++[some ⟨v,.cells (V7 c s) 78⟩]) (hM.funs _ (List.getElem_mem hj)) (ho.funs _ (List.getElem_mem hj)).term hp;rw [A0B,B9] at hcc
   cases hs:T9 c c.funs[j] with
   |false=>
    rw [hs] at hd hcc;simp [g1,g5,g52,g53,g54,hj,hw,hcc,B9 c.funs[j]];rw [hR2];exact ⟨rfl,⟨v',s',rfl⟩,.inr ⟨rfl,by simpa using hd.symm,by simp⟩⟩
   |true=>
    rw [hs] at hd hcc;simp [g1,g5,g52,g53,g54,hj,hw,hcc,B9 c.funs[j]];rw [hI2];exact ⟨rfl,⟨v',s',rfl⟩,by simpa using hd,by simp [g1],by simp [g5],by simp [g52],by simp [g53],by simp⟩
  ·rw [hI2];rintro ⟨tm,df,clk⟩ σ2 ⟨rfl,hst,hd,g1,g5,g52,g53,g54⟩;rw [List.drop_of_length_le (Nat.le_refl _)] at hd;simp [g53,g54];rw [hR2];exact ⟨rfl,hst,.inl ⟨rfl,by rw [<-hd];rfl,by simp [g1],by simp [g5]⟩⟩
  ·rw [hR2];rintro ex ⟨tm,df,clk⟩ σ2 ⟨rfl,⟨v,s,rfl⟩,⟨rfl,h,g1,g5⟩|⟨rfl,h,g2⟩⟩
   ·rw [h,Bool.true_and] at hZ;have hp:=A6Q (σ:=σ') (τ:=[]) (o:=⟨v,.cells (V7 c s) 78⟩);obtain ⟨v',s',hcc⟩:=B64 (O:=O) V.v c M c.query s σ'.length σ'.length v (σ'++[some ⟨v,.cells (V7 c s) 78⟩]) hM.query ho.query.term hp;rw [A0B,B9,<-hZ] at hcc;rw [hEC] at g1;simp [g1,g5,hcc]
   ·rw [h,Bool.false_and] at hZ;simp [g2,hZ]
set_option maxHeartbeats 1000000 in
theorem B1w (V:CFits F) (M:Nat) (c:PCore) (b:Nat) (σ:Sto) (hM:Lim M c) (ho:OkC c):
  A4 F O (M+2) b 52 [.agg (E9 c)] σ=some (.ret (.bool (V8 c)),σ):=by
 have htl:=A0w c.types;obtain ⟨Z,hZ⟩:∃Z,Z=V8 c:=⟨_,rfl⟩;rw [<-hZ];unfold V8 at hZ;refine A3 V.h10 ?_
 by_cases h1:c.types.length<=8
 case neg=>
  have h1':(8:Int)<(c.types.length:Int):=by omega
  rw [decide_eq_false (by omega),Bool.false_and] at hZ;simp [x10,A6,A7,h1',hZ]
 have h1':¬(8:Int)<(c.types.length:Int):=by omega
 by_cases h2:c.funs.length<=40
 case neg=>
  have h2':(40:Int)<(c.funs.length:Int):=by omega
  rw [decide_eq_false (by omega),Bool.false_and] at hZ;simp [x10,A6,A7,h1',h2',hZ]
 have h2':¬(40:Int)<(c.funs.length:Int):=by omega
 by_cases h5:c.query.params=(c.types.length:Int)
 case neg=>
  rw [decide_eq_false (fun e=>h5 e.2.2.2.2),Bool.false_and] at hZ;simp [x10,A6,A7,h1',h2',h5,hZ]
 by_cases h3:0<=c.sites
 case neg=>
  have h3':c.sites<0:=by omega
  rw [decide_eq_false (by omega),Bool.false_and] at hZ;simp [x10,A6,A7,h1',h2',h3',h5,hZ]
 have h3':¬c.sites<0:=by omega
 by_cases h4:c.sites<=100000
 case neg=>
  have h4':100000<c.sites:=by omega
  rw [decide_eq_false (by omega),Bool.false_and] at hZ;simp [x10,A6,A7,h1',h2',h3',h4',h5,hZ]
 have h4':¬100000<c.sites:=by omega
 rw [decide_eq_true ⟨h1,h2,h3,h4,h5⟩,Bool.true_and] at hZ;obtain ⟨EC,hEC⟩:∃EC:List TV,EC=E9 c:=⟨_,rfl⟩;have hEC':=hEC;rw [A7] at hEC;simp [x10,A6,<-hEC'];simp [x10,A6,hEC,h1',h2',h3',h4',h5];obtain ⟨I,hI⟩:∃I:Nat->TAct->Sto->Prop,I=(fun j a σ'=>a.df=[]/\σ'=σ/\(c.types.drop j).all tyB=c.types.all tyB/\a.tm.get 1=some (.bx 0 EC 40)/\a.tm.get 3=some (.int .i64 j)):=⟨_,rfl⟩
 obtain ⟨R,hR⟩:∃R:TEx->TAct->Sto->Prop,R=(fun ex a σ'=>a.df=[]/\σ'=σ/\(ex=.exit 0/\c.types.all tyB=true/\a.tm.get 1=some (.bx 0 EC 40)\/ex=.ret/\c.types.all tyB=false/\a.tm.get 2=some (.bool false))):=⟨_,rfl⟩;refine A9 I c.types.length R ?_ (by have:=hM.types;omega) ?_ ?_ ?_
 ·rw [hI];exact ⟨rfl,rfl,by rw [List.drop_zero],by simp [hEC,h5],by simp⟩
 ·rw [hI];rintro j ⟨tm,df,clk⟩ σ' hj ⟨rfl,rfl,hd,g1,g3⟩;rw [<-hI];have hw:=C8 hj ho.tlen;rw [A0A hj] at hd;have hsz:=A02 _ _ (List.getElem_mem hj);have hcc:=A8l (O:=O) V.h30 V.h58 M (A2E c.types[j]) σ'.length σ' (by rw [B1r];have:=hM.types;omega) (B1j _ _ (Nat.le_refl _) (ho.types _ (List.getElem_mem hj)));rw [A80,F6] at hcc;have et:C7 40 (A2E c.types[j])=tyB c.types[j]:=rfl;rw [et] at hcc
  have g1':=g1;rw [hEC] at g1;cases hs:tyB c.types[j] with
  |false=>
   rw [hs] at hd hcc;simp [g1,g3,hj,hw,hcc,F6 c.types[j]];rw [hR];exact ⟨rfl,rfl,.inr ⟨rfl,by simpa using hd.symm,by simp⟩⟩
  |true=>
   rw [hs] at hd hcc;simp [g1,g3,hj,hw,hcc,F6 c.types[j]];rw [hI];exact ⟨rfl,rfl,by simpa using hd,by simp [g1'],by simp⟩
 ·rw [hI];rintro ⟨tm,df,clk⟩ σ' ⟨rfl,rfl,hd,g1,g3⟩;rw [List.drop_of_length_le (Nat.le_refl _)] at hd;have g1':=g1;rw [hEC] at g1;simp [g1,g3];rw [hR];exact ⟨rfl,rfl,.inl ⟨rfl,by rw [<-hd];rfl,by simp [g1']⟩⟩
 ·rw [hR];rintro ex ⟨tm,df,clk⟩ σ' ⟨rfl,rfl,⟨rfl,h,g1⟩|⟨rfl,h,g2⟩⟩
  case inr=>
   rw [h,Bool.false_and] at hZ;simp [g2,hZ]
  rw [h,Bool.true_and] at hZ;have g1':=g1;simp;obtain ⟨I2,hI2⟩:∃I:Nat->TAct->Sto->Prop,I=(fun j a σ2=>a.df=[]/\σ2=σ'/\(c.funs.drop j).all (T9 c)=c.funs.all (T9 c)/\a.tm.get 1=some (.bx 0 EC 40)/\a.tm.get 4=some (.int .i64 j)):=⟨_,rfl⟩
  obtain ⟨R2,hR2⟩:∃R:TEx->TAct->Sto->Prop,R=(fun ex a σ2=>a.df=[]/\σ2=σ'/\(ex=.exit 2/\c.funs.all (T9 c)=true/\a.tm.get 1=some (.bx 0 EC 40)\/ex=.ret/\c.funs.all (T9 c)=false/\a.tm.get 2=some (.bool false))):=⟨_,rfl⟩;refine A9 I2 c.funs.length R2 ?_ (by have:=hM.flen;omega) ?_ ?_ ?_
  ·rw [hI2];exact ⟨rfl,rfl,by rw [List.drop_zero],by simp [g1'],by simp⟩
  ·rw [hI2];rintro j ⟨tm,df,clk⟩ σ2 hj ⟨rfl,rfl,hd,g1,g4⟩;rw [<-hI2];have hw:=C8 hj ho.flen;rw [A0A hj] at hd;have hcc:=B65 (O:=O) V.r c M c.funs[j] σ2.length σ2 (hM.funs _ (List.getElem_mem hj)) (ho.funs _ (List.getElem_mem hj)).term;rw [<-hEC',hEC,B9] at hcc;have g1':=g1;rw [hEC] at g1;cases hs:T9 c c.funs[j] with
   |false=>
    rw [hs] at hd hcc;simp [g1,g4,hj,hw,hcc,B9 c.funs[j]];rw [hR2];exact ⟨rfl,rfl,.inr ⟨rfl,by simpa using hd.symm,by simp⟩⟩
   |true=>
    rw [hs] at hd hcc;simp [g1,g4,hj,hw,hcc,B9 c.funs[j]];rw [hI2];exact ⟨rfl,rfl,by simpa using hd,by simp [g1'],by simp⟩
  ·rw [hI2];rintro ⟨tm,df,clk⟩ σ2 ⟨rfl,rfl,hd,g1,g4⟩;rw [List.drop_of_length_le (Nat.le_refl _)] at hd;have g1':=g1;rw [hEC] at g1;simp [g1,g4];rw [hR2];exact ⟨rfl,rfl,.inl ⟨rfl,by rw [<-hd];rfl,by simp [g1']⟩⟩
  ·rw [hR2];rintro ex ⟨tm,df,clk⟩ σ2 ⟨rfl,rfl,⟨rfl,h,g1⟩|⟨rfl,h,g2⟩⟩
   ·rw [h,Bool.true_and] at hZ;have hcc:=B65 (O:=O) V.r c M c.query σ2.length σ2 hM.query ho.query.term;rw [<-hEC',hEC,B9,<-hZ] at hcc;rw [hEC] at g1;simp [g1,hcc]
   ·rw [h,Bool.false_and] at hZ;simp [g2,hZ]
end
section
open Go Go.Xe Go.Xt
mutual
def M5:PTerm->List Bool->List Bool
 |.mk k n _ _ _ ks,l=>J2 ks (if k=3/\0<=n/\n<(l.length:Int) then l.set n.toNat true else l)
def J2:List PTerm->List Bool->List Bool
 |[],l=>l
 |t::r,l=>J2 r (M5 t l)
end
mutual
theorem A4e:∀(t:PTerm) (l:List Bool),(M5 t l).length=l.length
 |.mk k n m v o ks,l=>by
  unfold M5;rw [A1C ks];split<;>simp
theorem A1C:∀(ts:List PTerm) (l:List Bool),(J2 ts l).length=l.length
 |[],l=>rfl
 |t::r,l=>by unfold J2;rw [A1C r,A4e t]
end
theorem A8u (t:PTerm) (l:List Bool):M5 t l=J2 t.kids (if t.kind=3/\0<=t.n/\t.n<(l.length:Int) then l.set t.n.toNat true else l):=by
 cases t;unfold M5;rfl
mutual
def F1 (n:Nat):PTerm->Bool
 |.mk k m _ _ _ ks=>(decide (k≠3)||decide (0<=m/\m<(n:Int)))&&A0C n ks
def A0C (n:Nat):List PTerm->Bool
 |[]=>true
 |t::r=>F1 n t&&A0C n r
end
theorem O9 (n:Nat):∀l:List PTerm,A0C n l=true↔∀x∈l,F1 n x=true
 |[]=>by unfold A0C;simp
 |t::r=>by unfold A0C;rw [Bool.and_eq_true,O9 n r];simp
theorem A34 {f:List Bool->PTerm->Bool} {bd inner:List Bool}:∀{l:List PTerm},D2 f bd inner l=true->∀x∈l,∃bd',f bd' x=true
 |[],_,x,hx=>by cases hx
 |t::r,h,x,hx=>by
  unfold D2 at h;rw [Bool.and_eq_true] at h;rcases List.mem_cons.1 hx with rfl|hx
  ·exact ⟨_,h.1⟩
  ·exact A34 h.2 x hx
theorem A35 (c:PCore):∀(left:Nat) (bd:List Bool) (t:PTerm),E6 c left bd t=true->F1 c.funs.length t=true
 |0,bd,t,h=>by unfold E6 at h;cases h
 |left+1,bd,t,h=>by
  unfold E6 A1m at h;rw [Bool.and_eq_true,Bool.and_eq_true,decide_eq_true_eq] at h;obtain ⟨⟨h1,h2⟩,h3⟩:=h;have hk:=A34 h3;cases t with
  |mk k n m v o ks=>
   unfold F1;rw [Bool.and_eq_true,Bool.or_eq_true,decide_eq_true_eq,decide_eq_true_eq];refine ⟨?_,(O9 _ _).2 fun x hx=> ?_⟩
   ·by_cases k3:k=3
    ·right;unfold L8 at h1;rw [if_neg (show ¬((PTerm.mk k n m v o ks).kind=1\/(PTerm.mk k n m v o ks).kind=2) from fun h=>by rcases h with h|h<;>(have h:k=_:=h;omega)),if_pos (show (PTerm.mk k n m v o ks).kind=3 from k3)] at h1
     by_cases hr:0<=(PTerm.mk k n m v o ks).n/\(PTerm.mk k n m v o ks).n<(c.funs.length:Int)
     ·exact hr
     ·rw [dif_neg hr] at h1;omega
    ·exact .inl k3
   ·obtain ⟨bd',hx'⟩:=hk x hx;exact A35 c left bd' x hx'
theorem B4S {c:PCore} (h:V8 c=true):(∀f∈c.funs,F1 c.funs.length f.term=true)/\F1 c.funs.length c.query.term=true:=by
 unfold V8 at h;simp only [Bool.and_eq_true] at h;refine ⟨fun f hf=> ?_,?_⟩
 ·have:=List.all_eq_true.1 h.2.2.1 f hf;unfold T9 at this;rw [Bool.and_eq_true] at this;exact A35 c 200 _ _ this.2
 ·have:=h.2.2.2;unfold T9 at this;rw [Bool.and_eq_true] at this;exact A35 c 200 _ _ this.2
theorem A1n:∀(a b:List PTerm) (l:List Bool),J2 (a++b) l=J2 b (J2 a l)
 |[],b,l=>rfl
 |t::r,b,l=>by rw [List.cons_append,J2,J2,A1n r]
theorem Y8 (n:Nat) (t:PTerm):F1 n t=((decide (t.kind≠3)||decide (0<=t.n/\t.n<(n:Int)))&&A0C n t.kids):=by
 cases t;unfold F1;rfl
theorem A5K {σ:Sto} {k:Nat} {o:TObj} (h:σ.at k=some o):σ.set k (some o)=σ:=by
 have hk:=Sto.lt h;apply List.ext_getElem?;intro j
 by_cases hj:k=j
 ·subst hj;rw [List.getElem?_set_self hk];unfold Sto.at at h;cases hx:σ[k]? with
  |none=>rw [hx] at h;cases h
  |some y=>rw [hx] at h;cases y with
   |none=>cases h
   |some z=>simp at h;rw [h]
 ·rw [List.getElem?_set_ne hj]
variable {F:FuncId->Option TFun} {O:FuncId->List TV->Option TV}
def B4T:XCode:=(by exact fun x _=>x:V0 (gT x1088.body [1,1])) _ (by conv=>lhs;cbv)
theorem B0t:x1088=(by exact fun x _=>x:V1 (fun a=>({x1088 with body:=pT (x1088.body) [1,1] a}:XFun))) _ (by intros;conv=>lhs;cbv) B4T:=rfl
theorem B3z {N b:Nat} (t:PTerm) (he:OkTm t) (hN:t.kids.length<N) (n k cap:Nat) (l:List Bool) (hl:l.length=n) (hok:A0C n t.kids=true) (a:TAct) (σ:Sto) (ver:Nat) (hat:σ.at k=some ⟨ver,.cells (bcells l) 4⟩)
  (hc:∀x∈t.kids,∀b σ ver l,l.length=n->F1 n x=true->σ.at k=some ⟨ver,.cells (bcells l) 4⟩->∃ver',A4 F O N b 88 [.agg (A5 x),.ref k 0 1 n cap] σ=some (.ret (.tuple []),σ.set k (some ⟨ver',.cells (bcells (M5 x l)) 4⟩)))
  (hdf:a.df=[]) (h1:a.tm.get 1=some (.ref k 0 1 n cap)) (h2:a.tm.get 2=some (.bx 0 (A5 t) 28)):
  Tw B5F b (A4 F O N) N (fun ex a' σ'=>ex=.normal/\a'.df=[]/\∃ver',σ'=σ.set k (some ⟨ver',.cells (bcells (J2 t.kids l)) 4⟩)) [] (B6 B5F b (A4 F O N) N B4T a σ):=by
 obtain ⟨tm,df,clk⟩:=a;simp only at hdf h1 h2;subst hdf;rw [A0] at h2;simp [B4T,h1,h2];obtain ⟨I,hI⟩:∃I:Nat->TAct->Sto->Prop,I=(fun j a' σ'=>a'.df=[]/\(∃ver',σ'=σ.set k (some ⟨ver',.cells (bcells (J2 (t.kids.take j) l)) 4⟩))/\a'.tm.get 1=some (.ref k 0 1 n cap)/\a'.tm.get 14=some (.sl .fz (t.kids.map A5))/\a'.tm.get 15=some (.int .i64 t.kids.length)/\a'.tm.get 16=some (.int .i64 j)):=⟨_,rfl⟩
 obtain ⟨R,hR⟩:∃R:TEx->TAct->Sto->Prop,R=(fun ex a' σ'=>ex=.exit 0/\a'.df=[]/\∃ver',σ'=σ.set k (some ⟨ver',.cells (bcells (J2 t.kids l)) 4⟩)):=⟨_,rfl⟩;have hkl:=Sto.lt hat;refine A9 I t.kids.length R ?_ (by omega) ?_ ?_ ?_
 ·rw [hI];exact ⟨rfl,⟨ver,by rw [List.take_zero];exact (A5K hat).symm⟩,by simp [h1],by simp,by simp,by simp⟩
 ·rw [hI];rintro j ⟨tm,df,clk⟩ σ' hj ⟨rfl,⟨v1,rfl⟩,h1,h14,h15,h16⟩;rw [<-hI];have hw:=C8 hj he.len;have hmem:=List.getElem_mem hj;obtain ⟨v2,hcc⟩:=hc t.kids[j] hmem b (σ.set k (some ⟨v1,.cells (bcells (J2 (t.kids.take j) l)) 4⟩)) v1 (J2 (t.kids.take j) l) (by rw [A1C];exact hl) ((O9 _ _).1 hok _ hmem) (by simp [Sto.at,hkl])
  have hts:J2 (t.kids.take (j+1)) l=M5 t.kids[j] (J2 (t.kids.take j) l):=by rw [H9 hj,A1n];rfl
  rw [<-hts,List.set_set] at hcc;have hE:=A0 t.kids[j];rw [hE] at hcc;simp [h1,h14,h15,h16,hj,hcc,hw,hE];rw [hI];exact ⟨rfl,⟨_,rfl⟩,by simp [h1],by simp [h14],by simp [h15],by simp⟩
 ·rw [hI];rintro ⟨tm,df,clk⟩ σ' ⟨rfl,⟨v1,rfl⟩,h1,h14,h15,h16⟩;rw [List.take_of_length_le (Nat.le_refl _)];simp [h15,h16];rw [hR];exact ⟨rfl,rfl,_,rfl⟩
 ·rw [hR];rintro ex ⟨tm,df,clk⟩ σ' ⟨rfl,rfl,v1,rfl⟩;simp;exact ⟨_,rfl⟩
theorem A5L (h88:F 88=some f1088):∀(M N:Nat) (t:PTerm) (n k cap b:Nat) (σ:Sto) (ver:Nat) (l:List Bool),E3 t<=M->M<=N->OkTm t->l.length=n->F1 n t=true->σ.at k=some ⟨ver,.cells (bcells l) 4⟩->
  ∃ver',A4 F O N b 88 [.agg (A5 t),.ref k 0 1 n cap] σ=some (.ret (.tuple []),σ.set k (some ⟨ver',.cells (bcells (M5 t l)) 4⟩))
 |0,N,t,n,k,cap,b,σ,ver,l,h,_,_,_,_,_=>by rw [B5] at h;omega
 |M+1,N,t,n,k,cap,b,σ,ver,l,h,hN,he,hl,hok,hat=>by
  have ih:=A5L h88 M;have hs:=B5 t;have hkk:=H8 t.kids;obtain ⟨N,rfl⟩:∃n,N=n+1:=⟨N - 1,by omega⟩;have hkl:=Sto.lt hat;rw [Y8,Bool.and_eq_true,Bool.or_eq_true,decide_eq_true_eq,decide_eq_true_eq] at hok
  suffices hh:∃e' σ',A4 F O (N+1) b 88 [.agg (A5 t),.ref k 0 1 n cap] σ=some (e',σ')/\∃ver',e'=.ret (.tuple [])/\σ'=σ.set k (some ⟨ver',.cells (bcells (M5 t l)) 4⟩) by
   obtain ⟨e',σ',h1,v,rfl,rfl⟩:=hh;exact ⟨v,h1⟩
  refine D5 h88 ?_;have hcd:=A8u t l;have hkd:∀x∈t.kids,∀b σ ver l,l.length=n->F1 n x=true->σ.at k=some ⟨ver,.cells (bcells l) 4⟩->∃ver',A4 F O N b 88 [.agg (A5 x),.ref k 0 1 n cap] σ=some (.ret (.tuple []),σ.set k (some ⟨ver',.cells (bcells (M5 x l)) 4⟩)):=fun x hx b σ ver l hl ho ha=>by
   have:=D9 _ _ hx;exact ih N x n k cap b σ ver l (by omega) (by omega) (he.sub x hx) hl ho ha
  by_cases k3:t.kind=3
  ·have hr:=hok.1.resolve_left (fun h=>h k3);obtain ⟨q,hq⟩:∃q:Nat,t.n=(q:Int):=⟨t.n.toNat,by omega⟩;rw [if_pos ⟨k3,by rw [hl];exact hr⟩,hq,Int.toNat_natCast] at hcd;rw [hq] at hr;have hq2:q<n:=by omega
   have hq3:q+1<=n:=hq2;have hle:(bcells l).length=n:=by simp [bcells,hl]
   have hpb:=P3 l q true (by omega);generalize hB2:bcells l=B2 at hat hle hpb;simp [B0t,A0 t,k3,hq,hat,hq2,hq3,hle,hpb];apply E2
   ·apply B3z (ver:=ver+1) t he (by omega) n k cap (l.set q true) (by rw [List.length_set];exact hl) hok.2 _ _ _ hkd
    ·rfl
    ·simp
    ·simp [A0 t,k3,hq]
    ·simpa [Sto.at,hkl,putAt] using hpb
   rintro ex ⟨tm,df,clk⟩ σ' ⟨rfl,hdf,v,rfl⟩;simp only at hdf;subst hdf;rw [hcd];simp [List.set_set];exact ⟨_,rfl⟩
  ·rw [if_neg (fun h=>k3 h.1)] at hcd;simp [B0t,A0 t,k3];apply E2
   ·apply B3z (ver:=ver) t he (by omega) n k cap l hl hok.2 _ _ hat hkd
    ·rfl
    ·simp
    ·simp [A0 t]
   rintro ex ⟨tm,df,clk⟩ σ' ⟨rfl,hdf,v,rfl⟩;simp only at hdf;subst hdf;rw [hcd];simp;exact ⟨_,rfl⟩
def Z4 (c:PCore) (t:PTerm):List Bool:=M5 t (List.replicate c.funs.length false)
theorem A0D (c:PCore) (t:PTerm):(Z4 c t).length=c.funs.length:=by unfold Z4;rw [A4e];simp
inductive ReachC (c:PCore):Nat->Prop
 |base {j:Nat}:(Z4 c c.query.term)[j]? =some true->ReachC c j
 |step {i j:Nat} {f:PBody}:ReachC c i->c.funs[i]? =some f->(Z4 c f.term)[j]? =some true->ReachC c j
structure IsReach (c:PCore) (l:List Bool):Prop where
 len:l.length=c.funs.length
 iff:∀j:Nat,l[j]? =some true↔ReachC c j
theorem IsReach.eq {c:PCore} {l m:List Bool} (h:IsReach c l) (k:IsReach c m):l=m:=by
 apply List.ext_getElem?;intro j
 by_cases hj:j<c.funs.length
 ·rw [List.getElem?_eq_getElem (by rw [h.len];exact hj),List.getElem?_eq_getElem (by rw [k.len];exact hj)];have h1:=h.iff j;have h2:=k.iff j;rw [List.getElem?_eq_getElem (by rw [h.len];exact hj)] at h1;rw [List.getElem?_eq_getElem (by rw [k.len];exact hj)] at h2;have h3:=h1.trans h2.symm;simp only [Option.some.injEq] at h3;congr 1;rw [Bool.eq_iff_iff];exact h3
 ·rw [List.getElem?_eq_none (by rw [h.len];omega),List.getElem?_eq_none (by rw [k.len];omega)]
def LeB (a b:List Bool):Prop:=a.length=b.length/\∀j:Nat,a[j]? =some true->b[j]? =some true
theorem LeB.refl (a:List Bool):LeB a a:=⟨rfl,fun _ h=>h⟩
theorem LeB.trans {a b c:List Bool} (h:LeB a b) (k:LeB b c):LeB a c:=⟨h.1.trans k.1,fun j hj=>k.2 j (h.2 j hj)⟩
theorem LeB.set (a:List Bool) (j:Nat):LeB a (a.set j true):=⟨by simp,fun i h=>by
 by_cases e:j=i
 ·subst e;rw [List.getElem?_set_self (List.getElem?_eq_some_iff.1 h).1]
 ·rw [List.getElem?_set_ne e];exact h⟩
def A99 (l:List Bool):Nat:=l.count true
theorem B9G {l:List Bool} {j:Nat} (h:l[j]? =some false):A99 (l.set j true)=A99 l+1:=by
 unfold A99
 induction l generalizing j with
 |nil=>simp at h
 |cons x l ih=>
  cases j with
  |zero=>simp at h;subst h;simp
  |succ j=>
   simp at h;rw [List.set_cons_succ,List.count_cons,List.count_cons,ih h];omega
theorem B9H (l:List Bool):A99 l<=l.length:=List.count_le_length
structure SoundB (c:PCore) (l:List Bool):Prop where
 base:LeB (Z4 c c.query.term) l
 sound:∀j:Nat,l[j]? =some true->ReachC c j
theorem SoundB.len {c:PCore} {l:List Bool} (h:SoundB c l):l.length=c.funs.length:=by rw [<-h.base.1,A0D]
theorem SoundB.start (c:PCore):SoundB c (Z4 c c.query.term):=⟨LeB.refl _,fun j h=>.base h⟩
theorem SoundB.set {c:PCore} {l:List Bool} (h:SoundB c l) {i j:Nat} {f:PBody} (hi:l[i]? =some true) (hf:c.funs[i]? =some f) (hj:(Z4 c f.term)[j]? =some true):SoundB c (l.set j true):=
 ⟨h.base.trans (LeB.set _ _),fun k hk=>by
  by_cases e:j=k
  ·subst e;exact .step (h.sound i hi) hf hj
  ·rw [List.getElem?_set_ne e] at hk;exact h.sound k hk⟩
theorem SoundB.done {c:PCore} {l:List Bool} (h:SoundB c l) (hc:∀(i:Nat) (f:PBody),l[i]? =some true->c.funs[i]? =some f->LeB (Z4 c f.term) l):IsReach c l:=by
 refine ⟨h.len,fun j=>⟨h.sound j,fun hr=> ?_⟩⟩
 induction hr with
 |base hb=>exact h.base.2 _ hb
 |step _ hf hj ih=>exact (hc _ _ ih hf).2 _ hj
def C2n (l0 l:List Bool) (more0 more:Bool) (row:List Bool) (j:Nat):Prop:=
 LeB l0 l/\(∀k:Nat,k<j->row[k]? =some true->l[k]? =some true)/\(more=more0/\l=l0\/more=true/\A99 l0<A99 l)
def H6 (M:List (List Bool)) (i j:Nat):Bool:=((M[i]?.getD [])[j]?).getD false
def wst (M:List (List Bool)) (k i j:Nat):List (List Bool):=M.set i ((M[i]?.getD []).set j (H6 M i j||(H6 M i k&&H6 M k j)))
def loopJ (M:List (List Bool)) (k i:Nat):Nat->List (List Bool)
 |0=>M
 |j+1=>wst (loopJ M k i j) k i j
def loopI (M:List (List Bool)) (n k:Nat):Nat->List (List Bool)
 |0=>M
 |i+1=>loopJ (loopI M n k i) k i n
def loopK (M:List (List Bool)) (n:Nat):Nat->List (List Bool)
 |0=>M
 |k+1=>loopI (loopK M n k) n k n
def Sq (n:Nat) (M:List (List Bool)):Prop:=M.length=n/\∀r∈M,r.length=n
theorem Sq.row {n:Nat} {M:List (List Bool)} (h:Sq n M) {i:Nat} (hi:i<n):∃r,M[i]? =some r/\r.length=n:=by
 have:i<M.length:=by rw [h.1];exact hi
 exact ⟨M[i],List.getElem?_eq_getElem this,h.2 _ (List.getElem_mem this)⟩
theorem Sq.wst {n:Nat} {M:List (List Bool)} (h:Sq n M) (k:Nat) {i:Nat} (hi:i<n) (j:Nat):Sq n (wst M k i j):=by
 obtain ⟨r,hr,hl⟩:=h.row hi;refine ⟨by unfold Xe.YtlgknghehgmodaaGreatDoor.wst;rw [List.length_set];exact h.1,fun x hx=> ?_⟩;unfold Xe.YtlgknghehgmodaaGreatDoor.wst at hx;rw [hr] at hx;rcases List.mem_or_eq_of_mem_set hx with hx|rfl
 ·exact h.2 x hx
 ·simpa using hl
theorem Sq.loopJ {n:Nat} {M:List (List Bool)} (h:Sq n M) (k:Nat) {i:Nat} (hi:i<n):∀j,Sq n (loopJ M k i j)
 |0=>h
 |j+1=>(Sq.loopJ h k hi j).wst k hi j
theorem Sq.loopI {n:Nat} {M:List (List Bool)} (h:Sq n M) (k:Nat):∀i,i<=n->Sq n (loopI M n k i)
 |0,_=>h
 |i+1,hi=>(Sq.loopI h k i (by omega)).loopJ k (by omega) n
theorem Sq.loopK {n:Nat} {M:List (List Bool)} (h:Sq n M):∀k,Sq n (loopK M n k)
 |0=>h
 |k+1=>(Sq.loopK h k).loopI k n (Nat.le_refl _)
def A07 (c:PCore):List (List Bool):=c.funs.map fun f=>M5 f.term (List.replicate c.funs.length false)
theorem A24 (c:PCore):Sq c.funs.length (A07 c):=by
 refine ⟨by simp [A07],fun r hr=> ?_⟩;obtain ⟨f,_,rfl⟩:=List.mem_map.1 hr;rw [A4e];simp
def S7 (c:PCore):List (List Bool):=loopK (A07 c) c.funs.length c.funs.length
theorem B9I {n:Nat} {M:List (List Bool)} (h:Sq n M) {i j:Nat} (hi:i<n) (hj:j<n) (v:Bool) (a b:Nat):H6 (M.set i ((M[i]?.getD []).set j v)) a b=if a=i/\b=j then v else H6 M a b:=by
 obtain ⟨r,hr,hl⟩:=h.row hi;have hi2:i<M.length:=by rw [h.1];exact hi
 unfold H6
 by_cases ha:a=i
 ·subst ha;rw [List.getElem?_set_self hi2,hr];simp only [Option.getD_some]
  by_cases hb:b=j
  ·subst hb;rw [List.getElem?_set_self (by omega),if_pos (by simp)];rfl
  ·rw [List.getElem?_set_ne (fun e=>hb e.symm),if_neg (fun e=>hb e.2)]
 ·rw [List.getElem?_set_ne (fun e=>ha e.symm),if_neg (fun e=>ha e.1)]
def A8v (M:List (List Bool)) (k i j:Nat):Bool:=H6 M i j||(H6 M i k&&H6 M k j)
theorem A8w {n:Nat} {M:List (List Bool)} (h:Sq n M) (k:Nat) {i:Nat} (hi:i<n):∀(j:Nat),j<=n->∀a b,H6 (loopJ M k i j) a b=if a=i/\b<j then A8v M k i b else H6 M a b
 |0,_,a,b=>by simp [loopJ]
 |j+1,hj,a,b=>by
  have ih:=A8w h k hi j (by omega);have e1:H6 (loopJ M k i j) i j=H6 M i j:=by rw [ih,if_neg (by omega)]
  have e3:H6 (loopJ M k i j) k j=H6 M k j:=by rw [ih,if_neg (by omega)]
  have e2:H6 (loopJ M k i j) i k=H6 M i k\/H6 (loopJ M k i j) i k=A8v M k i k:=by rw [ih];split<;>simp
  rw [show loopJ M k i (j+1)=wst (loopJ M k i j) k i j from rfl];unfold wst;rw [B9I (h.loopJ k hi j) hi (by omega:j<n),e1,e3,ih a b]
  by_cases hb:a=i/\b=j
  ·obtain ⟨rfl,rfl⟩:=hb;rw [if_pos ⟨rfl,rfl⟩,if_pos ⟨rfl,by omega⟩];unfold A8v at*;rcases e2 with e2|e2<;>rw [e2]<;>cases H6 M a b<;>cases H6 M a k<;>cases H6 M k b<;>cases H6 M k k<;>rfl
  ·rw [if_neg hb]
   by_cases hc:a=i/\b<j
   ·rw [if_pos hc,if_pos ⟨hc.1,by omega⟩]
   ·rw [if_neg hc,if_neg (by omega)]
theorem A4f {n:Nat} {M:List (List Bool)} (h:Sq n M) (k:Nat):∀(i:Nat),i<=n->∀a b,H6 (loopI M n k i) a b=if a<i/\b<n then A8v M k a b else H6 M a b
 |0,_,a,b=>by simp [loopI]
 |i+1,hi,a,b=>by
  have ih:=A4f h k i (by omega);rw [show loopI M n k (i+1)=loopJ (loopI M n k i) k i n from rfl];rw [A8w (h.loopI k i (by omega)) k (by omega:i<n) n (Nat.le_refl _) a b]
  by_cases ha:a=i/\b<n
  ·obtain ⟨rfl,hb⟩:=ha;rw [if_pos ⟨rfl,hb⟩,if_pos ⟨by omega,hb⟩];have e1:H6 (loopI M n k a) a b=H6 M a b:=by rw [ih,if_neg (by omega)]
   have e2:H6 (loopI M n k a) a k=H6 M a k:=by rw [ih,if_neg (by omega)]
   have e3:H6 (loopI M n k a) k b=H6 M k b\/H6 (loopI M n k a) k b=A8v M k k b:=by rw [ih];split<;>simp
   unfold A8v at*;rw [e1,e2];rcases e3 with e3|e3<;>rw [e3]<;>cases H6 M a b<;>cases H6 M a k<;>cases H6 M k b<;>cases H6 M k k<;>rfl
  ·rw [if_neg ha,ih]
   by_cases hc:a<i/\b<n
   ·rw [if_pos hc,if_pos (by omega)]
   ·rw [if_neg hc,if_neg (by omega)]
inductive PathM (M:List (List Bool)):Nat->Nat->Prop
 |one {i j:Nat}:H6 M i j=true->PathM M i j
 |tr {i j k:Nat}:PathM M i k->PathM M k j->PathM M i j
theorem A6R {n:Nat} {M:List (List Bool)} (h:Sq n M) {i j:Nat} (e:H6 M i j=true):i<n/\j<n:=by
 unfold H6 at e
 by_cases hi:i<n
 ·obtain ⟨r,hr,hl⟩:=h.row hi;rw [hr] at e;simp only [Option.getD_some] at e
  by_cases hj:j<n
  ·exact ⟨hi,hj⟩
  ·rw [List.getElem?_eq_none (by omega)] at e;cases e
 ·have e0:M[i]? =none:=List.getElem?_eq_none (by rw [h.1];omega);rw [e0] at e;simp at e
theorem A0E {n:Nat} {M:List (List Bool)} (h:Sq n M):∀k i j,H6 (loopK M n k) i j=true->PathM M i j
 |0,i,j,e=>.one e
 |k+1,i,j,e=>by
  rw [show loopK M n (k+1)=loopI (loopK M n k) n k n from rfl] at e;rw [A4f (h.loopK k) k n (Nat.le_refl _)] at e;split at e
  ·unfold A8v at e;rw [Bool.or_eq_true,Bool.and_eq_true] at e;rcases e with e|⟨e1,e2⟩
   ·exact A0E h k i j e
   ·exact .tr (A0E h k i k e1) (A0E h k k j e2)
  ·exact A0E h k i j e
theorem A5d {n:Nat} {M:List (List Bool)} (h:Sq n M):∀k,k<=n->(∀i j,H6 M i j=true->H6 (loopK M n k) i j=true)/\∀m i j,m<k->H6 (loopK M n k) i m=true->H6 (loopK M n k) m j=true->H6 (loopK M n k) i j=true
 |0,_=>⟨fun i j e=>e,fun m i j hm=>by omega⟩
 |k+1,hk=>by
  obtain ⟨h1,h2⟩:=A5d h k (by omega);have hs:=h.loopK k;have key:∀a b,H6 (loopK M n (k+1)) a b=A8v (loopK M n k) k a b:=fun a b=>by
   rw [show loopK M n (k+1)=loopI (loopK M n k) n k n from rfl];rw [A4f hs k n (Nat.le_refl _)];split
   ·rfl
   ·rename_i hn;unfold A8v;cases e1:H6 (loopK M n k) a k with
    |false=>simp
    |true=>
     cases e2:H6 (loopK M n k) k b with
     |false=>simp
     |true=>exact absurd ⟨(A6R hs e1).1,(A6R hs e2).2⟩ hn
  refine ⟨fun i j e=> ?_,fun m i j hm e1 e2=> ?_⟩
  ·rw [key];unfold A8v;rw [h1 i j e];rfl
  ·rw [key] at e1 e2 ⊢;unfold A8v at*;rw [Bool.or_eq_true,Bool.and_eq_true] at e1 e2 ⊢
   by_cases hmk:m=k
   ·subst hmk;right;exact ⟨by rcases e1 with e|e;exact e;exact e.1,by rcases e2 with e|e;exact e;exact e.2⟩
   ·have hm':m<k:=by omega
    rcases e1 with e1|⟨e1,e1'⟩
    ·rcases e2 with e2|⟨e2,e2'⟩
     ·exact .inl (h2 m i j hm' e1 e2)
     ·exact .inr ⟨h2 m i k hm' e1 e2,e2'⟩
    ·rcases e2 with e2|⟨e2,e2'⟩
     ·exact .inr ⟨e1,h2 m k j hm' e1' e2⟩
     ·exact .inr ⟨e1,e2'⟩
theorem A8x {n:Nat} {M:List (List Bool)} (h:Sq n M) (i j:Nat):H6 (loopK M n n) i j=true↔PathM M i j:=by
 refine ⟨A0E h n i j,fun hp=> ?_⟩;have hc:=A5d h n (Nat.le_refl _)
 induction hp with
 |one e=>exact hc.1 _ _ e
 |tr _ _ ih1 ih2=>exact hc.2 _ _ _ (A6R (h.loopK n) ih1).2 ih1 ih2
theorem A8y (c:PCore) (i j:Nat):H6 (A07 c) i j=true↔∃f,c.funs[i]? =some f/\(Z4 c f.term)[j]? =some true:=by
 unfold H6 A07;rw [List.getElem?_map];cases hf:c.funs[i]? with
 |none=>simp
 |some f=>
  simp only [Option.map_some,Option.getD_some,Option.some.injEq];refine ⟨fun e=>⟨f,rfl,?_⟩,fun ⟨g,hg,e⟩=> ?_⟩
  ·unfold Z4;cases hx:(M5 f.term (List.replicate c.funs.length false))[j]? with
   |none=>rw [hx] at e;cases e
   |some b=>rw [hx] at e;simp at e;rw [e]
  ·subst hg;unfold Z4 at e;rw [e];rfl
theorem B4U {c:PCore} {i j:Nat} (h:ReachC c i) (hp:PathM (A07 c) i j):ReachC c j:=by
 induction hp with
 |one e=>obtain ⟨f,hf,he⟩:=(A8y c _ _).1 e;exact .step h hf he
 |tr _ _ ih1 ih2=>exact ih2 (ih1 h)
theorem B4V {c:PCore} {j:Nat} (h:ReachC c j):∃k,(Z4 c c.query.term)[k]? =some true/\(k=j\/PathM (A07 c) k j):=by
 induction h with
 |base hb=>exact ⟨_,hb,.inl rfl⟩
 |step _ hf hj ih=>
  obtain ⟨k,h1,h2⟩:=ih;have e:=PathM.one ((A8y c _ _).2 ⟨_,hf,hj⟩);rcases h2 with rfl|h2
  ·exact ⟨k,h1,.inr e⟩
  ·exact ⟨k,h1,.inr (.tr h2 e)⟩
theorem B9J {c:PCore} {l:List Bool} (hb:LeB (Z4 c c.query.term) l) (hs:∀j:Nat,l[j]? =some true->ReachC c j) (hn:∀i k:Nat,i<c.funs.length->k<c.funs.length->(Z4 c c.query.term)[k]? =some true->H6 (S7 c) k i=true->l[i]? =some true):IsReach c l:=by
 refine ⟨by rw [<-hb.1,A0D],fun j=>⟨hs j,fun h=> ?_⟩⟩;obtain ⟨k,h1,rfl|h2⟩:=B4V h
 ·exact hb.2 _ h1
 ·have:=(A8x (A24 c) k j).2 h2;have hlt:=A6R ((A24 c).loopK c.funs.length) this;exact hn j k hlt.2 hlt.1 h1 this
end
section
open Go Go.Xe Go.Xt
variable {F:FuncId->Option TFun} {O:FuncId->List TV->Option TV}
def B4W:XCode:=(by exact fun x _=>x:V0 (gT x1118.body [1,1])) _ (by conv=>lhs;cbv)
theorem B0u:x1118=(by exact fun x _=>x:V1 (fun a=>({x1118 with body:=pT (x1118.body) [1,1] a}:XFun))) _ (by intros;conv=>lhs;cbv) B4W:=rfl
theorem B3A {N b:Nat} (t:PTerm) (he:OkTm t) (hN:t.kids.length<N) (n k cap:Nat) (l:List Bool) (hl:l.length=n) (hok:A0C n t.kids=true) (a:TAct) (σ:Sto) (ver:Nat) (hat:σ.at k=some ⟨ver,.cells (bcells l) 4⟩)
  (hc:∀x∈t.kids,∀b σ ver l,l.length=n->F1 n x=true->σ.at k=some ⟨ver,.cells (bcells l) 4⟩->∃ver',A4 F O N b 118 [.agg (A5 x),.ref k 0 1 n cap] σ=some (.ret (.tuple []),σ.set k (some ⟨ver',.cells (bcells (M5 x l)) 4⟩)))
  (hdf:a.df=[]) (h1:a.tm.get 1=some (.ref k 0 1 n cap)) (h2:a.tm.get 2=some (.bx 0 (A5 t) 28)):
  Tw B5I b (A4 F O N) N (fun ex a' σ'=>ex=.normal/\a'.df=[]/\∃ver',σ'=σ.set k (some ⟨ver',.cells (bcells (J2 t.kids l)) 4⟩)) [] (B6 B5I b (A4 F O N) N B4W a σ):=by
 obtain ⟨tm,df,clk⟩:=a;simp only at hdf h1 h2;subst hdf;rw [A0] at h2;simp [B4W,h1,h2];obtain ⟨I,hI⟩:∃I:Nat->TAct->Sto->Prop,I=(fun j a' σ'=>a'.df=[]/\(∃ver',σ'=σ.set k (some ⟨ver',.cells (bcells (J2 (t.kids.take j) l)) 4⟩))/\a'.tm.get 1=some (.ref k 0 1 n cap)/\a'.tm.get 2=some (.bx 0 (A5 t) 28)/\a'.tm.get 4=some (.int .i64 j)):=⟨_,rfl⟩
 obtain ⟨R,hR⟩:∃R:TEx->TAct->Sto->Prop,R=(fun ex a' σ'=>ex=.exit 0/\a'.df=[]/\∃ver',σ'=σ.set k (some ⟨ver',.cells (bcells (J2 t.kids l)) 4⟩)):=⟨_,rfl⟩;have hkl:=Sto.lt hat;refine A9 I t.kids.length R ?_ (by omega) ?_ ?_ ?_
 ·rw [hI];exact ⟨rfl,⟨ver,by rw [List.take_zero];exact (A5K hat).symm⟩,by simp [h1],by simp [h2,A0 t],by simp⟩
 ·rw [hI];rintro j ⟨tm,df,clk⟩ σ' hj ⟨rfl,⟨v1,rfl⟩,h1,h2,h4⟩;rw [<-hI];simp only at h1 h2 h4;have hw:=C8 hj he.len;have hmem:=List.getElem_mem hj;obtain ⟨v2,hcc⟩:=hc t.kids[j] hmem b (σ.set k (some ⟨v1,.cells (bcells (J2 (t.kids.take j) l)) 4⟩)) v1 (J2 (t.kids.take j) l) (by rw [A1C];exact hl) ((O9 _ _).1 hok _ hmem) (by simp [Sto.at,hkl])
  have hts:J2 (t.kids.take (j+1)) l=M5 t.kids[j] (J2 (t.kids.take j) l):=by rw [H9 hj,A1n];rfl
  rw [<-hts,List.set_set] at hcc;have hE:=A0 t.kids[j];rw [hE] at hcc;have h2':=h2;rw [A0] at h2;simp [h1,h2,h4,hj,hcc,hw,hE];rw [hI];exact ⟨rfl,⟨_,rfl⟩,by simp [h1],by simp [h2'],by simp⟩
 ·rw [hI];rintro ⟨tm,df,clk⟩ σ' ⟨rfl,⟨v1,rfl⟩,h1,h2,h4⟩;rw [List.take_of_length_le (Nat.le_refl _)];rw [A0] at h2;simp [h2,h4];rw [hR];exact ⟨rfl,rfl,_,rfl⟩
 ·rw [hR];rintro ex ⟨tm,df,clk⟩ σ' ⟨rfl,rfl,v1,rfl⟩;simp;exact ⟨_,rfl⟩
theorem A8z (h118:F 118=some f1118):∀(M N:Nat) (t:PTerm) (n k cap b:Nat) (σ:Sto) (ver:Nat) (l:List Bool),E3 t<=M->M<=N->OkTm t->l.length=n->F1 n t=true->σ.at k=some ⟨ver,.cells (bcells l) 4⟩->
  ∃ver',A4 F O N b 118 [.agg (A5 t),.ref k 0 1 n cap] σ=some (.ret (.tuple []),σ.set k (some ⟨ver',.cells (bcells (M5 t l)) 4⟩))
 |0,N,t,n,k,cap,b,σ,ver,l,h,_,_,_,_,_=>by rw [B5] at h;omega
 |M+1,N,t,n,k,cap,b,σ,ver,l,h,hN,he,hl,hok,hat=>by
  have ih:=A8z h118 M;have hs:=B5 t;have hkk:=H8 t.kids;obtain ⟨N,rfl⟩:∃n,N=n+1:=⟨N - 1,by omega⟩;have hkl:=Sto.lt hat;rw [Y8,Bool.and_eq_true,Bool.or_eq_true,decide_eq_true_eq,decide_eq_true_eq] at hok
  suffices hh:∃e' σ',A4 F O (N+1) b 118 [.agg (A5 t),.ref k 0 1 n cap] σ=some (e',σ')/\∃ver',e'=.ret (.tuple [])/\σ'=σ.set k (some ⟨ver',.cells (bcells (M5 t l)) 4⟩) by
   obtain ⟨e',σ',h1,v,rfl,rfl⟩:=hh;exact ⟨v,h1⟩
  refine D5 h118 ?_;have hcd:=A8u t l;have hkd:∀x∈t.kids,∀b σ ver l,l.length=n->F1 n x=true->σ.at k=some ⟨ver,.cells (bcells l) 4⟩->∃ver',A4 F O N b 118 [.agg (A5 x),.ref k 0 1 n cap] σ=some (.ret (.tuple []),σ.set k (some ⟨ver',.cells (bcells (M5 x l)) 4⟩)):=fun x hx b σ ver l hl ho ha=>by
   have:=D9 _ _ hx;exact ih N x n k cap b σ ver l (by omega) (by omega) (he.sub x hx) hl ho ha
  by_cases k3:t.kind=3
  ·have hr:=hok.1.resolve_left (fun h=>h k3);obtain ⟨q,hq⟩:∃q:Nat,t.n=(q:Int):=⟨t.n.toNat,by omega⟩;rw [if_pos ⟨k3,by rw [hl];exact hr⟩,hq,Int.toNat_natCast] at hcd;rw [hq] at hr;have hq2:q<n:=by omega
   have hq3:q+1<=n:=hq2;have hq4:¬((q:Int)<0):=by omega
   have hle:(bcells l).length=n:=by simp [bcells,hl]
   have hpb:=P3 l q true (by omega);generalize hB2:bcells l=B2 at hat hle hpb;simp [B0u,A0 t,k3,hq,hat,hq2,hq3,hq4,hle,hpb];apply E2
   ·apply B3A (ver:=ver+1) t he (by omega) n k cap (l.set q true) (by rw [List.length_set];exact hl) hok.2 _ _ _ hkd
    ·rfl
    ·simp
    ·simp [A0 t,k3,hq]
    ·simpa [Sto.at,hkl,putAt] using hpb
   rintro ex ⟨tm,df,clk⟩ σ' ⟨rfl,hdf,v,rfl⟩;simp only at hdf;subst hdf;rw [hcd];simp [List.set_set];exact ⟨_,rfl⟩
  ·rw [if_neg (fun h=>k3 h.1)] at hcd;simp [B0u,A0 t,k3];apply E2
   ·apply B3A (ver:=ver) t he (by omega) n k cap l hl hok.2 _ _ hat hkd
    ·rfl
    ·simp
    ·simp [A0 t]
   rintro ex ⟨tm,df,clk⟩ σ' ⟨rfl,hdf,v,rfl⟩;simp only at hdf;subst hdf;rw [hcd];simp;exact ⟨_,rfl⟩
def f1094k:TFun:=⟨x1094,B5H,true,false⟩
@[simp] theorem C6X:f1094k.an=B5H:=rfl
@[simp] theorem C2o:f1094k.fn.body=x1094.body:=rfl
@[simp] theorem C2p:f1094k.keep=true:=rfl
@[simp] theorem C4S:f1094k.fn.results=[.tmp 4]:=rfl
theorem B0v (h94:F 94=some f1094k) (h118:F 118=some f1118) (N:Nat) (t:PTerm) (n b:Nat) (σ:Sto) (hs:E3 t<=N) (he:OkTm t) (hn:n<=1000) (hok:F1 n t=true) (hb:b<=σ.length):
  ∃ver,A4 F O (N+1) b 94 [.agg (A5 t),.int .i64 n] σ=some (.ret (.ref σ.length 0 1 n n),σ++[some ⟨ver,.cells (bcells (M5 t (List.replicate n false))) 4⟩]):=by
 suffices hh:∃e' σ',A4 F O (N+1) b 94 [.agg (A5 t),.int .i64 n] σ=some (e',σ')/\∃ver,e'=.ret (.ref σ.length 0 1 n n)/\σ'=σ++[some ⟨ver,.cells (bcells (M5 t (List.replicate n false))) 4⟩] by
  obtain ⟨e',σ',h1,v,rfl,rfl⟩:=hh;exact ⟨v,h1⟩
 have hn2:n<=281474976710656:=by omega
 have hn3:n<=9223372036854775807:=by omega
 obtain ⟨vr,hcc⟩:=A8z (O:=O) h118 N N t n σ.length n b (σ++[some ⟨0,.cells (bcells (List.replicate n false)) 4⟩]) 0 (List.replicate n false) hs (Nat.le_refl _) he (by simp) hok (G0 _ _);rw [A0B,A0] at hcc;rw [<-A0p] at hcc;refine D5 h94 ?_;simp [x1094,A0 t,hn2,hn3,hcc]
def B9K:XCode:=(by exact fun x _=>x:V0 (gT x1048.body [1,1,1,0,1,0,0,1,0,1,1,0,0,1,1,0,0,1,1,1,1])) _ (by conv=>lhs;cbv)
def B9L:XCode:=(by exact fun x _=>x:V1 (fun a=>pT (gT x1048.body [1,1,1,0,1,0,0,1,0,1]) [1,0,0,1,1,0,0,1,1,1,1] a)) _ (by intros;conv=>lhs;cbv) B9K
def B9M:XCode:=(by exact fun x _=>x:V1 (fun a=>pT (gT x1048.body [1,1,1,0]) [1,0,0,1,0,1] a)) _ (by intros;conv=>lhs;cbv) B9L
theorem B7m:x1048=(by exact fun x _=>x:V1 (fun a=>({x1048 with body:=pT (x1048.body) [1,1,1,0] a}:XFun))) _ (by intros;conv=>lhs;cbv) B9M:=rfl
theorem A5M (l:List Bool) (j:Nat):(bcells l)[j]? =l[j]?.map TV.bool:=by unfold bcells;rw [List.getElem?_map]
def S3 (n ko cap:Nat) (P:List Bool->Prop) (row l0:List Bool) (more0:Bool) (v1 v21 v22 v23:TV) (σ:Sto) (j:Nat) (a':TAct) (σ':Sto):Prop:=a'.df=[]/\∃l more ver',σ'=σ.set ko (some ⟨ver',.cells (bcells l) 4⟩)/\P l/\C2n l0 l more0 more row j/\a'.tm.get 1=some v1/\a'.tm.get 3=some (.ref ko 0 1 n cap)/\a'.tm.get 4=some (.bool more)/\a'.tm.get 21=some v21/\a'.tm.get 22=some v22/\a'.tm.get 23=some v23
theorem C1l {N b:Nat} (n ko kl cap capl:Nat) (hn:n<=1000) (hnN:n<N) (P:List Bool->Prop) (row l0:List Bool) (hrl:row.length=n) (hl0:l0.length=n) (hP0:P l0) (hP:∀l j,P l->row[j]? =some true->P (l.set j true)) (more0:Bool) (v1 v21 v22 v23:TV)
  (a:TAct) (σ:Sto) (ver verl:Nat) (hne:ko≠kl) (ho:σ.at ko=some ⟨ver,.cells (bcells l0) 4⟩) (hl:σ.at kl=some ⟨verl,.cells (bcells row) 4⟩)
  (hdf:a.df=[]) (h1:a.tm.get 1=some v1) (h3:a.tm.get 3=some (.ref ko 0 1 n cap)) (h4:a.tm.get 4=some (.bool more0)) (h7:a.tm.get 7=some (.ref kl 0 1 n capl)) (h21:a.tm.get 21=some v21) (h22:a.tm.get 22=some v22) (h23:a.tm.get 23=some v23):
  Tw A6h b (A4 F O N) N (fun ex a' σ'=>ex=.normal/\S3 n ko cap P row l0 more0 v1 v21 v22 v23 σ n a' σ') [] (B6 A6h b (A4 F O N) N B9K a σ):=by
 obtain ⟨tm,df,clk⟩:=a;simp only at hdf h1 h3 h4 h7 h21 h22 h23;subst hdf;have hkl:=Sto.lt ho;simp [B9K,h7]
 obtain ⟨I,hI⟩:∃I:Nat->TAct->Sto->Prop,I=(fun j a' σ'=>a'.df=[]/\∃l more ver',σ'=σ.set ko (some ⟨ver',.cells (bcells l) 4⟩)/\P l/\C2n l0 l more0 more row j/\a'.tm.get 1=some v1/\a'.tm.get 3=some (.ref ko 0 1 n cap)/\a'.tm.get 4=some (.bool more)/\a'.tm.get 21=some v21/\a'.tm.get 22=some v22/\a'.tm.get 23=some v23/\
  a'.tm.get 41=some (.ref kl 0 1 n capl)/\a'.tm.get 42=some (.int .i64 n)/\a'.tm.get 43=some (.int .i64 j)):=⟨_,rfl⟩
 obtain ⟨R,hR⟩:∃R:TEx->TAct->Sto->Prop,R=(fun ex a' σ'=>ex=.exit 4/\S3 n ko cap P row l0 more0 v1 v21 v22 v23 σ n a' σ'):=⟨_,rfl⟩;refine A9 I n R ?_ (by omega) ?_ ?_ ?_
 ·rw [hI];exact ⟨rfl,l0,more0,ver,(A5K ho).symm,hP0,⟨LeB.refl _,fun k hk=>by omega,.inl ⟨rfl,rfl⟩⟩,by simp [h1],by simp [h3],by simp [h4],by simp [h21],by simp [h22],by simp [h23],by simp,by simp,by simp⟩
 ·rw [hI];rintro j ⟨tm,df,clk⟩ σ' hj ⟨rfl,l,more,vr,rfl,hPl,⟨q1,q2,q3⟩,h1,h3,h4,h21,h22,h23,h41,h42,h43⟩;rw [<-hI];have hw:=C8 hj (by unfold maxLen;omega);have hll:l.length=n:=by rw [<-q1.1];exact hl0
  have hlk:Sto.at (σ.set ko (some ⟨vr,.cells (bcells l) 4⟩)) kl=some ⟨verl,.cells (bcells row) 4⟩:=by rw [A05 hne];exact hl
  have hlo:Sto.at (σ.set ko (some ⟨vr,.cells (bcells l) 4⟩)) ko=some ⟨vr,.cells (bcells l) 4⟩:=by simp [Sto.at,hkl]
  have hj1:j+1<=n:=hj;have ir:j<row.length:=by omega
  have il:j<l.length:=by omega
  have gr:row[j]? =some row[j]:=List.getElem?_eq_getElem ir;have gl:l[j]? =some l[j]:=List.getElem?_eq_getElem il;have hrow:(bcells row)[j]? =some (.bool row[j]):=by rw [A5M,gr];rfl
  have hlj:(bcells l)[j]? =some (.bool l[j]):=by rw [A5M,gl];rfl
  have hbl:(bcells l).length=n:=by simp [bcells,hll]
  have hbr:(bcells row).length=n:=by simp [bcells,hrl]
  have hpb:=P3 l j true (by omega);generalize hB1:bcells row=B1 at hlk hrow hbr;generalize hB2:bcells l=B2 at hlk hlo hlj hbl hpb ⊢;have hrow2:∀h:j<B1.length,B1[j]=.bool row[j]:=fun h=>by rw [List.getElem?_eq_getElem h] at hrow;exact Option.some.inj hrow
  have hlj2:∀h:j<B2.length,B2[j]=.bool l[j]:=fun h=>by rw [List.getElem?_eq_getElem h] at hlj;exact Option.some.inj hlj
  cases hrj:row[j] with
  |false=>
   rw [hrj] at hrow gr hrow2;simp [h1,h3,h4,h21,h22,h23,h41,h42,h43,hj,hj1,hw,hlk,hlo,hrow,hlj,hbl,hbr,hrow2,hlj2];rw [hI];refine ⟨rfl,l,more,vr,by rw [hB2],hPl,⟨q1,fun k hk hr=> ?_,q3⟩,by simp [h1],by simp [h3],by simp [h4],by simp [h21],by simp [h22],by simp [h23],by simp [h41],by simp [h42],by simp⟩
   by_cases e:k=j
   ·subst e;rw [gr] at hr;cases hr
   ·exact q2 k (by omega) hr
  |true=>
   rw [hrj] at hrow gr hrow2;cases hoj:l[j] with
   |true=>
    rw [hoj] at hlj gl hlj2;simp [h1,h3,h4,h21,h22,h23,h41,h42,h43,hj,hj1,hw,hlk,hlo,hrow,hlj,hbl,hbr,hrow2,hlj2];rw [hI];refine ⟨rfl,l,more,vr,by rw [hB2],hPl,⟨q1,fun k hk hr=> ?_,q3⟩,by simp [h1],by simp [h3],by simp [h4],by simp [h21],by simp [h22],by simp [h23],by simp [h41],by simp [h42],by simp⟩
    by_cases e:k=j
    ·subst e;exact gl
    ·exact q2 k (by omega) hr
   |false=>
    rw [hoj] at hlj gl hlj2;simp [h1,h3,h4,h21,h22,h23,h41,h42,h43,hj,hj1,hw,hlk,hlo,hrow,hlj,hbl,hbr,hrow2,hlj2];rw [hI];refine ⟨rfl,l.set j true,true,vr+1,by rw [<-hpb];simp [putAt],hP l j hPl gr,⟨q1.trans (LeB.set _ _),fun k hk hr=> ?_,.inr ⟨rfl,?_⟩⟩,by simp [h1],by simp [h3],by simp [h4],by simp [h21],by simp [h22],by simp [h23],by simp [h41],by simp [h42],by simp⟩
    ·by_cases e:j=k
     ·subst e;rw [List.getElem?_set_self (by omega)]
     ·rw [List.getElem?_set_ne e];exact q2 k (by omega) hr
    ·rw [B9G gl];rcases q3 with ⟨_,rfl⟩|⟨_,q3⟩<;>omega
 ·rw [hI];rintro ⟨tm,df,clk⟩ σ' ⟨rfl,l,more,vr,rfl,hPl,hri,h1,h3,h4,h21,h22,h23,h41,h42,h43⟩;simp [h42,h43];rw [hR];exact ⟨rfl,rfl,l,more,vr,rfl,hPl,hri,by simp [h1],by simp [h3],by simp [h4],by simp [h21],by simp [h22],by simp [h23]⟩
 ·rw [hR];rintro ex ⟨tm,df,clk⟩ σ' ⟨rfl,hs⟩;simp;exact hs
def OutB (σ:Sto) (l:List Bool) (σ':Sto):Prop:=σ'.take σ.length=σ/\∃ver,σ'.at σ.length=some ⟨ver,.cells (bcells l) 4⟩
theorem OutB.lt {σ σ':Sto} {l:List Bool} (h:OutB σ l σ'):σ.length<σ'.length:=by obtain ⟨_,v,hv⟩:=h;exact Sto.lt hv
theorem OutB.push {σ σ':Sto} {l:List Bool} (h:OutB σ l σ') (τ:Sto):OutB σ l (σ'++τ):=by
 have hl:=h.lt;obtain ⟨h1,v,hv⟩:=h;exact ⟨by rw [List.take_append_of_le_length (by omega)];exact h1,v,by rw [A3p _ hl];exact hv⟩
theorem OutB.other {σ σ':Sto} {l:List Bool} (h:OutB σ l σ') {k:Nat} (hk:σ.length<k) (x:Option TObj):OutB σ l (σ'.set k x):=by
 obtain ⟨h1,v,hv⟩:=h;exact ⟨by rw [Q9 (by omega)];exact h1,v,by rw [A05 (by omega)];exact hv⟩
theorem OutB.put {σ σ':Sto} {l:List Bool} (h:OutB σ l σ') (ver:Nat) (m:List Bool):OutB σ m (σ'.set σ.length (some ⟨ver,.cells (bcells m) 4⟩)):=by
 have hl:=h.lt;exact ⟨by rw [Q9 (Nat.le_refl _)];exact h.1,ver,by simp [Sto.at,hl]⟩
def C4T (c:PCore) (l0 l:List Bool) (more:Bool) (j:Nat):Prop:=
 LeB l0 l/\(more=false/\l=l0/\(∀(i:Nat) (f:PBody),i<j->l[i]? =some true->c.funs[i]? =some f->LeB (Z4 c f.term) l)\/more=true/\A99 l0<A99 l)
def S2 (c:PCore) (l0:List Bool) (cap:Nat) (σ:Sto) (j:Nat) (a':TAct) (σ':Sto):Prop:=
 a'.df=[]/\∃l more,OutB σ l σ'/\SoundB c l/\C4T c l0 l more j/\a'.tm.get 1=some (.bx 0 (E9 c) 40)/\a'.tm.get 3=some (.ref σ.length 0 1 c.funs.length cap)/\a'.tm.get 4=some (.bool more)
theorem C1m {N b:Nat} (h88:F 88=some f1088) (c:PCore) (hc:OkC c) (hn:c.funs.length<=1000) (hnN:c.funs.length<N) (hok:∀f∈c.funs,F1 c.funs.length f.term=true) (hsz:∀f∈c.funs,E3 f.term<=N)
  (l0:List Bool) (cap:Nat) (σ:Sto) (a:TAct) (σ1:Sto) (hO:OutB σ l0 σ1) (hS:SoundB c l0)
  (hdf:a.df=[]) (h1:a.tm.get 1=some (.bx 0 (E9 c) 40)) (h3:a.tm.get 3=some (.ref σ.length 0 1 c.funs.length cap)) (h4:a.tm.get 4=some (.bool false)):
  Tw A6h b (A4 F O N) N (fun ex a' σ'=>ex=.normal/\S2 c l0 cap σ c.funs.length a' σ') [] (B6 A6h b (A4 F O N) N B9L a σ1):=by
 obtain ⟨tm,df,clk⟩:=a;simp only at hdf h1 h3 h4;subst hdf;have h1':=h1;rw [A7] at h1;simp [B9L,h1];obtain ⟨I,hI⟩:∃I:Nat->TAct->Sto->Prop,I=(fun j a' σ'=>S2 c l0 cap σ j a' σ'/\a'.tm.get 21=some (.sl .fz (c.funs.map G4))/\a'.tm.get 22=some (.int .i64 c.funs.length)/\a'.tm.get 23=some (.int .i64 j)):=⟨_,rfl⟩
 obtain ⟨R,hR⟩:∃R:TEx->TAct->Sto->Prop,R=(fun ex a' σ'=>ex=.exit 2/\S2 c l0 cap σ c.funs.length a' σ'):=⟨_,rfl⟩;refine A9 I c.funs.length R ?_ (by omega) ?_ ?_ ?_
 ·rw [hI];exact ⟨⟨rfl,l0,false,hO,hS,⟨LeB.refl _,.inl ⟨rfl,rfl,fun i f hi=>by omega⟩⟩,by simp [h1'],by simp [h3],by simp [h4]⟩,by simp,by simp,by simp⟩
 ·rw [hI];rintro j ⟨tm,df,clk⟩ σ' hj ⟨⟨rfl,l,more,hO,hS,hr,h1,h3,h4⟩,h21,h22,h23⟩;rw [<-hI];simp only at h1 h3 h4;have hw:=C8 hj (by unfold maxLen;omega);have hj1:j+1<=c.funs.length:=hj;have hmem:=List.getElem_mem hj;have hll:=hS.len;have il:j<l.length:=by omega
  have gl:l[j]? =some l[j]:=List.getElem?_eq_getElem il;have gf:c.funs[j]? =some c.funs[j]:=List.getElem?_eq_getElem hj;obtain ⟨hO1,vo,hO2⟩:=hO;have hlj:(bcells l)[j]? =some (.bool l[j]):=by rw [A5M,gl];rfl
  have hbl:(bcells l).length=c.funs.length:=by simp [bcells,hll]
  have hE:=B9 c.funs[j];have h1':=h1;rw [A7] at h1;generalize hB2:bcells l=B2 at hO2 hlj hbl;have hlj2:∀h:j<B2.length,B2[j]=.bool l[j]:=fun h=>by rw [List.getElem?_eq_getElem h] at hlj;exact Option.some.inj hlj
  cases hoj:l[j] with
  |false=>
   rw [hoj] at hlj gl hlj2;simp [h1,h3,h4,h21,h22,h23,hj,hj1,hw,hO2,hlj,hbl,hlj2,hE];rw [hI];refine ⟨⟨rfl,l,more,⟨hO1,vo,by rw [hB2];exact hO2⟩,hS,⟨hr.1,?_⟩,by simp [h1'],by simp [h3],by simp [h4]⟩,by simp [h21],by simp [h22],by simp⟩;rcases hr.2 with ⟨e1,e2,e3⟩|h
   ·exact .inl ⟨e1,e2,fun i f hi ht hf=>by
     by_cases e:i=j
     ·subst e;rw [gl] at ht;cases ht
     ·exact e3 i f (by omega) ht hf⟩
   ·exact .inr h
  |true=>
   rw [hoj] at hlj gl hlj2;have hrl:(List.replicate c.funs.length false).length=c.funs.length:=by simp
   have hn2:c.funs.length<=281474976710656:=by omega
   have hn3:c.funs.length<=9223372036854775807:=by omega
   obtain ⟨vr,hcc⟩:=A5L (O:=O) h88 N N c.funs[j].term c.funs.length σ'.length c.funs.length b (σ'++[some ⟨0,.cells (bcells (List.replicate c.funs.length false)) 4⟩]) 0 (List.replicate c.funs.length false) (hsz _ hmem) (Nat.le_refl _) (hc.funs _ hmem).term hrl (hok _ hmem) (G0 _ _);rw [A0B,A0] at hcc;rw [<-A0p] at hcc;simp [h1,h3,h4,h21,h22,h23,hj,hj1,hw,hO2,hlj,hbl,hlj2,hE,hcc,hn2,hn3]
   have hrw:M5 c.funs[j].term (List.replicate c.funs.length false)=Z4 c c.funs[j].term:=rfl;rw [hrw];have hlt:σ.length<σ'.length:=Sto.lt hO2;have hO3:OutB σ l σ':=⟨hO1,vo,by rw [hB2];exact hO2⟩;have hko:Sto.at (σ'++[some ⟨vr,.cells (bcells (Z4 c c.funs[j].term)) 4⟩]) σ.length=some ⟨vo,.cells (bcells l) 4⟩:=by rw [A3p _ hlt,hB2];exact hO2
   apply E2
   ·apply C1l (b:=b) c.funs.length σ.length σ'.length cap c.funs.length hn hnN (fun l=>SoundB c l/\l[j]? =some true) (Z4 c c.funs[j].term) l (A0D _ _) hll ⟨hS,gl⟩ (v1:=.bx 0 (E9 c) 40) (v21:=.sl .fz (c.funs.map G4)) (v22:=.int .i64 c.funs.length) (v23:=.int .i64 j) (more0:=more) (ver:=vo) (verl:=vr) (hne:=by omega) (ho:=hko) (hl:=G0 _ _)
    ·exact fun m k hm hk=>⟨hm.1.set hm.2 gf hk,by
      by_cases e:k=j
      ·subst e;rw [List.getElem?_set_self (List.getElem?_eq_some_iff.1 hm.2).1]
      ·rw [List.getElem?_set_ne e];exact hm.2⟩
    ·rfl
    ·simp [h1']
    ·simp [h3]
    ·simp [h4]
    ·simp
    ·simp [h21]
    ·simp [h22]
    ·simp [h23]
   rintro ex ⟨tm,df,clk⟩ σ2 ⟨rfl,hdf,l2,more2,v2,rfl,⟨hS2,_⟩,⟨q1,q2,q3⟩,g1,g3,g4,g21,g22,g23⟩;simp only at hdf g1 g3 g4 g21 g22 g23;subst hdf;simp [g23,hw];rw [hI];refine ⟨⟨rfl,l2,more2,(hO3.push _).put _ _,hS2,⟨hr.1.trans q1,?_⟩,by simp [g1],by simp [g3],by simp [g4]⟩,by simp [g21],by simp [g22],by simp⟩;rcases q3 with ⟨rfl,rfl⟩|⟨rfl,q3⟩
   ·rcases hr.2 with ⟨e1,e2,e3⟩|h
    ·exact .inl ⟨e1,e2,fun i f hi ht hf=>by
      by_cases e:i=j
      ·subst e;obtain rfl:=Option.some.inj (gf.symm.trans hf);exact ⟨by rw [A0D];exact hll.symm,fun k hk=>q2 k (by have:=(List.getElem?_eq_some_iff.1 hk).1;rw [A0D] at this;exact this) hk⟩
      ·exact e3 i f (by omega) ht hf⟩
    ·exact .inr h
   ·refine .inr ⟨rfl,?_⟩;rcases hr.2 with ⟨_,rfl,_⟩|⟨_,h⟩<;>omega
 ·rw [hI];rintro ⟨tm,df,clk⟩ σ' ⟨hs,h21,h22,h23⟩;simp [h22,h23];rw [hR];obtain ⟨rfl,l,more,hO,hS,hr,h1,h3,h4⟩:=hs;exact ⟨rfl,rfl,l,more,hO,hS,hr,by simp [h1],by simp [h3],by simp [h4]⟩
 ·rw [hR];rintro ex ⟨tm,df,clk⟩ σ' ⟨rfl,hs⟩;simp;exact hs
theorem A4g {σ2:Sto} {k0 j ver e:Nat} (n c:Nat) (l:List Bool) (hj:k0<=j) (hk:σ2.at j=some ⟨ver,.cells (bcells l) e⟩) (hc:Nat.blt c D3=true):X8 σ2 k0 (n+1) (.ref j 0 1 l.length c)=.sl .fz (l.map K0):=by
 have h1:=A6o l;have h2:((bcells l).take l.length).any D1=false:=by
  have:(bcells l).length=l.length:=by simp [bcells]
  rw [<-this,List.take_length];unfold bcells;rw [List.any_eq_false];intro x hx;obtain ⟨q,_,rfl⟩:=List.mem_map.1 hx;simp [D1]
 have h3:∀l:List Bool,(l.map K0).map (fun ch=>ch.map (X8 σ2 k0 n))=l.map K0:=fun l=>by
  rw [List.map_map];apply List.map_congr_left;intro x _;cases n<;>rfl
 have hb:Nat.ble k0 j=true:=by rw [D4];exact decide_eq_true hj
 unfold X8;rw [hb,hk];have hle:(Nat.ble (0+l.length*1) (bcells l).length&& !(((bcells l).drop 0).take (l.length*1)).any D1&&(Nat.blt c D3||Nat.beq c (D3+1)))=true:=by
  rw [List.drop_zero,Nat.mul_one,h2,hc];simp [bcells]
 dsimp only;rw [hle];simp only [List.drop_zero,h1,h3]
def S1 (c:PCore) (cap:Nat) (σ:Sto) (a':TAct) (σ':Sto):Prop:=a'.df=[]/\∃l,OutB σ l σ'/\IsReach c l/\a'.tm.get 3=some (.ref σ.length 0 1 c.funs.length cap)
theorem C1n {N b:Nat} (h88:F 88=some f1088) (c:PCore) (hc:OkC c) (hn:c.funs.length<=1000) (hnN:c.funs.length+1<N) (hok:∀f∈c.funs,F1 c.funs.length f.term=true) (hsz:∀f∈c.funs,E3 f.term<=N)
  (cap:Nat) (σ:Sto) (a:TAct) (σ1:Sto) (hO:OutB σ (Z4 c c.query.term) σ1)
  (hdf:a.df=[]) (h1:a.tm.get 1=some (.bx 0 (E9 c) 40)) (h3:a.tm.get 3=some (.ref σ.length 0 1 c.funs.length cap)):
  Tw A6h b (A4 F O N) N (fun ex a' σ'=>ex=.normal/\S1 c cap σ a' σ') [] (B6 A6h b (A4 F O N) N B9M a σ1):=by
 obtain ⟨tm,df,clk⟩:=a;simp only at hdf h1 h3;subst hdf;simp [B9M]
 obtain ⟨I,hI⟩:∃I:Nat->TAct->Sto->Prop,I=(fun j a' σ'=>a'.df=[]/\∃l more,OutB σ l σ'/\SoundB c l/\(more=true/\j<=A99 l\/more=false/\j<=A99 l+1/\∀(i:Nat) (f:PBody),l[i]? =some true->c.funs[i]? =some f->LeB (Z4 c f.term) l)/\a'.tm.get 1=some (.bx 0 (E9 c) 40)/\a'.tm.get 3=some (.ref σ.length 0 1 c.funs.length cap)/\a'.tm.get 4=some (.bool more)):=⟨_,rfl⟩
 obtain ⟨R,hR⟩:∃R:TEx->TAct->Sto->Prop,R=(fun ex a' σ'=>ex=.exit 0/\S1 c cap σ a' σ'):=⟨_,rfl⟩;refine B8U I (c.funs.length+1) R ?_ (by omega) ?_ ?_ ?_
 ·rw [hI];exact ⟨rfl,_,true,hO,SoundB.start c,.inl ⟨rfl,by omega⟩,by simp [h1],by simp [h3],by simp⟩
 ·rw [hI];rintro j ⟨tm,df,clk⟩ σ' ⟨_,l,more,_,hS,h,_⟩;have:=B9H l;have:=hS.len;rcases h with ⟨_,h⟩|⟨_,h,_⟩<;>omega
 ·rw [hI];rintro j ⟨tm,df,clk⟩ σ' ⟨rfl,l,more,hO,hS,h,h1,h3,h4⟩;rw [<-hI];simp only at h1 h3 h4;rcases h with ⟨rfl,h⟩|⟨rfl,h,hcl⟩
  ·simp [h4];apply E2
   ·apply C1m (b:=b) h88 c hc hn (by omega) hok hsz l cap σ _ _ hO hS
    ·rfl
    ·simp [h1]
    ·simp [h3]
    ·simp
   rintro ex ⟨tm,df,clk⟩ σ2 ⟨rfl,hdf,l2,more2,hO2,hS2,⟨q1,q2⟩,g1,g3,g4⟩;simp only at hdf g1 g3 g4;subst hdf;simp;rw [hI];refine ⟨rfl,l2,more2,hO2,hS2,?_,g1,g3,g4⟩;rcases q2 with ⟨e1,rfl,e3⟩|⟨e1,e2⟩
   ·exact .inr ⟨e1,by omega,fun i f hi hf=>e3 i f (List.getElem?_eq_some_iff.1 hf).1 hi hf⟩
   ·exact .inl ⟨e1,by omega⟩
  ·simp [h4];rw [hR];exact ⟨rfl,rfl,l,hO,hS.done hcl,by simp [h3]⟩
 ·rw [hR];rintro ex ⟨tm,df,clk⟩ σ' ⟨rfl,hs⟩;simp;exact hs
theorem A6q (h48:F 48=some f1048) (h88:F 88=some f1088) (c:PCore) (hc:OkC c) (hn:c.funs.length<=1000) (N b:Nat) (σ:Sto) (hnN:c.funs.length+1<N) (hok:∀f∈c.funs,F1 c.funs.length f.term=true) (hokq:F1 c.funs.length c.query.term=true) (hsz:∀f∈c.funs,E3 f.term<=N) (hszq:E3 c.query.term<=N):
  ∃l,IsReach c l/\A4 F O (N+1) b 48 [.agg (E9 c)] σ=some (.ret (.sl .fz (l.map K0)),σ):=by
 suffices hh:∃e' σ',A4 F O (N+1) b 48 [.agg (E9 c)] σ=some (e',σ')/\∃l,IsReach c l/\e'=.ret (.sl .fz (l.map K0))/\σ'=σ by
  obtain ⟨e',σ',h1,l,hl,rfl,rfl⟩:=hh;exact ⟨l,hl,h1⟩
 refine D5 h48 ?_;have hrl:(List.replicate c.funs.length false).length=c.funs.length:=by simp
 have hn2:c.funs.length<=281474976710656:=by omega
 have hn3:c.funs.length<=9223372036854775807:=by omega
 obtain ⟨vr,hcc⟩:=A5L (O:=O) h88 N N c.query.term c.funs.length σ.length c.funs.length σ.length (σ++[some ⟨0,.cells (bcells (List.replicate c.funs.length false)) 4⟩]) 0 (List.replicate c.funs.length false) hszq (Nat.le_refl _) hc.query.term hrl hokq (G0 _ _);rw [A0B,A0] at hcc;rw [<-A0p] at hcc;have hrw:M5 c.query.term (List.replicate c.funs.length false)=Z4 c c.query.term:=rfl;rw [hrw] at hcc
 simp [B7m,A7 c,hn2,hn3,hcc];apply E2
 ·apply C1n (b:=σ.length) h88 c hc hn hnN hok hsz c.funs.length σ
  ·exact ⟨by simp,vr,G0 _ _⟩
  ·rfl
  ·simp [A7 c]
  ·simp
 rintro ex ⟨tm,df,clk⟩ σ2 ⟨rfl,hdf,l,⟨hO1,vo,hO2⟩,hR,g3⟩;simp only at hdf g3;subst hdf;have hll:(bcells l).length=c.funs.length:=by simp [bcells,hR.len]
 have hth:=A4g (σ2:=σ2) (k0:=σ.length) 3 c.funs.length l (Nat.le_refl _) hO2 (by rw [G6];exact decide_eq_true (by unfold D3;omega));rw [hR.len] at hth;have hbb:=V5 σ.length K0 (A7W σ.length) l;simp [g3,-X8,hth,hO1,hbb];exact ⟨l,hR,rfl⟩
end
section
open Go Go.Xe Go.Xt
mutual
def H2 (to:List Int):PTerm->Int->PTerm×Int
 |.mk k n m v o ks,s=>(.mk k (if k=12 then s else if k=3 then (to[n.toNat]?).getD 0 else n) m v o (D0 to ks (if k=12 then s+1 else s)).1,(D0 to ks (if k=12 then s+1 else s)).2)
def D0 (to:List Int):List PTerm->Int->List PTerm×Int
 |[],s=>([],s)
 |t::l,s=>((H2 to t s).1::(D0 to l (H2 to t s).2).1,(D0 to l (H2 to t s).2).2)
end
def A1D (to:List Int) (t:PTerm) (s:Int):Int:=if t.kind=12 then s else if t.kind=3 then (to[t.n.toNat]?).getD 0 else t.n
def U0 (t:PTerm) (s:Int):Int:=if t.kind=12 then s+1 else s
theorem A5e (to:List Int) (t:PTerm) (s:Int):H2 to t s=(.mk t.kind (A1D to t s) t.m t.val t.odds (D0 to t.kids (U0 t s)).1,(D0 to t.kids (U0 t s)).2):=by cases t;rw [H2];rfl
theorem A2s (to:List Int):∀(a b:List PTerm) (s:Int),D0 to (a++b) s=((D0 to a s).1++(D0 to b (D0 to a s).2).1,(D0 to b (D0 to a s).2).2)
 |[],b,s=>by simp [D0]
 |t::r,b,s=>by rw [List.cons_append,D0,A2s to r b,D0];rfl
theorem A3q (to:List Int):∀(a:List PTerm) (s:Int),(D0 to a s).1.length=a.length
 |[],s=>by simp [D0]
 |t::r,s=>by simp [D0,A3q to r]
theorem A16 (to:List Int):∀(M:Nat) (t:PTerm) (s:Int),E3 t<=M->s<=(H2 to t s).2/\(H2 to t s).2<=s+cntT t
 |0,t,s,h=>by rw [B5] at h;omega
 |M+1,t,s,h=>by
  have hs:=B5 t;have hcd:=J8 t;have key:∀(l:List PTerm) (s:Int),(∀x∈l,E3 x<=M)->s<=(D0 to l s).2/\(D0 to l s).2<=s+F7 l:=by
   intro l
   induction l with
   |nil=>grind [D0,F7]
   |cons x l ih=>
    intro s hx;have h1:=A16 to M x s (hx x (by simp));grind [H2,D0,F7]
  have:=key t.kids (U0 t s) (fun x hx=>by have:=D9 _ _ hx;omega);grind [A5e,U0]
theorem A4h (to:List Int):∀(l:List PTerm) (s:Int),s<=(D0 to l s).2/\(D0 to l s).2<=s+F7 l
 |[],s=>by simp [D0,F7]
 |x::l,s=>by
  have h1:=A16 to _ x s (Nat.le_refl _);have h2:=A4h to l (H2 to x s).2;grind [D0,F7]
variable {F:FuncId->Option TFun} {O:FuncId->List TV->Option TV}
def B4X:XCode:=(by exact fun x _=>x:V0 (gT x1050.body [1,1,1,1,0])) _ (by conv=>lhs;cbv)
theorem A5N:x1050=(by exact fun x _=>x:V1 (fun a=>({x1050 with body:=pT (x1050.body) [1,1,1,1,0] a}:XFun))) _ (by intros;conv=>lhs;cbv) B4X:=rfl
theorem A8A {l:List PTerm} {j:Nat} (hj:j<l.length):F7 (l.take j)+cntT l[j]<=F7 l:=by
 induction l generalizing j with
 |nil=>simp at hj
 |cons x l ih=>
  cases j with
  |zero=>simp [F7]
  |succ j=>grind [F7]
theorem A8B {N b:Nat} (kids:List PTerm) (C:List TV) (hC:C.length=8) (hC7:C[7]? =some (.sl .fz (kids.map A5))) (hlen:kids.length<=maxLen) (hkl:kids.length<=1000000) (hN:kids.length<N) (to:List Int) (kt n cap:Nat) (s:Int) (a:TAct) (σ:Sto) (v6:TV)
  (hs0:0<=s) (hs1:s+F7 kids<=1000000) (hc:∀x∈kids,∀(b:Nat) (s:Int),0<=s->s+cntT x<=1000000->A4 F O N b 50 [.agg (A5 x),.ref kt 0 1 n cap,.int .i64 s] σ=some (.ret (.tuple [.agg (A5 (H2 to x s).1),.int .i64 (H2 to x s).2]),σ))
  (hdf:a.df=[]) (h1:a.tm.get 1=some (.ref kt 0 1 n cap)) (h2:a.tm.get 2=some (.int .i64 s)) (h3:a.tm.get 3=some (.bx 0 C 28)) (h6:a.tm.get 6=some v6) (h8:a.tm.get 8=some (.sl .nl [])):
  Tw B5D b (A4 F O N) N (fun ex a' σ'=>ex=.normal/\σ'=σ/\a'.df=[]/\a'.tm.get 2=some (.int .i64 (D0 to kids s).2)/\a'.tm.get 3=some (.bx 0 C 28)/\a'.tm.get 6=some v6/\∃v,Bld 28 8 A5 (D0 to kids s).1 v/\a'.tm.get 8=some v) [] (B6 B5D b (A4 F O N) N B4X a σ):=by
 obtain ⟨tm,df,clk⟩:=a;simp only at hdf h1 h2 h3 h6 h8;subst hdf;obtain ⟨c0,c1,c2,c3,c4,c5,c6,c7,rfl⟩:=len8 hC;simp at hC7;subst hC7;simp [B4X,h3]
 obtain ⟨I,hI⟩:∃I:Nat->TAct->Sto->Prop,I=(fun j a' σ'=>a'.df=[]/\σ'=σ/\a'.tm.get 1=some (.ref kt 0 1 n cap)/\a'.tm.get 2=some (.int .i64 (D0 to (kids.take j) s).2)/\a'.tm.get 3=some (.bx 0 [c0,c1,c2,c3,c4,c5,c6,.sl .fz (kids.map A5)] 28)/\a'.tm.get 6=some v6/\(∃v,Bld 28 8 A5 (D0 to (kids.take j) s).1 v/\a'.tm.get 8=some v)/\
  a'.tm.get 33=some (.sl .fz (kids.map A5))/\a'.tm.get 34=some (.int .i64 kids.length)/\a'.tm.get 35=some (.int .i64 j)):=⟨_,rfl⟩
 obtain ⟨R,hR⟩:∃R:TEx->TAct->Sto->Prop,R=(fun ex a' σ'=>ex=.exit 0/\σ'=σ/\a'.df=[]/\a'.tm.get 2=some (.int .i64 (D0 to kids s).2)/\a'.tm.get 3=some (.bx 0 [c0,c1,c2,c3,c4,c5,c6,.sl .fz (kids.map A5)] 28)/\a'.tm.get 6=some v6/\∃v,Bld 28 8 A5 (D0 to kids s).1 v/\a'.tm.get 8=some v):=⟨_,rfl⟩;refine A9 I kids.length R ?_ (by omega) ?_ ?_ ?_
 ·rw [hI];exact ⟨rfl,rfl,by simp [h1],by simp [h2,D0],by simp [h3],by simp [h6],⟨_,.nl,by simp [h8]⟩,by simp,by simp,by simp⟩
 ·rw [hI];rintro j ⟨tm,df,clk⟩ σ' hj ⟨rfl,rfl,h1,h2,h3,h6,⟨v,hB,h8⟩,h33,h34,h35⟩;rw [<-hI];simp only at h1 h2 h3 h6 h8 h33 h34 h35;have hw:=C8 hj hlen;have hmem:=List.getElem_mem hj;have hb:=A4h to (kids.take j) s;have hb2:F7 (kids.take j)+cntT kids[j]<=F7 kids:=A8A hj;have hcc:=hc kids[j] hmem b (D0 to (kids.take j) s).2 (by omega) (by omega)
  have hts:D0 to (kids.take (j+1)) s=((D0 to (kids.take j) s).1++[(H2 to kids[j] (D0 to (kids.take j) s).2).1],(H2 to kids[j] (D0 to (kids.take j) s).2).2):=by
   grind [H9,A2s,D0]
  have hlt:(D0 to (kids.take j) s).1.length<=1000000:=by rw [A3q,List.length_take];omega
  have hE:=A0 kids[j];have hE2:=A0 (H2 to kids[j] (D0 to (kids.take j) s).2).1;generalize (H2 to kids[j] (D0 to (kids.take j) s).2).1=y at hcc hts hE2;generalize (H2 to kids[j] (D0 to (kids.take j) s).2).2=z at hcc hts;rw [hE,hE2] at hcc;generalize (D0 to (kids.take j) s).1=L at hB hts hlt;generalize (D0 to (kids.take j) s).2=q at*;rcases hB with _|_
  ·simp [h1,h2,h3,h6,h8,h33,h34,h35,hj,hcc,hw,hE,hE2];rw [hI];dsimp only;rw [hts];exact ⟨rfl,rfl,by simp [h1],by simp,by simp [h3],by simp [h6],⟨_,.own _,by simp [hE2]⟩,by simp [h33],by simp [h34],by simp⟩
  ·have hlen3:L.length<=1073741823:=by omega
   simp [h1,h2,h3,h6,h8,h33,h34,h35,hj,hcc,hw,hE,hE2,hlen3];rw [hI];dsimp only;rw [hts];exact ⟨rfl,rfl,by simp [h1],by simp,by simp [h3],by simp [h6],⟨_,.own _,by simp [hE2]⟩,by simp [h33],by simp [h34],by simp⟩
 ·simp_all
 simp_all
theorem B1x (h50:F 50=some f1050):∀(M N:Nat) (t:PTerm) (to:List Int) (kt n cap b:Nat) (σ:Sto) (ver:Nat) (s:Int),E3 t<=M->M<=N->OkTm t->cntT t<=3000->0<=s->s+cntT t<=1000000->to.length=n->F1 n t=true->σ.at kt=some ⟨ver,.cells (encZT to) 3⟩->
  A4 F O N b 50 [.agg (A5 t),.ref kt 0 1 n cap,.int .i64 s] σ=some (.ret (.tuple [.agg (A5 (H2 to t s).1),.int .i64 (H2 to t s).2]),σ)
 |0,N,t,to,kt,n,cap,b,σ,ver,s,h,_,_,_,_,_,_,_,_=>by rw [B5] at h;omega
 |M+1,N,t,to,kt,n,cap,b,σ,ver,s,h,hN,he,hct,hs0,hs1,htl,hok,hat=>by
  have ih:=B1x h50 M;have hs:=B5 t;have hkk:=H8 t.kids;have hcd:=J8 t;have hkl:t.kids.length<=F7 t.kids:=by
   generalize t.kids=l
   induction l with
   |nil=>exact Nat.le_refl _
   |cons x l ihl=>grind [F7,J8]
  obtain ⟨N,rfl⟩:∃n,N=n+1:=⟨N - 1,by omega⟩;rw [Y8,Bool.and_eq_true,Bool.or_eq_true,decide_eq_true_eq,decide_eq_true_eq] at hok;have hnd:=A5e to t s;have hkd:∀x∈t.kids,∀(b:Nat) (s':Int),0<=s'->s'+cntT x<=1000000->A4 F O N b 50 [.agg (A5 x),.ref kt 0 1 n cap,.int .i64 s'] σ=some (.ret (.tuple [.agg (A5 (H2 to x s').1),.int .i64 (H2 to x s').2]),σ):=fun x hx b s' h0 h1=>by
   have:=D9 _ _ hx;have:=O1 _ _ hx;exact ih N x to kt n cap b σ ver s' (by omega) (by omega) (he.sub x hx) (by omega) h0 h1 htl ((O9 _ _).1 hok.2 x hx) hat
  have h8:∀k' n',A5 (.mk k' n' t.m t.val t.odds t.kids)=[.int .i64 k',.int .i64 n',.int .i64 t.m,.int .i64 t.val.kind,.int .i64 t.val.n,.sl .fz (t.val.list.map C9),.sl .fz (t.odds.map encI),.sl .fz (t.kids.map A5)]:=fun k' n'=>A0 _
  by_cases k3:t.kind=3
  ·have hr:=hok.1.resolve_left (fun h=>h k3);obtain ⟨q,hq⟩:∃q:Nat,t.n=(q:Int):=⟨t.n.toNat,by omega⟩;rw [hq] at hr;have hq2:q<to.length:=by omega
   have e1:A1D to t s=to[q]:=by unfold A1D;rw [if_neg (by omega),if_pos k3,hq,Int.toNat_natCast,List.getElem?_eq_getElem hq2];rfl
   have e2:U0 t s=s:=by unfold U0;rw [if_neg (by omega)]
   rw [e1,e2] at hnd;have hq3:q<n:=by omega
   have hq4:q+1<=n:=hq3;have hel:(encZT to).length=n:=by rw [L7];exact htl
   have hez:∀h:q<(encZT to).length,(encZT to)[q]=.int .i64 to[q]:=fun h=>by simp [encZT]
   generalize encZT to=ez at hat hel hez;have hkd2:=hkd;refine A3 h50 ?_;simp [A5N,A0 t,k3,hq,hat,hq3,hq4,hel,hez];apply E2
   ·apply A8B t.kids [.int .i64 t.kind,.int .i64 (to[q]),.int .i64 t.m,.int .i64 t.val.kind,.int .i64 t.val.n,.sl .fz (t.val.list.map C9),.sl .fz (t.odds.map encI),.sl .fz (t.kids.map A5)] rfl rfl he.len (by omega) (by omega) to kt n cap (s) (v6:=_) (hs0:=by omega) (hs1:=by omega) (hc:=hkd2)
    ·rfl
    ·simp
    ·simp
    ·simp_all
    ·simp;rfl
    ·simp
   rintro ex ⟨tm,df,clk⟩ σ' ⟨rfl,rfl,hdf,g2,g3,g6,v,hB,g8⟩;simp only at hdf g2 g3 g6 g8;subst hdf;rw [hnd];generalize (D0 to t.kids (s)).1=L at hB ⊢;generalize (D0 to t.kids (s)).2=z at g2 ⊢;rcases hB with _|_
   ·simp [g2,g3,g6,g8,A0 (.mk _ _ _ _ _ _)];exact ⟨rfl,rfl,rfl,rfl,rfl,rfl,rfl,rfl⟩
   ·simp [g2,g3,g6,g8,A0 (.mk _ _ _ _ _ _)];exact ⟨rfl,rfl,rfl,rfl,rfl,rfl,rfl,rfl⟩
  by_cases k12:t.kind=12
  ·have e1:A1D to t s=s:=by unfold A1D;rw [if_pos k12]
   have e2:U0 t s=s+1:=by unfold U0;rw [if_pos k12]
   rw [e1,e2] at hnd;have hw:IntKind.i64.wrap (s+1)=s+1:=by rw [D7]<;>omega
   have hkd2:=hkd;refine A3 h50 ?_;simp [A5N,A0 t,k12,hw];apply E2
   ·apply A8B t.kids [.int .i64 t.kind,.int .i64 (s),.int .i64 t.m,.int .i64 t.val.kind,.int .i64 t.val.n,.sl .fz (t.val.list.map C9),.sl .fz (t.odds.map encI),.sl .fz (t.kids.map A5)] rfl rfl he.len (by omega) (by omega) to kt n cap (s+1) (v6:=_) (hs0:=by omega) (hs1:=by omega) (hc:=hkd2)
    ·rfl
    ·simp
    ·simp
    ·simp [k12,hw]
    ·simp;rfl
    ·simp
   rintro ex ⟨tm,df,clk⟩ σ' ⟨rfl,rfl,hdf,g2,g3,g6,v,hB,g8⟩;simp only at hdf g2 g3 g6 g8;subst hdf;rw [hnd];generalize (D0 to t.kids (s+1)).1=L at hB ⊢;generalize (D0 to t.kids (s+1)).2=z at g2 ⊢;rcases hB with _|_
   ·simp [g2,g3,g6,g8,A0 (.mk _ _ _ _ _ _)];exact ⟨rfl,rfl,rfl,rfl,rfl,rfl,rfl,rfl⟩
   ·simp [g2,g3,g6,g8,A0 (.mk _ _ _ _ _ _)];exact ⟨rfl,rfl,rfl,rfl,rfl,rfl,rfl,rfl⟩
  ·have e1:A1D to t s=t.n:=by unfold A1D;rw [if_neg k12,if_neg k3]
   have e2:U0 t s=s:=by unfold U0;rw [if_neg k12]
   rw [e1,e2] at hnd;have hkd2:=hkd;refine A3 h50 ?_;simp [A5N,A0 t,k3,k12];apply E2
   ·apply A8B t.kids [.int .i64 t.kind,.int .i64 (t.n),.int .i64 t.m,.int .i64 t.val.kind,.int .i64 t.val.n,.sl .fz (t.val.list.map C9),.sl .fz (t.odds.map encI),.sl .fz (t.kids.map A5)] rfl rfl he.len (by omega) (by omega) to kt n cap (s) (v6:=_) (hs0:=by omega) (hs1:=by omega) (hc:=hkd2)
    ·rfl
    ·simp
    ·simp
    ·simp [k3,k12]
    ·simp;rfl
    ·simp
   rintro ex ⟨tm,df,clk⟩ σ' ⟨rfl,rfl,hdf,g2,g3,g6,v,hB,g8⟩;simp only at hdf g2 g3 g6 g8;subst hdf;rw [hnd];generalize (D0 to t.kids (s)).1=L at hB ⊢;generalize (D0 to t.kids (s)).2=z at g2 ⊢;rcases hB with _|_
   ·simp [g2,g3,g6,g8,A0 (.mk _ _ _ _ _ _)];exact ⟨rfl,rfl,rfl,rfl,rfl,rfl,rfl,rfl⟩
   ·simp [g2,g3,g6,g8,A0 (.mk _ _ _ _ _ _)];exact ⟨rfl,rfl,rfl,rfl,rfl,rfl,rfl,rfl⟩
theorem B7n (x:PBody):(G4 x).length=10:=by rw [B9];rfl
theorem B9N (b:Nat) (x:PBody):below.belows b (G4 x)=true:=by
 have:=A8f b _ x.term (Nat.le_refl _);rw [G4]
 simpa [below.belows,below] using this
theorem B4Y (b:Nat) (l:List PBody):below.belowss b (l.map G4)=true:=V5 b G4 (B9N b) l
theorem A8C (b:Nat) (l:List PTyp):below.belowss b (l.map K2)=true:=V5 b K2 (B4A b).1 l
theorem B4Z (b:Nat) (l:List Bool):below.belowss b (l.map K0)=true:=V5 b K0 (A7W b) l
theorem A25 (x:PTyp):(K2 x).length=2:=by rw [F6];rfl
attribute [simp] B7n B4Y A8C B4Z A25
def slB (b:PBody):PBody:=⟨b.params,b.slots,lessT b.term⟩
def slC (c:PCore):PCore:=⟨c.types,c.funs.map slB,slB c.query,c.sites⟩
variable {F:FuncId->Option TFun} {O:FuncId->List TV->Option TV}
def B50:XCode:=(by exact fun x _=>x:V0 (gT x1047.body [1,1,1,0])) _ (by conv=>lhs;cbv)
theorem B7o:x1047=(by exact fun x _=>x:V1 (fun a=>({x1047 with body:=pT (x1047.body) [1,1,1,0] a}:XFun))) _ (by intros;conv=>lhs;cbv) B50:=rfl
theorem B9O {N b:Nat} (h41:F 41=some f1041) (L:LFits F O) (c:PCore) (hc:OkC c) (hfl:c.funs.length<=1000000) (hN:c.funs.length<N) (hz:∀f∈c.funs,5*E3 f.term+100100<=N/\cntT f.term<=3000)
  (a:TAct) (σ:Sto) (v2 t0:TV) (Q:List TV) (s3:Nat) (hQ:Q.length=11)
  (hdf:a.df=[]) (h1:a.tm.get 1=some (.bx 0 (E9 c) 40)) (h2:a.tm.get 2=some v2) (h3:a.tm.get 3=some (.bx s3 (t0::.sl .nl []::Q) 40)):
  Tw B5B b (A4 F O N) N (fun ex a' σ'=>ex=.normal/\σ'=σ/\a'.df=[]/\a'.tm.get 1=some (.bx 0 (E9 c) 40)/\a'.tm.get 2=some v2/\∃v,Bld 38 10 G4 (c.funs.map slB) v/\a'.tm.get 3=some (.bx s3 (t0::v::Q) 40)) [] (B6 B5B b (A4 F O N) N B50 a σ):=by
 obtain ⟨tm,df,clk⟩:=a;simp only at hdf h1 h2 h3;subst hdf;obtain ⟨q0,q1,q2,q3,q4,q5,q6,q7,q8,q9,q10,rfl⟩:∃a b c d e f g h i j k,Q=[a,b,c,d,e,f,g,h,i,j,k]:=by
  match Q,hQ with|[a,b,c,d,e,f,g,h,i,j,k],_=>exact ⟨a,b,c,d,e,f,g,h,i,j,k,rfl⟩
 have h1':=h1;rw [A7] at h1;simp [B50,h1]
 obtain ⟨I,hI⟩:∃I:Nat->TAct->Sto->Prop,I=(fun j a' σ'=>a'.df=[]/\σ'=σ/\a'.tm.get 1=some (.bx 0 (E9 c) 40)/\a'.tm.get 2=some v2/\(∃v,Bld 38 10 G4 ((c.funs.take j).map slB) v/\a'.tm.get 3=some (.bx s3 [t0,v,q0,q1,q2,q3,q4,q5,q6,q7,q8,q9,q10] 40))/\
  a'.tm.get 9=some (.sl .fz (c.funs.map G4))/\a'.tm.get 10=some (.int .i64 c.funs.length)/\a'.tm.get 11=some (.int .i64 j)):=⟨_,rfl⟩
 obtain ⟨R,hR⟩:∃R:TEx->TAct->Sto->Prop,R=(fun ex a' σ'=>ex=.exit 0/\σ'=σ/\a'.df=[]/\a'.tm.get 1=some (.bx 0 (E9 c) 40)/\a'.tm.get 2=some v2/\∃v,Bld 38 10 G4 (c.funs.map slB) v/\a'.tm.get 3=some (.bx s3 [t0,v,q0,q1,q2,q3,q4,q5,q6,q7,q8,q9,q10] 40)):=⟨_,rfl⟩;refine A9 I c.funs.length R ?_ (by omega) ?_ ?_ ?_
 ·rw [hI];exact ⟨rfl,rfl,by simp [h1'],by simp [h2],⟨_,.nl,by simp [h3]⟩,by simp,by simp,by simp⟩
 ·rw [hI];rintro j ⟨tm,df,clk⟩ σ' hj ⟨rfl,rfl,h1,h2,⟨v,hB,h3⟩,h9,h10,h11⟩;rw [<-hI];simp only at h1 h2 h3 h9 h10 h11;have hw:=C8 hj hc.flen;have hmem:=List.getElem_mem hj;have hcc:=A8i (O:=O) h41 L (E3 c.funs[j].term) N c.funs[j].term b σ' (Nat.le_refl _) (hz _ hmem).1 (hc.funs _ hmem).term (hz _ hmem).2
  have hts:(c.funs.take (j+1)).map slB=(c.funs.take j).map slB++[slB c.funs[j]]:=by rw [H9 hj,List.map_append];rfl
  have hlt:((c.funs.take j).map slB).length<=1000000:=by rw [List.length_map,List.length_take];omega
  have hE:=B9 c.funs[j];have hE2:G4 (slB c.funs[j])=_:=B9 (slB c.funs[j]);simp only [slB] at hE2;have hE3:=A0 (lessT c.funs[j].term);rw [A0,hE3] at hcc;have hbb:slB c.funs[j]=⟨c.funs[j].params,c.funs[j].slots,lessT c.funs[j].term⟩:=rfl;rw [hbb] at hts;generalize lessT c.funs[j].term=y at hcc hts hE2 hE3;generalize (c.funs.take j).map slB=L at hB hts hlt;rcases hB with _|_
  ·simp [h1,h2,h3,h9,h10,h11,hj,hcc,hw,hE,hE2];rw [hI];dsimp only;rw [hts];exact ⟨rfl,rfl,by simp [h1],by simp [h2],⟨_,.own _,by simp [hE2]⟩,by simp [h9],by simp [h10],by simp⟩
  ·have hlen3:L.length<=1073741823:=by omega
   simp [h1,h2,h3,h9,h10,h11,hj,hcc,hw,hE,hE2,hlen3];rw [hI];dsimp only;rw [hts];exact ⟨rfl,rfl,by simp [h1],by simp [h2],⟨_,.own _,by simp [hE2]⟩,by simp [h9],by simp [h10],by simp⟩
 ·rw [hI];rintro ⟨tm,df,clk⟩ σ' ⟨rfl,rfl,h1,h2,⟨v,hB,h3⟩,h9,h10,h11⟩;rw [List.take_of_length_le (Nat.le_refl _)] at hB;simp [h10,h11];rw [hR];exact ⟨rfl,rfl,rfl,by simp [h1],by simp [h2],v,hB,by simp [h3]⟩
 ·rw [hR];rintro ex ⟨tm,df,clk⟩ σ' ⟨rfl,rfl,rfl,h1,h2,v,hB,h3⟩;simp;exact ⟨h1,h2,v,hB,h3⟩
theorem A8D (h47:F 47=some f1047) (h41:F 41=some f1041) (L:LFits F O) (c:PCore) (hc:OkC c) (hfl:c.funs.length<=1000000) (N b:Nat) (σ:Sto) (hN:c.funs.length<N) (hz:∀f∈c.funs,5*E3 f.term+100100<=N/\cntT f.term<=3000) (hzq:5*E3 c.query.term+100100<=N/\cntT c.query.term<=3000):
  A4 F O (N+1) b 47 [.agg (E9 c)] σ=some (.ret (.agg (E9 (slC c))),σ):=by
 have hcc:=A8i (O:=O) h41 L (E3 c.query.term) N c.query.term σ.length σ (Nat.le_refl _) hzq.1 hc.query.term hzq.2;have hE3:=A0 (lessT c.query.term);rw [A0,hE3] at hcc;refine A3 h47 ?_;simp [B7o,A7 c];apply E2
 ·apply B9O h41 L c hc hfl hN hz (v2:=_) (s3:=_) (t0:=.sl .fz (c.types.map K2)) (Q:=[.int .i64 c.query.params,.int .i64 c.query.slots,.int .i64 c.query.term.kind,.int .i64 c.query.term.n,.int .i64 c.query.term.m,.int .i64 c.query.term.val.kind,.int .i64 c.query.term.val.n,.sl .fz (c.query.term.val.list.map C9),.sl .fz (c.query.term.odds.map encI),.sl .fz (c.query.term.kids.map A5),.int .i64 c.sites]) (hQ:=rfl)
  ·rfl
  ·simp [A7 c]
  ·simp;rfl
  ·simp;rfl
 rintro ex ⟨tm,df,clk⟩ σ' ⟨rfl,rfl,hdf,g1,g2,v,hB,g3⟩;simp only at hdf g1 g2 g3;subst hdf;rw [A7] at g1;have hR:E9 (slC c)=_:=A7 (slC c);simp only [slC,slB] at hR;rw [show slC c=⟨c.types,c.funs.map slB,⟨c.query.params,c.query.slots,lessT c.query.term⟩,c.sites⟩ from rfl,hR];clear hR;generalize c.funs.map slB=L at hB;generalize lessT c.query.term=y at hcc hE3;rcases hB with _|_
 ·simp [g1,g2,g3,hcc]
 ·simp [g1,g2,g3,hcc]
inductive LtTy:PTyp->Prop
 |mk {t:PTyp}:t.list.length<=1000000->(∀x∈t.list,LtTy x)->LtTy t
theorem LtTy.len {t:PTyp}:LtTy t->t.list.length<=1000000
 |.mk h _=>h
theorem LtTy.sub {t:PTyp}:LtTy t->∀x∈t.list,LtTy x
 |.mk _ h=>h
theorem B1y:∀(n:Nat) (t:PTyp),C7 n (A2E t)=true->LtTy t
 |0,t,h=>by unfold C7 at h;cases h
 |n+1,t,h=>by
  have hk:(A2E t).kind=t.kind:=by cases t;rfl
  have hl:(A2E t).list=t.list.map A2E:=by cases t;simp only [A2E,QTyp.list,PTyp.list,A7Z]
  unfold C7 at h;rw [hl,hk,List.length_map] at h
  by_cases h1:t.kind=1\/t.kind=2
  ·rw [if_pos h1,decide_eq_true_eq] at h;exact .mk (by omega) fun x hx=>by have:=List.length_pos_of_mem hx;omega
  rw [if_neg h1] at h
  by_cases h3:t.kind=3
  ·rw [if_pos h3,Bool.and_eq_true,decide_eq_true_eq] at h;exact .mk (by omega) fun x hx=>B1y n x (List.all_eq_true.1 h.2 _ (List.mem_map_of_mem hx))
  rw [if_neg h3] at h
  by_cases h4:t.kind=4
  ·rw [if_pos h4,Bool.and_eq_true,decide_eq_true_eq] at h;exact .mk (by omega) fun x hx=>B1y n x (List.all_eq_true.1 h.2 _ (List.mem_map_of_mem hx))
  rw [if_neg h4] at h;cases h
variable {F:FuncId->Option TFun} {O:FuncId->List TV->Option TV}
theorem A5O (h89:F 89=some f1089):∀(N:Nat) (l:List PTyp) (b:Nat) (σ:Sto),A1c l+1<N->l.length<=1000000->(∀t∈l,OkT t/\LtTy t)->A4 F O N b 89 [.sl .fz (l.map K2)] σ=some (.ret (.sl .fz (l.map K2)),σ)
 |0,l,b,σ,h,_,_=>by omega
 |N+1,l,b,σ,h,hlen,hok=>by
  have ih:=A5O h89 N;have hk:=A0w l;refine A3 h89 ?_;simp [x1089];obtain ⟨I,hI⟩:∃I:Nat->TAct->Sto->Prop,I=(fun j a' σ'=>a'.df=[]/\σ'=σ/\(∃v,Bld 66 2 K2 (l.take j) v/\a'.tm.get 3=some v)/\a'.tm.get 6=some (.sl .fz (l.map K2))/\a'.tm.get 7=some (.int .i64 l.length)/\a'.tm.get 8=some (.int .i64 j)):=⟨_,rfl⟩
  obtain ⟨R,hR⟩:∃R:TEx->TAct->Sto->Prop,R=(fun ex a' σ'=>ex=.exit 0/\a'.df=[]/\σ'=σ/\∃v,Bld 66 2 K2 l v/\a'.tm.get 3=some v):=⟨_,rfl⟩;refine A9 I l.length R ?_ (by omega) ?_ ?_ ?_
  ·rw [hI];exact ⟨rfl,rfl,⟨_,.nl,by simp⟩,by simp,by simp,by simp⟩
  ·rw [hI];rintro j ⟨tm,df,clk⟩ σ' hj ⟨rfl,rfl,⟨v,hB,h3⟩,h6,h7,h8⟩;rw [<-hI];simp only at h3 h6 h7 h8;have hw:=C8 hj (by unfold maxLen;omega);have hmem:=List.getElem_mem hj;have hsz:=A02 _ _ hmem;have hsd:=A1w l[j];have hcc:=ih l[j].list σ'.length σ' (by omega) (hok _ hmem).2.len fun x hx=>⟨(hok _ hmem).1.sub x hx,(hok _ hmem).2.sub x hx⟩
   have hts:=H9 hj;have hlt:(l.take j).length<=1000000:=by rw [List.length_take];omega
   have hE:=F6 l[j];generalize l.take j=L at hB hts hlt;rcases hB with _|_
   ·simp [h3,h6,h7,h8,hj,hcc,hw,hE];rw [hI];exact ⟨rfl,rfl,⟨_,by rw [hts];exact .own _,by simp [hE]⟩,by simp [h6],by simp [h7],by simp⟩
   ·have hlen3:L.length<=1073741823:=by omega
    simp [h3,h6,h7,h8,hj,hcc,hw,hE,hlen3];rw [hI];exact ⟨rfl,rfl,⟨_,by rw [hts];exact .own _,by simp [hE]⟩,by simp [h6],by simp [h7],by simp⟩
  ·rw [hI];rintro ⟨tm,df,clk⟩ σ' ⟨rfl,rfl,⟨v,hB,h3⟩,h6,h7,h8⟩;rw [List.take_of_length_le (Nat.le_refl _)] at hB;simp [h7,h8];rw [hR];exact ⟨rfl,rfl,rfl,v,hB,by simp [h3]⟩
  ·rw [hR];rintro ex ⟨tm,df,clk⟩ σ' ⟨rfl,rfl,rfl,v,hB,h3⟩;rcases hB with _|_
   ·simp [h3]
   ·simp [h3]
theorem A8E (h90:F 90=some f1090) (h40:F 40=some f1040) (h80:F 80=some f1080) (h111:F 111=some f1111) (h81:F 81=some f67) (N:Nat) (d:PBody) (b:Nat) (σ:Sto) (h:E3 d.term<=N) (hd:OkTm d.term) (hc:cntT d.term<=1000000) (hl:Lt 1000000 d.term):
  A4 F O (N+1) b 90 [.agg (G4 d)] σ=some (.ret (.agg (G4 d)),σ):=by
 have h1:=B5T (O:=O) h40 h80 h111 h81 N d.term σ.length σ h hd hc hl;rw [A0] at h1;refine A3 h90 ?_;simp [x1090,B9,h1]
def A8F:XCode:=(by exact fun x _=>x:V0 (gT x1051.body [1,1,0])) _ (by conv=>lhs;cbv)
theorem B0w:x1051=(by exact fun x _=>x:V1 (fun a=>({x1051 with body:=pT (x1051.body) [1,1,0] a}:XFun))) _ (by intros;conv=>lhs;cbv) A8F:=rfl
theorem B9P {N b:Nat} (c:PCore) (hc:OkC c) (hfl:c.funs.length<=1000000) (hN:c.funs.length<N) (hz:∀f∈c.funs,∀b σ,A4 F O N b 90 [.agg (G4 f)] σ=some (.ret (.agg (G4 f)),σ))
  (a:TAct) (σ:Sto) (v2 t0:TV) (Q:List TV) (s3:Nat) (hQ:Q.length=11)
  (hdf:a.df=[]) (h1:a.tm.get 1=some (.bx 0 (E9 c) 40)) (h2:a.tm.get 2=some v2) (h3:a.tm.get 3=some (.bx s3 (t0::.sl .nl []::Q) 40)):
  Tw A9W b (A4 F O N) N (fun ex a' σ'=>ex=.normal/\σ'=σ/\a'.df=[]/\a'.tm.get 2=some v2/\∃v,Bld 38 10 G4 c.funs v/\a'.tm.get 3=some (.bx s3 (t0::v::Q) 40)) [] (B6 A9W b (A4 F O N) N A8F a σ):=by
 obtain ⟨tm,df,clk⟩:=a;simp only at hdf h1 h2 h3;subst hdf;obtain ⟨q0,q1,q2,q3,q4,q5,q6,q7,q8,q9,q10,rfl⟩:∃a b c d e f g h i j k,Q=[a,b,c,d,e,f,g,h,i,j,k]:=by
  match Q,hQ with|[a,b,c,d,e,f,g,h,i,j,k],_=>exact ⟨a,b,c,d,e,f,g,h,i,j,k,rfl⟩
 have h1':=h1;rw [A7] at h1;simp [A8F,h1]
 obtain ⟨I,hI⟩:∃I:Nat->TAct->Sto->Prop,I=(fun j a' σ'=>a'.df=[]/\σ'=σ/\a'.tm.get 2=some v2/\(∃v,Bld 38 10 G4 (c.funs.take j) v/\a'.tm.get 3=some (.bx s3 [t0,v,q0,q1,q2,q3,q4,q5,q6,q7,q8,q9,q10] 40))/\
  a'.tm.get 16=some (.sl .fz (c.funs.map G4))/\a'.tm.get 17=some (.int .i64 c.funs.length)/\a'.tm.get 18=some (.int .i64 j)):=⟨_,rfl⟩
 obtain ⟨R,hR⟩:∃R:TEx->TAct->Sto->Prop,R=(fun ex a' σ'=>ex=.exit 0/\σ'=σ/\a'.df=[]/\a'.tm.get 2=some v2/\∃v,Bld 38 10 G4 c.funs v/\a'.tm.get 3=some (.bx s3 [t0,v,q0,q1,q2,q3,q4,q5,q6,q7,q8,q9,q10] 40)):=⟨_,rfl⟩;refine A9 I c.funs.length R ?_ (by omega) ?_ ?_ ?_
 ·rw [hI];exact ⟨rfl,rfl,by simp [h2],⟨_,.nl,by simp [h3]⟩,by simp,by simp,by simp⟩
 ·rw [hI];rintro j ⟨tm,df,clk⟩ σ' hj ⟨rfl,rfl,h2,⟨v,hB,h3⟩,h9,h10,h11⟩;rw [<-hI];simp only at h2 h3 h9 h10 h11;have hw:=C8 hj hc.flen;have hmem:=List.getElem_mem hj;have hcc:=hz _ hmem b σ';have hts:=H9 hj;have hlt:(c.funs.take j).length<=1000000:=by rw [List.length_take];omega
  have hE:=B9 c.funs[j];rw [hE] at hcc;generalize c.funs.take j=L at hB hts hlt;rcases hB with _|_
  ·simp [h2,h3,h9,h10,h11,hj,hcc,hw,hE];rw [hI];dsimp only;rw [hts];exact ⟨rfl,rfl,by simp [h2],⟨_,.own _,by simp [hE]⟩,by simp [h9],by simp [h10],by simp⟩
  ·have hlen3:L.length<=1073741823:=by omega
   simp [h2,h3,h9,h10,h11,hj,hcc,hw,hE,hlen3];rw [hI];dsimp only;rw [hts];exact ⟨rfl,rfl,by simp [h2],⟨_,.own _,by simp [hE]⟩,by simp [h9],by simp [h10],by simp⟩
 ·rw [hI];rintro ⟨tm,df,clk⟩ σ' ⟨rfl,rfl,h2,⟨v,hB,h3⟩,h9,h10,h11⟩;rw [List.take_of_length_le (Nat.le_refl _)] at hB;simp [h10,h11];rw [hR];exact ⟨rfl,rfl,rfl,by simp [h2],v,hB,by simp [h3]⟩
 ·rw [hR];rintro ex ⟨tm,df,clk⟩ σ' ⟨rfl,rfl,rfl,h2,v,hB,h3⟩;simp;exact ⟨h2,v,hB,h3⟩
structure OFits (F:FuncId->Option TFun):Prop where
 h51:F 51=some f1051
 h89:F 89=some f1089
 h90:F 90=some f1090
 h40:F 40=some f1040
 h80:F 80=some f1080
 h111:F 111=some f1111
 h81:F 81=some f67
theorem B9Q (V:OFits F) (c:PCore) (hc:OkC c) (hfl:c.funs.length<=1000000) (htl:c.types.length<=1000000) (hty:∀t∈c.types,LtTy t) (N b:Nat) (σ:Sto) (hN:c.funs.length<N) (hzt:A1c c.types+1<N) (hz:∀f∈c.funs,E3 f.term<N/\cntT f.term<=1000000/\Lt 1000000 f.term) (hzq:E3 c.query.term<N/\cntT c.query.term<=1000000/\Lt 1000000 c.query.term):
  A4 F O (N+1) b 51 [.agg (E9 c)] σ=some (.ret (.agg (E9 c)),σ):=by
 obtain ⟨N,rfl⟩:∃n,N=n+1:=⟨N - 1,by omega⟩;have hq:=A8E (O:=O) V.h90 V.h40 V.h80 V.h111 V.h81 N c.query σ.length σ (by omega) hc.query.term hzq.2.1 hzq.2.2;have ht:=A5O (O:=O) V.h89 (N+1) c.types σ.length σ hzt htl fun t h=>⟨hc.types t h,hty t h⟩
 rw [B9] at hq;refine A3 V.h51 ?_;simp [B0w,A7 c,hq,ht];apply E2
 ·apply B9P c hc hfl hN (fun f hf b σ=>A8E V.h90 V.h40 V.h80 V.h111 V.h81 N f b σ (by have:=hz f hf;omega) (hc.funs f hf).term (hz f hf).2.1 (hz f hf).2.2) (v2:=_) (s3:=_) (t0:=.sl .fz (c.types.map K2)) (Q:=[.int .i64 c.query.params,.int .i64 c.query.slots,.int .i64 c.query.term.kind,.int .i64 c.query.term.n,.int .i64 c.query.term.m,.int .i64 c.query.term.val.kind,.int .i64 c.query.term.val.n,.sl .fz (c.query.term.val.list.map C9),.sl .fz (c.query.term.odds.map encI),.sl .fz (c.query.term.kids.map A5),.int .i64 c.sites]) (hQ:=rfl)
  ·rfl
  ·simp [A7 c]
  ·simp;rfl
  ·simp;rfl
 rintro ex ⟨tm,df,clk⟩ σ' ⟨rfl,rfl,hdf,g2,v,hB,g3⟩;simp only at hdf g2 g3;subst hdf;generalize c.funs=L at hB ⊢;rcases hB with _|_
 ·simp [g2,g3]
 ·simp [g2,g3]
end
section
open Go Go.Xe Go.Xt
variable {F:FuncId->Option TFun} {O:FuncId->List TV->Option TV}
def B51:XCode:=(by exact fun x _=>x:V0 (gT x1093.body [1,1,1,0])) _ (by conv=>lhs;cbv)
theorem A5P:x1093=(by exact fun x _=>x:V1 (fun a=>({x1093 with body:=pT (x1093.body) [1,1,1,0] a}:XFun))) _ (by intros;conv=>lhs;cbv) B51:=rfl
theorem A8G {N b:Nat} (kids:List PTerm) (C:List TV) (hC:C.length=8) (hC7:C[7]? =some (.sl .fz (kids.map A5))) (hlen:kids.length<=maxLen) (hkl:kids.length<=1000000) (hN:kids.length<N) (to:List Int) (m:Md) (hm:m=.fz\/m=.nl/\to=[]) (kc:Nat) (s:Int) (a:TAct) (σ:Sto) (v6:TV) (ver:Nat) (hat:σ.at kc=some ⟨ver,.cells [.int .i64 s] 113⟩)
  (hs0:0<=s) (hs1:s+F7 kids<=1000000) (hc:∀x∈kids,∀(b:Nat) (σ:Sto) (ver:Nat) (s:Int),0<=s->s+cntT x<=1000000->σ.at kc=some ⟨ver,.cells [.int .i64 s] 113⟩->∃ver',A4 F O N b 93 [.ptr kc 0,.agg (A5 x),.sl m (to.map encI)] σ=some (.ret (.agg (A5 (H2 to x s).1)),σ.set kc (some ⟨ver',.cells [.int .i64 (H2 to x s).2] 113⟩)))
  (hdf:a.df=[]) (h0:a.tm.get 0=some (.ptr kc 0)) (h2:a.tm.get 2=some (.sl m (to.map encI))) (h4:a.tm.get 4=some (.bx 0 C 28)) (h6:a.tm.get 6=some v6) (h7:a.tm.get 7=some (.sl .nl [])):
  Tw B5G b (A4 F O N) N (fun ex a' σ'=>ex=.normal/\(∃ver',σ'=σ.set kc (some ⟨ver',.cells [.int .i64 (D0 to kids s).2] 113⟩))/\a'.df=[]/\a'.tm.get 4=some (.bx 0 C 28)/\a'.tm.get 6=some v6/\∃v,Bld 28 8 A5 (D0 to kids s).1 v/\a'.tm.get 7=some v) [] (B6 B5G b (A4 F O N) N B51 a σ):=by
 obtain ⟨tm,df,clk⟩:=a;simp only at hdf h0 h2 h4 h6 h7;subst hdf;have hkl2:=Sto.lt hat;obtain ⟨c0,c1,c2,c3,c4,c5,c6,c7,rfl⟩:=len8 hC;simp at hC7;subst hC7;simp [B51]
 obtain ⟨I,hI⟩:∃I:Nat->TAct->Sto->Prop,I=(fun j a' σ'=>a'.df=[]/\(∃ver',σ'=σ.set kc (some ⟨ver',.cells [.int .i64 (D0 to (kids.take j) s).2] 113⟩))/\a'.tm.get 0=some (.ptr kc 0)/\a'.tm.get 2=some (.sl m (to.map encI))/\a'.tm.get 4=some (.bx 0 [c0,c1,c2,c3,c4,c5,c6,.sl .fz (kids.map A5)] 28)/\a'.tm.get 6=some v6/\(∃v,Bld 28 8 A5 (D0 to (kids.take j) s).1 v/\a'.tm.get 7=some v)/\a'.tm.get 8=some (.int .i64 j)):=⟨_,rfl⟩
 obtain ⟨R,hR⟩:∃R:TEx->TAct->Sto->Prop,R=(fun ex a' σ'=>ex=.exit 1/\(∃ver',σ'=σ.set kc (some ⟨ver',.cells [.int .i64 (D0 to kids s).2] 113⟩))/\a'.df=[]/\a'.tm.get 4=some (.bx 0 [c0,c1,c2,c3,c4,c5,c6,.sl .fz (kids.map A5)] 28)/\a'.tm.get 6=some v6/\∃v,Bld 28 8 A5 (D0 to kids s).1 v/\a'.tm.get 7=some v):=⟨_,rfl⟩;refine A9 I kids.length R ?_ (by omega) ?_ ?_ ?_
 ·rw [hI];exact ⟨rfl,⟨ver,by simp only [List.take_zero,D0];exact (A5K hat).symm⟩,by simp [h0],by simp [h2],by simp [h4],by simp [h6],⟨_,by simp only [List.take_zero,D0];exact .nl,by simp [h7]⟩,by simp⟩
 ·rw [hI];rintro j ⟨tm,df,clk⟩ σ' hj ⟨rfl,⟨v1,rfl⟩,h0,h2,h4,h6,⟨v,hB,h7⟩,h8⟩;rw [<-hI];simp only at h0 h2 h4 h6 h7 h8;have hw:=C8 hj hlen;have hmem:=List.getElem_mem hj;have hb:=A4h to (kids.take j) s;have hb2:F7 (kids.take j)+cntT kids[j]<=F7 kids:=A8A hj
  obtain ⟨v2,hcc⟩:=hc kids[j] hmem b (σ.set kc (some ⟨v1,.cells [.int .i64 (D0 to (kids.take j) s).2] 113⟩)) v1 (D0 to (kids.take j) s).2 (by omega) (by omega) (by simp [Sto.at,hkl2]);have hts:D0 to (kids.take (j+1)) s=((D0 to (kids.take j) s).1++[(H2 to kids[j] (D0 to (kids.take j) s).2).1],(H2 to kids[j] (D0 to (kids.take j) s).2).2):=by
   grind [H9,A2s,D0]
  have hlt:(D0 to (kids.take j) s).1.length<=1000000:=by rw [A3q,List.length_take];omega
  have hE:=A0 kids[j];have hE2:=A0 (H2 to kids[j] (D0 to (kids.take j) s).2).1;rw [List.set_set] at hcc;generalize (H2 to kids[j] (D0 to (kids.take j) s).2).1=y at hcc hts hE2;generalize (H2 to kids[j] (D0 to (kids.take j) s).2).2=z at hcc hts;rw [hE,hE2] at hcc;generalize (D0 to (kids.take j) s).1=L at hB hts hlt;generalize (D0 to (kids.take j) s).2=q at*;rcases hm with rfl|⟨rfl,rfl⟩
  all_goals
   try simp only [List.map_nil] at hcc h2
   rcases hB with _|_
   ·simp [h0,h2,h4,h6,h7,h8,hj,hcc,hw,hE,hE2];rw [hI];dsimp only;rw [hts];exact ⟨rfl,⟨_,rfl⟩,by simp [h0],by simp [h2],by simp [h4],by simp [h6],⟨_,.own _,by simp [hE2]⟩,by simp⟩
   ·have hlen3:L.length<=1073741823:=by omega
    simp [h0,h2,h4,h6,h7,h8,hj,hcc,hw,hE,hE2,hlen3];rw [hI];dsimp only;rw [hts];exact ⟨rfl,⟨_,rfl⟩,by simp [h0],by simp [h2],by simp [h4],by simp [h6],⟨_,.own _,by simp [hE2]⟩,by simp⟩
 ·simp_all
 simp_all
theorem A5Q (h93:F 93=some f1093):∀(M N:Nat) (t:PTerm) (to:List Int) (m:Md) (kc b:Nat) (σ:Sto) (ver:Nat) (s:Int),E3 t<=M->M<=N->(m=.fz\/m=.nl/\to=[])->OkTm t->cntT t<=3000->0<=s->s+cntT t<=1000000->F1 to.length t=true->σ.at kc=some ⟨ver,.cells [.int .i64 s] 113⟩->
  ∃ver',A4 F O N b 93 [.ptr kc 0,.agg (A5 t),.sl m (to.map encI)] σ=some (.ret (.agg (A5 (H2 to t s).1)),σ.set kc (some ⟨ver',.cells [.int .i64 (H2 to t s).2] 113⟩))
 |0,N,t,to,m,kc,b,σ,ver,s,h,_,_,_,_,_,_,_,_=>by rw [B5] at h;omega
 |M+1,N,t,to,m,kc,b,σ,ver,s,h,hN,hm,he,hct,hs0,hs1,hok,hat=>by
  have ih:=A5Q h93 M;have hs:=B5 t;have hkk:=H8 t.kids;have hcd:=J8 t;have hkl:t.kids.length<=F7 t.kids:=by
   generalize t.kids=l
   induction l with
   |nil=>exact Nat.le_refl _
   |cons x l ihl=>grind [F7,J8]
  obtain ⟨N,rfl⟩:∃n,N=n+1:=⟨N - 1,by omega⟩;rw [Y8,Bool.and_eq_true,Bool.or_eq_true,decide_eq_true_eq,decide_eq_true_eq] at hok;have hkc:=Sto.lt hat;have hnd:=A5e to t s
  have hkd:∀x∈t.kids,∀(b:Nat) (σ:Sto) (ver:Nat) (s':Int),0<=s'->s'+cntT x<=1000000->σ.at kc=some ⟨ver,.cells [.int .i64 s'] 113⟩->∃ver',A4 F O N b 93 [.ptr kc 0,.agg (A5 x),.sl m (to.map encI)] σ=some (.ret (.agg (A5 (H2 to x s').1)),σ.set kc (some ⟨ver',.cells [.int .i64 (H2 to x s').2] 113⟩)):=fun x hx b σ ver s' h0 h1 ha=>by
   have:=D9 _ _ hx;have:=O1 _ _ hx;exact ih N x to m kc b σ ver s' (by omega) (by omega) hm (he.sub x hx) (by omega) h0 h1 ((O9 _ _).1 hok.2 x hx) ha
  suffices hh:∃e' σ',A4 F O (N+1) b 93 [.ptr kc 0,.agg (A5 t),.sl m (to.map encI)] σ=some (e',σ')/\∃ver',e'=.ret (.agg (A5 (H2 to t s).1))/\σ'=σ.set kc (some ⟨ver',.cells [.int .i64 (H2 to t s).2] 113⟩) by
   obtain ⟨e',σ',h1,v,rfl,rfl⟩:=hh;exact ⟨v,h1⟩
  by_cases k3:t.kind=3
  ·have hr:=hok.1.resolve_left (fun h=>h k3);obtain ⟨q,hq⟩:∃q:Nat,t.n=(q:Int):=⟨t.n.toNat,by omega⟩;rw [hq] at hr;have hq2:q<to.length:=by omega
   have hq3:q+1<=to.length:=hq2;have e1:A1D to t s=to[q]:=by unfold A1D;rw [if_neg (by omega),if_pos k3,hq,Int.toNat_natCast,List.getElem?_eq_getElem hq2];rfl
   have e2:U0 t s=s:=by unfold U0;rw [if_neg (by omega)]
   rw [e1,e2] at hnd;obtain rfl:m=.fz:=hm.resolve_right fun h=>by rw [h.2] at hq2;simp at hq2
   refine D5 h93 ?_;simp [A5P,A0 t,k3,hq,hat,hq2,hq3,encI];apply E2
   ·apply A8G t.kids [.int .i64 t.kind,.int .i64 (to[q]),.int .i64 t.m,.int .i64 t.val.kind,.int .i64 t.val.n,.sl .fz (t.val.list.map C9),.sl .fz (t.odds.map encI),.sl .fz (t.kids.map A5)] rfl rfl he.len (by omega) (by omega) to .fz (.inl rfl) kc (s) (v6:=_) (ver:=ver) (hs0:=by omega) (hs1:=by omega) (hc:=hkd)
    ·exact hat
    ·rfl
    ·simp
    ·simp
    ·simp_all
    ·simp;rfl
    ·simp
   rintro ex ⟨tm,df,clk⟩ σ' ⟨rfl,⟨vr,rfl⟩,hdf,g4,g6,v,hB,g7⟩;simp only at hdf g4 g6 g7;subst hdf;rw [hnd];generalize (D0 to t.kids (s)).1=L at hB ⊢;generalize (D0 to t.kids (s)).2=z;rcases hB with _|_
   ·simp [g4,g6,g7,A0 (.mk _ _ _ _ _ _),List.set_set];exact ⟨⟨rfl,rfl,rfl,rfl,rfl,rfl,rfl,rfl⟩,_,rfl⟩
   ·simp [g4,g6,g7,A0 (.mk _ _ _ _ _ _),List.set_set];exact ⟨⟨rfl,rfl,rfl,rfl,rfl,rfl,rfl,rfl⟩,_,rfl⟩
  by_cases k12:t.kind=12
  ·have e1:A1D to t s=s:=by unfold A1D;rw [if_pos k12]
   have e2:U0 t s=s+1:=by unfold U0;rw [if_pos k12]
   rw [e1,e2] at hnd;have hw:IntKind.i64.wrap (s+1)=s+1:=by rw [D7]<;>omega
   refine D5 h93 ?_;simp [A5P,A0 t,k12,hw,hat];apply E2
   ·apply A8G t.kids [.int .i64 t.kind,.int .i64 (s),.int .i64 t.m,.int .i64 t.val.kind,.int .i64 t.val.n,.sl .fz (t.val.list.map C9),.sl .fz (t.odds.map encI),.sl .fz (t.kids.map A5)] rfl rfl he.len (by omega) (by omega) to m hm kc (s+1) (v6:=_) (ver:=ver+1) (hs0:=by omega) (hs1:=by omega) (hc:=hkd)
    ·simp [Sto.at,hkc]
    ·rfl
    ·simp
    ·simp
    ·simp [k12,hw,hat]
    ·simp;rfl
    ·simp
   rintro ex ⟨tm,df,clk⟩ σ' ⟨rfl,⟨vr,rfl⟩,hdf,g4,g6,v,hB,g7⟩;simp only at hdf g4 g6 g7;subst hdf;rw [hnd];generalize (D0 to t.kids (s+1)).1=L at hB ⊢;generalize (D0 to t.kids (s+1)).2=z;rcases hB with _|_
   ·simp [g4,g6,g7,A0 (.mk _ _ _ _ _ _),List.set_set];exact ⟨⟨rfl,rfl,rfl,rfl,rfl,rfl,rfl,rfl⟩,_,rfl⟩
   ·simp [g4,g6,g7,A0 (.mk _ _ _ _ _ _),List.set_set];exact ⟨⟨rfl,rfl,rfl,rfl,rfl,rfl,rfl,rfl⟩,_,rfl⟩
  ·have e1:A1D to t s=t.n:=by unfold A1D;rw [if_neg k12,if_neg k3]
   have e2:U0 t s=s:=by unfold U0;rw [if_neg k12]
   rw [e1,e2] at hnd;refine D5 h93 ?_;simp [A5P,A0 t,k3,k12];apply E2
   ·apply A8G t.kids [.int .i64 t.kind,.int .i64 (t.n),.int .i64 t.m,.int .i64 t.val.kind,.int .i64 t.val.n,.sl .fz (t.val.list.map C9),.sl .fz (t.odds.map encI),.sl .fz (t.kids.map A5)] rfl rfl he.len (by omega) (by omega) to m hm kc (s) (v6:=_) (ver:=ver) (hs0:=by omega) (hs1:=by omega) (hc:=hkd)
    ·exact hat
    ·rfl
    ·simp
    ·simp
    ·simp [k3,k12]
    ·simp;rfl
    ·simp
   rintro ex ⟨tm,df,clk⟩ σ' ⟨rfl,⟨vr,rfl⟩,hdf,g4,g6,v,hB,g7⟩;simp only at hdf g4 g6 g7;subst hdf;rw [hnd];generalize (D0 to t.kids (s)).1=L at hB ⊢;generalize (D0 to t.kids (s)).2=z;rcases hB with _|_
   ·simp [g4,g6,g7,A0 (.mk _ _ _ _ _ _),List.set_set];exact ⟨⟨rfl,rfl,rfl,rfl,rfl,rfl,rfl,rfl⟩,_,rfl⟩
   ·simp [g4,g6,g7,A0 (.mk _ _ _ _ _ _),List.set_set];exact ⟨⟨rfl,rfl,rfl,rfl,rfl,rfl,rfl,rfl⟩,_,rfl⟩
@[simp] def A0P:Ann:=fun d=>if d=30 then 3 else B98 d
def f1095k:TFun:=⟨x1095,A0P,false,false⟩
@[simp] theorem C6Y:f1095k.an=A0P:=rfl
@[simp] theorem C2q:f1095k.fn.body=x1095.body:=rfl
@[simp] theorem C2r:f1095k.keep=false:=rfl
@[simp] theorem C4U:f1095k.fn.results=[.tmp 2]:=rfl
def B9R:XCode:=(by exact fun x _=>x:V0 (gT x1095.body [1,1,1,1,1,0,1,0,0,1,0,0,1,0,0,1,0,0])) _ (by conv=>lhs;cbv)
def B9S:XCode:=(by exact fun x _=>x:V1 (fun a=>pT (gT x1095.body [1,1,1,1,1,0,1,0,0,1,0,0]) [1,0,0,1,0,0] a)) _ (by intros;conv=>lhs;cbv) B9R
def B3B:XCode:=(by exact fun x _=>x:V1 (fun a=>pT (gT x1095.body [1,1,1,1,1,0]) [1,0,0,1,0,0] a)) _ (by intros;conv=>lhs;cbv) B9S
def B9T:XCode:=(by exact fun x _=>x:V0 (gT x1095.body [1,1,1,1,0])) _ (by conv=>lhs;cbv)
theorem B7p:x1095=(by exact fun x _=>x:V2 (fun a b=>({x1095 with body:=pT (pT (x1095.body) [1,1,1,1,0] a) [1,1,1,1,1,0] b}:XFun))) _ (by intros;conv=>lhs;cbv) B9T B3B:=rfl
def T0 (B n j:Nat):List TV:=(List.range j).map fun i=>.ref (B+2*i) 0 1 n n
theorem A5R (B n j:Nat):(T0 B n j).length=j:=by simp [T0]
theorem B0x (B n j:Nat) {i:Nat} (h:i<j):(T0 B n j)[i]? =some (.ref (B+2*i) 0 1 n n):=by simp [T0,h]
structure RowsK (σ:Sto) (n:Nat) (M:List (List Bool)) (σ':Sto):Prop where
 take:σ'.take σ.length=σ
 len:σ'.length=σ.length+2*n
 rows:∀(i:Nat) (r:List Bool),M[i]? =some r->∃ver,σ'.at (σ.length+2*i)=some ⟨ver,.cells (bcells r) 4⟩
 out:∃vo,σ'.at (σ.length+2*n - 1)=some ⟨vo,.cells (T0 σ.length n n) 62⟩
theorem RowsK.set {σ σ':Sto} {n:Nat} {M:List (List Bool)} (h:RowsK σ n M σ') (hM:Sq n M) {i:Nat} (hi:i<n) (r:List Bool) (ver:Nat):RowsK σ n (M.set i r) (σ'.set (σ.length+2*i) (some ⟨ver,.cells (bcells r) 4⟩)):=by
 refine ⟨by rw [Q9 (by omega)];exact h.take,by rw [List.length_set];exact h.len,fun j q hj=> ?_,?_⟩
 ·by_cases e:i=j
  ·subst e;rw [List.getElem?_set_self (by rw [hM.1];exact hi)] at hj;cases hj;have:σ.length+2*i<σ'.length:=by have:=h.len;omega
   simp_all [Sto.at]
  ·rw [List.getElem?_set_ne e] at hj;obtain ⟨v,hv⟩:=h.rows j q hj;grind [A05]
 ·obtain ⟨vo,hv⟩:=h.out;grind [A05]
theorem B9U {n:Nat} {M:List (List Bool)} (h:Sq n M) {k i j:Nat} (hi:i<n) (hj:j<n) (e:(H6 M i k&&H6 M k j)=false):wst M k i j=M:=by
 obtain ⟨r,hr,hl⟩:=h.row hi;have hi2:i<M.length:=by rw [h.1];exact hi
 unfold wst;rw [e,Bool.or_false,hr];simp only [Option.getD_some];have hg:H6 M i j=r[j]'(by omega):=by
  grind [H6]
 rw [hg,List.set_getElem_self];have:r=M[i]:=by rw [List.getElem?_eq_getElem hi2] at hr;exact (Option.some.inj hr).symm
 simp_all
theorem C1o {n:Nat} {M:List (List Bool)} (h:Sq n M) {k i j:Nat} {r:List Bool} (hr:M[i]? =some r) (e:(H6 M i k&&H6 M k j)=true):wst M k i j=M.set i (r.set j true):=by
 grind [wst]
def SK (σ:Sto) (n:Nat) (v1 v2:TV) (cap:Nat) (M:List (List Bool)) (a':TAct) (σ':Sto):Prop:=
 a'.df=[]/\RowsK σ n M σ'/\a'.tm.get 1=some v1/\a'.tm.get 2=some v2/\a'.tm.get 3=some (.int .i64 n)/\a'.tm.get 4=some (.ref (σ.length+2*n - 1) 0 1 n cap)
theorem C1p {N b:Nat} (σ:Sto) (n:Nat) (hn:n<=1000) (hnN:n<N) (v1 v2:TV) (cap:Nat) (M:List (List Bool)) (hM:Sq n M) (k i:Nat) (hk:k<n) (hi:i<n) (a:TAct) (σ1:Sto) (hs:SK σ n v1 v2 cap M a σ1) (h6:a.tm.get 6=some (.int .i64 k)) (h7:a.tm.get 7=some (.int .i64 i)):
  Tw A0P b (A4 F O N) N (fun ex a' σ'=>ex=.normal/\SK σ n v1 v2 cap (loopJ M k i n) a' σ'/\a'.tm.get 6=some (.int .i64 k)/\a'.tm.get 7=some (.int .i64 i)) [] (B6 A0P b (A4 F O N) N B9R a σ1):=by
 obtain ⟨tm,df,clk⟩:=a;obtain ⟨hdf,hR,h1,h2,h3,h4⟩:=hs;simp only at hdf h1 h2 h3 h4 h6 h7;subst hdf;simp [B9R];obtain ⟨I,hI⟩:∃I:Nat->TAct->Sto->Prop,I=(fun j a' σ'=>SK σ n v1 v2 cap (loopJ M k i j) a' σ'/\a'.tm.get 6=some (.int .i64 k)/\a'.tm.get 7=some (.int .i64 i)/\a'.tm.get 8=some (.int .i64 j)):=⟨_,rfl⟩
 obtain ⟨R,hRR⟩:∃R:TEx->TAct->Sto->Prop,R=(fun ex a' σ'=>ex=.exit 6/\SK σ n v1 v2 cap (loopJ M k i n) a' σ'/\a'.tm.get 6=some (.int .i64 k)/\a'.tm.get 7=some (.int .i64 i)):=⟨_,rfl⟩;refine A9 I n R ?_ (by omega) ?_ ?_ ?_
 ·rw [hI];exact ⟨⟨rfl,hR,by simp [h1],by simp [h2],by simp [h3],by simp [h4]⟩,by simp [h6],by simp [h7],by simp⟩
 ·rw [hI];rintro j ⟨tm,df,clk⟩ σ' hj ⟨⟨rfl,hR,h1,h2,h3,h4⟩,h6,h7,h8⟩;rw [<-hI];simp only at h1 h2 h3 h4 h6 h7 h8;have hSq:=hM.loopJ k hi j;have hw:=C8 hj (by unfold maxLen;omega);obtain ⟨Bi,hBi,hBil⟩:=hSq.row hi;obtain ⟨Bk,hBk,hBkl⟩:=hSq.row hk;obtain ⟨vi,hvi⟩:=hR.rows i Bi hBi;obtain ⟨vk,hvk⟩:=hR.rows k Bk hBk;obtain ⟨vo,hvo⟩:=hR.out;have ik:k<Bi.length:=by omega
  have ij:j<Bk.length:=by omega
  have g1:H6 (loopJ M k i j) i k=Bi[k]'ik:=by unfold H6;rw [hBi];simp only [Option.getD_some];rw [List.getElem?_eq_getElem (by omega)];rfl
  have g2:H6 (loopJ M k i j) k j=Bk[j]'ij:=by unfold H6;rw [hBk];simp only [Option.getD_some];rw [List.getElem?_eq_getElem (by omega)];rfl
  have hi1:i+1<=n:=hi;have hk1:k+1<=n:=hk;have hj1:j+1<=n:=hj;have hstep:loopJ M k i (j+1)=wst (loopJ M k i j) k i j:=rfl;have hlo:(T0 σ.length n n).length=n:=A5R _ _ _;have hri:=B0x σ.length n n hi;have hrk:=B0x σ.length n n hk;have hli:(bcells Bi).length=n:=by simp [bcells,hBil]
  have hlk:(bcells Bk).length=n:=by simp [bcells,hBkl]
  have hbi:(bcells Bi)[k]? =some (.bool (Bi[k]'ik)):=by rw [A5M,List.getElem?_eq_getElem (by omega)];rfl
  have hbk:(bcells Bk)[j]? =some (.bool (Bk[j]'ij)):=by rw [A5M,List.getElem?_eq_getElem (by omega)];rfl
  have hpb:=P3 Bi j true (by omega);generalize hx:Bi[k]'ik=x at hbi g1;generalize hy:Bk[j]'ij=y at hbk g2;have hset:=fun ver=>hR.set hSq hi (Bi.set j true) ver
  generalize hC1:bcells Bi=C1 at hvi hli hbi hpb;generalize hC2:bcells Bk=C2 at hvk hlk hbk;generalize hC3:T0 σ.length n n=C3 at hvo hlo hri hrk;generalize hpi:σ.length+2*i=pi at hvi hri hset;generalize hpk:σ.length+2*k=pk at hvk hrk;generalize hpo:σ.length+2*n - 1=po at hvo h4
  have hri2:∀h:i<C3.length,C3[i]=.ref pi 0 1 n n:=fun h=>by rw [List.getElem?_eq_getElem h] at hri;exact Option.some.inj hri
  have hrk2:∀h:k<C3.length,C3[k]=.ref pk 0 1 n n:=fun h=>by rw [List.getElem?_eq_getElem h] at hrk;exact Option.some.inj hrk
  have hbi2:∀h:k<C1.length,C1[k]=.bool x:=fun h=>by rw [List.getElem?_eq_getElem h] at hbi;exact Option.some.inj hbi
  have hbk2:∀h:j<C2.length,C2[j]=.bool y:=fun h=>by rw [List.getElem?_eq_getElem h] at hbk;exact Option.some.inj hbk
  cases x with
  |false=>
   simp [h1,h2,h3,h4,h6,h7,h8,hj,hj1,hi,hi1,hk,hk1,hw,hvo,hvi,hvk,hlo,hli,hlk,hri,hrk,hri2,hrk2,hbi,hbi2,hbk,hbk2];rw [hI];have hs2:loopJ M k i (j+1)=loopJ M k i j:=by rw [hstep,B9U hSq hi hj (by rw [g1];rfl)]
   dsimp only;rw [hs2];exact ⟨⟨rfl,hR,by simp [h1],by simp [h2],by simp [h3],by simp [h4,hpo]⟩,by simp [h6],by simp [h7],by simp⟩
  |true=>
   cases y with
   |false=>
    simp [h1,h2,h3,h4,h6,h7,h8,hj,hj1,hi,hi1,hk,hk1,hw,hvo,hvi,hvk,hlo,hli,hlk,hri,hrk,hri2,hrk2,hbi,hbi2,hbk,hbk2];rw [hI];have hs2:loopJ M k i (j+1)=loopJ M k i j:=by rw [hstep,B9U hSq hi hj (by rw [g1,g2];rfl)]
    dsimp only;rw [hs2];exact ⟨⟨rfl,hR,by simp [h1],by simp [h2],by simp [h3],by simp [h4,hpo]⟩,by simp [h6],by simp [h7],by simp⟩
   |true=>
    simp [h1,h2,h3,h4,h6,h7,h8,hj,hj1,hi,hi1,hk,hk1,hw,hvo,hvi,hvk,hlo,hli,hlk,hri,hrk,hri2,hrk2,hbi,hbi2,hbk,hbk2];rw [hI];have hs2:loopJ M k i (j+1)=(loopJ M k i j).set i (Bi.set j true):=by rw [hstep,C1o hSq hBi (by rw [g1,g2];rfl)]
    dsimp only;rw [hs2];exact ⟨⟨rfl,by have:=hset (vi+1);rw [<-hpb] at this;simpa [putAt] using this,by simp [h1],by simp [h2],by simp [h3],by simp [h4,hpo]⟩,by simp [h6],by simp [h7],by simp⟩
 ·rw [hI];rintro ⟨tm,df,clk⟩ σ' ⟨⟨rfl,hR,h1,h2,h3,h4⟩,h6,h7,h8⟩;simp only at h1 h2 h3 h4 h6 h7 h8;simp [h3,h8];rw [hRR];exact ⟨rfl,⟨rfl,hR,by simp [h1],by simp [h2],by simp [h3],by simp [h4]⟩,by simp [h6],by simp [h7]⟩
 simp_all
theorem C1q {N b:Nat} (σ:Sto) (n:Nat) (hn:n<=1000) (hnN:n<N) (v1 v2:TV) (cap:Nat) (M:List (List Bool)) (hM:Sq n M) (k:Nat) (hk:k<n) (a:TAct) (σ1:Sto) (hs:SK σ n v1 v2 cap M a σ1) (h6:a.tm.get 6=some (.int .i64 k)):
  Tw A0P b (A4 F O N) N (fun ex a' σ'=>ex=.normal/\SK σ n v1 v2 cap (loopI M n k n) a' σ'/\a'.tm.get 6=some (.int .i64 k)) [] (B6 A0P b (A4 F O N) N B9S a σ1):=by
 obtain ⟨tm,df,clk⟩:=a;obtain ⟨hdf,hR,h1,h2,h3,h4⟩:=hs;simp only at hdf h1 h2 h3 h4 h6;subst hdf;simp [B9S];obtain ⟨I,hI⟩:∃I:Nat->TAct->Sto->Prop,I=(fun j a' σ'=>SK σ n v1 v2 cap (loopI M n k j) a' σ'/\a'.tm.get 6=some (.int .i64 k)/\a'.tm.get 7=some (.int .i64 j)):=⟨_,rfl⟩
 obtain ⟨R,hRR⟩:∃R:TEx->TAct->Sto->Prop,R=(fun ex a' σ'=>ex=.exit 4/\SK σ n v1 v2 cap (loopI M n k n) a' σ'/\a'.tm.get 6=some (.int .i64 k)):=⟨_,rfl⟩;refine A9 I n R ?_ (by omega) ?_ ?_ ?_
 ·rw [hI];exact ⟨⟨rfl,hR,by simp [h1],by simp [h2],by simp [h3],by simp [h4]⟩,by simp [h6],by simp⟩
 ·rw [hI];rintro j ⟨tm,df,clk⟩ σ' hj ⟨⟨rfl,hR,h1,h2,h3,h4⟩,h6,h7⟩;rw [<-hI];simp only at h1 h2 h3 h4 h6 h7;have hw:=C8 hj (by unfold maxLen;omega);simp [h3,h7,hj];apply E2
  ·apply C1p (b:=b) σ n hn hnN v1 v2 cap (loopI M n k j) (hM.loopI k j (by omega)) k j hk hj
   ·exact ⟨rfl,hR,by simp [h1],by simp [h2],by simp [h3],by simp [h4]⟩
   ·simp [h6]
   ·simp [h7]
  rintro ex ⟨tm,df,clk⟩ σ2 ⟨rfl,⟨hdf,hR,g1,g2,g3,g4⟩,g6,g7⟩;simp only at hdf g1 g2 g3 g4 g6 g7;subst hdf;simp [g7,hw];rw [hI];exact ⟨⟨rfl,hR,by simp [g1],by simp [g2],by simp [g3],by simp [g4]⟩,by simp [g6],by simp⟩
 ·rw [hI];rintro ⟨tm,df,clk⟩ σ' ⟨⟨rfl,hR,h1,h2,h3,h4⟩,h6,h7⟩;simp only at h1 h2 h3 h4 h6 h7;simp [h3,h7];rw [hRR];exact ⟨rfl,⟨rfl,hR,by simp [h1],by simp [h2],by simp [h3],by simp [h4]⟩,by simp [h6]⟩
 simp_all
theorem C1r {N b:Nat} (σ:Sto) (n:Nat) (hn:n<=1000) (hnN:n<N) (v1 v2:TV) (cap:Nat) (M:List (List Bool)) (hM:Sq n M) (a:TAct) (σ1:Sto) (hs:SK σ n v1 v2 cap M a σ1):
  Tw A0P b (A4 F O N) N (fun ex a' σ'=>ex=.normal/\SK σ n v1 v2 cap (loopK M n n) a' σ') [] (B6 A0P b (A4 F O N) N B3B a σ1):=by
 obtain ⟨tm,df,clk⟩:=a;obtain ⟨hdf,hR,h1,h2,h3,h4⟩:=hs;simp only at hdf h1 h2 h3 h4;subst hdf;simp [B3B];obtain ⟨I,hI⟩:∃I:Nat->TAct->Sto->Prop,I=(fun j a' σ'=>SK σ n v1 v2 cap (loopK M n j) a' σ'/\a'.tm.get 6=some (.int .i64 j)):=⟨_,rfl⟩;obtain ⟨R,hRR⟩:∃R:TEx->TAct->Sto->Prop,R=(fun ex a' σ'=>ex=.exit 2/\SK σ n v1 v2 cap (loopK M n n) a' σ'):=⟨_,rfl⟩;refine A9 I n R ?_ (by omega) ?_ ?_ ?_
 ·rw [hI];exact ⟨⟨rfl,hR,by simp [h1],by simp [h2],by simp [h3],by simp [h4]⟩,by simp⟩
 ·rw [hI];rintro j ⟨tm,df,clk⟩ σ' hj ⟨⟨rfl,hR,h1,h2,h3,h4⟩,h6⟩;rw [<-hI];simp only at h1 h2 h3 h4 h6;have hw:=C8 hj (by unfold maxLen;omega);simp [h3,h6,hj];apply E2
  ·apply C1q (b:=b) σ n hn hnN v1 v2 cap (loopK M n j) (hM.loopK j) j hj
   ·exact ⟨rfl,hR,by simp [h1],by simp [h2],by simp [h3],by simp [h4]⟩
   ·simp [h6]
  rintro ex ⟨tm,df,clk⟩ σ2 ⟨rfl,⟨hdf,hR,g1,g2,g3,g4⟩,g6⟩;simp only at hdf g1 g2 g3 g4 g6;subst hdf;simp [g6,hw];rw [hI];exact ⟨⟨rfl,hR,by simp [g1],by simp [g2],by simp [g3],by simp [g4]⟩,by simp⟩
 ·rw [hI];rintro ⟨tm,df,clk⟩ σ' ⟨⟨rfl,hR,h1,h2,h3,h4⟩,h6⟩;simp only at h1 h2 h3 h4 h6;simp [h3,h6];rw [hRR];exact ⟨rfl,⟨rfl,hR,by simp [h1],by simp [h2],by simp [h3],by simp [h4]⟩⟩
 simp_all
end
section
open Go Go.Xe Go.Xt
def toC (l:List Bool):List Int:=(List.range l.length).map fun i=>((l.take i).count true:Int)
theorem A12 (l:List Bool):(toC l).length=l.length:=by simp [toC]
def C6 (to:List Int):List Bool->List PBody->Int->List PBody×Int
 |true::l,f::fs,s=>(⟨f.params,f.slots,(H2 to f.term s).1⟩::(C6 to l fs (H2 to f.term s).2).1,(C6 to l fs (H2 to f.term s).2).2)
 |false::l,_::fs,s=>C6 to l fs s
 |_,_,s=>([],s)
def A08 (c:PCore) (l:List Bool):PCore:=⟨c.types,(C6 (toC l) l c.funs 0).1,⟨c.query.params,c.query.slots,(H2 (toC l) c.query.term (C6 (toC l) l c.funs 0).2).1⟩,(H2 (toC l) c.query.term (C6 (toC l) l c.funs 0).2).2⟩
theorem A8H (to:List Int):∀(a:List Bool) (fa:List PBody) (s:Int) (x:Bool) (f:PBody),a.length=fa.length->
  C6 to (a++[x]) (fa++[f]) s=if x=true then ((C6 to a fa s).1++[⟨f.params,f.slots,(H2 to f.term (C6 to a fa s).2).1⟩],(H2 to f.term (C6 to a fa s).2).2) else C6 to a fa s
 |[],[],s,x,f,_=>by cases x<;>simp [C6]
 |b::a,g::fa,s,x,f,h=>by
  have ih:=A8H to a fa;cases b with
  |true=>
   grind [C6]
  |false=>
   grind [C6]
 |[],_::_,s,x,f,h=>by simp at h
 |_::_,[],s,x,f,h=>by simp at h
def cntFs:List PBody->Nat
 |[]=>0
 |f::l=>cntT f.term+cntFs l
theorem A8I {l:List PBody} {j:Nat} (hj:j<l.length):cntFs (l.take j)+cntT l[j].term<=cntFs l:=by
 induction l generalizing j with
 |nil=>simp at hj
 |cons x l ih=>
  cases j with
  |zero=>simp [cntFs]
  |succ j=>grind [cntFs]
theorem Y2 (to:List Int):∀(l:List Bool) (fs:List PBody) (s:Int),s<=(C6 to l fs s).2/\(C6 to l fs s).2<=s+cntFs fs
 |true::l,f::fs,s=>by
  have h1:=A16 to _ f.term s (Nat.le_refl _);have h2:=Y2 to l fs (H2 to f.term s).2;grind [C6,cntFs]
 |false::l,f::fs,s=>by
  have h2:=Y2 to l fs s;grind [C6,cntFs]
 |[],fs,s=>by cases fs<;>simp [C6]<;>omega
 |true::_,[],s=>by simp [C6,cntFs]
 |false::_,[],s=>by simp [C6,cntFs]
theorem A26 (to:List Int):∀(l:List Bool) (fs:List PBody) (s:Int),(C6 to l fs s).1.length<=fs.length
 |true::l,f::fs,s=>by have:=A26 to l fs (H2 to f.term s).2;simp only [C6,List.length_cons];omega
 |false::l,f::fs,s=>by have:=A26 to l fs s;simp only [C6,List.length_cons];omega
 |[],fs,s=>by cases fs<;>simp [C6]
 |true::_,[],s=>by simp [C6]
 |false::_,[],s=>by simp [C6]
variable {F:FuncId->Option TFun} {O:FuncId->List TV->Option TV}
def B9V:XCode:=(by exact fun x _=>x:V0 (gT x1054.body [1,1,1,1,1,1,0])) _ (by conv=>lhs;cbv)
def B9W:XCode:=(by exact fun x _=>x:V0 (gT x1054.body [1,1,1,1,1,0])) _ (by conv=>lhs;cbv)
theorem B7q:x1054=(by exact fun x _=>x:V2 (fun a b=>({x1054 with body:=pT (pT (x1054.body) [1,1,1,1,1,0] a) [1,1,1,1,1,1,0] b}:XFun))) _ (by intros;conv=>lhs;cbv) B9W B9V:=rfl
def B9X (to:List Int) (o:Option TV):Prop:=∃m,(m=.own 3 1\/m=.fz\/m=.nl/\to=[])/\o=some (.sl m (to.map encI))
theorem B67 (l:List Bool) {j:Nat} (hj:j<l.length):(toC l)[j]'(by rw [A12];exact hj)=((l.take j).count true:Int):=by simp [toC]
theorem C1s {N b:Nat} (c:PCore) (hc:OkC c) (l:List Bool) (hl:l.length=c.funs.length) (hfl:c.funs.length<=1000000) (hN:c.funs.length<N) (a:TAct) (σ:Sto) (v4 v5 v6:TV)
  (hdf:a.df=[]) (h1:a.tm.get 1=some (.sl .fz (l.map K0))) (h2:a.tm.get 2=some (.bx 0 (E9 c) 40)) (h4:a.tm.get 4=some v4) (h5:a.tm.get 5=some v5) (h6:a.tm.get 6=some v6) (h7:a.tm.get 7=some (.sl .nl [])) (h8:a.tm.get 8=some (.int .i64 0)):
  Tw A9X b (A4 F O N) N (fun ex a' σ'=>ex=.normal/\σ'=σ/\a'.df=[]/\a'.tm.get 1=some (.sl .fz (l.map K0))/\a'.tm.get 2=some (.bx 0 (E9 c) 40)/\a'.tm.get 4=some v4/\a'.tm.get 5=some v5/\a'.tm.get 6=some v6/\∃v,Bld 3 1 encI (toC l) v/\a'.tm.get 7=some v) [] (B6 A9X b (A4 F O N) N B9W a σ):=by
 obtain ⟨tm,df,clk⟩:=a;simp only at hdf h1 h2 h4 h5 h6 h7 h8;subst hdf;simp [B9W]
 obtain ⟨I,hI⟩:∃I:Nat->TAct->Sto->Prop,I=(fun j a' σ'=>a'.df=[]/\σ'=σ/\a'.tm.get 1=some (.sl .fz (l.map K0))/\a'.tm.get 2=some (.bx 0 (E9 c) 40)/\a'.tm.get 4=some v4/\a'.tm.get 5=some v5/\a'.tm.get 6=some v6/\(∃v,Bld 3 1 encI ((toC l).take j) v/\a'.tm.get 7=some v)/\a'.tm.get 8=some (.int .i64 ((l.take j).count true:Nat))/\a'.tm.get 9=some (.int .i64 j)):=⟨_,rfl⟩
 obtain ⟨R,hR⟩:∃R:TEx->TAct->Sto->Prop,R=(fun ex a' σ'=>ex=.exit 0/\σ'=σ/\a'.df=[]/\a'.tm.get 1=some (.sl .fz (l.map K0))/\a'.tm.get 2=some (.bx 0 (E9 c) 40)/\a'.tm.get 4=some v4/\a'.tm.get 5=some v5/\a'.tm.get 6=some v6/\∃v,Bld 3 1 encI (toC l) v/\a'.tm.get 7=some v):=⟨_,rfl⟩;refine A9 I c.funs.length R ?_ (by omega) ?_ ?_ ?_
 ·rw [hI];exact ⟨rfl,rfl,by simp [h1],by simp [h2],by simp [h4],by simp [h5],by simp [h6],⟨_,.nl,by simp [h7]⟩,by simp [h8],by simp⟩
 ·rw [hI];rintro j ⟨tm,df,clk⟩ σ' hj ⟨rfl,rfl,h1,h2,h4,h5,h6,⟨v,hB,h7⟩,h8,h9⟩;rw [<-hI];simp only at h1 h2 h4 h5 h6 h7 h8 h9;have hw:=C8 hj hc.flen;have hjl:j<l.length:=by omega
  have hj1:j+1<=l.length:=hjl;have h2':=h2;rw [A7] at h2;have htj:j<(toC l).length:=by rw [A12];exact hjl
  have hts:(toC l).take (j+1)=(toC l).take j++[((l.take j).count true:Int)]:=by rw [H9 htj,B67 l hjl]
  have hlt:((toC l).take j).length<=1000000:=by rw [List.length_take];omega
  have hcs:(l.take (j+1)).count true=(l.take j).count true+(if l[j]=true then 1 else 0):=by rw [H9 hjl,List.count_append];cases l[j]<;>simp
  have hct:(l.take j).count true<=1000000:=Nat.le_trans List.count_le_length (by rw [List.length_take];omega);have hw2:IntKind.i64.wrap (((l.take j).count true:Nat)+1:Int)=(((l.take j).count true+1:Nat):Int):=by rw [D7]<;>omega
  have hEl:∀x:Int,(encI x).length=1:=fun _=>rfl
  generalize (l.take j).count true=q at*;generalize (toC l).take j=L at hB hts hlt;have hlen3:L.length<=1073741823:=by omega
  cases hx:l[j] with
  |false=>
   rw [hx] at hcs;rcases hB with _|_
   all_goals
    simp [h1,h2,h4,h5,h6,h7,h8,h9,hj,hjl,hj1,hw,hx,hlen3,K0,hEl];rw [hI];dsimp only;rw [hts];exact ⟨rfl,rfl,by simp [h1],by simp [h2'],by simp [h4],by simp [h5],by simp [h6],⟨_,.own _,by simp [encI]⟩,by simp [hcs,h8],by simp⟩
  |true=>
   rw [hx] at hcs;rcases hB with _|_
   all_goals
    simp [h1,h2,h4,h5,h6,h7,h8,h9,hj,hjl,hj1,hw,hw2,hx,hlen3,K0,hEl];rw [hI];dsimp only;rw [hts];exact ⟨rfl,rfl,by simp [h1],by simp [h2'],by simp [h4],by simp [h5],by simp [h6],⟨_,.own _,by simp [encI]⟩,by simp [hcs],by simp⟩
 ·rw [hI];rintro ⟨tm,df,clk⟩ σ' ⟨rfl,rfl,h1,h2,h4,h5,h6,⟨v,hB,h7⟩,h8,h9⟩;rw [List.take_of_length_le (by rw [A12];omega)] at hB;simp_all [A7]
 simp_all
theorem A8J (to:List Int) {l:List Bool} {fs:List PBody} {j:Nat} (s:Int) (hj:j<fs.length) (hl:l.length=fs.length):C6 to (l.take (j+1)) (fs.take (j+1)) s=if l[j]'(by omega)=true then ((C6 to (l.take j) (fs.take j) s).1++[⟨fs[j].params,fs[j].slots,(H2 to fs[j].term (C6 to (l.take j) (fs.take j) s).2).1⟩],(H2 to fs[j].term (C6 to (l.take j) (fs.take j) s).2).2) else C6 to (l.take j) (fs.take j) s:=by
 grind [H9,A8H]
theorem C1t {N b:Nat} (h93:F 93=some f1093) (c:PCore) (hc:OkC c) (l:List Bool) (hl:l.length=c.funs.length) (hfl:c.funs.length<=1000000) (hN:c.funs.length<N) (hz:∀f∈c.funs,E3 f.term<=N/\cntT f.term<=3000) (hct:cntFs c.funs<=1000000) (to:List Int) (hok:∀f∈c.funs,F1 to.length f.term=true) (m:Md) (hm:m=.own 3 1\/m=.fz\/m=.nl/\to=[])
  (a:TAct) (σ:Sto) (kc ver:Nat) (hat:σ.at kc=some ⟨ver,.cells [.int .i64 0] 113⟩) (v4 t0:TV) (Q:List TV) (s5:Nat) (hQ:Q.length=11)
  (hdf:a.df=[]) (h1:a.tm.get 1=some (.sl .fz (l.map K0))) (h2:a.tm.get 2=some (.bx 0 (E9 c) 40)) (h4:a.tm.get 4=some v4) (h5:a.tm.get 5=some (.bx s5 (t0::.sl .nl []::Q) 40)) (h6:a.tm.get 6=some (.ptr kc 0)) (h7:a.tm.get 7=some (.sl m (to.map encI))):
  Tw A9X b (A4 F O N) N (fun ex a' σ'=>ex=.normal/\(∃ver',σ'=σ.set kc (some ⟨ver',.cells [.int .i64 (C6 to l c.funs 0).2] 113⟩))/\a'.df=[]/\a'.tm.get 2=some (.bx 0 (E9 c) 40)/\a'.tm.get 4=some v4/\a'.tm.get 6=some (.ptr kc 0)/\B9X to (a'.tm.get 7)/\∃v,Bld 38 10 G4 (C6 to l c.funs 0).1 v/\a'.tm.get 5=some (.bx s5 (t0::v::Q) 40)) [] (B6 A9X b (A4 F O N) N B9V a σ):=by
 obtain ⟨tm,df,clk⟩:=a;simp only at hdf h1 h2 h4 h5 h6 h7;subst hdf;have hkl:=Sto.lt hat;obtain ⟨q0,q1,q2,q3,q4,q5,q6,q7,q8,q9,q10,rfl⟩:∃a b c d e f g h i j k,Q=[a,b,c,d,e,f,g,h,i,j,k]:=by
  match Q,hQ with|[a,b,c,d,e,f,g,h,i,j,k],_=>exact ⟨a,b,c,d,e,f,g,h,i,j,k,rfl⟩
 simp [B9V]
 obtain ⟨I,hI⟩:∃I:Nat->TAct->Sto->Prop,I=(fun j a' σ'=>a'.df=[]/\(∃ver',σ'=σ.set kc (some ⟨ver',.cells [.int .i64 (C6 to (l.take j) (c.funs.take j) 0).2] 113⟩))/\a'.tm.get 1=some (.sl .fz (l.map K0))/\a'.tm.get 2=some (.bx 0 (E9 c) 40)/\a'.tm.get 4=some v4/\a'.tm.get 6=some (.ptr kc 0)/\B9X to (a'.tm.get 7)/\
  (∃v,Bld 38 10 G4 (C6 to (l.take j) (c.funs.take j) 0).1 v/\a'.tm.get 5=some (.bx s5 [t0,v,q0,q1,q2,q3,q4,q5,q6,q7,q8,q9,q10] 40))/\a'.tm.get 10=some (.int .i64 j)):=⟨_,rfl⟩
 obtain ⟨R,hR⟩:∃R:TEx->TAct->Sto->Prop,R=(fun ex a' σ'=>ex=.exit 2/\(∃ver',σ'=σ.set kc (some ⟨ver',.cells [.int .i64 (C6 to l c.funs 0).2] 113⟩))/\a'.df=[]/\a'.tm.get 2=some (.bx 0 (E9 c) 40)/\a'.tm.get 4=some v4/\a'.tm.get 6=some (.ptr kc 0)/\B9X to (a'.tm.get 7)/\∃v,Bld 38 10 G4 (C6 to l c.funs 0).1 v/\a'.tm.get 5=some (.bx s5 [t0,v,q0,q1,q2,q3,q4,q5,q6,q7,q8,q9,q10] 40)):=⟨_,rfl⟩
 refine A9 I c.funs.length R ?_ (by omega) ?_ ?_ ?_
 ·rw [hI];refine ⟨rfl,⟨ver,?_⟩,by simp [h1],by simp [h2],by simp [h4],by simp [h6],⟨m,hm,by simp [h7]⟩,⟨.sl .nl [],?_,by simp [h5]⟩,by simp⟩
  ·grind [C6,A5K]
  ·simp only [List.take_zero,C6];exact .nl
 ·rw [hI];rintro j ⟨tm,df,clk⟩ σ' hj ⟨rfl,⟨v1,rfl⟩,h1,h2,h4,h6,⟨m,hm,h7⟩,⟨v,hB,h5⟩,h10⟩;rw [<-hI];simp only at h1 h2 h4 h5 h6 h7 h10;have hw:=C8 hj hc.flen;have hjl:j<l.length:=by omega
  have hj1:j+1<=l.length:=hjl;have hmem:=List.getElem_mem hj;have h2':=h2;rw [A7] at h2;have hks:=A8J to 0 hj hl;have hst:=Y2 to (l.take j) (c.funs.take j) 0;have hst2:=A8I hj;have hlt:(C6 to (l.take j) (c.funs.take j) 0).1.length<=1000000:=by
   grind [A26]
  have hcc:=fun m hm=>A5Q (O:=O) h93 (E3 c.funs[j].term) N c.funs[j].term to m kc b (σ.set kc (some ⟨v1,.cells [.int .i64 (C6 to (l.take j) (c.funs.take j) 0).2] 113⟩)) v1 (C6 to (l.take j) (c.funs.take j) 0).2 (Nat.le_refl _) (hz _ hmem).1 hm (hc.funs _ hmem).term (hz _ hmem).2 (by omega) (by omega) (hok _ hmem) (by simp [Sto.at,hkl])
  simp only [List.set_set] at hcc;have hE:=B9 c.funs[j];have hE2:=B9 ⟨c.funs[j].params,c.funs[j].slots,(H2 to c.funs[j].term (C6 to (l.take j) (c.funs.take j) 0).2).1⟩;have hE3:=A0 (H2 to c.funs[j].term (C6 to (l.take j) (c.funs.take j) 0).2).1;rw [A0 c.funs[j].term,hE3] at hcc;simp only at hE2;generalize (H2 to c.funs[j].term (C6 to (l.take j) (c.funs.take j) 0).2).1=y at hcc hks hE2 hE3
  generalize (H2 to c.funs[j].term (C6 to (l.take j) (c.funs.take j) 0).2).2=z at hcc hks;generalize hK:C6 to (l.take j) (c.funs.take j) 0=K at*;obtain ⟨L,q⟩:=K;simp only at hB hlt hcc hks;have hlen3:L.length<=1073741823:=by omega
  cases hx:l[j] with
  |false=>
   rw [hx,if_neg (by simp)] at hks;simp [h1,h2,h4,h5,h6,h7,h10,hj,hjl,hj1,hw,hx,K0];rw [hI];dsimp only;rw [hks];exact ⟨rfl,⟨_,rfl⟩,by simp [h1],by simp [h2'],by simp [h4],by simp [h6],⟨m,hm,by simp [h7]⟩,⟨v,hB,by simp [h5]⟩,by simp⟩
  |true=>
   rw [hx,if_pos rfl] at hks;rcases hm with rfl|rfl|⟨rfl,rfl⟩
   ·obtain ⟨v2,hcc⟩:=hcc .fz (.inl rfl);rcases hB with _|_
    all_goals
     simp [h1,h2,h4,h5,h6,h7,h10,hj,hjl,hj1,hw,hx,K0,hcc,hE,hE2,hlen3];rw [hI];dsimp only;rw [hks];exact ⟨rfl,⟨_,rfl⟩,by simp [h1],by simp [h2'],by simp [h4],by simp [h6],⟨.fz,.inr (.inl rfl),by simp [h7]⟩,⟨_,.own _,by simp [hE2]⟩,by simp⟩
   ·obtain ⟨v2,hcc⟩:=hcc .fz (.inl rfl);rcases hB with _|_
    all_goals
     simp [h1,h2,h4,h5,h6,h7,h10,hj,hjl,hj1,hw,hx,K0,hcc,hE,hE2,hlen3];rw [hI];dsimp only;rw [hks];exact ⟨rfl,⟨_,rfl⟩,by simp [h1],by simp [h2'],by simp [h4],by simp [h6],⟨.fz,.inr (.inl rfl),by simp [h7]⟩,⟨_,.own _,by simp [hE2]⟩,by simp⟩
   ·obtain ⟨v2,hcc⟩:=hcc .nl (.inr ⟨rfl,rfl⟩);simp only [List.map_nil] at hcc h7;rcases hB with _|_
    all_goals
     simp [h1,h2,h4,h5,h6,h7,h10,hj,hjl,hj1,hw,hx,K0,hcc,hE,hE2,hlen3];rw [hI];dsimp only;rw [hks];exact ⟨rfl,⟨_,rfl⟩,by simp [h1],by simp [h2'],by simp [h4],by simp [h6],⟨.nl,.inr (.inr ⟨rfl,rfl⟩),by simp [h7]⟩,⟨_,.own _,by simp [hE2]⟩,by simp⟩
 ·rw [hI];rintro ⟨tm,df,clk⟩ σ' ⟨rfl,⟨v1,rfl⟩,h1,h2,h4,h6,hm,⟨v,hB,h5⟩,h10⟩;rw [List.take_of_length_le (by omega:l.length<=c.funs.length),List.take_of_length_le (Nat.le_refl _)] at hB ⊢;have h2':=h2;rw [A7] at h2;simp [h2,h10];rw [hR];obtain ⟨m,hm,h7⟩:=hm;exact ⟨rfl,⟨_,rfl⟩,rfl,by simp [h2'],by simp [h4],by simp [h6],⟨m,hm,by simp [h7]⟩,v,hB,by simp [h5]⟩
 simp_all
end
section
open Go Go.Xe Go.Xt
variable {F:FuncId->Option TFun} {O:FuncId->List TV->Option TV}
structure RowsJ (σ:Sto) (n:Nat) (M:List (List Bool)) (j:Nat) (v4:Option TV) (σ':Sto):Prop where
 take:σ'.take σ.length=σ
 len:σ'.length=σ.length+2*j
 rows:∀(i:Nat) (r:List Bool),i<j->M[i]? =some r->∃ver,σ'.at (σ.length+2*i)=some ⟨ver,.cells (bcells r) 4⟩
 out:j=0/\v4=some (.sl .nl [])\/0<j/\∃vo,v4=some (.ref (σ.length+2*j - 1) 0 1 j (D3+1))/\σ'.at (σ.length+2*j - 1)=some ⟨vo,.cells (T0 σ.length n j) 62⟩
theorem B52 (B n j:Nat):T0 B n (j+1)=T0 B n j++[.ref (B+2*j) 0 1 n n]:=by
 unfold T0;rw [List.range_succ,List.map_append];rfl
theorem B0y (B n j:Nat):(T0 B n j).any D1=false:=by
 unfold T0;rw [List.any_map,List.any_eq_false];intro x _;simp [D1]
theorem RowsJ.next {σ σ' τ:Sto} {n j vr:Nat} {M:List (List Bool)} {v4:Option TV} {rw0:List Bool} (h:RowsJ σ n M j v4 σ') (hrow:∀r,M[j]? =some r->r=rw0) (hτ:τ.length=σ'.length+1) (hpre:τ.take σ.length=σ) (hold:∀i,i<j->τ.at (σ.length+2*i)=σ'.at (σ.length+2*i)) (hnew:τ.at σ'.length=some ⟨vr,.cells (bcells rw0) 4⟩):
  RowsJ σ n M (j+1) (some (.ref (σ'.length+1) 0 1 (j+1) (D3+1))) (τ++[some ⟨0,.cells (T0 σ.length n j++[.ref σ'.length 0 1 n n]) 62⟩]):=by
 have hl:=h.len;have e:T0 σ.length n j++[.ref σ'.length 0 1 n n]=T0 σ.length n (j+1):=by rw [B52,hl]
 rw [e];refine ⟨by rw [List.take_append_of_le_length (by omega)];exact hpre,by simp;omega,fun i r hi hr=> ?_,.inr ⟨by omega,0,by rw [hl];congr 2,?_⟩⟩
 ·rw [A3p _ (by omega)]
  by_cases hij:i<j
  ·rw [hold i hij];exact h.rows i r hij hr
  ·obtain rfl:i=j:=by omega
   rw [<-hl,hnew,hrow r hr];exact ⟨_,rfl⟩
 ·rw [show σ.length+2*(j+1) - 1=τ.length by omega];simp [Sto.at]
theorem C1u {N:Nat} (h94:F 94=some f1094k) (h118:F 118=some f1118) (c:PCore) (hc:OkC c) (hn:c.funs.length<=1000) (hnN:c.funs.length<N) (hok:∀f∈c.funs,F1 c.funs.length f.term=true) (hsz:∀f∈c.funs,E3 f.term<N) (v2:TV)
  (a:TAct) (σ:Sto) (hdf:a.df=[]) (h1:a.tm.get 1=some (.bx 0 (E9 c) 40)) (h2:a.tm.get 2=some v2) (h3:a.tm.get 3=some (.int .i64 c.funs.length)) (h4:a.tm.get 4=some (.sl .nl [])):
  Tw A0P σ.length (A4 F O N) N (fun ex a' σ'=>ex=.normal/\a'.df=[]/\RowsJ σ c.funs.length (A07 c) c.funs.length (a'.tm.get 4) σ'/\a'.tm.get 1=some (.bx 0 (E9 c) 40)/\a'.tm.get 2=some v2/\a'.tm.get 3=some (.int .i64 c.funs.length)) [] (B6 A0P σ.length (A4 F O N) N B9T a σ):=by
 obtain ⟨tm,df,clk⟩:=a;simp only at hdf h1 h2 h3 h4;subst hdf;obtain ⟨N,rfl⟩:∃n,N=n+1:=⟨N - 1,by omega⟩;simp [B9T];obtain ⟨I,hI⟩:∃I:Nat->TAct->Sto->Prop,I=(fun j a' σ'=>a'.df=[]/\RowsJ σ c.funs.length (A07 c) j (a'.tm.get 4) σ'/\a'.tm.get 1=some (.bx 0 (E9 c) 40)/\a'.tm.get 2=some v2/\a'.tm.get 3=some (.int .i64 c.funs.length)/\a'.tm.get 5=some (.int .i64 j)):=⟨_,rfl⟩
 obtain ⟨R,hR⟩:∃R:TEx->TAct->Sto->Prop,R=(fun ex a' σ'=>ex=.exit 0/\a'.df=[]/\RowsJ σ c.funs.length (A07 c) c.funs.length (a'.tm.get 4) σ'/\a'.tm.get 1=some (.bx 0 (E9 c) 40)/\a'.tm.get 2=some v2/\a'.tm.get 3=some (.int .i64 c.funs.length)):=⟨_,rfl⟩;refine A9 I c.funs.length R ?_ (by omega) ?_ ?_ ?_
 ·rw [hI];refine ⟨rfl,⟨by simp,by simp,fun i r hi=>by omega,.inl ⟨rfl,by simp [h4]⟩⟩,by simp [h1],by simp [h2],by simp [h3],by simp⟩
 ·rw [hI];rintro j ⟨tm,df,clk⟩ σ' hj ⟨rfl,hr,h1,h2,h3,h5⟩;rw [<-hI];simp only at hr h1 h2 h3 h5;have hw:=C8 hj hc.flen;have hj1:j+1<=c.funs.length:=hj;have hmem:=List.getElem_mem hj;have h1':=h1;rw [A7] at h1;have hlen:=hr.len;obtain ⟨vr,hcc⟩:=B0v (O:=O) h94 h118 N c.funs[j].term c.funs.length σ.length σ' (by have:=hsz _ hmem;omega) (hc.funs _ hmem).term hn (hok _ hmem) (by omega)
  have hrow:M5 c.funs[j].term (List.replicate c.funs.length false)=Z4 c c.funs[j].term:=rfl;rw [hrow] at hcc;have hsr:∀r,(A07 c)[j]? =some r->r=Z4 c c.funs[j].term:=fun r h=>by
   unfold A07 at h;rw [List.getElem?_map,List.getElem?_eq_getElem hj] at h;exact (Option.some.inj h).symm
  have hE:=B9 c.funs[j];rw [A0] at hcc;generalize hrw:Z4 c c.funs[j].term=rw0 at hcc hsr;have hb1:σ.length<=σ'.length:=by omega
  have hb2:σ.length<=σ'.length+1:=by omega
  rcases hr.out with ⟨rfl,h4⟩|⟨hj0,vo,h4,hvo⟩
  ·have hw0:IntKind.i64.wrap 1=1:=by rw [D7]<;>omega
   simp [h1,h2,h3,h4,h5,hj,hj1,hw0,hcc,hE,hb1,hb2];rw [hI];have hnx:=hr.next (τ:=σ'++[some ⟨vr,.cells (bcells rw0) 4⟩]) hsr (by simp) (by rw [List.take_append_of_le_length hb1];exact hr.take) (fun i hi=>by omega) (G0 _ _);exact ⟨rfl,by simpa [T0] using hnx,by simp [h1'],by simp [h2],by simp [h3],by simp⟩
  ·have hvo2:Sto.at (σ'++[some ⟨vr,.cells (bcells rw0) 4⟩]) (σ.length+2*j - 1)=some ⟨vo,.cells (T0 σ.length c.funs.length j) 62⟩:=by rw [A3p _ (by omega)];exact hvo
   have hcl:=A5R σ.length c.funs.length j;have hct:(T0 σ.length c.funs.length j).take j=T0 σ.length c.funs.length j:=List.take_of_length_le (by omega);have hca:=B0y σ.length c.funs.length j;have hol2:j+1<=1073741824:=by omega
   have hne:j≠0:=by omega
   simp [h1,h2,h3,h4,h5,hj,hj1,hw,hcc,hE,hb1,hb2,hvo2,hcl,hct,hca,hol2,hne,hj0];rw [hI];have hnx:=hr.next (τ:=(σ'++[some (⟨vr,.cells (bcells rw0) 4⟩:TObj)]).set (σ.length+2*j - 1) none) hsr (by simp) (by rw [Q9 (by omega),List.take_append_of_le_length hb1];exact hr.take) (fun i hi=>by rw [A05 (by omega),A3p _ (by omega)]) (by rw [A05 (by omega)];exact G0 _ _)
   exact ⟨rfl,by simpa using hnx,by simp [h1'],by simp [h2],by simp [h3],by simp⟩
 ·rw [hI];rintro ⟨tm,df,clk⟩ σ' ⟨rfl,hr,h1,h2,h3,h5⟩;simp only at hr h1 h2 h3 h5;simp [h3,h5];rw [hR];exact ⟨rfl,rfl,by simpa using hr,by simp [h1],by simp [h2],by simp [h3]⟩
 ·rw [hR];rintro ex ⟨tm,df,clk⟩ σ' ⟨rfl,rfl,hr,h1,h2,h3⟩;simp;exact ⟨hr,h1,h2,h3⟩
theorem B0z:∀(l:List TV),A1S 1 l.length l=l.map fun x=>[x]
 |[]=>rfl
 |x::l=>by simp only [List.length_cons,A1S,List.map_cons];rw [show List.drop 1 (x::l)=l from rfl,B0z l];rfl
def A6A (M:List (List Bool)):TV:=.sl .fz (M.map fun r=>[.sl .fz (r.map K0)])
theorem B9Y {σ σ':Sto} {n:Nat} {M:List (List Bool)} (hM:Sq n M) (h:RowsK σ n M σ') (hn0:0<n) (hn:n<=1000):X8 σ' σ.length 4 (.ref (σ.length+2*n - 1) 0 1 n (D3+1))=A6A M:=by
 obtain ⟨vo,hvo⟩:=h.out;have hb:Nat.ble σ.length (σ.length+2*n - 1)=true:=by rw [D4];exact decide_eq_true (by omega)
 have hlen:=A5R σ.length n n;unfold X8;rw [hb,hvo];have hle:(Nat.ble (0+n*1) (T0 σ.length n n).length&& !(((T0 σ.length n n).drop 0).take (n*1)).any D1&&(Nat.blt (D3+1) D3||Nat.beq (D3+1) (D3+1)))=true:=by
  rw [List.drop_zero,Nat.mul_one,List.take_of_length_le (by omega),B0y];simp [hlen]
 dsimp only;rw [hle];have h1:=B0z (T0 σ.length n n);rw [hlen] at h1;simp only [List.drop_zero,h1,A6A];congr 1;rw [List.map_map];unfold T0;rw [List.map_map];apply List.ext_getElem?;intro i;rw [List.getElem?_map,List.getElem?_map]
 by_cases hi:i<n
 ·obtain ⟨r,hr,hl⟩:=hM.row hi;obtain ⟨v,hv⟩:=h.rows i r hr;rw [List.getElem?_range hi,hr];have:=A4g (σ2:=σ') (k0:=σ.length) (j:=σ.length+2*i) 2 n r (by omega) hv (by rw [G6];exact decide_eq_true (by unfold D3;omega));rw [hl] at this;simp only [Option.map_some,Function.comp,List.map_cons,List.map_nil,this]
 ·rw [List.getElem?_eq_none (by simp;omega),List.getElem?_eq_none (by rw [hM.1];omega)];rfl
theorem B7r (b:Nat) (M:List (List Bool)):below b (A6A M)=true:=by
 unfold A6A;have:=V5 b (fun r:List Bool=>[TV.sl .fz (r.map K0)]) (fun r=>by simp [below.belows,below]) M
 simpa [below] using this
theorem D0T {N b:Nat} (hN:0<N) (v1 v2 v4:TV) (a:TAct) (σ:Sto) (hdf:a.df=[]) (h1:a.tm.get 1=some v1) (h2:a.tm.get 2=some v2) (h3:a.tm.get 3=some (.int .i64 0)) (h4:a.tm.get 4=some v4):
  Tw A0P b (A4 F O N) N (fun ex a' σ'=>ex=.normal/\a'.df=[]/\σ'=σ/\a'.tm.get 4=some v4) [] (B6 A0P b (A4 F O N) N B3B a σ):=by
 obtain ⟨tm,df,clk⟩:=a;simp only at hdf h1 h2 h3 h4;subst hdf;simp [B3B];refine A9 (I:=fun j a' σ'=>j=0/\a'.df=[]/\σ'=σ/\a'.tm.get 3=some (.int .i64 0)/\a'.tm.get 4=some v4/\a'.tm.get 6=some (.int .i64 0)) 0 (R:=fun ex a' σ'=>ex=.exit 2/\a'.df=[]/\σ'=σ/\a'.tm.get 4=some v4) ?_ hN ?_ ?_ ?_
 ·exact ⟨rfl,rfl,rfl,by simp [h3],by simp [h4],by simp⟩
 ·intro j a σ hj;omega
 ·rintro ⟨tm,df,clk⟩ σ' ⟨_,rfl,rfl,h3,h4,h6⟩;simp only at h3 h4 h6;simp [h3,h6,h4]
 ·rintro ex ⟨tm,df,clk⟩ σ' ⟨rfl,rfl,rfl,h4⟩;simp [h4]
theorem B7s (h95:F 95=some f1095k) (h94:F 94=some f1094k) (h118:F 118=some f1118) (c:PCore) (hc:OkC c) (hn:c.funs.length<=1000) (N b:Nat) (σ:Sto) (hnN:c.funs.length<N) (hok:∀f∈c.funs,F1 c.funs.length f.term=true) (hsz:∀f∈c.funs,E3 f.term<N)
  (hr:A4 F O N σ.length 52 [.agg (E9 c)] σ=some (.ret (.bool true),σ)):
  A4 F O (N+1) b 95 [.agg (E9 c)] σ=some (.ret (A6A (S7 c)),σ):=by
 refine A3 h95 ?_;rw [A7] at hr;simp [B7p,A7 c,hr];apply E2
 ·apply C1u (N:=N) h94 h118 c hc hn hnN hok hsz
  ·rfl
  ·simp [A7 c]
  ·simp;rfl
  ·simp
  ·simp
 rintro ex ⟨tm,df,clk⟩ σ1 ⟨rfl,hdf,hj,g1,g2,g3⟩;simp only at hdf hj g1 g2 g3;subst hdf;have hsq:=A24 c;rcases hj.out with ⟨h0,g4⟩|⟨h0,vo,g4,hvo⟩
 ·have htk:σ1=σ:=by
   have:=hj.take;rw [List.take_of_length_le (by have:=hj.len;omega)] at this;exact this
  subst htk;rw [h0] at g3;simp;apply E2
  ·apply D0T (by omega) _ _ _ _ _ rfl g1 g2 g3 g4
  rintro ex ⟨tm,df,clk⟩ σ2 ⟨rfl,hdf,rfl,g4⟩;simp only at hdf g4;subst hdf;have hnm:A6A (S7 c)=.sl .fz []:=by
   have:(S7 c).length=0:=by
    have:=(hsq.loopK c.funs.length).1;rw [<-h0];exact this
   unfold A6A;rw [List.length_eq_zero_iff.1 this];rfl
  rw [hnm];simp [g4]
 ·have hRK:RowsK σ c.funs.length (A07 c) σ1:=⟨hj.take,hj.len,fun i r hi=>hj.rows i r (by have:=(List.getElem?_eq_some_iff.1 hi).1;rw [hsq.1] at this;exact this) hi,vo,hvo⟩;simp;apply E2
  ·apply C1r (b:=σ.length) σ c.funs.length hn hnN _ _ _ (A07 c) hsq _ _ ⟨rfl,hRK,g1,g2,g3,g4⟩
  rintro ex ⟨tm,df,clk⟩ σ2 ⟨rfl,hdf,hR2,_,_,_,g4⟩;simp only at hdf g4;subst hdf;have hth:X8 σ2 σ.length 4 (.ref (σ.length+2*c.funs.length - 1) 0 1 c.funs.length (D3+1))=A6A (S7 c):=B9Y (hsq.loopK c.funs.length) hR2 h0 hn;have hbl:=B7r σ.length (S7 c);have htk:=hR2.take;simp [g4,-X8,hth,hbl,htk]
def B9Z:XCode:=(by exact fun x _=>x:V0 (gT x1055.body [1,1,1,1,0,1,0,0,1,0,0])) _ (by conv=>lhs;cbv)
def C00:XCode:=(by exact fun x _=>x:V1 (fun a=>pT (gT x1055.body [1,1,1,1,0]) [1,0,0,1,0,0] a)) _ (by intros;conv=>lhs;cbv) B9Z
theorem B7t:x1055=(by exact fun x _=>x:V1 (fun a=>({x1055 with body:=pT (x1055.body) [1,1,1,1,0] a}:XFun))) _ (by intros;conv=>lhs;cbv) C00:=rfl
structure InvO (c:PCore) (l:List Bool) (i:Nat):Prop where
 base:LeB (Z4 c c.query.term) l
 sound:∀j:Nat,l[j]? =some true->ReachC c j
 done:∀a k:Nat,a<i->k<c.funs.length->(Z4 c c.query.term)[k]? =some true->H6 (S7 c) k a=true->l[a]? =some true
theorem InvO.len {c:PCore} {l:List Bool} {i:Nat} (h:InvO c l i):l.length=c.funs.length:=by rw [<-h.base.1,A0D]
theorem B3C {c:PCore} {k i:Nat} (h:ReachC c k) (e:H6 (S7 c) k i=true):ReachC c i:=
 B4U h ((A8x (A24 c) k i).1 e)
theorem InvO.set {c:PCore} {l:List Bool} {i a k:Nat} (h:InvO c l i) (hk:l[k]? =some true) (e:H6 (S7 c) k a=true):InvO c (l.set a true) i:=
 ⟨h.base.trans (LeB.set _ _),fun j hj=>by
  by_cases ej:a=j
  ·subst ej;exact B3C (h.sound k hk) e
  ·rw [List.getElem?_set_ne ej] at hj;exact h.sound j hj,
  fun a' k' ha hk' hb hn=>(LeB.set l a).2 a' (h.done a' k' ha hk' hb hn)⟩
def SO (c:PCore) (σ:Sto) (v1 v2:TV) (cap:Nat) (l:List Bool) (a':TAct) (σ':Sto):Prop:=
 a'.df=[]/\OutB σ l σ'/\a'.tm.get 1=some v1/\a'.tm.get 2=some v2/\a'.tm.get 3=some (.int .i64 c.funs.length)/\a'.tm.get 4=some (.ref σ.length 0 1 c.funs.length cap)/\a'.tm.get 5=some (A6A (S7 c))
theorem C1v {N b:Nat} (c:PCore) (hn:c.funs.length<=1000) (hnN:c.funs.length<N) (σ:Sto) (v1 v2:TV) (cap i:Nat) (hi:i<c.funs.length) (l0:List Bool) (hl0:InvO c l0 i) (a:TAct) (σ1:Sto) (hs:SO c σ v1 v2 cap l0 a σ1) (h6:a.tm.get 6=some (.int .i64 i)):
  Tw A9Y b (A4 F O N) N (fun ex a' σ'=>ex=.normal/\(∃l,InvO c l (i+1)/\SO c σ v1 v2 cap l a' σ')/\a'.tm.get 6=some (.int .i64 i)) [] (B6 A9Y b (A4 F O N) N B9Z a σ1):=by
 obtain ⟨tm,df,clk⟩:=a;obtain ⟨hdf,hO,h1,h2,h3,h4,h5⟩:=hs;simp only at hdf h1 h2 h3 h4 h5 h6;subst hdf;simp [B9Z];obtain ⟨I,hI⟩:∃I:Nat->TAct->Sto->Prop,I=(fun k a' σ'=>(∃l,InvO c l i/\(∀k',k'<k->(Z4 c c.query.term)[k']? =some true->H6 (S7 c) k' i=true->l[i]? =some true)/\SO c σ v1 v2 cap l a' σ')/\a'.tm.get 6=some (.int .i64 i)/\a'.tm.get 7=some (.int .i64 k)):=⟨_,rfl⟩
 obtain ⟨R,hR⟩:∃R:TEx->TAct->Sto->Prop,R=(fun ex a' σ'=>ex=.exit 2/\(∃l,InvO c l (i+1)/\SO c σ v1 v2 cap l a' σ')/\a'.tm.get 6=some (.int .i64 i)):=⟨_,rfl⟩;have hsq:Sq c.funs.length (S7 c):=(A24 c).loopK _;refine A9 I c.funs.length R ?_ (by omega) ?_ ?_ ?_
 ·rw [hI];exact ⟨⟨l0,hl0,fun k hk=>by omega,rfl,hO,by simp [h1],by simp [h2],by simp [h3],by simp [h4],by simp [h5]⟩,by simp [h6],by simp⟩
 ·rw [hI];rintro k ⟨tm,df,clk⟩ σ' hk ⟨⟨l,hl,hd,rfl,hO,h1,h2,h3,h4,h5⟩,h6,h7⟩;rw [<-hI];simp only at h1 h2 h3 h4 h5 h6 h7;have hw:=C8 hk (by unfold maxLen;omega);have hk1:k+1<=c.funs.length:=hk;have hi1:i+1<=c.funs.length:=hi;have hll:=hl.len;have il:k<l.length:=by omega
  have gl:l[k]? =some l[k]:=List.getElem?_eq_getElem il;have hO3:=hO;obtain ⟨hO1,vo,hO2⟩:=hO;have hlk:(bcells l)[k]? =some (.bool l[k]):=by rw [A5M,gl];rfl
  have hbl:(bcells l).length=c.funs.length:=by simp [bcells,hll]
  obtain ⟨row,hrow,hrl⟩:=hsq.row hk;have ir:i<row.length:=by omega
  have g2:H6 (S7 c) k i=row[i]'ir:=by unfold H6;rw [hrow];simp only [Option.getD_some];rw [List.getElem?_eq_getElem ir];rfl
  have hset:∀ver,l[k]=true->row[i]'ir=true->OutB σ (l.set i true) (σ'.set σ.length (some ⟨ver,.cells (bcells (l.set i true)) 4⟩)):=fun ver _ _=>hO3.put ver _
  have hpb:=P3 l i true (by omega);unfold A6A at h5;have hMl:((S7 c).map fun r:List Bool=>[TV.sl .fz (r.map K0)]).length=c.funs.length:=by rw [List.length_map];exact hsq.1
  have hMk:((S7 c).map fun r:List Bool=>[TV.sl .fz (r.map K0)])[k]? =some [TV.sl .fz (row.map K0)]:=by rw [List.getElem?_map,hrow];rfl
  have hRl:(row.map K0).length=c.funs.length:=by rw [List.length_map];exact hrl
  have hRi:(row.map K0)[i]? =some [.bool (row[i]'ir)]:=by rw [List.getElem?_map,List.getElem?_eq_getElem ir];rfl
  have h5':=h5;generalize hMV:((S7 c).map fun r:List Bool=>[TV.sl .fz (r.map K0)])=MV at h5 hMl hMk;generalize row.map K0=RV at hMk hRl hRi;have hMk2:∀h:k<MV.length,MV[k]=[TV.sl .fz RV]:=fun h=>by rw [List.getElem?_eq_getElem h] at hMk;exact Option.some.inj hMk
  have hRi2:∀h:i<RV.length,RV[i]=[.bool (row[i]'ir)]:=fun h=>by rw [List.getElem?_eq_getElem h] at hRi;exact Option.some.inj hRi
  generalize hB2:bcells l=B2 at hO2 hlk hbl hpb;have hlk2:∀h:k<B2.length,B2[k]=.bool l[k]:=fun h=>by rw [List.getElem?_eq_getElem h] at hlk;exact Option.some.inj hlk
  cases hx:l[k] with
  |false=>
   rw [hx] at hlk hlk2 gl;simp [h1,h2,h3,h4,h5,h6,h7,hk,hk1,hi,hi1,hw,hO2,hlk,hlk2,hbl];rw [hI];refine ⟨⟨l,hl,fun k' hk' hb he=> ?_,rfl,hO3,by simp [h1],by simp [h2],by simp [h3],by simp [h4],by simp [h5'];rfl⟩,by simp [h6],by simp⟩
   by_cases e:k'=k
   ·subst e;have:=hl.base.2 _ hb;grind
   grind
  |true=>
   rw [hx] at hlk hlk2 gl;cases hy:row[i]'ir with
   |false=>
    rw [hy] at hRi hRi2 g2;simp [h1,h2,h3,h4,h5,h6,h7,hk,hk1,hi,hi1,hw,hO2,hlk,hlk2,hbl,hMl,hMk,hMk2,hRl,hRi,hRi2];rw [hI];refine ⟨⟨l,hl,fun k' hk' hb he=> ?_,rfl,hO3,by simp [h1],by simp [h2],by simp [h3],by simp [h4],by simp [h5'];rfl⟩,by simp [h6],by simp⟩;grind
   |true=>
    rw [hy] at hRi hRi2 g2;simp [h1,h2,h3,h4,h5,h6,h7,hk,hk1,hi,hi1,hw,hO2,hlk,hlk2,hbl,hMl,hMk,hMk2,hRl,hRi,hRi2];rw [hI];refine ⟨⟨l.set i true,hl.set gl g2,fun k' hk' hb he=>by rw [List.getElem?_set_self (by omega)],rfl,?_,by simp [h1],by simp [h2],by simp [h3],by simp [h4],by simp [h5'];rfl⟩,by simp [h6],by simp⟩;simp_all
 ·rw [hI];rintro ⟨tm,df,clk⟩ σ' ⟨⟨l,hl,hd,rfl,hO,h1,h2,h3,h4,h5⟩,h6,h7⟩;simp only at h1 h2 h3 h4 h5 h6 h7;simp [h3,h7];rw [hR];refine ⟨rfl,⟨l,⟨hl.base,hl.sound,fun a k ha hk hb he=> ?_⟩,rfl,hO,by simp [h1],by simp [h2],by simp [h3],by simp [h4],by simp [h5]⟩,by simp [h6]⟩
  by_cases e:a=i
  ·grind
  ·exact hl.done a k (by omega) hk hb he
 simp_all
theorem C1w {N b:Nat} (c:PCore) (hn:c.funs.length<=1000) (hnN:c.funs.length<N) (σ:Sto) (v1 v2:TV) (cap:Nat) (l0:List Bool) (hl0:InvO c l0 0) (a:TAct) (σ1:Sto) (hs:SO c σ v1 v2 cap l0 a σ1):
  Tw A9Y b (A4 F O N) N (fun ex a' σ'=>ex=.normal/\a'.df=[]/\∃l,IsReach c l/\OutB σ l σ'/\a'.tm.get 4=some (.ref σ.length 0 1 c.funs.length cap)) [] (B6 A9Y b (A4 F O N) N C00 a σ1):=by
 obtain ⟨tm,df,clk⟩:=a;obtain ⟨hdf,hO,h1,h2,h3,h4,h5⟩:=hs;simp only at hdf h1 h2 h3 h4 h5;subst hdf;simp [C00];obtain ⟨I,hI⟩:∃I:Nat->TAct->Sto->Prop,I=(fun i a' σ'=>(∃l,InvO c l i/\SO c σ v1 v2 cap l a' σ')/\a'.tm.get 6=some (.int .i64 i)):=⟨_,rfl⟩;obtain ⟨R,hR⟩:∃R:TEx->TAct->Sto->Prop,R=(fun ex a' σ'=>ex=.exit 0/\∃l,InvO c l c.funs.length/\SO c σ v1 v2 cap l a' σ'):=⟨_,rfl⟩
 refine A9 I c.funs.length R ?_ (by omega) ?_ ?_ ?_
 ·rw [hI];exact ⟨⟨l0,hl0,rfl,hO,by simp [h1],by simp [h2],by simp [h3],by simp [h4],by simp [h5]⟩,by simp⟩
 ·rw [hI];rintro i ⟨tm,df,clk⟩ σ' hi ⟨⟨l,hl,rfl,hO,h1,h2,h3,h4,h5⟩,h6⟩;rw [<-hI];simp only at h1 h2 h3 h4 h5 h6;have hw:=C8 hi (by unfold maxLen;omega);simp [h3,h6,hi];apply E2
  ·apply C1v (b:=b) c hn hnN σ v1 v2 cap i hi l hl
   ·exact ⟨rfl,hO,by simp [h1],by simp [h2],by simp [h3],by simp [h4],by simp [h5]⟩
   ·simp [h6]
  rintro ex ⟨tm,df,clk⟩ σ2 ⟨rfl,⟨l2,hl2,hdf,hO2,g1,g2,g3,g4,g5⟩,g6⟩;simp only at hdf g1 g2 g3 g4 g5 g6;subst hdf;simp [g6,hw];rw [hI];exact ⟨⟨l2,hl2,rfl,hO2,by simp [g1],by simp [g2],by simp [g3],by simp [g4],by simp [g5]⟩,by simp⟩
 ·rw [hI];rintro ⟨tm,df,clk⟩ σ' ⟨⟨l,hl,rfl,hO,h1,h2,h3,h4,h5⟩,h6⟩;simp only at h1 h2 h3 h4 h5 h6;simp [h3,h6];rw [hR];exact ⟨rfl,l,hl,rfl,hO,by simp [h1],by simp [h2],by simp [h3],by simp [h4],by simp [h5]⟩
 ·rw [hR];rintro ex ⟨tm,df,clk⟩ σ' ⟨rfl,l,hl,rfl,hO,h1,h2,h3,h4,h5⟩;simp only at h4;simp;exact ⟨l,B9J hl.base hl.sound fun i k hi hk=>hl.done i k hi hk,hO,h4⟩
theorem B3D (h55:F 55=some f1055) (h95:F 95=some f1095k) (h94:F 94=some f1094k) (h118:F 118=some f1118) (c:PCore) (hc:OkC c) (hn:c.funs.length<=1000) (N b:Nat) (σ:Sto) (hnN:c.funs.length+1<N) (hok:∀f∈c.funs,F1 c.funs.length f.term=true) (hokq:F1 c.funs.length c.query.term=true) (hsz:∀f∈c.funs,E3 f.term+1<N) (hszq:E3 c.query.term<N)
  (hr:∀σ,A4 F O (N - 1) σ.length 52 [.agg (E9 c)] σ=some (.ret (.bool true),σ)):
  ∃l,IsReach c l/\A4 F O (N+1) b 55 [.agg (E9 c)] σ=some (.ret (.sl .fz (l.map K0)),σ):=by
 obtain ⟨N,rfl⟩:∃n,N=n+1:=⟨N - 1,by omega⟩
 suffices hh:∃e' σ',A4 F O (N+1+1) b 55 [.agg (E9 c)] σ=some (e',σ')/\∃l,IsReach c l/\e'=.ret (.sl .fz (l.map K0))/\σ'=σ by
  grind
 refine D5 h55 ?_;obtain ⟨vr,hcc⟩:=B0v (O:=O) h94 h118 N c.query.term c.funs.length σ.length σ (by omega) hc.query.term hn hokq (Nat.le_refl _);have hrow:M5 c.query.term (List.replicate c.funs.length false)=Z4 c c.query.term:=rfl;rw [hrow,A0] at hcc
 have hnd:=B7s (O:=O) h95 h94 h118 c hc hn N σ.length (σ++[some ⟨vr,.cells (bcells (Z4 c c.query.term)) 4⟩]) (by omega) hok (fun f hf=>by have:=hsz f hf;omega) (hr _);have hmv:A6A (S7 c)=.sl .fz ((S7 c).map fun r:List Bool=>[TV.sl .fz (r.map K0)]):=rfl;rw [A7,hmv] at hnd;simp [B7t,A7 c,hcc,hnd];apply E2
 ·apply C1w (b:=σ.length) c hn (by omega) σ (v1:=_) (v2:=_) (cap:=c.funs.length) (Z4 c c.query.term) ⟨LeB.refl _,fun j h=>.base h,fun a k ha=>by omega⟩;exact ⟨rfl,⟨by simp,vr,G0 _ _⟩,by simp;rfl,by simp;rfl,by simp,by simp,by simp [A6A]⟩
 rintro ex ⟨tm,df,clk⟩ σ2 ⟨rfl,hdf,l,hR,⟨hO1,vo,hO2⟩,g4⟩;simp only at hdf g4;subst hdf;have hll:(bcells l).length=c.funs.length:=by simp [bcells,hR.len]
 have hth:=A4g (σ2:=σ2) (k0:=σ.length) 3 c.funs.length l (Nat.le_refl _) hO2 (by rw [G6];exact decide_eq_true (by unfold D3;omega));rw [hR.len] at hth;simp [g4,-X8,hth,hO1];exact ⟨l,hR,rfl⟩
end
end Go.Xe.YtlgknghehgmodaaGreatDoor
