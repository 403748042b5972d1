/-
  A part of the proof: it is imported by YtlgknghehgmodaaGreatDoorTop. Nothing here is a claim of its own.
-/
import Derived.Test.YtlgknghehgmodaaGreatDoorE6
import Derived.Shelf.Small.Strs
import Derived.Shelf.Strings.Search1
import Derived.Shelf.Strings.Search2
import Derived.Shelf.Strings.Search3
import Derived.Shelf.LaysM
import Derived.Shelf.Strings.Shaped
import Derived.Shelf.Sort.Plain
import Derived.Ground.Names2Prog
import Derived.Shelf.Slices.CompactI
import Derived.Shelf.Slices.In.SortNone
import Derived.Test.YtlgknghehgmodaaGreatDoorProg
import Derived.MakeChecks
set_option linter.unusedVariables false
set_option linter.unusedSimpArgs false
set_option linter.unusedSectionVars false
set_option maxRecDepth 100000
namespace Go.Xe.YtlgknghehgmodaaGreatDoor
section
open Go Go.Xe Go.Xt
variable {F:FuncId->Option TFun} {O:FuncId->List TV->Option TV}
open Classical in
noncomputable def Y0 (c:PCore):List Bool:=(List.range c.funs.length).map fun j=>decide (ReachC c j)
theorem ReachC.lt {c:PCore} {j:Nat} (h:ReachC c j):j<c.funs.length:=by
 cases h with
 |base h=>grind [A0W]
 |step _ _ h=>grind [A0W]
theorem A0E (c:PCore):IsReach c (Y0 c):=by
 refine ⟨by simp [Y0],fun j=> ?_⟩;unfold Y0;rw [List.getElem?_map]
 by_cases hj:j<c.funs.length
 ·grind
 ·rw [List.getElem?_eq_none (by simp;omega)];simp only [Option.map_none];exact ⟨fun h=>(by cases h),fun h=>absurd h.lt hj⟩
theorem IsReach.is {c:PCore} {l:List Bool} (h:IsReach c l):l=Y0 c:=h.eq (A0E c)
def B99:XCode:=(by exact fun x _=>x:V0 (gT x1017.body [1,1,1,1,1,1,1,1,1,0])) _ (by conv=>lhs;cbv)
def B9a:XCode:=(by exact fun x _=>x:V0 (gT x1017.body [1,1,1,1,1,1,0])) _ (by conv=>lhs;cbv)
theorem A9N:x1017=(by exact fun x _=>x:V2 (fun a b=>({x1017 with body:=pT (pT (x1017.body) [1,1,1,1,1,1,0] a) [1,1,1,1,1,1,1,1,1,0] b}:XFun))) _ (by intros;conv=>lhs;cbv) B9a B99:=rfl
theorem B6O (l:List Int) (o:Nat) (v:Int) (h:o<l.length):putAt (encZT l) o [.int .i64 v]=encZT (l.set o v):=by
 unfold putAt encZT;rw [List.map_set];simp only [List.length_cons,List.length_nil];rw [List.set_eq_take_append_cons_drop,if_pos (by simpa using h)];simp
def toJ (l:List Bool) (j:Nat):List Int:=(K1 l).take j++List.replicate (l.length - j) 0
theorem C0n (l:List Bool) {j:Nat} (h:j<=l.length):(toJ l j).length=l.length:=by
 grind [toJ,A20]
theorem B9b (l:List Bool) {j:Nat} (h:j<l.length):(toJ l j).set j ((l.take j).count true:Int)=toJ l (j+1):=by
 have hj:j<(K1 l).length:=by rw [A20];exact h
 have h1:((K1 l).take j).length=j:=by rw [List.length_take];omega
 unfold toJ;rw [List.set_append_right _ _ (by omega),h1,Nat.sub_self,M4 hj,B5u l h];have:l.length - j=(l.length - (j+1))+1:=by omega
 grind
theorem C0o {N b:Nat} (l:List Bool) (hlm:l.length<=1000) (hN:l.length<N) (kt cap ver:Nat) (a:TAct) (σ:Sto) (hat:σ.at kt=some ⟨ver,.cells (encZT (List.replicate l.length 0)) 3⟩) (v1 v2:TV)
  (hdf:a.df=[]) (h1:a.tm.get 1=some v1) (h2:a.tm.get 2=some v2) (h4:a.tm.get 4=some (.sl .fz (l.map X3))) (h5:a.tm.get 5=some (.ref kt 0 1 l.length cap)) (h6:a.tm.get 6=some (.int .i64 0)):
  Tw A9k b (A2 F O N) N (fun ex a' σ'=>ex=.normal/\(∃ver',σ'=σ.set kt (some ⟨ver',.cells (encZT (K1 l)) 3⟩))/\a'.df=[]/\a'.tm.get 1=some v1/\a'.tm.get 2=some v2/\a'.tm.get 4=some (.sl .fz (l.map X3))/\a'.tm.get 5=some (.ref kt 0 1 l.length cap)) [] (B9 A9k b (A2 F O N) N B9a a σ):=by
 obtain ⟨tm,df,clk⟩:=a;simp only at hdf h1 h2 h4 h5 h6;subst hdf;have hkl:=Sto.lt hat;simp [B9a,h4]
 obtain ⟨I,hI⟩:∃I:Nat->TAct->Sto->Prop,I=(fun j a' σ'=>a'.df=[]/\(∃ver',σ'=σ.set kt (some ⟨ver',.cells (encZT (toJ l j)) 3⟩))/\a'.tm.get 1=some v1/\a'.tm.get 2=some v2/\a'.tm.get 4=some (.sl .fz (l.map X3))/\a'.tm.get 5=some (.ref kt 0 1 l.length cap)/\a'.tm.get 6=some (.int .i64 ((l.take j).count true:Nat))/\a'.tm.get 25=some (.sl .fz (l.map X3))/\a'.tm.get 26=some (.int .i64 l.length)/\a'.tm.get 27=some (.int .i64 j)):=⟨_,rfl⟩
 obtain ⟨R,hR⟩:∃R:TEx->TAct->Sto->Prop,R=(fun ex a' σ'=>ex=.exit 0/\(∃ver',σ'=σ.set kt (some ⟨ver',.cells (encZT (K1 l)) 3⟩))/\a'.df=[]/\a'.tm.get 1=some v1/\a'.tm.get 2=some v2/\a'.tm.get 4=some (.sl .fz (l.map X3))/\a'.tm.get 5=some (.ref kt 0 1 l.length cap)):=⟨_,rfl⟩;refine B8 I l.length R ?_ (by omega) ?_ ?_ ?_
 ·rw [hI];exact ⟨rfl,⟨ver,by rw [show toJ l 0=List.replicate l.length 0 by simp [toJ]];exact (B4a hat).symm⟩,by simp [h1],by simp [h2],by simp [h4],by simp [h5],by simp [h6],by simp,by simp,by simp⟩
 ·rw [hI];rintro j ⟨tm,df,clk⟩ σ' hj ⟨rfl,⟨v1',rfl⟩,h1,h2,h4,h5,h6,h25,h26,h27⟩;rw [<-hI];simp only at h1 h2 h4 h5 h6 h25 h26 h27;have hw:=F9 hj (by unfold maxLen;omega);have hj1:j+1<=l.length:=hj;have hcs:(l.take (j+1)).count true=(l.take j).count true+(if l[j]=true then 1 else 0):=by rw [M4 hj,List.count_append];cases l[j]<;>simp
  have hct:(l.take j).count true<=1000000:=Nat.le_trans List.count_le_length (by rw [List.length_take];omega);have hw2:IntKind.i64.wrap (((l.take j).count true:Nat)+1:Int)=(((l.take j).count true+1:Nat):Int):=by rw [G2]<;>omega
  have hst:=B9b l hj;have htl:=C0n l (Nat.le_of_lt hj);have hpb:=B6O (toJ l j) j ((l.take j).count true:Int) (by omega);rw [hst] at hpb;have hel:(encZT (toJ l j)).length=l.length:=by rw [J7];exact htl
  have hat2:Sto.at (σ.set kt (some ⟨v1',.cells (encZT (toJ l j)) 3⟩)) kt=some ⟨v1',.cells (encZT (toJ l j)) 3⟩:=by simp [Sto.at,hkl]
  have hbl:(l.map X3)[j]? =some [.bool l[j]]:=by rw [List.getElem?_map,List.getElem?_eq_getElem hj];rfl
  have hbn:(l.map X3).length=l.length:=by simp
  have h4':=h4;have h25':=h25;generalize l.map X3=BL at h4 h25 hbl hbn;have hbl2:∀h:j<BL.length,BL[j]=[.bool l[j]]:=fun h=>by rw [List.getElem?_eq_getElem h] at hbl;exact Option.some.inj hbl
  generalize (l.take j).count true=q at*;generalize encZT (toJ l j)=EZ at*;cases hx:l[j] with
  |false=>
   rw [hx] at hcs hbl hbl2;simp [h1,h2,h4,h5,h6,h25,h26,h27,hj,hj1,hw,hat2,hel,hbl,hbl2,hbn];rw [hI];exact ⟨rfl,⟨v1'+1,by rw [<-hpb];simp [putAt]⟩,by simp [h1],by simp [h2],by simp [h4'],by simp [h5],by simp [h6,hcs],by simp [h25'],by simp [h26],by simp⟩
  |true=>
   rw [hx] at hcs hbl hbl2;simp [h1,h2,h4,h5,h6,h25,h26,h27,hj,hj1,hw,hw2,hat2,hel,hbl,hbl2,hbn];rw [hI];exact ⟨rfl,⟨v1'+1,by rw [<-hpb];simp [putAt]⟩,by simp [h1],by simp [h2],by simp [h4'],by simp [h5],by simp [hcs],by simp [h25'],by simp [h26],by simp⟩
 ·rw [hI];rintro ⟨tm,df,clk⟩ σ' ⟨rfl,⟨v1',rfl⟩,h1,h2,h4,h5,h6,h25,h26,h27⟩;simp only at h1 h2 h4 h5 h26 h27;simp [h26,h27];rw [hR];have e:toJ l l.length=K1 l:=by unfold toJ;rw [List.take_of_length_le (by rw [A20];omega),Nat.sub_self];simp
  rw [e];exact ⟨rfl,⟨_,rfl⟩,rfl,by simp [h1],by simp [h2],by simp [h4],by simp [h5]⟩
 simp_all
theorem C0p {N b:Nat} (h50:F 50=some f1050) (c:PCore) (hc:OkC c) (l:List Bool) (hl:l.length=c.funs.length) (hfl:c.funs.length<=1000000) (hN:c.funs.length<N) (hz:∀f∈c.funs,E3 f.term<=N/\cntT f.term<=3000) (hct:cntFs c.funs<=1000000) (to:List Int) (htl:to.length=c.funs.length) (hok:∀f∈c.funs,F7 c.funs.length f.term=true)
  (a:TAct) (σ:Sto) (kt cap ver:Nat) (hat:σ.at kt=some ⟨ver,.cells (encZT to) 3⟩) (v2 t0:TV) (Q:List TV) (s5:Nat) (hQ:Q.length=11)
  (hdf:a.df=[]) (h1:a.tm.get 1=some (.bx 0 (L8 c) 40)) (h2:a.tm.get 2=some v2) (h4:a.tm.get 4=some (.sl .fz (l.map X3))) (h5:a.tm.get 5=some (.ref kt 0 1 c.funs.length cap)) (h9:a.tm.get 9=some (.bx s5 (t0::.sl .nl []::Q) 40)) (h10:a.tm.get 10=some (.int .i64 0)):
  Tw A9k b (A2 F O N) N (fun ex a' σ'=>ex=.normal/\σ'=σ/\a'.df=[]/\a'.tm.get 2=some v2/\a'.tm.get 5=some (.ref kt 0 1 c.funs.length cap)/\(∃v,Bld 38 10 F5 (A9 to l c.funs 0).1 v/\a'.tm.get 9=some (.bx s5 (t0::v::Q) 40))/\a'.tm.get 10=some (.int .i64 (A9 to l c.funs 0).2)) [] (B9 A9k b (A2 F O N) N B99 a σ):=by
 obtain ⟨tm,df,clk⟩:=a;simp only at hdf h1 h2 h4 h5 h9 h10;subst hdf;obtain ⟨q0,q1,q2,q3,q4,q5,q6,q7,q8,q9,q10,rfl⟩:∃a b c d e f g h i j k,Q=[a,b,c,d,e,f,g,h,i,j,k]:=by
  match Q,hQ with|[a,b,c,d,e,f,g,h,i,j,k],_=>exact ⟨a,b,c,d,e,f,g,h,i,j,k,rfl⟩
 rw [A8] at h1;simp [B99,h1]
 obtain ⟨I,hI⟩:∃I:Nat->TAct->Sto->Prop,I=(fun j a' σ'=>a'.df=[]/\σ'=σ/\a'.tm.get 2=some v2/\a'.tm.get 4=some (.sl .fz (l.map X3))/\a'.tm.get 5=some (.ref kt 0 1 c.funs.length cap)/\(∃v,Bld 38 10 F5 (A9 to (l.take j) (c.funs.take j) 0).1 v/\a'.tm.get 9=some (.bx s5 [t0,v,q0,q1,q2,q3,q4,q5,q6,q7,q8,q9,q10] 40))/\a'.tm.get 10=some (.int .i64 (A9 to (l.take j) (c.funs.take j) 0).2)/\
  a'.tm.get 47=some (.sl .fz (c.funs.map F5))/\a'.tm.get 48=some (.int .i64 c.funs.length)/\a'.tm.get 49=some (.int .i64 j)):=⟨_,rfl⟩
 obtain ⟨R,hR⟩:∃R:TEx->TAct->Sto->Prop,R=(fun ex a' σ'=>ex=.exit 2/\σ'=σ/\a'.df=[]/\a'.tm.get 2=some v2/\a'.tm.get 5=some (.ref kt 0 1 c.funs.length cap)/\(∃v,Bld 38 10 F5 (A9 to l c.funs 0).1 v/\a'.tm.get 9=some (.bx s5 [t0,v,q0,q1,q2,q3,q4,q5,q6,q7,q8,q9,q10] 40))/\a'.tm.get 10=some (.int .i64 (A9 to l c.funs 0).2)):=⟨_,rfl⟩;refine B8 I c.funs.length R ?_ (by omega) ?_ ?_ ?_
 ·rw [hI];refine ⟨rfl,rfl,by simp [h2],by simp [h4],by simp [h5],⟨.sl .nl [],?_,by simp [h9]⟩,by simp [h10,A9],by simp,by simp,by simp⟩;simp only [List.take_zero,A9];exact .nl
 ·rw [hI];rintro j ⟨tm,df,clk⟩ σ' hj ⟨rfl,rfl,h2,h4,h5,⟨v,hB,h9⟩,h10,h47,h48,h49⟩;rw [<-hI];simp only at h2 h4 h5 h9 h10 h47 h48 h49;have hw:=F9 hj hc.flen;have hjl:j<l.length:=by omega
  have hj1:j+1<=l.length:=hjl;have hmem:=List.getElem_mem hj;have hks:=B4o to 0 hj hl;have hst:=R4 to (l.take j) (c.funs.take j) 0;have hst2:=B4n hj;have hlt:(A9 to (l.take j) (c.funs.take j) 0).1.length<=1000000:=by
   grind [A0D]
  have hcc:=B0G (O:=O) h50 (E3 c.funs[j].term) N c.funs[j].term to kt c.funs.length cap b σ' ver (A9 to (l.take j) (c.funs.take j) 0).2 (Nat.le_refl _) (hz _ hmem).1 (hc.funs _ hmem).term (hz _ hmem).2 (by omega) (by omega) htl (hok _ hmem) hat;have hE:=C9 c.funs[j];have hE2:=C9 ⟨c.funs[j].params,c.funs[j].slots,(D2 to c.funs[j].term (A9 to (l.take j) (c.funs.take j) 0).2).1⟩
  have hE3:=A0 (D2 to c.funs[j].term (A9 to (l.take j) (c.funs.take j) 0).2).1;rw [A0 c.funs[j].term,hE3] at hcc;simp only at hE2;generalize (D2 to c.funs[j].term (A9 to (l.take j) (c.funs.take j) 0).2).1=y at hcc hks hE2 hE3;generalize (D2 to c.funs[j].term (A9 to (l.take j) (c.funs.take j) 0).2).2=z at hcc hks;generalize hK:A9 to (l.take j) (c.funs.take j) 0=K at*;obtain ⟨L,q⟩:=K
  simp only at hB hlt hcc hks h10;have hlen3:L.length<=1073741823:=by omega
  cases hx:l[j] with
  |false=>
   simp_all [X3]
  |true=>
   rw [hx,if_pos rfl] at hks;rcases hB with _|_
   all_goals
    simp [h2,h4,h5,h9,h10,h47,h48,h49,hj,hjl,hj1,hw,hx,X3,hcc,hE,hE2,hlen3];rw [hI];dsimp only;rw [hks];exact ⟨rfl,rfl,by simp [h2],by simp [h4],by simp [h5],⟨_,.own _,by simp [hE2]⟩,by simp,by simp [h47],by simp [h48],by simp⟩
 ·rw [hI];rintro ⟨tm,df,clk⟩ σ' ⟨rfl,rfl,h2,h4,h5,⟨v,hB,h9⟩,h10,h47,h48,h49⟩;rw [List.take_of_length_le (by omega:l.length<=c.funs.length),List.take_of_length_le (Nat.le_refl _)] at hB h10;simp_all
 simp_all
end
section
open Go Go.Xe Go.Xt
theorem B2O (P:PTerm->Prop) (t:PTerm) (h:P t) (hk:∀x∈t.kids,P x):P (A10 t):=by
 unfold A10
 repeat' split
 all_goals first|exact h|(rename_i e;exact hk _ (by rw [e];simp))|(rename_i e _;exact hk _ (by rw [e];simp))|(rename_i e _ _;exact hk _ (by rw [e];simp))|(rename_i e _ _ _;exact hk _ (by rw [e];simp))
theorem A3T (n:Nat):∀(M:Nat) (t:PTerm),E3 t<=M->F7 n t=true->F7 n (lessT t)=true
 |0,t,h,_=>by rw [B5] at h;omega
 |M+1,t,h,ho=>by
  have hs:=B5 t;rw [A1e,Bool.and_eq_true] at ho;have hk:∀x∈t.kids.map lessT,F7 n x=true:=fun x hx=>by
   obtain ⟨y,hy,rfl⟩:=List.mem_map.1 hx;exact A3T n M y (by have:=D3 _ _ hy;omega) ((S8 _ _).1 ho.2 y hy)
  rw [A0C];refine B2O (fun t=>F7 n t=true) _ ?_ hk;rw [A1e,Bool.and_eq_true];exact ⟨ho.1,(S8 _ _).2 hk⟩
structure CB (M:Nat) (c:PCore):Prop where
 ok:OkC c
 szt:A0Z c.types<=M
 sz:∀f∈c.funs,E3 f.term<=M
 szq:E3 c.query.term<=M
 cnt:∀f∈c.funs,cntT f.term<=2000/\Lt 1000000 f.term
 cntq:cntT c.query.term<=2000/\Lt 1000000 c.query.term
structure CR (M:Nat) (c:PCore):Prop extends CB M c where
 tl:c.types.length<=8
 ty:∀t∈c.types,LtTy t
 fl:c.funs.length<=40
 calls:∀f∈c.funs,F7 c.funs.length f.term=true
 callsq:F7 c.funs.length c.query.term=true
theorem CB.right {M:Nat} {c:PCore} (h:CB M c) (hr:W3 c=true):CR M c:=by
 have hc:=A7W hr;unfold W3 at hr;rw [Bool.and_eq_true,decide_eq_true_eq,Bool.and_eq_true] at hr;exact { h with tl:=hr.1.1,ty:=fun t ht=>B0H 40 t (List.all_eq_true.1 hr.2.1 t ht),fl:=hr.1.2.1,calls:=hc.1,callsq:=hc.2 }
theorem CR.sliced {M:Nat} {c:PCore} (h:CR M c):CR M (slC c):=by
 have key:∀t,E3 t<=M->OkTm t->cntT t<=2000/\Lt 1000000 t->E3 (lessT t)<=M/\OkTm (lessT t)/\cntT (lessT t)<=2000/\Lt 1000000 (lessT t):=fun t h1 h2 h3=>by
  have:=A00 _ t (Nat.le_refl _);exact ⟨by omega,this.2.2.1 h2,by omega,this.2.2.2 _ h3.2⟩
 have hf:∀f∈(slC c).funs,∃g∈c.funs,f=slB g:=fun f hf=>by
  obtain ⟨g,hg,rfl⟩:=List.mem_map.1 hf;exact ⟨g,hg,rfl⟩
 have hl:(slC c).funs.length=c.funs.length:=by simp [slC]
 refine { ok:=⟨h.ok.tlen,h.ok.types,by rw [hl];exact h.ok.flen,fun f hf'=> ?_,⟨h.ok.query.params,h.ok.query.slots,(key _ h.szq h.ok.query.term h.cntq).2.1⟩,h.ok.sites⟩,szt:=h.szt,sz:=fun f hf'=> ?_,szq:=(key _ h.szq h.ok.query.term h.cntq).1,cnt:=fun f hf'=> ?_,cntq:=(key _ h.szq h.ok.query.term h.cntq).2.2,tl:=h.tl,ty:=h.ty,fl:=by rw [hl];exact h.fl,calls:=fun f hf'=> ?_,callsq:=?_ }
 ·obtain ⟨g,hg,rfl⟩:=hf f hf';exact ⟨(h.ok.funs g hg).params,(h.ok.funs g hg).slots,(key _ (h.sz g hg) (h.ok.funs g hg).term (h.cnt g hg)).2.1⟩
 ·obtain ⟨g,hg,rfl⟩:=hf f hf';exact (key _ (h.sz g hg) (h.ok.funs g hg).term (h.cnt g hg)).1
 ·obtain ⟨g,hg,rfl⟩:=hf f hf';exact (key _ (h.sz g hg) (h.ok.funs g hg).term (h.cnt g hg)).2.2
 ·obtain ⟨g,hg,rfl⟩:=hf f hf';rw [hl];exact A3T _ _ _ (Nat.le_refl _) (h.calls g hg)
 ·rw [hl];exact A3T _ _ _ (Nat.le_refl _) h.callsq
theorem A2Z {z:Int} (h0:0<=z) (h1:z<=1000000):I64 z:=by constructor<;>omega
theorem A0X (to:List Int) (hto:∀z∈to,I64 z):∀(M:Nat) (t:PTerm) (s:Int),E3 t<=M->0<=s->s+cntT t<=1000000->
  E3 (D2 to t s).1=E3 t/\cntT (D2 to t s).1=cntT t/\(OkTm t->OkTm (D2 to t s).1)/\∀B,Lt B t->Lt B (D2 to t s).1
 |0,t,s,h,_,_=>by rw [B5] at h;omega
 |M+1,t,s,h,h0,h1=>by
  have hs:=B5 t;have hcd:=L7 t;have key:∀(l:List PTerm) (s:Int),(∀x∈l,E3 x<=M)->0<=s->s+F6 l<=1000000->A0S (B7 to l s).1=A0S l/\F6 (B7 to l s).1=F6 l/\((∀x∈l,OkTm x)->∀y∈(B7 to l s).1,OkTm y)/\∀B,(∀x∈l,Lt B x)->∀y∈(B7 to l s).1,Lt B y:=by
   intro l
   induction l with
   |nil=>intro s _ _ _;simp [B7,A0S,F6]
   |cons x l ih=>
    intro s hx h0 h1;simp only [F6] at h1;have hst:=P7 to _ x s (Nat.le_refl _);have k1:=A0X to hto M x s (hx x (by simp)) h0 (by omega);have k2:=ih (D2 to x s).2 (fun y hy=>hx y (by simp [hy])) (by omega) (by omega);simp only [B7,A0S,F6];refine ⟨by omega,by omega,fun ho y hy=> ?_,fun B ho y hy=> ?_⟩
    ·rcases List.mem_cons.1 hy with rfl|hy
     ·exact k1.2.2.1 (ho x (by simp))
     ·exact k2.2.2.1 (fun z hz=>ho z (by simp [hz])) y hy
    ·rcases List.mem_cons.1 hy with rfl|hy
     ·exact k1.2.2.2 B (ho x (by simp))
     ·exact k2.2.2.2 B (fun z hz=>ho z (by simp [hz])) y hy
  have hS:0<=A0h t s/\A0h t s+F6 t.kids<=1000000:=by unfold A0h;split<;>omega
  have k:=key t.kids (A0h t s) (fun x hx=>by have:=D3 _ _ hx;omega) hS.1 hS.2;have hl:=S9 to t.kids (A0h t s);rw [A0i];simp only;refine ⟨?_,?_,fun ho=> ?_,fun B hB=> ?_⟩
  ·rw [B5,hs];have:=k.1;show A0S (B7 to t.kids (A0h t s)).1+szV t.val+t.odds.length+8=_;omega
  ·rw [L7,hcd];have:=k.2.1;show F6 (B7 to t.kids (A0h t s)).1+1=_;omega
  ·refine .mk ho.kind ?_ ho.m ho.val ho.olen ho.odds (by rw [hl];exact ho.len) (k.2.2.1 ho.sub);unfold A62;split
   ·exact A2Z h0 (by omega)
   ·split
    ·cases hq:to[t.n.toNat]? with
     |none=>exact A2Z (Int.le_refl _) (by simp)
     |some z=>exact hto z (List.mem_of_getElem? hq)
    ·exact ho.n
  ·exact .mk hB.val hB.odds (k.2.2.2 B hB.sub)
theorem A5p (to:List Int):∀(l:List Bool) (fs:List PBody) (s:Int),0<=s->s+cntFs fs<=1000000->∀y∈(A9 to l fs s).1,∃f∈fs,∃s':Int,0<=s'/\s'+cntT f.term<=1000000/\y=⟨f.params,f.slots,(D2 to f.term s').1⟩
 |true::l,f::fs,s,h0,h1,y,hy=>by
  simp only [cntFs] at h1;simp only [A9] at hy;have hst:=P7 to _ f.term s (Nat.le_refl _);rcases List.mem_cons.1 hy with rfl|hy
  ·exact ⟨f,by simp,s,h0,by omega,rfl⟩
  ·obtain ⟨g,hg,s',h2⟩:=A5p to l fs _ (by omega) (by omega) y hy;exact ⟨g,by simp [hg],s',h2⟩
 |false::l,f::fs,s,h0,h1,y,hy=>by
  simp only [cntFs] at h1;simp only [A9] at hy;obtain ⟨g,hg,s',h2⟩:=A5p to l fs _ h0 (by omega) y hy;exact ⟨g,by simp [hg],s',h2⟩
 |[],fs,s,h0,h1,y,hy=>by cases fs<;>simp [A9] at hy
 |true::_,[],s,h0,h1,y,hy=>by simp [A9] at hy
 |false::_,[],s,h0,h1,y,hy=>by simp [A9] at hy
theorem B2P:∀(l:List PBody) (B:Nat),(∀f∈l,cntT f.term<=B)->cntFs l<=l.length*B
 |[],B,_=>by simp [cntFs]
 |f::l,B,h=>by
  have h1:=h f (by simp);have h2:=B2P l B fun g hg=>h g (by simp [hg])
  simp only [cntFs,List.length_cons,Nat.succ_mul];omega
theorem B5w (l:List Bool) (h:l.length<=1000):∀z∈K1 l,I64 z:=fun z hz=>by
 unfold K1 at hz;obtain ⟨i,_,rfl⟩:=List.mem_map.1 hz;have:(l.take i).count true<=1000:=Nat.le_trans List.count_le_length (by rw [List.length_take];omega);exact A2Z (by omega) (by omega)
theorem CR.cntFs {M:Nat} {c:PCore} (h:CR M c):cntFs c.funs<=80000:=by
 have:=B2P c.funs 2000 fun f hf=>(h.cnt f hf).1
 have:=h.fl;have:c.funs.length*2000<=40*2000:=Nat.mul_le_mul_right _ h.fl;omega
theorem CR.ren {M:Nat} {c:PCore} (h:CR M c) (l:List Bool) (hl:l.length=c.funs.length):CB M (I6 c l)/\(I6 c l).funs.length<=40:=by
 have hto:=B5w l (by have:=h.fl;omega);have hF:=h.cntFs;have hlen:=A0D (K1 l) l c.funs 0;have hst:=R4 (K1 l) l c.funs 0;have hq:=A0X (K1 l) hto _ c.query.term (A9 (K1 l) l c.funs 0).2 (Nat.le_refl _) (by omega) (by have:=h.cntq;omega);have hqs:=P7 (K1 l) _ c.query.term (A9 (K1 l) l c.funs 0).2 (Nat.le_refl _)
 have hm:∀y∈(I6 c l).funs,∃f∈c.funs,y.params=f.params/\y.slots=f.slots/\E3 y.term=E3 f.term/\cntT y.term=cntT f.term/\(OkTm f.term->OkTm y.term)/\∀B,Lt B f.term->Lt B y.term:=fun y hy=>by
  obtain ⟨f,hf,s',h0,h1,rfl⟩:=A5p (K1 l) l c.funs 0 (by omega) (by omega) y hy;have k:=A0X (K1 l) hto _ f.term s' (Nat.le_refl _) h0 h1;exact ⟨f,hf,rfl,rfl,k.1,k.2.1,k.2.2.1,k.2.2.2⟩
 refine ⟨{ ok:=⟨h.ok.tlen,h.ok.types,?_,fun y hy=> ?_,⟨h.ok.query.params,h.ok.query.slots,hq.2.2.1 h.ok.query.term⟩,A2Z (by simp only [I6];omega) (by simp only [I6];have:=h.cntq;omega)⟩,szt:=h.szt,sz:=fun y hy=> ?_,szq:=by simp only [I6];rw [hq.1];exact h.szq,cnt:=fun y hy=> ?_,cntq:=⟨by simp only [I6];rw [hq.2.1];exact h.cntq.1,hq.2.2.2 _ h.cntq.2⟩ },?_⟩
 ·have:=h.ok.flen;simp only [I6];omega
 ·obtain ⟨f,hf,e1,e2,_,_,e5,_⟩:=hm y hy;exact ⟨by rw [e1];exact (h.ok.funs f hf).params,by rw [e2];exact (h.ok.funs f hf).slots,e5 (h.ok.funs f hf).term⟩
 ·obtain ⟨f,hf,_,_,e3,_⟩:=hm y hy;rw [e3];exact h.sz f hf
 ·obtain ⟨f,hf,_,_,_,e4,_,e6⟩:=hm y hy;exact ⟨by rw [e4];exact (h.cnt f hf).1,e6 _ (h.cnt f hf).2⟩
 ·have:=h.fl;simp only [I6];omega
end
section
open Go Go.Xe Go.Xt
variable {F:FuncId->Option TFun} {O:FuncId->List TV->Option TV}
def zeroC:PCore:=⟨[],[],⟨0,0,.mk 0 0 0 (.mk 0 0 []) [] []⟩,0⟩
noncomputable def Y7 (c:PCore):PCore×Int:=match W3 c with
 |true=>(I6 (slC c) (Y0 (slC c)),0)
 |false=>(zeroC,1)
structure KFits (F:FuncId->Option TFun) (O:FuncId->List TV->Option TV):Prop where
 c:BFits F
 h26:F 26=some f9
 l:LFits F O
 o:OFits F
 h17:F 17=some f1017
 h47:F 47=some f1047
 h48:F 48=some f1048
 h49:F 49=some f1049v
 h50:F 50=some f1050
 h41:F 41=some f1041
 h88:F 88=some f1088
 h21:F 21=some f1021
theorem B4r {M N:Nat} {c:PCore} (h:CB M c) (hf:c.funs.length<=1000) (hN:5*M+100200<=N):Lim N c:=
 ⟨by have:=h.szt;omega,fun f hf'=>by have:=h.sz f hf';omega,by omega,by have:=h.szq;omega⟩
theorem A9O:∀n,A4q [TV.int .i64 0] n=encZT (List.replicate n 0)
 |0=>rfl
 |n+1=>by simp only [A4q,A9O n];rfl
theorem B6P {N b:Nat} (hN:0<N) (a:TAct) (σ:Sto) (v2 v3 t1:TV) (Q:List TV) (hQ:Q.length=11)
  (hdf:a.df=[]) (h1:a.tm.get 1=some (.bx 0 (t1::.sl .nl []::Q) 40)) (h2:a.tm.get 2=some v2) (h3:a.tm.get 3=some v3):
  Tw A9l b (A2 F O N) N (fun ex a' σ'=>ex=.normal/\σ'=σ/\a'.df=[]/\a'.tm.get 2=some v2/\a'.tm.get 3=some v3) [] (B9 A9l b (A2 F O N) N A83 a σ):=by
 obtain ⟨tm,df,clk⟩:=a;simp only at hdf h1 h2 h3;subst hdf;obtain ⟨q0,q1,q2,q3,q4,q5,q6,q7,q8,q9,q10,rfl⟩:∃a b c d e f g h i j k,Q=[a,b,c,d,e,f,g,h,i,j,k]:=by
  match Q,hQ with|[a,b,c,d,e,f,g,h,i,j,k],_=>exact ⟨a,b,c,d,e,f,g,h,i,j,k,rfl⟩
 simp [A83,h1];refine B8 (I:=fun j a' σ'=>j=0/\a'.df=[]/\σ'=σ/\a'.tm.get 2=some v2/\a'.tm.get 3=some v3/\a'.tm.get 17=some (.int .i64 0)/\a'.tm.get 18=some (.int .i64 0)) 0 (R:=fun ex a' σ'=>ex=.exit 0/\a'.df=[]/\σ'=σ/\a'.tm.get 2=some v2/\a'.tm.get 3=some v3) ?_ hN ?_ ?_ ?_
 ·exact ⟨rfl,rfl,rfl,by simp [h2],by simp [h3],by simp,by simp⟩
 ·intro j a σ hj;omega
 ·rintro ⟨tm,df,clk⟩ σ' ⟨_,rfl,rfl,h2,h3,h17,h18⟩;simp only at h2 h3 h17 h18;simp [h2,h3,h17,h18]
 ·rintro ex ⟨tm,df,clk⟩ σ' ⟨rfl,rfl,rfl,h2,h3⟩;simp [h2,h3]
theorem B6Q (V:OFits F) (c:PCore) (hc:OkC c) (hf0:c.funs=[]) (htl:c.types.length<=1000000) (hty:∀t∈c.types,LtTy t) (N b:Nat) (σ:Sto) (hzt:A0Z c.types+1<N) (hzq:E3 c.query.term<N/\cntT c.query.term<=1000000/\Lt 1000000 c.query.term):
  A2 F O (N+1) b 51 [.agg [.sl .fz (c.types.map H5),.sl .nl [],.int .i64 c.query.params,.int .i64 c.query.slots,.int .i64 c.query.term.kind,.int .i64 c.query.term.n,.int .i64 c.query.term.m,.int .i64 c.query.term.val.kind,.int .i64 c.query.term.val.n,
   .sl .fz (c.query.term.val.list.map E1),.sl .fz (c.query.term.odds.map encI),.sl .fz (c.query.term.kids.map A5),.int .i64 c.sites]] σ=some (.ret (.agg (L8 c)),σ):=by
 obtain ⟨N,rfl⟩:∃n,N=n+1:=⟨N - 1,by omega⟩;have hq:=A82 (O:=O) V.h90 V.h40 V.h80 V.h111 V.h81 N c.query σ.length σ (by omega) hc.query.term hzq.2.1 hzq.2.2;have ht:=A5o (O:=O) V.h89 (N+1) c.types σ.length σ hzt htl fun t h=>⟨hc.types t h,hty t h⟩
 rw [C9] at hq;refine A3 V.h51 ?_;simp [A9L,A8 c,hq,ht,hf0];apply H8
 ·apply B6P (by omega) _ _ (v2:=_) (v3:=_) (t1:=_) (Q:=[.int .i64 c.query.params,.int .i64 c.query.slots,.int .i64 c.query.term.kind,.int .i64 c.query.term.n,.int .i64 c.query.term.m,.int .i64 c.query.term.val.kind,.int .i64 c.query.term.val.n,.sl .fz (c.query.term.val.list.map E1),.sl .fz (c.query.term.odds.map encI),.sl .fz (c.query.term.kids.map A5),.int .i64 c.sites]) (hQ:=rfl)
  ·rfl
  ·simp;rfl
  ·simp;rfl
  ·simp;rfl
 rintro ex ⟨tm,df,clk⟩ σ' ⟨rfl,rfl,hdf,g2,g3⟩;simp only at hdf g2 g3;subst hdf;simp [g2,g3]
theorem B2Q (V:KFits F O) (M N:Nat) (c:PCore) (b:Nat) (σ:Sto) (h:CB M c) (hf:c.funs.length<=1000) (hN:5*M+100300<=N):
  A2 F O (N+1) b 17 [.agg (L8 c)] σ=some (.ret (.tuple [.agg (L8 (Y7 c).1),.int .i64 (Y7 c).2]),σ):=by
 obtain ⟨K,rfl⟩:∃k,N=k+2:=⟨N - 2,by omega⟩;have hr:=B0E (O:=O) V.c V.h26 K c σ.length σ (B4r h hf (by omega)) h.ok;rw [A8] at hr;unfold Y7;cases hcb:W3 c with
 |false=>
  rw [hcb] at hr;refine A3 V.h17 ?_;simp [A9N,A8 c,hr];rw [A8];rfl
 |true=>
  rw [hcb] at hr;have hR:=h.right hcb;have hS:=hR.sliced;have hsl:=A81 (O:=O) V.h47 V.h41 V.l c h.ok (by omega) (K+1) σ.length σ (by omega) (fun f hf=>by have:=h.sz f hf;have:=(h.cnt f hf).1;omega) (by have:=h.szq;have:=h.cntq.1;omega);have hfl:(slC c).funs.length<=40:=hS.fl
  obtain ⟨l,hl,hre⟩:=A61 (O:=O) V.h48 V.h88 (slC c) hS.ok (by omega) (K+1) σ.length σ (by omega) hS.calls hS.callsq (fun f hf=>by have:=hS.sz f hf;omega) (by have:=hS.szq;omega);have hll:=hl.len;obtain rfl:=hl.is;rw [A8 c] at hsl;generalize hcc:slC c=cc at*;generalize hl0:Y0 cc=l at*;obtain ⟨hB,hB40⟩:=hS.ren l hll
  have hty:=A9M (O:=O) V.h49 (K+1) σ.length cc.types (σ++[some ⟨0,.cells (encZT (K1 l)) 3⟩]) (by have:=hS.tl;omega);refine A3 V.h17 ?_;have hn2:cc.funs.length<=281474976710656:=by omega
  have hn3:cc.funs.length<=9223372036854775807:=by omega
  have hn4:8*cc.funs.length<=281474976710656:=by omega
  have hE:=A8 cc;rw [hE] at hre hsl;simp [A9N,A8 c,hr,hsl,hre,hn2,hn3,hn4];apply H8
  ·apply C0o (b:=σ.length) l (by omega) (by omega) σ.length cc.funs.length 0 (hat:=by rw [hll,<-A9O];exact H9 _ _) (v1:=.bx 0 (L8 cc) 40) (v2:=_)
   ·rfl
   ·simp [hE]
   ·simp;rfl
   ·simp
   ·simp [hll]
   ·simp
  rintro ex ⟨tm,df,clk⟩ σ1 ⟨rfl,⟨v1,rfl⟩,hdf,g1,g2,g4,g5⟩;simp only at hdf g1 g2 g4 g5;subst hdf;rw [A2C];rw [hll] at g5;have g1':=g1;rw [hE] at g1;have hty:=fun v=>A9M (O:=O) V.h49 (K+1) σ.length cc.types (σ++[some ⟨v,.cells (encZT (K1 l)) 3⟩]) (by have:=hS.tl;omega)
  simp [g1,hty];apply H8
  ·apply C0p (b:=σ.length) V.h50 cc hS.ok l hll (by omega) (by omega) (fun f hf=>by have:=hS.sz f hf;have:=(hS.cnt f hf).1;omega) (by have:=hS.cntFs;omega) (K1 l) (by rw [A20];exact hll) hS.calls _ _ (kt:=σ.length) (cap:=cc.funs.length) (ver:=v1) (hat:=H9 _ _) (v2:=_) (s5:=_) (t0:=.sl .fz (cc.types.map H5)) (Q:=[.int .i64 cc.query.params,.int .i64 cc.query.slots,.int .i64 cc.query.term.kind,.int .i64 cc.query.term.n,.int .i64 cc.query.term.m,.int .i64 cc.query.term.val.kind,.int .i64 cc.query.term.val.n,.sl .fz (cc.query.term.val.list.map E1),.sl .fz (cc.query.term.odds.map encI),.sl .fz (cc.query.term.kids.map A5),.int .i64 0]) (hQ:=rfl)
   ·rfl
   ·simp [g1']
   ·simp [g2];rfl
   ·simp [g4]
   ·simp [g5]
   ·simp;rfl
   ·simp
  rintro ex ⟨tm,df,clk⟩ σ1 ⟨rfl,rfl,hdf,g2,g5,⟨v,hB',g9⟩,g10⟩;simp only at hdf g2 g5 g9 g10;subst hdf;have hst:=R4 (K1 l) l cc.funs 0;have hF:=hS.cntFs
  have hq:=B0G (O:=O) V.h50 (E3 cc.query.term) (K+2) cc.query.term (K1 l) σ.length cc.funs.length cc.funs.length σ.length (σ++[some ⟨v1,.cells (encZT (K1 l)) 3⟩]) v1 (A9 (K1 l) l cc.funs 0).2 (Nat.le_refl _) (by have:=hS.szq;omega) hS.ok.query.term (by have:=hS.cntq.1;omega) (by omega) (by have:=hS.cntq.1;omega) (by rw [A20];exact hll) hS.callsq (H9 _ _)
  have hownn:=fun h0=>B6Q (O:=O) V.o (I6 cc l) hB.ok h0 (by have:=hS.tl;simp only [I6];omega) hS.ty (K+1) σ.length (σ++[some ⟨v1,.cells (encZT (K1 l)) 3⟩]) (by have:=hB.szt;omega) (by have:=hB.szq;have:=hB.cntq;exact ⟨by omega,by omega,this.2⟩)
  have hown:=B97 (O:=O) V.o (I6 cc l) hB.ok (by omega) (by have:=hS.tl;simp only [I6];omega) hS.ty (K+1) σ.length (σ++[some ⟨v1,.cells (encZT (K1 l)) 3⟩]) (by omega) (by have:=hB.szt;omega) (fun f hf=>by have:=hB.sz f hf;have:=hB.cnt f hf;exact ⟨by omega,by omega,this.2⟩) (by have:=hB.szq;have:=hB.cntq;exact ⟨by omega,by omega,this.2⟩);have hRE:L8 (I6 cc l)=_:=A8 (I6 cc l);simp only [I6] at hRE
  have hE3:=A0 (D2 (K1 l) cc.query.term (A9 (K1 l) l cc.funs 0).2).1;rw [A0 cc.query.term,hE3] at hq;rw [show I6 cc l=⟨cc.types,(A9 (K1 l) l cc.funs 0).1,⟨cc.query.params,cc.query.slots,(D2 (K1 l) cc.query.term (A9 (K1 l) l cc.funs 0).2).1⟩,(D2 (K1 l) cc.query.term (A9 (K1 l) l cc.funs 0).2).2⟩ from rfl,hRE] at hown ⊢
  simp only [show I6 cc l=⟨cc.types,(A9 (K1 l) l cc.funs 0).1,⟨cc.query.params,cc.query.slots,(D2 (K1 l) cc.query.term (A9 (K1 l) l cc.funs 0).2).1⟩,(D2 (K1 l) cc.query.term (A9 (K1 l) l cc.funs 0).2).2⟩ from rfl,hRE] at hownn;clear hRE hB hst hB40;generalize (D2 (K1 l) cc.query.term (A9 (K1 l) l cc.funs 0).2).1=y at hq hE3 hown hownn ⊢
  generalize (D2 (K1 l) cc.query.term (A9 (K1 l) l cc.funs 0).2).2=z at hq hown hownn ⊢;generalize (A9 (K1 l) l cc.funs 0).1=L at hB' hown hownn ⊢;generalize (A9 (K1 l) l cc.funs 0).2=s1 at hq g10 ⊢;rcases hB' with _|_
  ·have hownn:=hownn rfl;simp [g2,g5,g9,g10,hq,hownn]
  ·simp [g2,g5,g9,g10,hq,hown]
def deadJ (l:List Bool) (j:Nat):List Int:=((List.range j).filter fun i=>l[i]? ==some false).map fun (i:Nat)=>(i:Int)
noncomputable def B5x (c:PCore):List Int:=match W3 c with
 |true=>deadJ (Y0 (slC c)) (slC c).funs.length
 |false=>[]
theorem B6R (l:List Bool) {j:Nat} (hj:j<l.length) (h:l[j]=false):deadJ l (j+1)=deadJ l j++[(j:Int)]:=by
 unfold deadJ;rw [List.range_succ,List.filter_append,List.map_append];congr 1;have:([j].filter fun i=>l[i]? ==some false)=[j]:=by simp [List.getElem?_eq_getElem hj,h]
 rw [this];rfl
theorem B9c (l:List Bool) {j:Nat} (hj:j<l.length) (h:l[j]=true):deadJ l (j+1)=deadJ l j:=by
 unfold deadJ;rw [List.range_succ,List.filter_append,List.map_append];have:([j].filter fun i=>l[i]? ==some false)=[]:=by simp [List.getElem?_eq_getElem hj,h]
 rw [this];simp
theorem B4s (l:List Bool):deadJ l 0=[]:=by simp [deadJ]
theorem B6S (l:List Bool) (j:Nat):(deadJ l j).length<=j:=by
 unfold deadJ;rw [List.length_map];exact Nat.le_trans (List.length_filter_le _ _) (by simp)
def C17:XCode:=(by exact fun x _=>x:V0 (gT x1021.body [1,1,1,0])) _ (by conv=>lhs;cbv)
theorem A9P:x1021=(by exact fun x _=>x:V1 (fun a=>({x1021 with body:=pT (x1021.body) [1,1,1,0] a}:XFun))) _ (by intros;conv=>lhs;cbv) C17:=rfl
theorem B9d (V:KFits F O) (M N:Nat) (c:PCore) (b:Nat) (σ:Sto) (h:CB M c) (hf:c.funs.length<=1000) (hN:5*M+100300<=N):
  A2 F O (N+1) b 21 [.agg (L8 c)] σ=some (.ret (.sl .fz ((B5x c).map encI)),σ):=by
 obtain ⟨K,rfl⟩:∃k,N=k+2:=⟨N - 2,by omega⟩;have hr:=B0E (O:=O) V.c V.h26 K c σ.length σ (B4r h hf (by omega)) h.ok;rw [A8] at hr;unfold B5x;cases hcb:W3 c with
 |false=>
  rw [hcb] at hr;refine A3 V.h21 ?_;simp [A9P,A8 c,hr]
 |true=>
  rw [hcb] at hr;have hR:=h.right hcb;have hS:=hR.sliced;have hsl:=A81 (O:=O) V.h47 V.h41 V.l c h.ok (by omega) (K+1) σ.length σ (by omega) (fun f hf=>by have:=h.sz f hf;have:=(h.cnt f hf).1;omega) (by have:=h.szq;have:=h.cntq.1;omega);have hfl:(slC c).funs.length<=40:=hS.fl
  obtain ⟨l,hl,hre⟩:=A61 (O:=O) V.h48 V.h88 (slC c) hS.ok (by omega) (K+1) σ.length σ (by omega) hS.calls hS.callsq (fun f hf=>by have:=hS.sz f hf;omega) (by have:=hS.szq;omega);have hll:=hl.len;obtain rfl:=hl.is;rw [A8 c] at hsl;generalize hcc:slC c=cc at*;generalize hl0:Y0 cc=l at*;refine A3 V.h21 ?_;have hE:=A8 cc;rw [hE] at hre hsl;simp [A9P,A8 c,hr,C17,hsl,hre]
  have hEl:∀x:Int,(encI x).length=1:=fun _=>rfl
  obtain ⟨I,hI⟩:∃I:Nat->TAct->Sto->Prop,I=(fun j a' σ'=>a'.df=[]/\σ'=σ/\(∃v,Bld 3 1 encI (deadJ l j) v/\a'.tm.get 3=some v)/\a'.tm.get 11=some (.sl .fz (l.map X3))/\a'.tm.get 12=some (.int .i64 l.length)/\a'.tm.get 13=some (.int .i64 j)):=⟨_,rfl⟩;obtain ⟨R,hRR⟩:∃R:TEx->TAct->Sto->Prop,R=(fun ex a' σ'=>ex=.exit 0/\a'.df=[]/\σ'=σ/\∃v,Bld 3 1 encI (deadJ l cc.funs.length) v/\a'.tm.get 3=some v):=⟨_,rfl⟩
  refine B8 I l.length R ?_ (by omega) ?_ ?_ ?_
  ·rw [hI];exact ⟨rfl,rfl,⟨.sl .nl [],by rw [B4s];exact .nl,by simp⟩,by simp,by simp,by simp⟩
  ·rw [hI];rintro j ⟨tm,df,clk⟩ σ' hj ⟨rfl,rfl,⟨v,hB,h3⟩,h11,h12,h13⟩;rw [<-hI];simp only at h3 h11 h12 h13;have hw:=F9 hj (by unfold maxLen;omega);have hj1:j+1<=l.length:=hj;have hlt:=B6S l j;cases hx:l[j] with
   |true=>
    have hd:=B9c l hj hx;simp [h3,h11,h12,h13,hj,hj1,hw,hx,X3];rw [hI];dsimp only;rw [hd];exact ⟨rfl,rfl,⟨v,hB,by simp [h3]⟩,by simp [h11],by simp [h12],by simp⟩
   |false=>
    have hd:=B6R l hj hx;generalize deadJ l j=L at hB hd hlt;have hlen3:L.length<=1073741823:=by omega
    rcases hB with _|_
    all_goals
     simp [h3,h11,h12,h13,hj,hj1,hw,hx,X3,hlen3,hEl];rw [hI];dsimp only;rw [hd];exact ⟨rfl,rfl,⟨_,.own _,by simp [encI]⟩,by simp [h11],by simp [h12],by simp⟩
  ·rw [hI];rintro ⟨tm,df,clk⟩ σ' ⟨rfl,rfl,⟨v,hB,h3⟩,h11,h12,h13⟩;rw [hll] at hB;simp only at h3 h12 h13;simp [h3,h12,h13];rw [hRR];exact ⟨rfl,rfl,rfl,v,hB,by simp [h3]⟩
  ·rw [hRR];rintro ex ⟨tm,df,clk⟩ σ' ⟨rfl,rfl,rfl,v,hB,h3⟩;simp only at h3;generalize deadJ l cc.funs.length=L at hB ⊢;rcases hB with _|_
   ·simp [h3]
   ·simp [h3]
end
section
open Go Go.Xe Go.Xt
theorem A21 (bd:List Bool) (f:Nat):∀(n i:Nat),(S7 bd f true n)[i]? =some true↔bd[i]? =some true\/(i<bd.length/\f<=i/\i<f+n)
 |0,i=>by simp only [S7];constructor;exact .inl;rintro (h|h);exact h;omega
 |n+1,i=>by
  simp only [S7]
  by_cases e:f+n=i
  ·subst e
   by_cases hl:f+n<bd.length
   ·simp_all
   simp_all
  ·rw [List.getElem?_set_ne e,A21 bd f n i];grind
theorem A4O (bd:List Bool):∀(n f:Nat),A4J bd f n=true↔∃j,j<n/\bd[f+j]? =some true
 |0,f=>by simp [A4J]
 |n+1,f=>by
  simp only [A4J,Bool.or_eq_true,beq_iff_eq,A4O bd n (f+1)];constructor
  ·rintro (h|⟨j,hj,h⟩)
   ·exact ⟨0,by omega,h⟩
   ·exact ⟨j+1,by omega,by rw [show f+(j+1)=f+1+j by omega];exact h⟩
  ·rintro ⟨j,hj,h⟩;cases j with
   |zero=>exact .inl h
   |succ j=>grind
theorem A3U (n:Int):∀(k:Nat) (s:Int),s∈D6 n k↔∃j:Nat,j<k/\s=n+j/\s<=9223372036854775807
 |0,s=>by simp [D6]
 |k+1,s=>by
  simp only [D6,List.mem_append,A3U n k];grind
inductive NoV (S:Nat->Prop):PTerm->Prop
 |mk {t:PTerm}:(t.kind=2->∀i:Nat,t.n=i->¬S i)->(∀x∈t.kids,NoV S x)->NoV S t
theorem NoV.head {S:Nat->Prop} {t:PTerm}:NoV S t->t.kind=2->∀i:Nat,t.n=i->¬S i
 |.mk h _=>h
theorem NoV.sub {S:Nat->Prop} {t:PTerm}:NoV S t->∀x∈t.kids,NoV S x
 |.mk _ h=>h
theorem A85 {c:PCore} {bd:List Bool} {t:PTerm} (h:A4L c bd t=true):(O3 t).toNat=bindN t/\(bindN t=0\/0<=t.n/\t.n+(bindN t:Int)<=bd.length/\∀j,j<bindN t->bd[t.n.toNat+j]? ≠some true):=by
 unfold A4L at h;unfold O3 bindN;have key:∀m:Nat,A4K bd t.n m=true->0<=t.n/\t.n+(m:Int)<=bd.length/\∀j,j<m->bd[t.n.toNat+j]? ≠some true:=fun m hm=>by
  unfold A4K at hm;rw [Bool.and_eq_true,decide_eq_true_eq,Bool.not_eq_true'] at hm;refine ⟨hm.1.1,by omega,fun j hj he=> ?_⟩;rw [(A4O bd m t.n.toNat).2 ⟨j,hj,he⟩] at hm;grind
 grind
theorem A5q (c:PCore) (S:Nat->Prop):∀(left:Nat) (bd:List Bool) (t:PTerm) (L:List Int),D0 c left bd t=true->(∀i,S i->bd[i]? =some true)->(∀i:Nat,S i->(i:Int)∉L)->(∀i:Nat,S i->(i:Int)∉freeC L t)->NoV S t
 |0,bd,t,L,h,_,_,_=>by unfold D0 at h;cases h
 |left+1,bd,t,L,h,hb,hL,hf=>by
  unfold D0 A2B at h;rw [Bool.and_eq_true,Bool.and_eq_true] at h;obtain ⟨⟨_,hx⟩,hk⟩:=h;have hbn:=A85 hx;have hin:∀i:Nat,S i->(i:Int)∉O4 L t:=fun i hi=>by
   unfold O4;rw [List.mem_append];rintro (h|h)
   ·exact hL i hi h
   ·obtain ⟨j,h1,h2,h3⟩:=(A3U _ _ _).1 h;grind
  have hbi:∀i,S i->(S7 bd t.n.toNat true (bindN t))[i]? =some true:=fun i hi=>(A21 _ _ _ _).2 (.inl (hb i hi))
  rw [A9r] at hf;refine .mk (fun k2 i hi hS=> ?_) ?_
  ·grind
  ·have hf2:∀i:Nat,S i->(i:Int)∉P9 L (O4 L t) t.kids:=fun i hi hm=>hf i hi (by rw [List.mem_append];exact .inr hm)
   clear hf hx;generalize t.kids=l at hk hf2 ⊢
   induction l with
   |nil=>intro x hx;cases hx
   |cons k r ih=>
    unfold C6 at hk;rw [Bool.and_eq_true] at hk;simp only [P9] at hf2;intro x hx;rcases List.mem_cons.1 hx with rfl|hx
    ·cases r with
     |nil=>
      exact A5q c S left _ _ (O4 L t) (by simpa using hk.1) hbi hin fun i hi hm=>hf2 i hi (by rw [List.mem_append];exact .inl hm)
     |cons y r=>
      exact A5q c S left _ _ L (by simpa using hk.1) hb hL fun i hi hm=>hf2 i hi (by rw [List.mem_append];exact .inl hm)
    grind
theorem A1m (c:PCore) (S:Nat->Prop):∀(left:Nat) (b1 b2:List Bool) (t:PTerm),D0 c left b2 t=true->NoV S t->b1.length=b2.length->(∀i:Nat,b1[i]? =some true->b2[i]? =some true)->(∀i:Nat,b2[i]? =some true->b1[i]? =some true\/S i)->D0 c left b1 t=true
 |0,b1,b2,t,h,_,_,_,_=>by unfold D0 at h;cases h
 |left+1,b1,b2,t,h,hv,hl,h12,h21=>by
  unfold D0 A2B at h ⊢;rw [Bool.and_eq_true,Bool.and_eq_true] at h ⊢;obtain ⟨⟨h1,hx⟩,hk⟩:=h;refine ⟨⟨h1,?_⟩,?_⟩
  ·have hfr:∀m,A4K b2 t.n m=true->A4K b1 t.n m=true:=fun m hm=>by
    unfold A4K at hm ⊢;rw [Bool.and_eq_true,Bool.not_eq_true'] at hm ⊢;rw [hl];refine ⟨hm.1,?_⟩;cases ha:A4J b1 t.n.toNat m with
    |false=>rfl
    |true=>
     obtain ⟨j,hj,he⟩:=(A4O _ _ _).1 ha;rw [(A4O b2 m t.n.toNat).2 ⟨j,hj,h12 _ he⟩] at hm;grind
   unfold A4L at hx ⊢
   by_cases k1:t.kind=1
   ·grind
   rw [if_neg k1] at hx ⊢
   by_cases k2:t.kind=2
   ·rw [if_pos k2,Bool.and_eq_true,decide_eq_true_eq,beq_iff_eq] at hx ⊢;refine ⟨hx.1,(h21 _ hx.2).resolve_right (hv.head k2 _ (by omega))⟩
   grind
  ·have h12':∀i,(S7 b1 t.n.toNat true (bindN t))[i]? =some true->(S7 b2 t.n.toNat true (bindN t))[i]? =some true:=fun i hi=>by
    rw [A21] at hi ⊢;grind
   have h21':∀i,(S7 b2 t.n.toNat true (bindN t))[i]? =some true->(S7 b1 t.n.toNat true (bindN t))[i]? =some true\/S i:=fun i hi=>by
    grind [A21]
   have hvk:=hv.sub;clear hx;generalize t.kids=l at hk hvk ⊢
   induction l with
   |nil=>rfl
   |cons k r ih=>
    unfold C6 at hk ⊢;rw [Bool.and_eq_true] at hk ⊢;refine ⟨?_,ih hk.2 fun x hx=>hvk x (by simp [hx])⟩
    by_cases hr:r.length=0
    ·rw [if_pos hr] at hk ⊢;exact A1m c S left _ _ k hk.1 (hvk k (by simp)) (by simp [hl]) h12' h21'
    ·rw [if_neg hr] at hk ⊢;exact A1m c S left _ _ k hk.1 (hvk k (by simp)) hl h12 h21
theorem Y1 {f g:List Bool->PTerm->Bool} {h:PTerm->PTerm} {bd inner:List Bool}:∀{l:List PTerm},(∀bd',bd'=bd\/bd'=inner->∀x∈l,f bd' x=true->g bd' (h x)=true)->C6 f bd inner l=true->C6 g bd inner (l.map h)=true
 |[],_,_=>rfl
 |k::r,hfg,hk=>by
  simp only [List.map_cons,C6] at hk ⊢;rw [Bool.and_eq_true] at hk ⊢;rw [List.length_map];refine ⟨hfg _ (by split<;>simp) k (by simp) hk.1,Y1 (fun bd' hb x hx=>hfg bd' hb x (by simp [hx])) hk.2⟩
theorem A3V (c:PCore):∀(left:Nat) (bd:List Bool) (t:PTerm),D0 c left bd t=true->D0 c (left+1) bd t=true
 |0,bd,t,h=>by unfold D0 at h;cases h
 |left+1,bd,t,h=>by
  rw [D0] at h ⊢;rw [Bool.and_eq_true] at h ⊢;have:=Y1 (h:=id) (fun bd' _ x _ hx=>A3V c left bd' x hx) h.2;simp_all
theorem B2R {f:List Bool->PTerm->Bool} {bd inner:List Bool} {a b:PTerm} (h:C6 f bd inner [a,b]=true):f bd a=true/\f inner b=true:=by
 grind [C6]
theorem B6T (c:PCore) (left:Nat) (bd:List Bool) (t:PTerm) (hl:bd.length<=1000) (h:D0 c (left+1) bd t=true):D0 c (left+1) bd (A10 t)=true:=by
 have h0:=h;rw [D0,Bool.and_eq_true] at h;obtain ⟨hh,hk⟩:=h;unfold A2B at hh;rw [Bool.and_eq_true] at hh;have hbn:=A85 hh.2;unfold A10
 by_cases k7:t.kind=7
 ·rw [if_pos k7];rcases hks:t.kids with _|⟨a,_|⟨b,_|⟨d,r⟩⟩⟩
  ·exact h0
  ·exact h0
  ·simp only
   by_cases hc:(R0 t.n (A4G t.m) b&&Y6 a)=true
   ·rw [if_pos hc];rw [Bool.and_eq_true] at hc;have hn:=of_decide_eq_true hc.1;rw [hks] at hk;have hb:=(B2R hk).2;have hm:(O3 t).toNat=A4G t.m:=by unfold O3 A4G;rw [if_pos k7]
    rw [hm] at hbn;refine A3V c left bd b (A1m c (fun i=>i<bd.length/\t.n.toNat<=i/\i<t.n.toNat+bindN t) left bd _ b hb ?_ (by simp) (fun i hi=>(A21 _ _ _ _).2 (.inl hi)) (fun i hi=>(A21 _ _ _ _).1 hi));refine A5q c _ left _ b [] hb (fun i hi=>(A21 _ _ _ _).2 (.inr hi)) (fun i _=>by simp) fun i hi hmem=> ?_
    rw [A5i] at hmem;rcases hbn.2 with h0|⟨q1,q2,_⟩
    ·omega
    ·refine hn (i:Int) ((A3U _ _ _).2 ⟨i - t.n.toNat,by omega,by omega,by omega⟩) hmem.1
   grind
  ·exact h0
 rw [if_neg k7];have hbd:∀(k9:t.kind≠9),S7 bd t.n.toNat true (bindN t)=bd:=fun k9=>by unfold bindN;rw [if_neg k9,if_neg k7];rfl
 grind [A3V,left,B2R,C6,D0]
theorem A66 (c:PCore):∀(left:Nat) (bd:List Bool) (t:PTerm),bd.length<=1000->D0 c left bd t=true->D0 c left bd (lessT t)=true
 |0,bd,t,_,h=>by unfold D0 at h;cases h
 |left+1,bd,t,hl,h=>by
  rw [A0C];apply B6T c left bd _ hl;rw [D0,Bool.and_eq_true] at h ⊢;have hk:=Y1 (h:=lessT) (g:=D0 c left) (fun bd' hb x _ hx=>A66 c left bd' x (by rcases hb with rfl|rfl<;>simp [hl]) hx) h.2;refine ⟨?_,hk⟩;have:=h.1;cases t with
  |mk k n m v o ks=>
   have e:A2B c bd (.mk k n m v o (ks.map lessT))=A2B c bd (.mk k n m v o ks):=by
    unfold A2B A4L A3x;simp only [PTerm.kids,PTerm.kind,PTerm.n,PTerm.m,PTerm.val,PTerm.odds,List.length_map];rfl
   exact e.trans this
theorem A9Q {c d:PCore} (hs:d.sites=c.sites) (hl:d.funs.length=c.funs.length) (hp:∀(i:Nat) (h:i<c.funs.length),(d.funs[i]'(by omega)).params=c.funs[i].params):∀(left:Nat) (bd:List Bool) (t:PTerm),D0 c left bd t=true->D0 d left bd t=true
 |0,bd,t,h=>by unfold D0 at h;cases h
 |left+1,bd,t,h=>by
  rw [D0,Bool.and_eq_true] at h ⊢;have hk:=Y1 (h:=id) (g:=D0 d left) (fun bd' hb x _ hx=>A9Q hs hl hp left bd' x hx) h.2;rw [List.map_id] at hk;grind [A3x,A4L,A2B]
theorem B2S {c:PCore} (h:W3 c=true):W3 (slC c)=true:=by
 unfold W3 at h ⊢;rw [Bool.and_eq_true,decide_eq_true_eq,Bool.and_eq_true,Bool.and_eq_true] at h ⊢;have hl:(slC c).funs.length=c.funs.length:=by simp [slC]
 have hb:∀d,A0f c d=true->A0f (slC c) (slB d)=true:=fun d hd=>by
  unfold A0f at hd ⊢;grind [A9Q,slC,slB,A66,A0e,B2J]
 refine ⟨by rw [hl];exact h.1,h.2.1,List.all_eq_true.2 fun d hd=> ?_,hb _ h.2.2.2⟩;obtain ⟨e,he,rfl⟩:=List.mem_map.1 hd;grind
end
section
open Go Go.Xe Go.Xt
variable {F:FuncId->Option TFun} {O:FuncId->List TV->Option TV}
theorem Sm.part {B:Nat} {l l':List TV} (h:Sm B l) (hs:∀x∈l',x∈l):Sm B l':=
 .mk (fun md chs hm=>h.len (hs _ hm)) fun md chs c hm hc=>h.sub (hs _ hm) hc
theorem B9e {B:Nat} {c:PCore} (h:Sm B (L8 c)):Sm B (A5 c.query.term):=
 Sm.part h fun x hx=>by rw [A8];rw [A0] at hx;simp only [List.mem_cons,List.not_mem_nil,or_false] at hx ⊢;grind
theorem C2Q {B:Nat} {c:PCore} (h:Sm B (L8 c)) {f:PBody} (hf:f∈c.funs):Sm B (A5 f.term):=by
 rw [A8] at h;have h2:Sm B (F5 f):=h.sub (md:=.fz) (chs:=c.funs.map F5) (by simp) (List.mem_map.2 ⟨f,hf,rfl⟩);exact Sm.part h2 fun x hx=>by rw [F5];simp [hx]
theorem B0I (h6:F 16=some f6) (h23:F 46=some f23) (h47:F 87=some f47) (h24:F 29=some f24) (h7:F 69=some f7) (h25:F 100=some f25) (N:Nat) (c:PCore) (b:Nat) (σ:Sto) (B:Nat) (hB:B<=1000000) (hok:OkC c) (hsm:Sm reachBytes (L8 c))
  (h1:A0Z c.types<N) (h2:E3 c.query.term<=N) (h3:∀f∈c.funs,E3 f.term<=N) (hn:c.funs.length<=N):
  ∃r,A2 F O (N+2) b 16 [.int .i64 B,.agg (L8 c)] σ=some (.ret (.bool r),σ)/\(r=true->c.funs.length<=100/\(cntT c.query.term<=B/\Lt B c.query.term)/\∀f∈c.funs,cntT f.term<=B/\Lt B f.term):=by
 obtain ⟨rt,ht⟩:=B3V (O:=O) h23 h47 N c.types σ.length σ B h1 hok.tlen hok.types;obtain ⟨rq,hq,hq0,hq1⟩:=A5j (O:=O) h24 h7 h25 B hB (N+1) c.query.term σ.length σ 0 (by omega) hok.query.term (B9e hsm) (by omega) (by omega)
 suffices hh:∃e' σ',A2 F O (N+2) b 16 [.int .i64 B,.agg (L8 c)] σ=some (e',σ')/\∃r,e'=.ret (.bool r)/\σ'=σ/\(r=true->c.funs.length<=100/\(cntT c.query.term<=B/\Lt B c.query.term)/\∀f∈c.funs,cntT f.term<=B/\Lt B f.term) by
  obtain ⟨e',σ',h1,r,rfl,rfl,h2⟩:=hh;exact ⟨r,h1,h2⟩
 refine E4 h6 ?_;rw [A0] at hq
 by_cases hf:(100:Int)<(c.funs.length:Int)
 ·simp [x6,A8,hf]
 by_cases htt:(100:Int)<(c.types.length:Int)
 ·simp [x6,A8,hf,htt]
 cases rt with
 |false=>simp [x6,A8,hf,htt,ht]
 |true=>
  simp [x6,A8,hf,htt,ht,hq];obtain ⟨Z,hZ⟩:∃Z:Prop,Z=(c.funs.length<=100/\(cntT c.query.term<=B/\Lt B c.query.term)/\∀f∈c.funs,cntT f.term<=B/\Lt B f.term):=⟨_,rfl⟩;simp only [<-hZ]
  obtain ⟨I,hI⟩:∃I:Nat->TAct->Sto->Prop,I=(fun j a σ'=>a.df=[]/\σ'=σ/\∃acc:Int,0<=acc/\(acc<=B->(cntT c.query.term<=B/\Lt B c.query.term)/\∀(i:Nat) (f:PBody),i<j->c.funs[i]? =some f->cntT f.term<=B/\Lt B f.term)/\a.tm.get 0=some (.int .i64 B)/\a.tm.get 3=some (.bx 0 (L8 c) 40)/\a.tm.get 5=some (.int .i64 acc)/\a.tm.get 6=some (.int .i64 j)):=⟨_,rfl⟩
  obtain ⟨R,hR⟩:∃R:TEx->TAct->Sto->Prop,R=(fun ex a σ'=>ex=.exit 0/\a.df=[]/\σ'=σ/\∃acc:Int,(acc<=B->Z)/\a.tm.get 0=some (.int .i64 B)/\a.tm.get 5=some (.int .i64 acc)):=⟨_,rfl⟩;refine B8 I c.funs.length R ?_ (by omega) ?_ ?_ ?_
  ·rw [hI];exact ⟨rfl,rfl,rq,hq0,fun h=>⟨⟨by have:=(hq1 h).1;omega,(hq1 h).2⟩,fun i f hi=>by omega⟩,by simp,by simp [A8],by simp,by simp⟩
  ·rw [hI];rintro j ⟨tm,df,clk⟩ σ' hj ⟨rfl,rfl,acc,ha0,hac,g0,g3,g5,g6⟩;rw [<-hI];simp only at g0 g3 g5 g6;have hw:=F9 hj hok.flen;have hmem:=List.getElem_mem hj;have g3':=g3;rw [A8] at g3
   by_cases ha:acc<=B
   ·obtain ⟨r,hc,hr0,hr1⟩:=A5j (O:=O) h24 h7 h25 B hB (N+1) c.funs[j].term σ'.length σ' acc (Nat.le_succ_of_le (h3 _ hmem)) (hok.funs _ hmem).term (C2Q hsm hmem) ha0 ha;rw [A0] at hc;simp [g0,g3,g5,g6,hj,ha,hc,hw,C9];rw [hI];refine ⟨rfl,rfl,r,hr0,fun h=> ?_,by simp [g0],by simp [g3'],by simp,by simp⟩;obtain ⟨q1,q2⟩:=hr1 h;obtain ⟨q3,q4⟩:=hac ha;refine ⟨q3,fun i f hi hf=> ?_⟩
    by_cases e:i=j
    ·subst e;rw [List.getElem?_eq_getElem hj] at hf;obtain rfl:=Option.some.inj hf;exact ⟨by omega,q2⟩
    ·exact q4 i f (by omega) hf
   ·simp [g0,g3,g5,g6,hj,ha];rw [hR];exact ⟨rfl,rfl,rfl,acc,fun h=>absurd h ha,by simp [g0],by simp [g5]⟩
  ·rw [hI];rintro ⟨tm,df,clk⟩ σ' ⟨rfl,rfl,acc,ha0,hac,g0,g3,g5,g6⟩;simp only at g0 g3 g5 g6;rw [A8] at g3;simp [g0,g3,g5,g6,B4];rw [hR];refine ⟨rfl,rfl,rfl,acc,fun h=> ?_,by simp [g0],by simp [g5]⟩;rw [hZ];refine ⟨by omega,(hac h).1,fun f hf=> ?_⟩;obtain ⟨i,hi,rfl⟩:=List.getElem_of_mem hf;exact (hac h).2 i _ hi (List.getElem?_eq_getElem hi)
  ·rw [hR];rintro ex ⟨tm,df,clk⟩ σ' ⟨rfl,rfl,rfl,acc,hac,g0,g5⟩;simp only at g0 g5;simp [g0,g5]
   by_cases h:acc<=B
   ·exact .inr ⟨h,hac h⟩
   ·exact .inl (by omega)
end
section
open Go Go.Xe Go.Xt
inductive CutF:PTerm->Prop
 |mk {t:PTerm}:A10 t=t->(∀x∈t.kids,CutF x)->CutF t
theorem CutF.cut {t:PTerm}:CutF t->A10 t=t
 |.mk h _=>h
theorem CutF.sub {t:PTerm}:CutF t->∀x∈t.kids,CutF x
 |.mk _ h=>h
theorem A5r:∀(M:Nat) (t:PTerm),E3 t<=M->CutF (lessT t)
 |0,t,h=>by rw [B5] at h;omega
 |M+1,t,h=>by
  have hs:=B5 t;rw [A0C];have hk:∀x∈t.kids.map lessT,CutF x:=fun x hx=>by
   obtain ⟨y,hy,rfl⟩:=List.mem_map.1 hx;exact A5r M y (by have:=D3 _ _ hy;omega)
  generalize hu:PTerm.mk t.kind t.n t.m t.val t.odds (t.kids.map lessT)=u;have hku:u.kids=t.kids.map lessT:=by rw [<-hu];rfl
  rw [<-hku] at hk;rcases B2O (fun x=>x=u\/x∈u.kids) u (.inl rfl) (fun x hx=>.inr hx) with e|e
  ·rw [e];exact .mk e hk
  ·exact hk _ e
theorem CutF.less {t:PTerm} (h:CutF t):lessT t=t:=by
 induction h with
 |@mk t e _ ih=>
  rw [A0C];have:t.kids.map lessT=t.kids:=by
   rw [List.map_congr_left (g:=id) fun x hx=>ih x hx];simp
  rw [this];cases t;exact e
mutual
theorem A86 (to:List Int):∀(t:PTerm) (s:Int),Y6 (D2 to t s).1=Y6 t
 |.mk k n m v o ks,s=>by
  have ih:=fun s=>A9R to ks s
  have hl:=fun s=>S9 to ks s
  simp only [D2,Y6,ih,hl]
  by_cases h12:k=12
  ·simp [h12]
  by_cases h3:k=3
  ·simp [h3]
  ·simp [h12,h3]
theorem A9R (to:List Int):∀(l:List PTerm) (s:Int),A3P (B7 to l s).1=A3P l
 |[],s=>rfl
 |t::l,s=>by simp only [B7,A3P,A86 to t,A9R to l]
end
mutual
theorem B2T (to:List Int) (x:Int):∀(t:PTerm) (s:Int),x∈refF (D2 to t s).1↔x∈refF t
 |.mk k n m v o ks,s=>by
  have ih:=fun S s=>B2U to x S ks s
  simp only [D2,refF,A5h,ih]
  by_cases h12:k=12
  ·simp [h12,O3,PTerm.kind];simp [D6]
  by_cases h3:k=3
  ·simp [h3,O3,PTerm.kind];simp [D6]
  ·simp [h12,h3,O3,PTerm.kind,PTerm.m];exact Iff.rfl
theorem B2U (to:List Int) (x:Int) (S:List Int):∀(l:List PTerm) (s:Int),A7F S x (B7 to l s).1↔A7F S x l
 |[],s=>Iff.rfl
 |t::l,s=>by
  have hl:=S9 to l (D2 to t s).2;have e:(B7 to l (D2 to t s).2).1=[]↔l=[]:=by
   rw [<-List.length_eq_zero_iff,<-List.length_eq_zero_iff,hl]
  simp only [B7,A7F,B2T to x t,B2U to x S l,e]
end
mutual
def drT:PTerm->Int
 |.mk k _ _ _ _ ks=>(if k=12 then 1 else 0)+A8w ks
def A8w:List PTerm->Int
 |[]=>0
 |t::l=>drT t+A8w l
end
mutual
theorem A5s (to:List Int):∀(t:PTerm) (s:Int),(D2 to t s).2=s+drT t
 |.mk k n m v o ks,s=>by simp only [D2,drT,B5y to ks];split<;>omega
theorem B5y (to:List Int):∀(l:List PTerm) (s:Int),(B7 to l s).2=s+A8w l
 |[],s=>by simp [B7,A8w]
 |t::l,s=>by simp only [B7,A8w,B5y to l,A5s to t];omega
end
mutual
theorem A4P:∀(t:PTerm),0<=drT t
 |.mk k n m v o ks=>by have:=A4Q ks;simp only [drT];split<;>omega
theorem A4Q:∀(l:List PTerm),0<=A8w l
 |[]=>by simp [A8w]
 |t::l=>by have:=A4Q l;have:=A4P t;simp only [A8w];omega
end
inductive CallQ (Q:Nat->Prop):PTerm->Prop
 |mk {t:PTerm}:(t.kind=3->0<=t.n/\Q t.n.toNat)->(∀x∈t.kids,CallQ Q x)->CallQ Q t
theorem CallQ.head {Q:Nat->Prop} {t:PTerm}:CallQ Q t->t.kind=3->0<=t.n/\Q t.n.toNat
 |.mk h _=>h
theorem CallQ.sub {Q:Nat->Prop} {t:PTerm}:CallQ Q t->∀x∈t.kids,CallQ Q x
 |.mk _ h=>h
mutual
theorem B0J {to:List Int} {Q:Nat->Prop} (hQ:∀i j,Q i->Q j->(to[i]?).getD 0=(to[j]?).getD 0->i=j):∀(a b:PTerm) (s1 s2:Int),CallQ Q a->CallQ Q b->(D2 to a s1).1=(D2 to b s2).1->(s1≠s2\/drT a=0)->a=b
 |.mk k n m v o ks,.mk k' n' m' v' o' ks',s1,s2,ha,hb,e,hs=>by
  simp only [D2,PTerm.mk.injEq] at e;obtain ⟨rfl,en,rfl,rfl,rfl,ek⟩:=e;have hp:=A4Q ks;simp only [drT] at hs;have h12:k≠12:=fun h=>by
   subst h;simp at en;rcases hs with h|h
   ·exact h en
   ·simp at h;omega
  simp only [if_neg h12] at en ek hs;have:=B2V hQ ks ks' s1 s2 ha.sub hb.sub ek (by simpa using hs);subst this;congr 1
  by_cases h3:k=3
  ·have h1:=ha.head h3;have h2:=hb.head h3;simp only [PTerm.n] at h1 h2;rw [if_pos h3,if_pos h3] at en;have:=hQ _ _ h1.2 h2.2 en;omega
  ·rwa [if_neg h3,if_neg h3] at en
theorem B2V {to:List Int} {Q:Nat->Prop} (hQ:∀i j,Q i->Q j->(to[i]?).getD 0=(to[j]?).getD 0->i=j):∀(a b:List PTerm) (s1 s2:Int),(∀x∈a,CallQ Q x)->(∀x∈b,CallQ Q x)->(B7 to a s1).1=(B7 to b s2).1->(s1≠s2\/A8w a=0)->a=b
 |[],[],s1,s2,_,_,_,_=>rfl
 |[],_::_,s1,s2,_,_,e,_=>by simp [B7] at e
 |_::_,[],s1,s2,_,_,e,_=>by simp [B7] at e
 |x::a,y::b,s1,s2,ha,hb,e,hs=>by
  simp only [B7,List.cons.injEq] at e;simp only [A8w] at hs;have h1:=A4P x;have h2:=A4Q a;have e1:=B0J hQ x y s1 s2 (ha x (by simp)) (hb y (by simp)) e.1 (by omega);subst e1;have e2:=B2V hQ a b _ _ (fun z hz=>ha z (by simp [hz])) (fun z hz=>hb z (by simp [hz])) e.2 (by rw [A5s,A5s];omega);rw [e2]
end
theorem C2R {t x:PTerm} (h:x∈t.kids):x≠t:=fun e=>by
 subst e;have h1:=D3 _ _ h;have h2:=B5 x;omega
theorem A6q {α:Type} {S:α->α->Bool}:∀{l m:List α},(∀x∈l,∀y,S x y=true->x=y)->F4 S l m=true->l=m
 |[],[],_,_=>rfl
 |[],_::_,_,h=>by cases h
 |_::_,[],_,h=>by cases h
 |a::l,b::m,hs,h=>by
  simp only [F4,Bool.and_eq_true] at h;rw [hs a (by simp) b h.1,A6q (fun x hx=>hs x (by simp [hx])) h.2]
theorem B2W:∀(n:Nat) (a b:PVal),szV a<=n->Y5 a b=true->a=b
 |0,a,b,h,_=>by rw [E5] at h;omega
 |n+1,a,b,h,e=>by
  rw [E5] at h;rw [Z8] at e;simp only [Bool.and_eq_true,decide_eq_true_eq] at e;have:=A6q (fun x hx y hy=>B2W n x y (by have:=O2 _ _ hx;omega) hy) e.2.2;cases a;cases b;simp only [PVal.kind,PVal.n,PVal.list] at e this;rw [e.1,e.2.1,this]
theorem A5t:∀(n:Nat) (a b:PTerm),E3 a<=n->H7 a b=true->a=b
 |0,a,b,h,_=>by rw [B5] at h;omega
 |n+1,a,b,h,e=>by
  rw [B5] at h;rw [A0U] at e;simp only [Bool.and_eq_true,decide_eq_true_eq] at e;have h1:=A6q (fun x hx y hy=>A5t n x y (by have:=D3 _ _ hx;omega) hy) e.2.2.2.2.2;have h2:=A6q (fun x hx y hy=>of_decide_eq_true hy) e.2.2.2.2.1;have h3:=B2W _ _ _ (Nat.le_refl _) e.2.2.2.1;cases a;cases b;simp only [PTerm.kind,PTerm.n,PTerm.m,PTerm.val,PTerm.odds,PTerm.kids] at e h1 h2 h3
  rw [e.1,e.2.1,e.2.2.1,h1,h2,h3]
theorem A9S {to:List Int} {Q:Nat->Prop} (hQ:∀i j,Q i->Q j->(to[i]?).getD 0=(to[j]?).getD 0->i=j) {a:PTerm} (ha:CallQ Q a) (s1:Int):∀(r:List PTerm) (s2:Int),(∀x∈r,CallQ Q x)->(s1<s2\/drT a=0)->(∀y∈(B7 to r s2).1,(D2 to a s1).1=y)->∀x∈r,a=x
 |[],s2,_,_,_,x,hx=>by cases hx
 |z::r,s2,hr,hs,he,x,hx=>by
  simp only [B7,List.mem_cons,forall_eq_or_imp] at he;rcases List.mem_cons.1 hx with rfl|hx
  ·exact B0J hQ a x s1 s2 ha (hr x (by simp)) he.1 (by omega)
  ·refine A9S hQ ha s1 r _ (fun y hy=>hr y (by simp [hy])) ?_ he.2 x hx;have:=A4P z;rw [A5s];omega
theorem C0q (k n m:Int) (v:PVal) (o:List Int) (ks:List PTerm):A10 (.mk k n m v o ks)=
  if k=7 then (match ks with|[a,c]=>(if R0 n (A4G m) c&&Y6 a then c else .mk k n m v o ks)|_=>.mk k n m v o ks)
  else if k=10 then (match ks with|[a,c]=>(if a.kind=1/\a.val.n≠0 then c else .mk k n m v o ks)|_=>.mk k n m v o ks)
  else if k=11 then (match ks with|[a]=>(if A2w o then a else .mk k n m v o ks)|_=>.mk k n m v o ks)
  else if k=12 then (match ks with|a::r=>(if A7M (a::r) then a else .mk k n m v o ks)|[]=>.mk k n m v o ks)
  else if k=8 then (match ks with|[a,c,d]=>(if a.kind=1 then (if a.val.n≠0 then c else d) else if Y6 a&&H7 c d then c else .mk k n m v o ks)|_=>.mk k n m v o ks)
  else .mk k n m v o ks:=rfl
theorem C0r {to:List Int} {Q:Nat->Prop} (hQ:∀i j,Q i->Q j->(to[i]?).getD 0=(to[j]?).getD 0->i=j) (t:PTerm) (s:Int) (hc:CallQ Q t) (h:A10 t=t):A10 (D2 to t s).1=(D2 to t s).1:=by
 have hne:∀x∈t.kids,x≠t:=fun x hx=>C2R hx
 have hcs:=hc.sub;obtain ⟨k,n,m,v,o,ks⟩:=t;simp only [D2];rw [C0q] at h ⊢;simp only [PTerm.kids] at hne hcs
 by_cases k7:k=7
 ·subst k7;rcases ks with _|⟨a,_|⟨c,_|⟨d,r⟩⟩⟩
  ·rfl
  ·rfl
  ·have e:∀s,R0 n (A4G m) (D2 to c s).1=R0 n (A4G m) c:=fun s=>by
    unfold R0;simp only [B2T]
   simp [B7,A86,e] at h ⊢;intro h1 h2;exact absurd (h h1 h2) (hne c (by simp))
  ·rfl
 rw [if_neg k7] at h ⊢
 by_cases k10:k=10
 ·subst k10;rcases ks with _|⟨a,_|⟨c,_|⟨d,r⟩⟩⟩
  ·rfl
  ·rfl
  ·have e1:∀s,(D2 to a s).1.kind=a.kind:=fun s=>by rw [A0i];rfl
   have e2:∀s,(D2 to a s).1.val=a.val:=fun s=>by rw [A0i];rfl
   simp [B7,e1,e2] at h ⊢;intro h1 h2;exact absurd (h h1 h2) (hne c (by simp))
  ·rfl
 rw [if_neg k10] at h ⊢
 by_cases k11:k=11
 ·subst k11;rcases ks with _|⟨a,_|⟨c,r⟩⟩
  ·rfl
  ·simp [B7] at h ⊢;intro h1;exact absurd (h h1) (hne a (by simp))
  ·rfl
 rw [if_neg k11] at h ⊢
 by_cases k12:k=12
 ·subst k12;rcases ks with _|⟨a,r⟩
  ·rfl
  ·simp [B7] at h ⊢;intro h1;refine absurd (h ?_) (hne a (by simp));have hr:∀x∈r,a=x:=A9S hQ (hcs a (by simp)) _ r _ (fun x hx=>hcs x (by simp [hx])) (by have:=A4P a;rw [A5s];omega) fun y hy=>A5t _ _ _ (Nat.le_refl _) (List.all_eq_true.1 h1 y hy)
   exact List.all_eq_true.2 fun x hx=>by rw [<-hr x hx];exact A0b _ a (Nat.le_refl _)
 rw [if_neg k12] at h ⊢
 by_cases k8:k=8
 ·subst k8;rcases ks with _|⟨a,_|⟨c,_|⟨d,_|⟨d',r⟩⟩⟩⟩
  ·rfl
  ·rfl
  ·rfl
  ·simp only [B7,A86] at h ⊢;have e1:∀s,(D2 to a s).1.kind=a.kind:=fun s=>by rw [A0i];rfl
   have e2:∀s,(D2 to a s).1.val=a.val:=fun s=>by rw [A0i];rfl
   simp only [e1,e2] at h ⊢;have hcc:=hne c (by simp);have hdd:=hne d (by simp)
   by_cases ka:a.kind=1
   ·simp only [ka,if_true] at h;split at h
    ·exact absurd h hcc
    ·exact absurd h hdd
   ·simp only [ka,if_false] at h ⊢
    by_cases hh:(Y6 a&&H7 (D2 to c (D2 to a (if (8:Int)=12 then s+1 else s)).2).1 (D2 to d (D2 to c (D2 to a (if (8:Int)=12 then s+1 else s)).2).2).1)=true
    ·rw [Bool.and_eq_true] at hh;have:=B0J hQ c d _ _ (hcs c (by simp)) (hcs d (by simp)) (A5t _ _ _ (Nat.le_refl _) hh.2) (by have:=A4P c;rw [A5s to c];omega);subst this;rw [hh.1,A0b _ c (Nat.le_refl _)] at h;exact absurd h hcc
    ·exact if_neg hh
  ·rfl
 rw [if_neg k8]
theorem CutF.num {to:List Int} {Q:Nat->Prop} (hQ:∀i j,Q i->Q j->(to[i]?).getD 0=(to[j]?).getD 0->i=j):∀(M:Nat) (t:PTerm) (s:Int),E3 t<=M->CallQ Q t->CutF t->CutF (D2 to t s).1
 |0,t,s,h,_,_=>by rw [B5] at h;omega
 |M+1,t,s,h,hc,ht=>by
  have hs:=B5 t;refine .mk (C0r hQ t s hc ht.cut) ?_;rw [A0i];have key:∀(l:List PTerm) (s:Int),(∀x∈l,E3 x<=M/\CallQ Q x/\CutF x)->∀y∈(B7 to l s).1,CutF y:=by
   intro l
   induction l with
   |nil=>intro s _ y hy;simp [B7] at hy
   |cons x l ih=>
    intro s hx y hy;have hx0:=hx x (by simp);simp only [B7] at hy;rcases List.mem_cons.1 hy with rfl|hy
    ·exact CutF.num hQ M x s hx0.1 hx0.2.1 hx0.2.2
    ·exact ih _ (fun z hz=>hx z (by simp [hz])) y hy
  exact key t.kids _ fun x hx=>⟨by have:=D3 _ _ hx;omega,hc.sub x hx,ht.sub x hx⟩
inductive Has (j:Nat):PTerm->Prop
 |head {t:PTerm}:t.kind=3->t.n=(j:Int)->Has j t
 |sub {t x:PTerm}:x∈t.kids->Has j x->Has j t
theorem B9f {j:Nat} {t:PTerm}:Has j t↔(t.kind=3/\t.n=(j:Int))\/∃x∈t.kids,Has j x:=
 ⟨fun h=>by cases h with
  |head a b=>exact .inl ⟨a,b⟩
  |sub a b=>exact .inr ⟨_,a,b⟩,fun h=>h.elim (fun h=>.head h.1 h.2) fun ⟨x,a,b⟩=>.sub a b⟩
mutual
theorem A9T (j:Nat):∀(t:PTerm) (l:List Bool),(R3 t l)[j]? =some true↔l[j]? =some true\/(j<l.length/\Has j t)
 |.mk k n m v o ks,l=>by
  rw [R3,A87 j ks,B9f];simp only [PTerm.kind,PTerm.n,PTerm.kids]
  by_cases h:k=3/\0<=n/\n<(l.length:Int)
  ·rw [if_pos h,List.length_set,List.getElem?_set]
   by_cases e:n.toNat=j
   ·have:j<l.length:=by omega
    have e2:n=(j:Int):=by omega
    simp [e,this,e2,h.1]
   ·have e2:n≠(j:Int):=by omega
    simp [e,e2]
  ·rw [if_neg h];constructor
   ·rintro (a|a)
    ·exact .inl a
    ·exact .inr ⟨a.1,.inr a.2⟩
   ·rintro (a|⟨a,b|b⟩)
    ·exact .inl a
    ·exact absurd ⟨b.1,by omega,by omega⟩ h
    ·exact .inr ⟨a,b⟩
theorem A87 (j:Nat):∀(ts:List PTerm) (l:List Bool),(J8 ts l)[j]? =some true↔l[j]? =some true\/(j<l.length/\∃x∈ts,Has j x)
 |[],l=>by simp [J8]
 |t::r,l=>by
  rw [J8,A87 j r,A9T j t,A1Y];simp only [List.mem_cons,exists_eq_or_imp];grind
end
theorem A30 {c:PCore} {t:PTerm} {j:Nat}:(A11 c t)[j]? =some true↔j<c.funs.length/\Has j t:=by
 unfold A11;rw [A9T,List.length_replicate,List.getElem?_replicate];constructor
 ·rintro (h|h)
  ·split at h<;>simp at h
  ·exact h
 ·exact .inr
mutual
theorem A88 {n:Nat} {Q:Nat->Prop}:∀(t:PTerm),F7 n t=true->(∀j,j<n->Has j t->Q j)->CallQ Q t
 |.mk k m m' v o ks,h,hq=>by
  unfold F7 at h;rw [Bool.and_eq_true,Bool.or_eq_true,decide_eq_true_eq,decide_eq_true_eq] at h;refine .mk (fun k3=> ?_) (A9U ks h.2 fun j hj x hx hh=>hq j hj (.sub hx hh));simp only [PTerm.kind,PTerm.n] at k3 ⊢;have:=h.1.resolve_left (fun e=>e k3);exact ⟨this.1,hq _ (by omega) (.head k3 (by simp only [PTerm.n];omega))⟩
termination_by structural t=>t
theorem A9U {n:Nat} {Q:Nat->Prop}:∀(l:List PTerm),X9 n l=true->(∀j,j<n->∀x∈l,Has j x->Q j)->∀x∈l,CallQ Q x
 |[],_,_,x,hx=>by cases hx
 |t::l,h,hq,x,hx=>by
  unfold X9 at h;rw [Bool.and_eq_true] at h;rcases List.mem_cons.1 hx with e|hx
  ·rw [e];exact A88 t h.1 fun j hj hh=>hq j hj t (by simp) hh
  ·exact A9U l h.2 (fun j hj y hy hh=>hq j hj y (by simp [hy]) hh) x hx
termination_by structural l=>l
end
mutual
theorem B0K {to:List Int} {i j:Nat} (e:(to[i]?).getD 0=(j:Int)):∀(t:PTerm) (s:Int),Has i t->Has j (D2 to t s).1
 |.mk k n m v o ks,s,h=>by
  rw [B9f] at h ⊢;simp only [D2,PTerm.kind,PTerm.n,PTerm.kids] at h ⊢;rcases h with ⟨rfl,rfl⟩|⟨x,hx,hh⟩
  ·exact .inl ⟨rfl,by simpa using e⟩
  ·exact .inr (B2X e ks _ x hx hh)
termination_by structural t=>t
theorem B2X {to:List Int} {i j:Nat} (e:(to[i]?).getD 0=(j:Int)):∀(l:List PTerm) (s:Int) (x:PTerm),x∈l->Has i x->∃y∈(B7 to l s).1,Has j y
 |t::l,s,x,hx,hh=>by
  simp only [B7,List.mem_cons,exists_eq_or_imp];rcases List.mem_cons.1 hx with e2|hx
  ·rw [e2] at hh;exact .inl (B0K e t s hh)
  ·exact .inr (B2X e l _ x hx hh)
termination_by structural l=>l
end
mutual
theorem A5u {to to':List Int} {Q:Nat->Prop} (hQ:∀i,Q i->∃j:Nat,(to[i]?).getD 0=(j:Int)/\(to'[j]?).getD 0=(j:Int)):∀(t:PTerm) (s:Int),CallQ Q t->D2 to' (D2 to t s).1 s=D2 to t s
 |.mk k n m v o ks,s,h=>by
  have hk:=A89 hQ ks (if k=12 then s+1 else s) h.sub;simp only [D2,hk];congr 1
  by_cases h12:k=12
  ·simp [h12]
  by_cases h3:k=3
  ·obtain ⟨j,h1,h2⟩:=hQ _ (h.head h3).2;simp only [PTerm.n] at h1;simp [h3,h1,h2]
  ·simp [h12,h3]
theorem A89 {to to':List Int} {Q:Nat->Prop} (hQ:∀i,Q i->∃j:Nat,(to[i]?).getD 0=(j:Int)/\(to'[j]?).getD 0=(j:Int)):∀(l:List PTerm) (s:Int),(∀x∈l,CallQ Q x)->B7 to' (B7 to l s).1 s=B7 to l s
 |[],s,_=>rfl
 |t::l,s,h=>by
  simp only [B7,A5u hQ t s (h t (by simp)),A89 hQ l _ fun x hx=>h x (by simp [hx])]
end
theorem A2H {to to':List Int} {Q:Nat->Prop} (hQ:∀i,Q i->∃j:Nat,(to[i]?).getD 0=(j:Int)/\(to'[j]?).getD 0=(j:Int)):∀(l:List Bool) (fs:List PBody) (s:Int),(∀(i:Nat) (f:PBody),l[i]? =some true->fs[i]? =some f->CallQ Q f.term)->
  A9 to' (List.replicate (A9 to l fs s).1.length true) (A9 to l fs s).1 s=A9 to l fs s
 |true::l,f::fs,s,h=>by
  have h1:=A5u hQ f.term s (h 0 f rfl rfl);have h2:=A2H hQ l fs (D2 to f.term s).2 fun i g hi hg=>h (i+1) g hi hg
  simp only [A9,List.length_cons,List.replicate_succ,h1,h2]
 |false::l,f::fs,s,h=>by
  simp only [A9];exact A2H hQ l fs s fun i g hi hg=>h (i+1) g hi hg
 |[],fs,s,_=>by cases fs<;>simp [A9]
 |true::_,[],s,_=>by simp [A9]
 |false::_,[],s,_=>by simp [A9]
theorem A8a (to:List Int):∀(l:List Bool) (fs:List PBody) (s:Int) (i:Nat) (f:PBody),l[i]? =some true->fs[i]? =some f->
  ∃s':Int,(A9 to l fs s).1[(l.take i).count true]? =some ⟨f.params,f.slots,(D2 to f.term s').1⟩
 |true::l,g::fs,s,0,f,_,hf=>by
  simp at hf;subst hf;exact ⟨s,by simp [A9]⟩
 |true::l,g::fs,s,i+1,f,hi,hf=>by
  obtain ⟨s',h⟩:=A8a to l fs (D2 to g.term s).2 i f (by simpa using hi) (by simpa using hf);exact ⟨s',by simp [A9,h]⟩
 |false::l,g::fs,s,0,f,hi,hf=>by simp at hi
 |false::l,g::fs,s,i+1,f,hi,hf=>by
  obtain ⟨s',h⟩:=A8a to l fs s i f (by simpa using hi) (by simpa using hf);exact ⟨s',by simp [A9,h]⟩
 |[],fs,s,i,f,hi,_=>by simp at hi
 |_::_,[],s,i,f,_,hf=>by simp at hf
theorem A0Y (to:List Int):∀(l:List Bool) (fs:List PBody) (s:Int) (j:Nat) (d:PBody),(A9 to l fs s).1[j]? =some d->
  ∃(i:Nat) (f:PBody) (s':Int),l[i]? =some true/\fs[i]? =some f/\(l.take i).count true=j/\d=⟨f.params,f.slots,(D2 to f.term s').1⟩/\s<=s'/\(D2 to f.term s').2<=(A9 to l fs s).2
 |true::l,g::fs,s,0,d,h=>by
  simp [A9] at h;exact ⟨0,g,s,rfl,rfl,by simp,h.symm,Int.le_refl _,by simp only [A9];exact (R4 to l fs _).1⟩
 |true::l,g::fs,s,j+1,d,h=>by
  simp only [A9,List.getElem?_cons_succ] at h;obtain ⟨i,f,s',h1,h2,h3,h4,h5,h6⟩:=A0Y to l fs _ j d h;have:=(P7 to _ g.term s (Nat.le_refl _)).1;exact ⟨i+1,f,s',by simpa using h1,by simpa using h2,by simp [h3],h4,by omega,by simpa only [A9] using h6⟩
 |false::l,g::fs,s,j,d,h=>by
  simp only [A9] at h;obtain ⟨i,f,s',h1,h2,h3,h4,h5,h6⟩:=A0Y to l fs s j d h;exact ⟨i+1,f,s',by simpa using h1,by simpa using h2,by simp [h3],h4,h5,by simpa only [A9] using h6⟩
 |[],fs,s,j,d,h=>by cases fs<;>simp [A9] at h
 |true::_,[],s,j,d,h=>by simp [A9] at h
 |false::_,[],s,j,d,h=>by simp [A9] at h
theorem A3W (l:List Bool) {i:Nat} (h:i<l.length):((K1 l)[i]?).getD 0=((l.take i).count true:Int):=by
 rw [List.getElem?_eq_getElem (by rw [A20];exact h),B5u l h];rfl
theorem C0s (n:Nat) {i:Nat} (h:i<n):((K1 (List.replicate n true))[i]?).getD 0=(i:Int):=by
 rw [A3W _ (by simpa using h),List.take_replicate,List.count_replicate_self];congr 1;omega
theorem B2Y {l:List Bool} {i j:Nat} (h:i<j) (hi:l[i]? =some true):(l.take i).count true<(l.take j).count true:=by
 have hl:=(List.getElem?_eq_some_iff.1 hi).1;have h1:(l.take (i+1)).count true=(l.take i).count true+1:=by
  rw [List.take_add_one,hi,List.count_append];rfl
 have h2:(l.take (i+1)).Sublist (l.take j):=by
  rw [show i+1=min (i+1) j by omega,<-List.take_take];exact List.take_sublist _ _
 have:=h2.count_le true;omega
theorem B5z (l:List Bool) (i j:Nat) (hi:l[i]? =some true) (hj:l[j]? =some true) (e:((K1 l)[i]?).getD 0=((K1 l)[j]?).getD 0):i=j:=by
 rw [A3W l (List.getElem?_eq_some_iff.1 hi).1,A3W l (List.getElem?_eq_some_iff.1 hj).1] at e;rcases Nat.lt_trichotomy i j with h|h|h
 ·have:=B2Y h hi;omega
 ·exact h
 ·have:=B2Y h hj;omega
structure Ren (c:PCore) (l:List Bool):Prop where
 is:IsReach c l
 fun_:∀f∈c.funs,F7 c.funs.length f.term=true
 query:F7 c.funs.length c.query.term=true
theorem Ren.q {c:PCore} {l:List Bool} (h:Ren c l):CallQ (fun i=>l[i]? =some true) c.query.term:=
 A88 _ h.query fun j hj hh=>(h.is.iff j).2 (.base (A30.2 ⟨hj,hh⟩))
theorem Ren.f {c:PCore} {l:List Bool} (h:Ren c l) (i:Nat) (f:PBody) (hi:l[i]? =some true) (hf:c.funs[i]? =some f):CallQ (fun i=>l[i]? =some true) f.term:=
 A88 _ (h.fun_ f (List.mem_of_getElem? hf)) fun j hj hh=>(h.is.iff j).2 (.step ((h.is.iff i).1 hi) hf (A30.2 ⟨hj,hh⟩))
theorem Ren.at_ {c:PCore} {l:List Bool} (h:Ren c l) {i:Nat} (hi:l[i]? =some true):∃f s',c.funs[i]? =some f/\(I6 c l).funs[(l.take i).count true]? =some ⟨f.params,f.slots,(D2 (K1 l) f.term s').1⟩:=by
 have hl:=(List.getElem?_eq_some_iff.1 hi).1;rw [h.is.len] at hl;obtain ⟨s',hs⟩:=A8a (K1 l) l c.funs 0 i _ hi (List.getElem?_eq_getElem hl);exact ⟨_,s',List.getElem?_eq_getElem hl,hs⟩
theorem Ren.lt {c:PCore} {l:List Bool} (h:Ren c l) {i:Nat} (hi:l[i]? =some true):(l.take i).count true<(I6 c l).funs.length:=by
 obtain ⟨f,s',_,h2⟩:=h.at_ hi;exact (List.getElem?_eq_some_iff.1 h2).1
theorem Ren.reach {c:PCore} {l:List Bool} (h:Ren c l) {i:Nat} (hr:ReachC c i):ReachC (I6 c l) ((l.take i).count true):=by
 induction hr with
 |@base j hj=>
  have hh:=(A30.1 hj);have hl:=(h.is.iff j).2 (.base hj);exact .base (A30.2 ⟨h.lt hl,B0K (A3W l (List.getElem?_eq_some_iff.1 hl).1) _ _ hh.2⟩)
 |@step i j f hi hf hj ih=>
  have hh:=(A30.1 hj);have hl:=(h.is.iff j).2 (.step hi hf hj);obtain ⟨g,s',hg,hd⟩:=h.at_ ((h.is.iff i).2 hi);obtain rfl:f=g:=by rw [hf] at hg;exact Option.some.inj hg
  exact .step ih hd (A30.2 ⟨h.lt hl,B0K (A3W l (List.getElem?_eq_some_iff.1 hl).1) _ _ hh.2⟩)
theorem Ren.all {c:PCore} {l:List Bool} (h:Ren c l):Y0 (I6 c l)=List.replicate (I6 c l).funs.length true:=by
 have hr:=A0E (I6 c l);apply List.ext_getElem?;intro j
 by_cases hj:j<(I6 c l).funs.length
 ·rw [List.getElem?_replicate,if_pos hj];refine (hr.iff j).2 ?_;obtain ⟨i,f,s',h1,_,h3,_⟩:=A0Y (K1 l) l c.funs 0 j _ (List.getElem?_eq_getElem hj);rw [<-h3];exact h.reach ((h.is.iff i).1 h1)
 ·rw [List.getElem?_eq_none (by rw [hr.len];omega),List.getElem?_eq_none (by simp;omega)]
theorem Ren.to {c:PCore} {l:List Bool} (h:Ren c l) (i:Nat) (hi:l[i]? =some true):∃j:Nat,((K1 l)[i]?).getD 0=(j:Int)/\((K1 (List.replicate (I6 c l).funs.length true))[j]?).getD 0=(j:Int):=
 ⟨_,A3W l (List.getElem?_eq_some_iff.1 hi).1,C0s _ (h.lt hi)⟩
theorem Ren.again {c:PCore} {l:List Bool} (h:Ren c l):I6 (I6 c l) (List.replicate (I6 c l).funs.length true)=I6 c l:=by
 have h1:=A2H h.to l c.funs 0 h.f;have h2:=A5u h.to c.query.term (A9 (K1 l) l c.funs 0).2 h.q
 have e:I6 (I6 c l) (List.replicate (I6 c l).funs.length true)=⟨c.types,(A9 (K1 (List.replicate (A9 (K1 l) l c.funs 0).1.length true)) (List.replicate (A9 (K1 l) l c.funs 0).1.length true) (A9 (K1 l) l c.funs 0).1 0).1,⟨c.query.params,c.query.slots,(D2 (K1 (List.replicate (A9 (K1 l) l c.funs 0).1.length true)) (D2 (K1 l) c.query.term (A9 (K1 l) l c.funs 0).2).1 (A9 (K1 (List.replicate (A9 (K1 l) l c.funs 0).1.length true)) (List.replicate (A9 (K1 l) l c.funs 0).1.length true) (A9 (K1 l) l c.funs 0).1 0).2).1⟩,(D2 (K1 (List.replicate (A9 (K1 l) l c.funs 0).1.length true)) (D2 (K1 l) c.query.term (A9 (K1 l) l c.funs 0).2).1 (A9 (K1 (List.replicate (A9 (K1 l) l c.funs 0).1.length true)) (List.replicate (A9 (K1 l) l c.funs 0).1.length true) (A9 (K1 l) l c.funs 0).1 0).2).2⟩:=rfl
 rw [e];simp only [I6] at h1 h2 ⊢;rw [h1,h2]
theorem Ren.sliced {c:PCore} {l:List Bool} (h:Ren c l) (hf:∀f∈c.funs,CutF f.term) (hq:CutF c.query.term):slC (I6 c l)=I6 c l:=by
 have h1:(I6 c l).funs.map slB=(I6 c l).funs:=by
  rw [List.map_congr_left (g:=id) fun d hd=> ?_]
  ·simp
  ·obtain ⟨j,hj,rfl⟩:=List.getElem_of_mem hd;obtain ⟨i,f,s',h1,h2,h3,h4,_⟩:=A0Y (K1 l) l c.funs 0 j _ (List.getElem?_eq_getElem hj);have h4':(I6 c l).funs[j]=⟨f.params,f.slots,(D2 (K1 l) f.term s').1⟩:=h4;rw [h4'];unfold slB;have:=(CutF.num (B5z l) _ f.term s' (Nat.le_refl _) (h.f i f h1 h2) (hf f (List.mem_of_getElem? h2))).less;simp only [this,id]
 have h2:=(CutF.num (B5z l) _ c.query.term (A9 (K1 l) l c.funs 0).2 (Nat.le_refl _) h.q hq).less;unfold slC;rw [h1];unfold slB I6;simp only [h2]
theorem B9g (c:PCore) (bd:List Bool) (k n m:Int) (v:PVal) (o:List Int) (ks:List PTerm):A4L c bd (.mk k n m v o ks)=
  if k=1 then B0C v else if k=2 then decide (0<=n)&&(bd[n.toNat]? ==some true) else if k=7 then decide (1<=m/\m<=4)&&A4K bd n m.toNat else if k=9 then A4K bd n 2
  else if k=11 then B5s o else if k=12 then decide (o.length=ks.length)&&(decide (0<=n/\n<c.sites)&&A9J o) else true:=rfl
theorem A5v {c d:PCore} {to:List Int} {Q:Nat->Prop} (hp:∀i,Q i->∃(f g:PBody) (j:Nat),c.funs[i]? =some f/\(to[i]?).getD 0=(j:Int)/\d.funs[j]? =some g/\g.params=f.params):
  ∀(left:Nat) (bd:List Bool) (t:PTerm) (s:Int),D0 c left bd t=true->CallQ Q t->0<=s->(D2 to t s).2<=d.sites->D0 d left bd (D2 to t s).1=true
 |0,bd,t,s,h,_,_,_=>by unfold D0 at h;cases h
 |left+1,bd,t,s,h,hc,h0,hs=>by
  rw [D0,Bool.and_eq_true] at h ⊢;obtain ⟨hh,hk⟩:=h;have key:∀(inner:List Bool) (l:List PTerm) (s:Int),C6 (D0 c left) bd inner l=true->(∀x∈l,CallQ Q x)->0<=s->(B7 to l s).2<=d.sites->C6 (D0 d left) bd inner (B7 to l s).1=true:=by
   intro inner l
   induction l with
   |nil=>intro s _ _ _ _;rfl
   |cons x l ih=>
    intro s hr hq h0 hs;simp only [B7,C6] at hr hs ⊢;rw [Bool.and_eq_true] at hr ⊢;rw [S9];have h1:=A1Z to l (D2 to x s).2;have h2:=P7 to _ x s (Nat.le_refl _);exact ⟨A5v hp left _ x s hr.1 (hq x (by simp)) h0 (by omega),ih _ hr.2 (fun y hy=>hq y (by simp [hy])) (by omega) hs⟩
  have hcs:=hc.sub;have hch:=hc.head;obtain ⟨k,n,m,v,o,ks⟩:=t;simp only [PTerm.kids,PTerm.kind,PTerm.n] at hcs hch hk;simp only [D2] at hs ⊢;have hst:=A1Z to ks (if k=12 then s+1 else s);refine ⟨?_,?_⟩
  ·unfold A2B at hh ⊢;rw [Bool.and_eq_true,decide_eq_true_eq] at hh ⊢;refine ⟨?_,?_⟩
   ·rw [show (PTerm.mk k n m v o ks).kids.length=ks.length from rfl] at hh;simp only [PTerm.kids,S9];rw [<-hh.1];unfold A3x;simp only [PTerm.kind,PTerm.n,PTerm.kids,PTerm.odds,S9]
    by_cases h3:k=3
    ·obtain ⟨h1,h2⟩:=hch h3;obtain ⟨f,g,j,e1,e2,e3,e4⟩:=hp _ h2;have l1:=(List.getElem?_eq_some_iff.1 e1);have l2:=(List.getElem?_eq_some_iff.1 e3);subst h3;simp only [e2];obtain ⟨l1,e1⟩:=l1;obtain ⟨l2,e3⟩:=l2;have hj:(0:Int)<=(j:Int)/\(j:Int)<(d.funs.length:Int):=by omega
     have hn:0<=n/\n<(c.funs.length:Int):=by omega
     simp [hj,hn];rw [e1,e3,e4]
    ·by_cases h12:k=12
     ·simp [h12]
     ·simp [h3,h12];rfl
   ·have h2:=hh.2;rw [B9g] at h2 ⊢;rw [S9]
    by_cases h12:k=12
    ·subst h12;simp only [if_true] at hst hs;simp at h2 ⊢;exact ⟨h2.1,⟨h0,by omega⟩,h2.2.2⟩
    ·by_cases h3:k=3
     ·simp [h3]
     ·simpa only [h3,h12,if_false] using h2
  ·have hin:S7 bd (PTerm.mk k (if k=12 then s else if k=3 then (to[n.toNat]?).getD 0 else n) m v o (B7 to ks (if k=12 then s+1 else s)).1).n.toNat true (bindN (PTerm.mk k (if k=12 then s else if k=3 then (to[n.toNat]?).getD 0 else n) m v o (B7 to ks (if k=12 then s+1 else s)).1))=S7 bd (PTerm.mk k n m v o ks).n.toNat true (bindN (PTerm.mk k n m v o ks)):=by
    unfold bindN;simp only [PTerm.kind,PTerm.n,PTerm.m]
    by_cases h12:k=12
    ·simp [h12,S7]
    by_cases h3:k=3
    ·simp [h3,S7]
    ·simp [h12,h3];rfl
   rw [hin];exact key _ ks _ hk hcs (by split<;>omega) hs
theorem Ren.right {M:Nat} {c:PCore} {l:List Bool} (h:Ren c l) (hR:CR M c) (hb:W3 c=true):W3 (I6 c l)=true:=by
 have hF:=hR.cntFs;have hcq:=hR.cntq.1;have hst:=R4 (K1 l) l c.funs 0;have hqs:=P7 (K1 l) _ c.query.term (A9 (K1 l) l c.funs 0).2 (Nat.le_refl _);have hlen:=A0D (K1 l) l c.funs 0;have hp:∀i,l[i]? =some true->∃(f g:PBody) (j:Nat),c.funs[i]? =some f/\((K1 l)[i]?).getD 0=(j:Int)/\(I6 c l).funs[j]? =some g/\g.params=f.params:=fun i hi=>by
  obtain ⟨f,s',h1,h2⟩:=h.at_ hi;exact ⟨f,⟨f.params,f.slots,(D2 (K1 l) f.term s').1⟩,_,h1,A3W l (List.getElem?_eq_some_iff.1 hi).1,h2,rfl⟩
 unfold W3 at hb ⊢;rw [Bool.and_eq_true,decide_eq_true_eq,Bool.and_eq_true,Bool.and_eq_true] at hb ⊢;refine ⟨⟨hb.1.1,?_,?_,?_,hb.1.2.2.2.2⟩,hb.2.1,List.all_eq_true.2 fun d hd=> ?_,?_⟩
 ·have:=hR.fl;simp only [I6];omega
 ·simp only [I6];omega
 ·simp only [I6];omega
 ·obtain ⟨j,hj,rfl⟩:=List.getElem_of_mem hd;obtain ⟨i,f,s',h1,h2,h3,h4,h5,h6⟩:=A0Y (K1 l) l c.funs 0 j _ (List.getElem?_eq_getElem hj);have h4':(I6 c l).funs[j]=⟨f.params,f.slots,(D2 (K1 l) f.term s').1⟩:=h4;have hbf:=List.all_eq_true.1 hb.2.2.1 f (List.mem_of_getElem? h2);rw [h4'];unfold A0f at hbf ⊢;rw [Bool.and_eq_true] at hbf ⊢
  exact ⟨hbf.1,A5v hp 200 _ f.term s' hbf.2 (h.f i f h1 h2) h5 (by simp only [I6];omega)⟩
 ·have hbq:=hb.2.2.2;unfold A0f at hbq ⊢;rw [Bool.and_eq_true] at hbq ⊢;exact ⟨hbq.1,A5v hp 200 _ c.query.term _ hbq.2 h.q (by omega) (by simp only [I6];omega)⟩
def sumC (c:PCore):Nat:=cntT c.query.term+c.funs.length+cntFs c.funs
theorem A5w (to:List Int) (hto:∀z∈to,I64 z):∀(l:List Bool) (fs:List PBody) (s:Int),0<=s->s+cntFs fs<=1000000->cntFs (A9 to l fs s).1<=cntFs fs
 |true::l,f::fs,s,h0,h1=>by
  simp only [cntFs] at h1;have hst:=P7 to _ f.term s (Nat.le_refl _);have k:=A0X to hto _ f.term s (Nat.le_refl _) h0 (by omega);have:=A5w to hto l fs (D2 to f.term s).2 (by omega) (by omega);simp only [A9,cntFs,k.2.1];omega
 |false::l,f::fs,s,h0,h1=>by
  simp only [cntFs] at h1;have:=A5w to hto l fs s h0 (by omega);simp only [A9,cntFs];omega
 |[],fs,s,_,_=>by cases fs<;>simp [A9,cntFs]
 |true::_,[],s,_,_=>by simp [A9]
 |false::_,[],s,_,_=>by simp [A9]
theorem B2Z:∀fs:List PBody,cntFs (fs.map slB)<=cntFs fs
 |[]=>by simp
 |f::fs=>by
  have:=B2Z fs;have:=(A00 _ f.term (Nat.le_refl _)).2.1;simp only [List.map_cons,cntFs,slB];omega
theorem C2S {M:Nat} {c:PCore} (hR:CR M c) {l:List Bool} (hl:l.length=c.funs.length):sumC (I6 (slC c) l)<=sumC c:=by
 have hS:=hR.sliced;have hto:=B5w l (by have:=hR.fl;omega);have hF:=hS.cntFs;have h1:=A5w (K1 l) hto l (slC c).funs 0 (by omega) (by omega);have hst:=R4 (K1 l) l (slC c).funs 0;have hq:=A0X (K1 l) hto _ (slC c).query.term (A9 (K1 l) l (slC c).funs 0).2 (Nat.le_refl _) (by omega) (by have:=hS.cntq;omega);have h2:=B2Z c.funs;have h3:=(A00 _ c.query.term (Nat.le_refl _)).2.1
 have h4:=A0D (K1 l) l (slC c).funs 0;have h5:(slC c).funs.length=c.funs.length:=by simp [slC]
 have e:(slC c).funs=c.funs.map slB:=rfl;have e2:(slC c).query.term=lessT c.query.term:=rfl;unfold sumC;rw [show (I6 (slC c) l).query.term=(D2 (K1 l) (slC c).query.term (A9 (K1 l) l (slC c).funs 0).2).1 from rfl,hq.2.1,show (I6 (slC c) l).funs=(A9 (K1 l) l (slC c).funs 0).1 from rfl];rw [e] at h1 h4 h5 ⊢;rw [e2];omega
theorem B9h {M:Nat} {c:PCore} (h:CB M c) (hb:W3 c=true):W3 (Y7 c).1=true/\(Y7 c).2=0/\Y7 (Y7 c).1=((Y7 c).1,0)/\B5x (Y7 c).1=[]/\sumC (Y7 c).1<=sumC c/\CB M (Y7 c).1/\(Y7 c).1.funs.length<=40:=by
 have hR:=h.right hb;have hS:=hR.sliced;have hcs:=B2S hb;have hcc:=A7W hcs;have hren:Ren (slC c) (Y0 (slC c)):=⟨A0E _,hcc.1,hcc.2⟩;have e:Y7 c=(I6 (slC c) (Y0 (slC c)),0):=by unfold Y7;rw [hb]
 rw [e];simp only;have hr:=hren.right hS hcs
 have hcut:slC (I6 (slC c) (Y0 (slC c)))=I6 (slC c) (Y0 (slC c)):=hren.sliced (fun f hf=>by
  obtain ⟨g,hg,rfl⟩:=List.mem_map.1 hf
  exact A5r _ g.term (Nat.le_refl _)) (A5r _ c.query.term (Nat.le_refl _))
 have hll:(Y0 (slC c)).length=c.funs.length:=by rw [(A0E _).len];simp [slC]
 refine ⟨hr,trivial,?_,?_,C2S hR hll,(hS.ren _ (A0E _).len).1,(hS.ren _ (A0E _).len).2⟩
 ·unfold Y7;rw [hr];simp only;rw [hcut,hren.all,hren.again]
 ·unfold B5x;rw [hr];simp only;rw [hcut,hren.all];unfold deadJ;rw [List.map_eq_nil_iff,List.filter_eq_nil_iff];intro i hi;rw [List.mem_range] at hi;simp [List.getElem?_replicate,hi]
end
section
open Go Go.Xe Go.Xt
variable {F:FuncId->Option TFun} {O:FuncId->List TV->Option TV}
theorem A4R (h36:F 65=some f36) (h35:F 64=some f35):∀(N:Nat) (a c:PTyp) (b:Nat) (σ:Sto),szT a<=N->OkT a->OkT c->
  A2 F O N b 65 [.agg (H5 a),.agg (H5 c)] σ=some (.ret (.bool (A3t a c)),σ)
 |0,a,c,b,σ,h,_,_=>by rw [X5] at h;omega
 |1,a,c,b,σ,h,_,_=>by rw [X5] at h;omega
 |N+2,a,c,b,σ,h,ha,hc=>by
  have ih:=A4R h36 h35 N;have hs:=X5 a;have hk:=A0K a.list;refine A3 h36 ?_;have hq:=B5c (O:=O) h35 65 N A3t σ.length σ a.list c.list ha.len hc.len (by omega) (fun x hx y hy b=>ih x y b σ (by have:=X4 _ _ hx;omega) (ha.sub x hx) (hc.sub y hy))
  by_cases hk:a.kind=c.kind
  ·simp [x36,G5,A5f,hk,hq]
  ·simp [x36,G5,A5f,hk]
theorem A4S (V:VFits F) (h64:F 99=some f64) (h108:F 114=some f108):∀(N:Nat) (a c:PTerm) (b:Nat) (σ:Sto),E3 a<=N->OkTm a->OkTm c->
  A2 F O N b 99 [.agg (A5 a),.agg (A5 c)] σ=some (.ret (.bool (H7 a c)),σ)
 |0,a,c,b,σ,h,_,_=>by rw [B5] at h;omega
 |1,a,c,b,σ,h,_,_=>by rw [B5] at h;omega
 |N+2,a,c,b,σ,h,ha,hc=>by
  have ih:=A4S V h64 h108 N;have hs:=B5 a;have hk:=M3 a.kids;have hV:=B8C (O:=O) V.h106 V.h158 V.h180 V.h165 V.h181 N a.val c.val σ.length σ (by omega) ha.val hc.val;have hI:=B2i (O:=O) V.h107 N σ.length σ a.odds c.odds ha.olen hc.olen (by omega)
  have hK:=B5d (O:=O) h108 99 N H7 σ.length σ a.kids c.kids ha.len hc.len (by omega) (fun x hx y hy b=>ih x y b σ (by have:=D3 _ _ hx;omega) (ha.sub x hx) (hc.sub y hy));rw [A4,A4 c.val] at hV;refine A3 h64 ?_
  by_cases hk:a.kind=c.kind
  case neg=>simp [x64,A0,I0,hk]
  by_cases hn:a.n=c.n
  case neg=>simp [x64,A0,I0,hk,hn]
  by_cases hm:a.m=c.m
  case neg=>simp [x64,A0,I0,hk,hn,hm]
  cases hv:Y5 a.val c.val with
  |false=>
   rw [hv] at hV;simp [x64,A0,I0,hk,hn,hm,hV,hv]
  |true=>
   rw [hv] at hV;cases hi:F4 A29 a.odds c.odds with
   |false=>
    rw [hi] at hI;simp [x64,A0,I0,hk,hn,hm,hV,hv,hI,hi]
   |true=>
    rw [hi] at hI;simp [x64,A0,I0,hk,hn,hm,hV,hv,hI,hi,hK]
theorem A4T (V:VFits F) (hF:F 67=some f38) (h64:F 99=some f64) (h108:F 114=some f108) (N:Nat) (a c:PBody) (b:Nat) (σ:Sto) (h:E3 a.term<=N) (ha:OkBd a) (hc:OkBd c):
  A2 F O (N+1) b 67 [.agg (F5 a),.agg (F5 c)] σ=some (.ret (.bool (A1R a c)),σ):=by
 have hT:=A4S (O:=O) V h64 h108 N a.term c.term σ.length σ h ha.term hc.term;rw [A0,A0 c.term] at hT;refine A3 hF ?_
 by_cases hp:a.params=c.params
 case neg=>simp [x38,C9,A1R,hp]
 by_cases hs:a.slots=c.slots
 case neg=>simp [x38,C9,A1R,hp,hs]
 simp [x38,C9,A1R,hp,hs,hT]
structure EFits (F:FuncId->Option TFun):Prop where
 v:VFits F
 h27:F 27=some f13
 h65:F 65=some f36
 h64:F 64=some f35
 h66:F 66=some f37
 h67:F 67=some f38
 h99:F 99=some f64
 h114:F 114=some f108
 h68:F 68=some f21
 h28:F 28=some f1028
theorem B9i (V:EFits F) {L M:Nat} (c:PCore) (b:Nat) (σ:Sto) (h:CB L c) (hf:c.funs.length<=1000) (hM:L+2000<=M):
  A2 F O (M+3) b 27 [.agg (L8 c),.agg (L8 c)] σ=some (.ret (.bool true),σ):=by
 have hs:=B3U c;have hc:=h.ok;have h1:=h.szt;have hk:=A0K c.types;have hT:=B5c (O:=O) V.h64 65 (M+1) A3t σ.length σ c.types c.types hc.tlen hc.tlen (by omega) (fun x hx y hy b=>A4R V.h65 V.h64 (M+1) x y b σ (by have:=X4 _ _ hx;omega) (hc.types x hx) (hc.types y hy))
 have hB:=B8B (O:=O) V.h66 67 (M+1) A1R σ.length σ c.funs c.funs hc.flen hc.flen (by omega) (fun x hx y hy b=>A4T V.v V.h67 V.h99 V.h114 M x y b σ (by have:=h.sz x hx;omega) (hc.funs x hx) (hc.funs y hy));have hQ:=A4T (O:=O) V.v V.h67 V.h99 V.h114 (M+1) c.query c.query σ.length σ (by have:=h.szq;omega) hc.query hc.query;rw [C9] at hQ;simp only [B8t,Bool.and_eq_true] at hs;rw [hs.1] at hT
 rw [hs.2.1] at hB;rw [hs.2.2.1] at hQ;refine A3 V.h27 ?_;simp [x13,A8,hT,hB,hQ]
theorem B4t {l:List PBody} {j:Nat} (hj:j<l.length):cntFs (l.drop j)=cntT l[j].term+cntFs (l.drop (j+1)):=by
 rw [List.drop_eq_getElem_cons hj];rfl
theorem B5A (h28:F 28=some f1028) (h68:F 68=some f21) (N M:Nat) (c:PCore) (b:Nat) (σ:Sto) (hR:CR M c) (hN:M+100<=N):
  A2 F O (N+1) b 28 [.agg (L8 c)] σ=some (.ret (.int .i64 (sumC c:Int)),σ):=by
 have hF:=hR.cntFs;have hfl:=hR.fl;have hq:=hR.cntq.1;have hs:=A7A (O:=O) h68 N c.query.term σ.length σ (by have:=hR.szq;omega) hR.ok.query.term (by omega);rw [A0] at hs;have hw0:IntKind.i64.wrap ((cntT c.query.term:Int)+(c.funs.length:Int))=((cntT c.query.term+c.funs.length:Nat):Int):=by rw [G2]<;>omega
 refine A3 h28 ?_;simp [x1028,A8,hs,hw0];obtain ⟨I,hI⟩:∃I:Nat->TAct->Sto->Prop,I=(fun j a σ'=>a.df=[]/\σ'=σ/\∃acc:Nat,acc+cntFs (c.funs.drop j)=sumC c/\a.tm.get 1=some (.bx 0 (L8 c) 40)/\a.tm.get 3=some (.int .i64 (acc:Int))/\a.tm.get 4=some (.int .i64 j)):=⟨_,rfl⟩;obtain ⟨R,hR'⟩:∃R:TEx->TAct->Sto->Prop,R=(fun ex a σ'=>ex=.exit 0/\a.df=[]/\σ'=σ/\a.tm.get 3=some (.int .i64 (sumC c:Int))):=⟨_,rfl⟩
 refine B8 I c.funs.length R ?_ (by omega) ?_ ?_ ?_
 ·rw [hI];exact ⟨rfl,rfl,cntT c.query.term+c.funs.length,by rw [List.drop_zero];rfl,by simp [A8],by simp,by simp⟩
 ·rw [hI];rintro j ⟨tm,df,clk⟩ σ' hj ⟨rfl,rfl,acc,ha,g1,g3,g4⟩;rw [<-hI];simp only at g1 g3 g4;have hw:=F9 hj hR.ok.flen;have hmem:=List.getElem_mem hj;have g1':=g1;rw [A8] at g1;rw [B4t hj] at ha;have hS:sumC c<=100000:=by unfold sumC;omega
  have hcc:=A7A (O:=O) h68 N c.funs[j].term σ'.length σ' (by have:=hR.sz _ hmem;omega) (hR.ok.funs _ hmem).term (by have:=(hR.cnt _ hmem).1;omega);have hw2:IntKind.i64.wrap ((acc:Int)+(cntT c.funs[j].term:Int))=((acc+cntT c.funs[j].term:Nat):Int):=by rw [G2]<;>omega
  rw [A0] at hcc;simp [g1,g3,g4,hj,hcc,hw,hw2,C9];rw [hI];exact ⟨rfl,rfl,acc+cntT c.funs[j].term,by omega,by simp [g1'],by simp,by simp⟩
 ·rw [hI];rintro ⟨tm,df,clk⟩ σ' ⟨rfl,rfl,acc,ha,g1,g3,g4⟩;simp only at g1 g3 g4;rw [A8] at g1;rw [List.drop_of_length_le (Nat.le_refl _)] at ha;simp [g1,g3,g4];rw [hR'];exact ⟨rfl,rfl,rfl,by rw [<-ha];simp [g3,cntFs]⟩
 ·rw [hR'];rintro ex ⟨tm,df,clk⟩ σ' ⟨rfl,rfl,rfl,g3⟩;simp only at g3;simp [g3]
end
section
open Go Go.Xe Go.Xt
def FE (f:FuncId):Option TFun:=
 if f=6 then some f1006 else if f=9 then some f1009 else if f=11 then some f1011 else if f=12 then some f1012 else if f=16 then some f6 else if f=17 then some f1017 else if f=21 then some f1021 else if f=26 then some f9 else if f=27 then some f13 else if f=28 then some f1028 else if f=29 then some f24 else if f=31 then some f1031 else if f=32 then some f66 else if f=33 then some f1033 else if f=34 then some f1034 else if f=36 then some f19 else if f=37 then some f20 else if f=40 then some f1040 else if f=41 then some f1041 else if f=46 then some f23 else if f=47 then some f1047 else if f=48 then some f1048 else if f=49 then some f1049v else if f=50 then some f1050 else if f=51 then some f1051 else if f=62 then some f28 else if f=63 then some f29 else if f=64 then some f35 else if f=65 then some f36 else if f=66 then some f37 else if f=67 then some f38 else if f=68 then some f21 else if f=69 then some f7 else if f=72 then some f111 else if f=73 then some f1073 else if f=74 then some f41 else if f=77 then some f44 else if f=78 then some f45 else if f=79 then some f46 else if f=80 then some f1080 else if f=81 then some f67 else if f=82 then some f1082 else if f=83 then some f1083 else if f=84 then some f1084 else if f=85 then some f109 else if f=86 then some f110 else if f=87 then some f47 else if f=88 then some f1088 else if f=89 then some f1089 else if f=90 then some f1090 else if f=97 then some f56 else if f=98 then some f57 else if f=99 then some f64 else if f=100 then some f25 else if f=111 then some f1111 else if f=112 then some f106 else if f=113 then some f107 else if f=114 then some f108 else if f=115 then some f159 else if f=119 then some f95 else if f=120 then some f96 else if f=121 then some f97 else if f=122 then some f98 else if f=123 then some f99 else if f=124 then some f100 else if f=125 then some f101k else if f=162 then some f158 else if f=163 then some f182 else if f=165 then some f149 else if f=166 then some f150 else if f=167 then some f151 else if f=168 then some f61 else if f=169 then some f152 else if f=201 then some f165 else if f=202 then some f180 else if f=203 then some f181 else if f=204 then some f153 else if f=208 then some f60 else if f=209 then some f178 else if f=223 then some f63 else if f=224 then some f179 else if f=225 then some f32 else if f=226 then some f103 else if f=227 then some f104 else if f=234 then some f105 else if f=235 then some f62 else if f=236 then some f190 else if f=237 then some f157 else none
theorem C7x:RowO FE OT:=⟨by decide,by decide,fun args=>rfl,fun args=>rfl⟩
theorem C2T:UFits FE:=⟨rfl,rfl,rfl,rfl,rfl,rfl,rfl⟩
theorem C2U:WFits FE OT:=⟨rfl,rfl,rfl,rfl,rfl,rfl,rfl,rfl,rfl,rfl,rfl,C7x⟩
theorem B5B:VFits FE:=⟨rfl,rfl,rfl,rfl,rfl,rfl,rfl,rfl,rfl,rfl⟩
theorem C2V:LFits FE OT:=⟨C2T,C2U,B5B,rfl,rfl,rfl,rfl⟩
theorem C2W:HFits FE:={ h60:=rfl,h104:=rfl,h103:=rfl,h157:=rfl,h32:=rfl }
theorem C2X:SFits FE:={ has:=C2W,h150:=rfl,h178:=rfl }
theorem C2Y:PFits FE:={ h62:=rfl,h179:=rfl,h190:=rfl }
theorem C2Z:VFitsR FE:={ s:=C2X,p:=C2Y,h98:=rfl,h153:=rfl,h151:=rfl,h28:=rfl,h56:=rfl,h96:=rfl,h95:=rfl,h149:=rfl,h61:=rfl,h63:=rfl,h105:=rfl }
theorem C30:TFits FE:={ v:=C2Z,h57:=rfl,h97:=rfl,h99:=rfl,h152:=rfl,h100:=rfl,h101:=rfl }
theorem B9j:BFits FE:={ t:=C30,h29:=rfl }
theorem C31:OFits FE:=⟨rfl,rfl,rfl,rfl,rfl,rfl,rfl⟩
theorem B4u:KFits FE OT:=⟨B9j,rfl,C2V,C31,rfl,rfl,rfl,rfl,rfl,rfl,rfl,rfl⟩
theorem C32:EFits FE:=⟨B5B,rfl,rfl,rfl,rfl,rfl,rfl,rfl,rfl,rfl⟩
theorem B9k (N b:Nat) (σ:Sto):A2 FE OT (N+1) b 8 [] σ=some (.ret (.bool true),σ):=by
 have h:FE 8=none:=by decide
 have h2:OT 8 []=some (.bool true):=rfl;simp only [A2,h,h2,A8p,A4u,A6l]
set_option maxHeartbeats 8000000 in
theorem B30 (c:PCore) (hc:OkC c) (hsm:Sm reachBytes (L8 c)) (M:Nat) (h1:A0Z c.types<=M) (h2:E3 c.query.term<=M) (h3:∀f∈c.funs,E3 f.term<=M) (h4:c.funs.length<=M) (K:Nat) (hK:5*M+101000<=K):
  ∃σ',A2 FE OT (K+1) 0 6 [.agg (L8 c)] []=some (.ret (.bool true),σ'):=by
 refine ⟨[],?_⟩;obtain ⟨K,rfl⟩:∃k,K=k+2:=⟨K - 2,by omega⟩;obtain ⟨r,hf,hr⟩:=B0I (O:=OT) (F:=FE) rfl rfl rfl rfl rfl rfl K c 0 [] 2000 (by omega) hc hsm (by omega) (by omega) (fun f hf=>by have:=h3 f hf;omega) (by omega);have haw:=fun b σ=>B9k (K+1) b σ
 have h4':FE 6=some f1006:=rfl;rw [show ((2000:Nat):Int)=2000 from rfl] at hf;refine A3 h4' ?_;cases r with
 |false=>
  rw [A8] at hf;simp [x1006,A8 c,hf,haw]
 |true=>
  obtain ⟨hfl,hq,hfs⟩:=hr rfl;have hcb:CB M c:={ ok:=hc,szt:=h1,sz:=h3,szq:=h2,cnt:=fun f hf=>⟨(hfs f hf).1,Lt.mono (by omega) _ _ (Nat.le_refl _) (hfs f hf).2⟩,cntq:=⟨hq.1,Lt.mono (by omega) _ _ (Nat.le_refl _) hq.2⟩ };have s1:=B2Q (F:=FE) (O:=OT) B4u M (K+1) c 0 [] hcb (by omega) (by omega);have s0:=B0E (F:=FE) (O:=OT) B9j rfl K c 0 [] (B4r hcb (by omega) (by omega)) hc;cases hb:W3 c with
  |false=>
   have e:Y7 c=(zeroC,1):=by unfold Y7;rw [hb]
   rw [e] at s1;rw [hb] at s0;simp only at s1;generalize zeroC=d at s1;rw [A8 d] at s1;rw [A8 c] at hf s1 s0;simp [x1006,A8 c,hf,haw,s1,s0]
  |true=>
   obtain ⟨l1,l2,l3,l4,l5,l6,l7⟩:=B9h hcb hb;have s5:=B5A (F:=FE) (O:=OT) rfl rfl (K+1) M c 0 [] (hcb.right hb) (by omega);rw [l2] at s1;generalize (Y7 c).1=d at*;have s2:=B2Q (F:=FE) (O:=OT) B4u M (K+1) d 0 [] l6 (by omega) (by omega);rw [l3] at s2;simp only at s2;have s3:=B9d (F:=FE) (O:=OT) B4u M (K+1) d 0 [] l6 (by omega) (by omega);rw [l4] at s3
   have s4:=B9i (F:=FE) (O:=OT) C32 d 0 [] l6 (by omega) (M:=K - 1) (by omega);rw [show K - 1+3=K+1+1 by omega] at s4;have s6:=B5A (F:=FE) (O:=OT) rfl rfl (K+1) M d 0 [] (l6.right l1) (by omega);have hle:(sumC d:Int)<=(sumC c:Int):=by omega
   have hd:=A8 d;generalize hdd:L8 d=D at*;have hc':=A8 c;generalize hcc:L8 c=C at*;rw [hc'] at hf s0 s1 s5 ⊢;rw [hd] at s1 s2 s3 s4 s6;simp [x1006,hf,haw,s1];obtain ⟨I,hI⟩:∃I:Nat->TAct->Sto->Prop,I=(fun j a σ'=>j=0/\a.df=[]/\σ'=[]/\a.tm.get 1=some (.bx 0 C 40)/\(∃s,a.tm.get 3=some (.bx s D 40))/\a.tm.get 5=some (.int .i64 0)):=⟨_,rfl⟩
   obtain ⟨R,hR⟩:∃R:TEx->TAct->Sto->Prop,R=(fun ex a σ'=>ex=.ret/\a.df=[]/\σ'=[]/\a.tm.get 2=some (.bool true)):=⟨_,rfl⟩;refine B8 I 1 R ?_ (by omega) ?_ ?_ ?_
   ·rw [hI];exact ⟨rfl,rfl,rfl,by simp [hc'],⟨_,by simp [hd];rfl⟩,by simp⟩
   ·rw [hI];rintro j ⟨tm,df,clk⟩ σ' hj ⟨rfl,rfl,rfl,g1,⟨s,g3⟩,g5⟩;rw [<-hI];simp only at g1 g3 g5;rw [hc'] at g1;rw [hd] at g3;simp [g1,g3,g5,s2,s3,s4,s5,s6,hle,haw];rw [hR];exact ⟨rfl,rfl,rfl,by simp⟩
   ·rw [hI];rintro ⟨tm,df,clk⟩ σ' ⟨h,_⟩;omega
   ·rw [hR];rintro ex ⟨tm,df,clk⟩ σ' ⟨rfl,rfl,rfl,g2⟩;simp only at g2;simp [g2]
end
end Go.Xe.YtlgknghehgmodaaGreatDoor
namespace Go.Proofs
section
open Go.Shelf
def Tryz.lays137_ren:Go.Shelf.Ren:=⟨fun|137=>230|217=>240|266=>246|n=>n,fun|9=>9|5=>5|3=>3|n=>n,fun|n=>n⟩
theorem Tryz.lays137:Go.Proofs.Lays.n137 Tryz.prog Tryz.lays137_ren:={
 mixed:=by kernel_rfl
 f137:=Tryz.func230.trans (congrArg some (by kernel_rfl))
 f217:=Tryz.func240.trans (congrArg some (by kernel_rfl))
 f266:=Tryz.func246.trans (congrArg some (by kernel_rfl))
 t3:=Tryz.underlying3
 a3:=Tryz.isAgg3
 z3:=Tryz.sizeOf3
 v3:=Tryz.zeroValue3
 t5:=Tryz.underlying5
 a5:=Tryz.isAgg5
 z5:=Tryz.sizeOf5
 v5:=Tryz.zeroValue5
 t9:=Tryz.underlying9
 a9:=Tryz.isAgg9
 z9:=Tryz.sizeOf9
 v9:=Tryz.zeroValue9 }
open Go.RowKit in
theorem Tryz.strings_IndexByte (s:ByteArray) (c:Int) (w:World):
  Calls Tryz.prog 230 #[.string s,.int .u8 c] w fun e w'=>e=.returned (.int .i64 (Lib.indexByte s.data.toList c.toNat.toUInt8))/\w'=w:=Any.strings_IndexByte Tryz.lays137 s c w
open Go.RowKit Go.Lib in
open Go.RowKit Go.Lib in
open Go.RowKit Go.Lib in
open Go.RowKit Go.Lib in
open Go.RowKit Go.Lib in
open Go.RowKit Go.Lib in
open Go.RowKit Go.Lib in
open Go.RowKit Go.Lib in
open Go.RowKit Go.Lib in
open Go.RowKit Go.Lib in
open Go.RowKit Go.Lib in
open Go.RowKit Go.Lib in
def Tryz.laysM144_ren:Go.Shelf.Ren:=⟨fun|144=>212|143=>228|219=>238|217=>240|225=>243|224=>244|267=>245|266=>246|314=>247|n=>n,fun|9=>9|4=>4|3=>3|5=>5|46=>141|146=>265|51=>196|n=>n,fun|1=>1|n=>n⟩
theorem Tryz.laysM144:Go.Proofs.LaysM.n144 Tryz.prog Tryz.laysM144_ren:={
 mixed:=by kernel_rfl
 f143:=Tryz.func228.trans (congrArg some (by kernel_rfl))
 f144:=Tryz.func212.trans (congrArg some (by kernel_rfl))
 f217:=Tryz.func240.trans (congrArg some (by kernel_rfl))
 f219:=Tryz.func238.trans (congrArg some (by kernel_rfl))
 f224:=Tryz.func244.trans (congrArg some (by kernel_rfl))
 f225:=Tryz.func243.trans (congrArg some (by kernel_rfl))
 f266:=Tryz.func246.trans (congrArg some (by kernel_rfl))
 f267:=Tryz.func245.trans (congrArg some (by kernel_rfl))
 f314:=Tryz.func247.trans (congrArg some (by kernel_rfl))
 t3:=Tryz.underlying3
 a3:=Tryz.isAgg3
 z3:=Tryz.sizeOf3
 v3:=Tryz.zeroValue3
 t4:=Tryz.underlying4
 a4:=Tryz.isAgg4
 z4:=Tryz.sizeOf4
 v4:=Tryz.zeroValue4
 t5:=Tryz.underlying5
 a5:=Tryz.isAgg5
 z5:=Tryz.sizeOf5
 v5:=Tryz.zeroValue5
 t9:=Tryz.underlying9
 a9:=Tryz.isAgg9
 z9:=Tryz.sizeOf9
 v9:=Tryz.zeroValue9
 t46:=Tryz.underlying141
 a46:=Tryz.isAgg141
 z46:=Tryz.sizeOf141
 v46:=Tryz.zeroValue141
 t51:=Tryz.underlying196
 a51:=Tryz.isAgg196
 z51:=Tryz.sizeOf196
 v51:=Tryz.zeroValue196
 t146:=Tryz.underlying265
 a146:=Tryz.isAgg265
 z146:=Tryz.sizeOf265
 v146:=Tryz.zeroValue265
 g1:=by kernel_rfl
 i3:=by kernel_rfl
 i4:=by kernel_rfl
 i5:=by kernel_rfl
 i9:=by kernel_rfl
 i46:=by kernel_rfl
 i51:=by kernel_rfl
 i146:=by kernel_rfl
 m1:=by kernel_rfl
 s1_3:=fun w h=>Go.Proofs.cell_of_shapedOpen_int (zero:=#[.int .i64 0]) (t:=3) h (of_decide_eq_true (by kernel_rfl)) (by kernel_rfl) rfl (by kernel_rfl) (by kernel_rfl) Tryz.underlying3 }
open Go.RowKit Go.Lib in
theorem Tryz.strings_Contains_shaped (s sub:ByteArray) (w:World) (h:w.ShapedOpen Tryz.prog) (hs:s.size<4294967281):
  Calls Tryz.prog 212 #[.string s,.string sub] w fun e w'=>e=.returned (.bool (Lib.contains s.data.toList sub.data.toList))/\w'=w:=Any.strings_Contains_shaped Tryz.laysM144 s sub w h hs
def Tryz.lays189_ren:Go.Shelf.Ren:=⟨fun|189=>75|125=>110|257=>109|128=>160|129=>161|294=>151|295=>152|296=>153|297=>154|298=>155|299=>156|216=>157|300=>158|301=>159|328=>196|329=>197|330=>198|331=>199|332=>200|215=>201|343=>222|n=>n,fun|28=>25|3=>3|46=>141|0=>0|51=>196|53=>198|4=>4|183=>188|182=>187|131=>193|5=>5|9=>9|218=>232|222=>236|228=>250|229=>251|n=>n,fun|n=>n⟩
theorem Tryz.lays189:Go.Proofs.Lays.n189 Tryz.prog Tryz.lays189_ren:={
 mixed:=by kernel_rfl
 f125:=Tryz.func110.trans (congrArg some (by kernel_rfl))
 f128:=Tryz.func160.trans (congrArg some (by kernel_rfl))
 f129:=Tryz.func161.trans (congrArg some (by kernel_rfl))
 f189:=Tryz.func75.trans (congrArg some (by kernel_rfl))
 f215:=Tryz.func201.trans (congrArg some (by kernel_rfl))
 f216:=Tryz.func157.trans (congrArg some (by kernel_rfl))
 f257:=Tryz.func109.trans (congrArg some (by kernel_rfl))
 f294:=Tryz.func151.trans (congrArg some (by kernel_rfl))
 f295:=Tryz.func152.trans (congrArg some (by kernel_rfl))
 f296:=Tryz.func153.trans (congrArg some (by kernel_rfl))
 f297:=Tryz.func154.trans (congrArg some (by kernel_rfl))
 f298:=Tryz.func155.trans (congrArg some (by kernel_rfl))
 f299:=Tryz.func156.trans (congrArg some (by kernel_rfl))
 f300:=Tryz.func158.trans (congrArg some (by kernel_rfl))
 f301:=Tryz.func159.trans (congrArg some (by kernel_rfl))
 f328:=Tryz.func196.trans (congrArg some (by kernel_rfl))
 f329:=Tryz.func197.trans (congrArg some (by kernel_rfl))
 f330:=Tryz.func198.trans (congrArg some (by kernel_rfl))
 f331:=Tryz.func199.trans (congrArg some (by kernel_rfl))
 f332:=Tryz.func200.trans (congrArg some (by kernel_rfl))
 f343:=Tryz.func222.trans (congrArg some (by kernel_rfl))
 t0:=Tryz.underlying0
 a0:=Tryz.isAgg0
 z0:=Tryz.sizeOf0
 v0:=Tryz.zeroValue0
 t3:=Tryz.underlying3
 a3:=Tryz.isAgg3
 z3:=Tryz.sizeOf3
 v3:=Tryz.zeroValue3
 t4:=Tryz.underlying4
 a4:=Tryz.isAgg4
 z4:=Tryz.sizeOf4
 v4:=Tryz.zeroValue4
 t5:=Tryz.underlying5
 a5:=Tryz.isAgg5
 z5:=Tryz.sizeOf5
 v5:=Tryz.zeroValue5
 t9:=Tryz.underlying9
 a9:=Tryz.isAgg9
 z9:=Tryz.sizeOf9
 v9:=Tryz.zeroValue9
 t28:=Tryz.underlying25
 a28:=Tryz.isAgg25
 z28:=Tryz.sizeOf25
 v28:=Tryz.zeroValue25
 t46:=Tryz.underlying141
 a46:=Tryz.isAgg141
 z46:=Tryz.sizeOf141
 v46:=Tryz.zeroValue141
 t51:=Tryz.underlying196
 a51:=Tryz.isAgg196
 z51:=Tryz.sizeOf196
 v51:=Tryz.zeroValue196
 t53:=Tryz.underlying198
 a53:=Tryz.isAgg198
 z53:=Tryz.sizeOf198
 v53:=Tryz.zeroValue198
 t131:=Tryz.underlying193
 a131:=Tryz.isAgg193
 z131:=Tryz.sizeOf193
 v131:=Tryz.zeroValue193
 t182:=Tryz.underlying187
 a182:=Tryz.isAgg187
 z182:=Tryz.sizeOf187
 v182:=Tryz.zeroValue187
 t183:=Tryz.underlying188
 a183:=Tryz.isAgg188
 z183:=Tryz.sizeOf188
 v183:=Tryz.zeroValue188
 t218:=Tryz.underlying232
 a218:=Tryz.isAgg232
 z218:=Tryz.sizeOf232
 v218:=Tryz.zeroValue232
 t222:=Tryz.underlying236
 a222:=Tryz.isAgg236
 z222:=Tryz.sizeOf236
 v222:=Tryz.zeroValue236
 t228:=Tryz.underlying250
 a228:=Tryz.isAgg250
 z228:=Tryz.sizeOf250
 v228:=Tryz.zeroValue250
 t229:=Tryz.underlying251
 a229:=Tryz.isAgg251
 z229:=Tryz.sizeOf251
 v229:=Tryz.zeroValue251 }
open Go.Sort Go.RowKit in
theorem Tryz.slices_Sort_int (blk off cap:Nat) (zs:List Int) (w:World) (hH:Holds (Value.int .i64) w blk off zs.toArray) (hblk:blk<w.heap.size) (hsz:zs.length<4611686018427387904):
  Calls Tryz.prog 75 #[.slice (some ⟨blk,off,none⟩) zs.length cap] w fun e w'=>
   e=.returned (.tuple #[])/\∃n os,w'=grow (putRow (Value.int .i64) (Sort.ahead w n) blk off (zs.mergeSort fun x y=>decide (x<=y)).toArray) os:=Any.slices_Sort_int Tryz.lays189 blk off cap zs w hH hblk hsz
def Tryz.laysNm220_ren:Go.Shelf.Ren:=⟨fun|20=>76|n=>n,fun|22=>25|3=>3|4=>4|0=>0|n=>n,fun|n=>n⟩
theorem Tryz.laysNm220:Go.Proofs.Lays2.n20 Tryz.prog Tryz.laysNm220_ren:={
 mixed:=by kernel_rfl
 f20:=Tryz.func76.trans (congrArg some (by kernel_rfl))
 t0:=Tryz.underlying0
 a0:=Tryz.isAgg0
 z0:=Tryz.sizeOf0
 v0:=Tryz.zeroValue0
 t3:=Tryz.underlying3
 a3:=Tryz.isAgg3
 z3:=Tryz.sizeOf3
 v3:=Tryz.zeroValue3
 t4:=Tryz.underlying4
 a4:=Tryz.isAgg4
 z4:=Tryz.sizeOf4
 v4:=Tryz.zeroValue4
 t22:=Tryz.underlying25
 a22:=Tryz.isAgg25
 z22:=Tryz.sizeOf25
 v22:=Tryz.zeroValue25
 i3:=by kernel_rfl }
open Go.RowKit Go.Lib Go.Sort in
open Go.RowKit Go.Lib Go.Sort in
theorem Tryz.slices_Compact_int (blk off cap:Nat) (zs:List Int) (w:World) (hH:Holds (Value.int .i64) w blk off zs.toArray) (hsz:zs.length<=9223372036854775807) (hcap:zs.length<=cap):
  Calls Tryz.prog 76 #[.slice (some ⟨blk,off,none⟩) zs.length cap] w fun e w'=>e=.returned (.slice (some ⟨blk,off,none⟩) (Lib.compact zs).length cap)/\∃q,w'=putRow (Value.int .i64) (Sort.ahead w q) blk off (Lib.compact zs++List.replicate (zs.length - (Lib.compact zs).length) 0).toArray:=Any.slices_Compact_int Tryz.laysNm220 blk off cap zs w hH hsz hcap
open Go.RowKit Go.Lib Go.Sort in
theorem Tryz.slices_Compact_int_empty (a:Option Addr) (cap:Nat) (w:World):
  Calls Tryz.prog 76 #[.slice a 0 cap] w fun e w'=>e=.returned (.slice a 0 cap)/\w'=w:=Any.slices_Compact_int_empty Tryz.laysNm220 a cap w
open Go.RowKit Go.Sort in
theorem Tryz.slices_Sort_int_none (p:Option Addr) (cap:Nat) (w:World):
  Calls Tryz.prog 75 #[.slice p 0 cap] w fun e w'=>e=.returned (.tuple #[])/\w'=w:=Any.slices_Sort_int_none Tryz.lays189 p cap w
end
end Go.Proofs
namespace Go.Xe.YtlgknghehgmodaaGreatDoor
section
open Go Go.Xe Go.Proofs Go.RowKit
def orc (f:FuncId) (args:List Value):Option Value:=
 match Nat.beq f 212,Nat.beq f 230,args with
 |true,_,[.string s,.string t]=>match Nat.ble s.data.toList.length 4000000000 with
  |true=>some (.bool (A1r t.data.toList s.data.toList))
  |false=>none
 |_,true,[.string s,.int .u8 (.ofNat n)]=>match Nat.blt n 256 with
  |true=>some (.int .i64 (match A90 n s.data.toList 0 with|some i=>.ofNat i|none=>.negSucc 0))
  |false=>none
 |_,_,_=>none
noncomputable def F (f:FuncId):Option XFun:=
 match Nat.beq f 212||Nat.beq f 230 with
 |true=>none
 |false=>match Tryz.prog.funcs[f]? with
  |some fn=>A6 Tryz.prog glb fn
  |none=>none
theorem C7y:X1 Tryz.prog 212:=⟨Tryz.f212,Tryz.func212,by decide,rfl⟩
theorem C7z:X1 Tryz.prog 230:=⟨Tryz.f230,Tryz.func230,by decide,rfl⟩
theorem C19 {u v:Value} (hu:∀φ x,VRel φ u x->x=u) (hv:∀φ x,VRel φ v x->x=v) (φ:Loc) (l:List Value) (h:VRels φ [u,v] l):l=[u,v]:=by
 cases h with
 |cons h1 h=>cases h with
  |cons h2 h=>cases h;rw [hu φ _ h1,hv φ _ h2]
theorem env:Env Tryz.prog glb F orc:=by
 refine ⟨by kernel_rfl,fun f x h=> ?_,fun f args v hF hO=> ?_⟩
 ·unfold F at h;split at h
  ·cases h
  ·split at h
   ·rename_i fn hfn;exact ⟨fn,hfn,h⟩
   ·cases h
 ·unfold orc at hO;split at hO
  ·rename_i _ s t hf;rw [C5] at hf;obtain rfl:=of_decide_eq_true hf;split at hO
   ·rename_i hle;rw [C3] at hle;have hle:=of_decide_eq_true hle;cases hO;refine OOk.still C7y rfl rfl rfl (fun φ l h=>C19 (fun φ x h=>by cases h;rfl) (fun φ x h=>by cases h;rfl) φ l h) fun W0 N0 φ g w hg r=> ?_
    have hs:s.size<4294967281:=by
     have:s.size=s.data.toList.length:=by rw [Array.length_toList];rfl
     omega
    have:=Tryz.strings_Contains_shaped s t w (r.shaped hg.1) hs;rw [<-A4n] at this;exact this
   ·cases hO
  ·rename_i _ s n hf;rw [C5] at hf;obtain rfl:=of_decide_eq_true hf;split at hO
   ·rename_i hlt;rw [G0] at hlt;have hlt:=of_decide_eq_true hlt;cases hO;refine OOk.still C7z rfl rfl rfl (fun φ l h=>C19 (fun φ x h=>by cases h;rfl) (fun φ x h=>by cases h;rfl) φ l h) fun W0 N0 φ g w hg r=> ?_
    have:=Tryz.strings_IndexByte s (Int.ofNat n) w;have e:(match A90 n s.data.toList 0 with|some i=>Int.ofNat i|none=>Int.negSucc 0)=Lib.indexByte s.data.toList (Int.ofNat n).toNat.toUInt8:=by
     have hge:=Lib.indexByte_ge s.data.toList n.toUInt8;rw [B1z n hlt];show _=Lib.indexByte s.data.toList n.toUInt8
     by_cases h:Lib.indexByte s.data.toList n.toUInt8=-1
     ·rw [if_pos h,h];rfl
     ·rw [if_neg h];show ((0+(Lib.indexByte s.data.toList n.toUInt8).toNat:Nat):Int)=_;omega
    rw [e];exact this
   ·cases hO
  ·cases hO
theorem B6U:B1x F orc 100000 8 [] (A3l opsL) .nil 2 isTrue=true:=by kernel_rfl
theorem C7A (w:World) (h:w.ShapedOpen Tryz.prog) (hl:laidG opsL w):Calls Tryz.prog 8 #[] w fun E w'=>E=.returned (.bool true)/\Below w.heap.size w w':=
 A56 env (φ:=fun i=>if i<2 then some (i,0,if i=0 then 14 else 0) else none) (nx:=2) opsL (fun i h=>by
   have h:Nat.blt i 2=true:=h;rw [G0] at h
   exact ⟨if i=0 then 14 else 0,if_pos (of_decide_eq_true h)⟩) (fun i h=>if_neg (by omega)) (fun x hx=>by cases List.mem_singleton.1 hx;rfl) (fun x hx=>by cases List.mem_singleton.1 hx;exact ⟨rfl,rfl⟩) B6U hl ⟨⟨rfl,h⟩,hl⟩
end
end Go.Xe.YtlgknghehgmodaaGreatDoor
namespace Go.Xe
section
open Go Go.Proofs Go.RowKit Go.Sort
theorem O6:∀(xs vs:List Value) (o j:Nat),o+xs.length<=vs.length->(setList vs o xs)[j]? =if o<=j/\j<o+xs.length then xs[j - o]? else vs[j]?
 |[],vs,o,j,h=>by
  have h0:¬(o<=j/\j<o+([]:List Value).length):=by simp only [List.length_nil];omega
  simp only [setList];rw [if_neg h0]
 |x::xs,vs,o,j,h=>by
  simp only [List.length_cons] at h;rw [setList,O6 xs (vs.set o x) (o+1) j (by simp;omega)];simp only [List.length_cons]
  by_cases h1:o+1<=j/\j<o+1+xs.length
  ·rw [if_pos h1,if_pos (by omega)];have e:j - o=(j - (o+1))+1:=by omega
   rw [e,List.getElem?_cons_succ]
  ·rw [if_neg h1]
   by_cases h2:j=o
   ·subst h2;rw [if_pos (by omega),Nat.sub_self,List.getElem?_cons_zero,List.getElem?_set_self (by omega)]
   ·rw [if_neg (by omega),List.getElem?_set_ne (fun e=>h2 e.symm)]
theorem B31 (o:Nat) (zs:List Int) (c:Array Value) (h:o+zs.length<=c.size):putCells (Value.int .i64) o zs.toArray c=(setList c.toList o (N4 zs)).toArray:=by
 apply Array.ext_getElem?;intro j;unfold putCells;rw [Array.getElem?_mapIdx,List.getElem?_toArray (xs:=setList c.toList o (N4 zs)),O6 _ _ _ _ (by rw [A4o];simpa using h),A4o]
 by_cases hj:o<=j/\j<o+zs.length
 ·have hjc:j<c.size:=by omega
  have hjz:j - o<zs.length:=by omega
  rw [if_pos hj,Array.getElem?_eq_getElem hjc];simp only [Option.map_some,List.size_toArray,if_pos hj];rw [N4,List.getElem?_map,List.getElem?_eq_getElem hjz,Option.map_some];congr 2;rw [getElem!_pos _ _ (by simpa using hjz)];simp
 ·rw [if_neg hj];simp only [List.size_toArray,if_neg hj];rw [Array.getElem?_toList];cases c[j]? <;>rfl
theorem A9V {b o:Nat} {zs:List Int} {c:Array Value} {e:TypeId} {w:World} (hb:w.heap[b]? =some (.cells c e (0,0))) (hc:(c.toList.drop o).take zs.length=N4 zs):Holds (Value.int .i64) w b o zs.toArray:=by
 intro j hj;have hj:j<zs.length:=by simpa using hj
 have h1:((c.toList.drop o).take zs.length)[j]? =some (.int .i64 zs[j]):=by rw [hc];simp [N4,hj]
 rw [List.getElem?_take_of_lt hj,List.getElem?_drop,Array.getElem?_toList] at h1;have h2:(zs.toArray)[j]! =zs[j]:=by rw [getElem!_pos _ _ (by simpa using hj)];simp
 rw [h2];constructor
 ·simp [World.cell?,hb,h1]
 ·simp only [World.frozen?,hb];simp
theorem B32 {o:Nat} {zs:List Int} {c:Array Value} (hc:(c.toList.drop o).take zs.length=N4 zs):zs=[]\/o+zs.length<=c.size:=by
 have:=congrArg List.length hc;rw [A4o,List.length_take,List.length_drop] at this;have hcl:c.toList.length=c.size:=Array.length_toList
 by_cases h:zs=[]
 ·exact .inl h
 ·have:zs.length≠0:=fun e=>h (List.length_eq_zero_iff.1 e)
  right;omega
theorem B9l {b o q:Nat} {zs:List Int} {c:Array Value} {e:TypeId} {w:World} {os:Array Obj} (hb:w.heap[b]? =some (.cells c e (0,0))) (h:o+zs.length<=c.size):Gr (I1 w b (.cells (setList c.toList o (N4 zs)).toArray e (0,0))) (grow (putRow (Value.int .i64) (Sort.ahead w q) b o zs.toArray) os):=by
 have hlt:b<w.heap.size:=(Array.getElem?_eq_some_iff.1 hb).1;refine ⟨by simp [I1,grow,putRow,mapBlock,Sort.ahead],fun k hk=> ?_,rfl,rfl,rfl⟩;have hk:k<w.heap.size:=by simpa [I1] using hk
 have e1:(grow (putRow (Value.int .i64) (Sort.ahead w q) b o zs.toArray) os).heap[k]? =(w.heap.modify b (onCells (putCells (Value.int .i64) o zs.toArray)))[k]? :=by
  simp only [grow,putRow,mapBlock,Sort.ahead];rw [Array.getElem?_append_left (by simpa using hk)]
 rw [e1];simp only [I1];rw [Array.getElem?_modify,Array.getElem?_setIfInBounds]
 by_cases hbk:b=k
 ·subst hbk;rw [if_pos rfl,if_pos rfl,if_pos hlt,hb];simp only [Option.map_some,onCells,B31 o zs c h]
 ·rw [if_neg hbk,if_neg hbk]
def goC:Option Int->List Int->List Int
 |_,[]=>[]
 |p,x::l=>if p=some x then goC (some x) l else x::goC (some x) l
theorem A2I:∀(l:List Int) (x:Int),D9 (x::l)=x::goC (some x) l
 |[],x=>by unfold D9;rfl
 |y::l,x=>by
  unfold D9 goC
  by_cases h:x=y
  ·subst h;simp only [if_true];rw [A2I l x]
  ·simp only [if_neg h,if_neg (fun e=>h (Option.some.inj e):¬some x=some y)];rw [A2I l y]
theorem B9m (zs:List Int):∀(n k:Nat),k+n=zs.length->((List.range' k n).filter (Lib.keeps zs.toArray)).map (zs.toArray[·]!)=goC (if k=0 then none else zs[k - 1]?) (zs.drop k)
 |0,k,h=>by
  rw [List.drop_of_length_le (by omega)];simp [goC]
 |n+1,k,h=>by
  have hk:k<zs.length:=by omega
  have ih:=B9m zs n (k+1) (by omega);rw [if_neg (by omega),Nat.add_sub_cancel,List.getElem?_eq_getElem hk] at ih;rw [List.range'_succ,List.drop_eq_getElem_cons hk];have hg:zs.toArray[k]! =zs[k]:=by rw [getElem!_pos _ _ (by simpa using hk)];simp
  unfold goC
  by_cases h0:k=0
  ·subst h0;have hkeep:Lib.keeps zs.toArray 0=true:=by simp [Lib.keeps]
   rw [List.filter_cons_of_pos hkeep,List.map_cons,ih,hg,if_neg (by simp)]
  ·rw [if_neg h0];have hk1:k - 1<zs.length:=by omega
   have hg1:zs.toArray[k - 1]! =zs[k - 1]:=by rw [getElem!_pos _ _ (by simpa using hk1)];simp
   rw [List.getElem?_eq_getElem hk1]
   by_cases he:zs[k - 1]=zs[k]
   ·have hkeep:¬Lib.keeps zs.toArray k=true:=by
     unfold Lib.keeps;rw [hg,hg1];simp [h0,he]
    rw [List.filter_cons_of_neg hkeep,ih,if_pos (by rw [he])]
   ·have hkeep:Lib.keeps zs.toArray k=true:=by
     unfold Lib.keeps;rw [hg,hg1];simp [h0];exact fun e=>he e.symm
    rw [List.filter_cons_of_pos hkeep,List.map_cons,ih,hg,if_neg (fun e=>he (Option.some.inj e))]
theorem B33 (zs:List Int):Lib.compact zs=D9 zs:=by
 unfold Lib.compact Lib.compactUpTo;rw [List.range_eq_range',B9m zs zs.length 0 (by omega),if_pos rfl,List.drop_zero];cases zs with
 |nil=>rfl
 |cons x l=>rw [A2I,goC,if_neg (by simp)]
theorem C0t:B3m Tryz.prog 75 .sort:=fun b o cap zs c e w hb hc hz hl hcap=>by
 have hlt:b<w.heap.size:=(Array.getElem?_eq_some_iff.1 hb).1;have hfit:o+zs.length<=c.size:=(B32 hc).resolve_left hz;refine Calls.mono (Tryz.slices_Sort_int b o cap zs w (A9V hb hc) hlt (by omega)) ?_;rintro E w' ⟨rfl,n,os,rfl⟩;exact ⟨rfl,B9l (zs:=Y2 .sort zs) hb (by rw [A74];exact hfit)⟩
theorem B9n:B09 Tryz.prog 75 .sort:=fun p cap w=>Tryz.slices_Sort_int_none p cap w
theorem B4v:B3m Tryz.prog 76 .compact:=fun b o cap zs c e w hb hc hz hl hcap=>by
 have hfit:o+zs.length<=c.size:=(B32 hc).resolve_left hz;refine Calls.mono (Tryz.slices_Compact_int b o cap zs w (A9V hb hc) (by omega) hcap) ?_;rintro E w' ⟨rfl,q,rfl⟩;rw [B33];refine ⟨rfl,?_⟩;have:=B9l (q:=q) (os:=#[]) (zs:=Y2 .compact zs) hb (by rw [A74];exact hfit)
 rwa [grow_empty] at this
theorem B34:B09 Tryz.prog 76 .compact:=fun p cap w=>Tryz.slices_Compact_int_empty p cap w
end
end Go.Xe
namespace Go.Xe.YtlgknghehgmodaaGreatDoor
section
open Go Go.Xe Go.Xt Go.Proofs Go.RowKit
def FX (f:FuncId):Option XFun:=(FE f).map TFun.fn
def OX (f:FuncId) (args:List Value):Option Value:=
 if f=75 then some (.agg ⟨[]⟩) else if f=76 then some (.agg ⟨[.bool true]⟩) else
 match args with
 |[]=>if f=8 then some (.bool true) else none
 |_=>none
theorem ifs {c:Prop} [Decidable c] {a b:Option TFun} {t:TFun} (h:(if c then a else b)=some t):(c/\a=some t)\/b=some t:=by
 split at h
 ·exact .inl ⟨by assumption,h⟩
 ·exact .inr h
theorem nc {t:TFun} {P:Prop} (h:t.clone=false):t.clone=true->P:=fun k=>by rw [h] at k;cases k
def C7B (f:FuncId) (tf:TFun):Prop:=(∃fn,Tryz.prog.funcs[f]? =some fn/\A6 Tryz.prog M0 fn=some tf.fn)/\(tf.clone=true->∃e sz z bytes,tf.fn=A5d e sz z bytes)
set_option maxHeartbeats 8000000 in
theorem C1b (f:FuncId) (tf:TFun) (h2:FE f=some tf):C7B f tf:=by
 unfold FE at h2
 rcases ifs h2 with ⟨rfl,h⟩|h2; · cases h;exact ⟨⟨_,Tryz.func6,C4H⟩,nc rfl⟩
 rcases ifs h2 with ⟨rfl,h⟩|h2; · cases h;exact ⟨⟨_,Tryz.func9,C4I⟩,nc rfl⟩
 rcases ifs h2 with ⟨rfl,h⟩|h2; · cases h;exact ⟨⟨_,Tryz.func11,C4J⟩,nc rfl⟩
 rcases ifs h2 with ⟨rfl,h⟩|h2; · cases h;exact ⟨⟨_,Tryz.func12,C4K⟩,nc rfl⟩
 rcases ifs h2 with ⟨rfl,h⟩|h2; · cases h;exact ⟨⟨_,Tryz.func16,d6⟩,nc rfl⟩
 rcases ifs h2 with ⟨rfl,h⟩|h2; · cases h;exact ⟨⟨_,Tryz.func17,C4L⟩,nc rfl⟩
 rcases ifs h2 with ⟨rfl,h⟩|h2; · cases h;exact ⟨⟨_,Tryz.func21,C4M⟩,nc rfl⟩
 rcases ifs h2 with ⟨rfl,h⟩|h2; · cases h;exact ⟨⟨_,Tryz.func26,d9⟩,nc rfl⟩
 rcases ifs h2 with ⟨rfl,h⟩|h2; · cases h;exact ⟨⟨_,Tryz.func27,d13⟩,nc rfl⟩
 rcases ifs h2 with ⟨rfl,h⟩|h2; · cases h;exact ⟨⟨_,Tryz.func28,C4N⟩,nc rfl⟩
 rcases ifs h2 with ⟨rfl,h⟩|h2; · cases h;exact ⟨⟨_,Tryz.func29,d24⟩,nc rfl⟩
 rcases ifs h2 with ⟨rfl,h⟩|h2; · cases h;exact ⟨⟨_,Tryz.func31,C4O⟩,nc rfl⟩
 rcases ifs h2 with ⟨rfl,h⟩|h2; · cases h;exact ⟨⟨_,Tryz.func32,d66⟩,nc rfl⟩
 rcases ifs h2 with ⟨rfl,h⟩|h2; · cases h;exact ⟨⟨_,Tryz.func33,C4P⟩,nc rfl⟩
 rcases ifs h2 with ⟨rfl,h⟩|h2; · cases h;exact ⟨⟨_,Tryz.func34,C4Q⟩,nc rfl⟩
 rcases ifs h2 with ⟨rfl,h⟩|h2; · cases h;exact ⟨⟨_,Tryz.func36,d19⟩,nc rfl⟩
 rcases ifs h2 with ⟨rfl,h⟩|h2; · cases h;exact ⟨⟨_,Tryz.func37,d20⟩,nc rfl⟩
 rcases ifs h2 with ⟨rfl,h⟩|h2; · cases h;exact ⟨⟨_,Tryz.func40,C4R⟩,nc rfl⟩
 rcases ifs h2 with ⟨rfl,h⟩|h2; · cases h;exact ⟨⟨_,Tryz.func41,C4S⟩,nc rfl⟩
 rcases ifs h2 with ⟨rfl,h⟩|h2; · cases h;exact ⟨⟨_,Tryz.func46,d23⟩,nc rfl⟩
 rcases ifs h2 with ⟨rfl,h⟩|h2; · cases h;exact ⟨⟨_,Tryz.func47,C4T⟩,nc rfl⟩
 rcases ifs h2 with ⟨rfl,h⟩|h2; · cases h;exact ⟨⟨_,Tryz.func48,C4U⟩,nc rfl⟩
 rcases ifs h2 with ⟨rfl,h⟩|h2; · cases h;exact ⟨⟨_,Tryz.func49,C4V⟩,fun _=>⟨_,_,_,_,rfl⟩⟩
 rcases ifs h2 with ⟨rfl,h⟩|h2; · cases h;exact ⟨⟨_,Tryz.func50,C4W⟩,nc rfl⟩
 rcases ifs h2 with ⟨rfl,h⟩|h2; · cases h;exact ⟨⟨_,Tryz.func51,C4X⟩,nc rfl⟩
 rcases ifs h2 with ⟨rfl,h⟩|h2; · cases h;exact ⟨⟨_,Tryz.func62,d28⟩,nc rfl⟩
 rcases ifs h2 with ⟨rfl,h⟩|h2; · cases h;exact ⟨⟨_,Tryz.func63,d29⟩,nc rfl⟩
 rcases ifs h2 with ⟨rfl,h⟩|h2; · cases h;exact ⟨⟨_,Tryz.func64,d35⟩,nc rfl⟩
 rcases ifs h2 with ⟨rfl,h⟩|h2; · cases h;exact ⟨⟨_,Tryz.func65,d36⟩,nc rfl⟩
 rcases ifs h2 with ⟨rfl,h⟩|h2; · cases h;exact ⟨⟨_,Tryz.func66,d37⟩,nc rfl⟩
 rcases ifs h2 with ⟨rfl,h⟩|h2; · cases h;exact ⟨⟨_,Tryz.func67,d38⟩,nc rfl⟩
 rcases ifs h2 with ⟨rfl,h⟩|h2; · cases h;exact ⟨⟨_,Tryz.func68,d21⟩,nc rfl⟩
 rcases ifs h2 with ⟨rfl,h⟩|h2; · cases h;exact ⟨⟨_,Tryz.func69,d7⟩,nc rfl⟩
 rcases ifs h2 with ⟨rfl,h⟩|h2; · cases h;exact ⟨⟨_,Tryz.func72,d111⟩,nc rfl⟩
 rcases ifs h2 with ⟨rfl,h⟩|h2; · cases h;exact ⟨⟨_,Tryz.func73,C4Y⟩,nc rfl⟩
 rcases ifs h2 with ⟨rfl,h⟩|h2; · cases h;exact ⟨⟨_,Tryz.func74,d41⟩,nc rfl⟩
 rcases ifs h2 with ⟨rfl,h⟩|h2; · cases h;exact ⟨⟨_,Tryz.func77,d44⟩,nc rfl⟩
 rcases ifs h2 with ⟨rfl,h⟩|h2; · cases h;exact ⟨⟨_,Tryz.func78,d45⟩,nc rfl⟩
 rcases ifs h2 with ⟨rfl,h⟩|h2; · cases h;exact ⟨⟨_,Tryz.func79,d46⟩,nc rfl⟩
 rcases ifs h2 with ⟨rfl,h⟩|h2; · cases h;exact ⟨⟨_,Tryz.func80,C4Z⟩,nc rfl⟩
 rcases ifs h2 with ⟨rfl,h⟩|h2; · cases h;exact ⟨⟨_,Tryz.func81,d67⟩,fun _=>⟨_,_,_,_,rfl⟩⟩
 rcases ifs h2 with ⟨rfl,h⟩|h2; · cases h;exact ⟨⟨_,Tryz.func82,C50⟩,nc rfl⟩
 rcases ifs h2 with ⟨rfl,h⟩|h2; · cases h;exact ⟨⟨_,Tryz.func83,C51⟩,nc rfl⟩
 rcases ifs h2 with ⟨rfl,h⟩|h2; · cases h;exact ⟨⟨_,Tryz.func84,C52⟩,nc rfl⟩
 rcases ifs h2 with ⟨rfl,h⟩|h2; · cases h;exact ⟨⟨_,Tryz.func85,d109⟩,nc rfl⟩
 rcases ifs h2 with ⟨rfl,h⟩|h2; · cases h;exact ⟨⟨_,Tryz.func86,d110⟩,nc rfl⟩
 rcases ifs h2 with ⟨rfl,h⟩|h2; · cases h;exact ⟨⟨_,Tryz.func87,d47⟩,nc rfl⟩
 rcases ifs h2 with ⟨rfl,h⟩|h2; · cases h;exact ⟨⟨_,Tryz.func88,C53⟩,nc rfl⟩
 rcases ifs h2 with ⟨rfl,h⟩|h2; · cases h;exact ⟨⟨_,Tryz.func89,C54⟩,nc rfl⟩
 rcases ifs h2 with ⟨rfl,h⟩|h2; · cases h;exact ⟨⟨_,Tryz.func90,C55⟩,nc rfl⟩
 rcases ifs h2 with ⟨rfl,h⟩|h2; · cases h;exact ⟨⟨_,Tryz.func97,d56⟩,nc rfl⟩
 rcases ifs h2 with ⟨rfl,h⟩|h2; · cases h;exact ⟨⟨_,Tryz.func98,d57⟩,nc rfl⟩
 rcases ifs h2 with ⟨rfl,h⟩|h2; · cases h;exact ⟨⟨_,Tryz.func99,d64⟩,nc rfl⟩
 rcases ifs h2 with ⟨rfl,h⟩|h2; · cases h;exact ⟨⟨_,Tryz.func100,d25⟩,nc rfl⟩
 rcases ifs h2 with ⟨rfl,h⟩|h2; · cases h;exact ⟨⟨_,Tryz.func111,C56⟩,nc rfl⟩
 rcases ifs h2 with ⟨rfl,h⟩|h2; · cases h;exact ⟨⟨_,Tryz.func112,d106⟩,nc rfl⟩
 rcases ifs h2 with ⟨rfl,h⟩|h2; · cases h;exact ⟨⟨_,Tryz.func113,d107⟩,nc rfl⟩
 rcases ifs h2 with ⟨rfl,h⟩|h2; · cases h;exact ⟨⟨_,Tryz.func114,d108⟩,nc rfl⟩
 rcases ifs h2 with ⟨rfl,h⟩|h2; · cases h;exact ⟨⟨_,Tryz.func115,d159⟩,nc rfl⟩
 rcases ifs h2 with ⟨rfl,h⟩|h2; · cases h;exact ⟨⟨_,Tryz.func119,d95⟩,nc rfl⟩
 rcases ifs h2 with ⟨rfl,h⟩|h2; · cases h;exact ⟨⟨_,Tryz.func120,d96⟩,nc rfl⟩
 rcases ifs h2 with ⟨rfl,h⟩|h2; · cases h;exact ⟨⟨_,Tryz.func121,d97⟩,nc rfl⟩
 rcases ifs h2 with ⟨rfl,h⟩|h2; · cases h;exact ⟨⟨_,Tryz.func122,d98⟩,nc rfl⟩
 rcases ifs h2 with ⟨rfl,h⟩|h2; · cases h;exact ⟨⟨_,Tryz.func123,d99⟩,nc rfl⟩
 rcases ifs h2 with ⟨rfl,h⟩|h2; · cases h;exact ⟨⟨_,Tryz.func124,d100⟩,nc rfl⟩
 rcases ifs h2 with ⟨rfl,h⟩|h2; · cases h;exact ⟨⟨_,Tryz.func125,d101⟩,nc rfl⟩
 rcases ifs h2 with ⟨rfl,h⟩|h2; · cases h;exact ⟨⟨_,Tryz.func162,d158⟩,nc rfl⟩
 rcases ifs h2 with ⟨rfl,h⟩|h2; · cases h;exact ⟨⟨_,Tryz.func163,d182⟩,nc rfl⟩
 rcases ifs h2 with ⟨rfl,h⟩|h2; · cases h;exact ⟨⟨_,Tryz.func165,d149⟩,nc rfl⟩
 rcases ifs h2 with ⟨rfl,h⟩|h2; · cases h;exact ⟨⟨_,Tryz.func166,d150⟩,nc rfl⟩
 rcases ifs h2 with ⟨rfl,h⟩|h2; · cases h;exact ⟨⟨_,Tryz.func167,d151⟩,nc rfl⟩
 rcases ifs h2 with ⟨rfl,h⟩|h2; · cases h;exact ⟨⟨_,Tryz.func168,d61⟩,nc rfl⟩
 rcases ifs h2 with ⟨rfl,h⟩|h2; · cases h;exact ⟨⟨_,Tryz.func169,d152⟩,nc rfl⟩
 rcases ifs h2 with ⟨rfl,h⟩|h2; · cases h;exact ⟨⟨_,Tryz.func201,d165⟩,nc rfl⟩
 rcases ifs h2 with ⟨rfl,h⟩|h2; · cases h;exact ⟨⟨_,Tryz.func202,d180⟩,nc rfl⟩
 rcases ifs h2 with ⟨rfl,h⟩|h2; · cases h;exact ⟨⟨_,Tryz.func203,d181⟩,nc rfl⟩
 rcases ifs h2 with ⟨rfl,h⟩|h2; · cases h;exact ⟨⟨_,Tryz.func204,d153⟩,nc rfl⟩
 rcases ifs h2 with ⟨rfl,h⟩|h2; · cases h;exact ⟨⟨_,Tryz.func208,d60⟩,nc rfl⟩
 rcases ifs h2 with ⟨rfl,h⟩|h2; · cases h;exact ⟨⟨_,Tryz.func209,d178⟩,nc rfl⟩
 rcases ifs h2 with ⟨rfl,h⟩|h2; · cases h;exact ⟨⟨_,Tryz.func223,d63⟩,nc rfl⟩
 rcases ifs h2 with ⟨rfl,h⟩|h2; · cases h;exact ⟨⟨_,Tryz.func224,d179⟩,nc rfl⟩
 rcases ifs h2 with ⟨rfl,h⟩|h2; · cases h;exact ⟨⟨_,Tryz.func225,d32⟩,nc rfl⟩
 rcases ifs h2 with ⟨rfl,h⟩|h2; · cases h;exact ⟨⟨_,Tryz.func226,d103⟩,nc rfl⟩
 rcases ifs h2 with ⟨rfl,h⟩|h2; · cases h;exact ⟨⟨_,Tryz.func227,d104⟩,nc rfl⟩
 rcases ifs h2 with ⟨rfl,h⟩|h2; · cases h;exact ⟨⟨_,Tryz.func234,d105⟩,nc rfl⟩
 rcases ifs h2 with ⟨rfl,h⟩|h2; · cases h;exact ⟨⟨_,Tryz.func235,d62⟩,nc rfl⟩
 rcases ifs h2 with ⟨rfl,h⟩|h2; · cases h;exact ⟨⟨_,Tryz.func236,d190⟩,nc rfl⟩
 rcases ifs h2 with ⟨rfl,h⟩|h2; · cases h;exact ⟨⟨_,Tryz.func237,d157⟩,nc rfl⟩
 cases h2
theorem fits:Fits FE OT FX OX:=by
 refine ⟨fun f tf h=>by unfold FX;rw [h];rfl,fun f h=>by unfold FX;rw [h];rfl,fun f tf h=>(C1b f tf h).2,fun f args v h g μ Z args' ha=> ?_⟩;unfold OT at h;unfold OX
 by_cases h75:f=75
 ·rw [if_pos h75] at h ⊢;cases h;exact ⟨_,rfl,.agg .nil⟩
 rw [if_neg h75] at h ⊢
 by_cases h76:f=76
 ·rw [if_pos h76] at h ⊢;cases h;exact ⟨_,rfl,.agg (.cons (.bool true) .nil)⟩
 rw [if_neg h76] at h ⊢;split at h
 ·cases ha;split at h
  ·rename_i h9;cases h;exact ⟨.bool true,by simp [h9],.bool true⟩
  ·cases h
 ·cases h
theorem to8:X1 Tryz.prog 8:=⟨Tryz.f8,Tryz.func8,by decide,rfl⟩
theorem C9H:X1 Tryz.prog 75:=⟨Tryz.f75,Tryz.func75,by decide,rfl⟩
theorem C9I:X1 Tryz.prog 76:=⟨Tryz.f76,Tryz.func76,by decide,rfl⟩
theorem C9J:Env Tryz.prog M0 FX OX:=by
 refine ⟨by kernel_rfl,fun f x h=> ?_,fun f args v hF hO=> ?_⟩
 ·unfold FX at h;obtain ⟨tf,h2,rfl⟩:=Option.map_eq_some_iff.1 h;exact (C1b f tf h2).1
 ·unfold OX at hO
  by_cases h75:f=75
  ·rw [if_pos h75] at hO;cases hO;subst h75;exact OOk.row rfl C9H C0t B9n
  rw [if_neg h75] at hO
  by_cases h76:f=76
  ·rw [if_pos h76] at hO;cases hO;subst h76;exact OOk.row rfl C9I B4v B34
  rw [if_neg h76] at hO;split at hO
  ·split at hO
   ·rename_i h8;cases hO;subst h8;exact OOk.grow to8 rfl rfl (fun φ l h=>by cases h;rfl) fun W0 N0 φ g w hg r=>C7A w (r.shaped hg.1) (r.laidG hg)
   ·cases hO
  ·cases hO
end
end Go.Xe.YtlgknghehgmodaaGreatDoor
namespace Go.Xe
section
open Go Go.Proofs Go.RowKit
theorem B6V {H:Type} {enc:TypeId×Value->H} {P:Program} {w:World} {base:Nat} {spare:Nat->Bool} {held:Bool} {e:TypeId} (hu:P.underlying e=some .string) {fuel:Nat} {l:List Value} {b:List UInt8} {q:List MemPlace}
  (h:DataW.trod enc P w base spare held fuel e l=some (.lit (.string b),q)):l=[.string ⟨b.toArray⟩]:=by
 cases fuel with
 |zero=>simp [DataW.trod] at h
 |succ fuel=>
  unfold DataW.trod at h;rw [hu] at h;rcases l with _|⟨v,_|⟨v',l⟩⟩
  ·simp at h
  ·cases v<;>simp at h
   obtain ⟨_,h,_⟩:=h;rw [<-h]
  ·simp at h
theorem B6W {H:Type} {enc:TypeId×Value->H} {P:Program} {w:World} {base:Nat} {spare:Nat->Bool} {held:Bool} {t e:TypeId} {n:Nat} (ht:P.underlying t=some (.array n e)) (hu:P.underlying e=some .string) (hc:P.cellsOf e=1) (hn:P.cellsOf t=n) {fuel:Nat} {l:List Value} {bs:List (List UInt8)} {q:List MemPlace}
  (h:DataW.trod enc P w base spare held fuel t l=some (.agg (bs.map fun b=>.lit (.string b)),q)):l=bs.map fun b=>.string ⟨b.toArray⟩:=by
 cases fuel with
 |zero=>simp [DataW.trod] at h
 |succ fuel=>
  unfold DataW.trod at h;rw [ht] at h;simp only [hn,hc] at h;split at h
  ·rename_i hl;obtain ⟨xs,hxs,he⟩:=Option.map_eq_some_iff.1 h;have he1:xs.map (·.1)=bs.map fun b=>DataW.lit (.string b):=by
    have:=congrArg Prod.fst he
    injection this
   have hlen:=mapM_some_length hxs;rw [List.length_range] at hlen;have hbs:bs.length=n:=by
    have:=congrArg List.length he1;rw [List.length_map,List.length_map] at this;omega
   apply List.ext_getElem?;intro i
   by_cases hi:i<n
   ·have h1:=mapM_some_get hxs i i (by rw [List.getElem?_range hi]);have h2:xs[i]? =some xs[i]:=List.getElem?_eq_getElem (by omega);rw [h2] at h1;have h3:=congrArg (fun z=>z[i]?) he1;simp only [List.getElem?_map,h2,Option.map_some] at h3;rw [List.getElem?_eq_getElem (by omega:i<bs.length)] at h3;simp only [Option.map_some,Option.some.injEq] at h3
    rw [List.getElem?_map,List.getElem?_eq_getElem (by omega:i<bs.length),List.getElem?_eq_getElem (by omega:i<l.length)];generalize xs[i]=x at h1 h3;obtain ⟨x1,x2⟩:=x;simp only at h3;rw [h3] at h1;have h4:=B6V hu h1;rw [Nat.mul_one] at h4;have h5:=congrArg (fun z=>z[0]?) h4;simp only [List.getElem?_take,List.getElem?_drop,List.getElem?_cons_zero] at h5;simp at h5
    rw [List.getElem?_eq_getElem (by omega:i<l.length)] at h5
    simpa using h5
   ·rw [List.getElem?_eq_none (by omega),List.getElem?_eq_none (by rw [List.length_map];omega)]
  ·cases h
theorem B9o {P:Program} {w:World} {x:String} {d:DataW Unit} {g:Nat} {t e:TypeId} {n:Nat} {zero:Array Value} {bs:List (List UInt8)} (hS:w.ShapedOpen P) (h:laidMetH P [(x,d)] w) (hd:d=.agg (bs.map fun b=>.lit (.string b)))
  (hg:P.globalNamed x=some g) (hgt:(P.globals[g]?).map (·.type)=some t) (ht:P.underlying t=some (.array n e)) (hu:P.underlying e=some .string) (hc:P.cellsOf e=1) (hn:P.cellsOf t=n) (hlt:g<P.globals.size)
  (h0:((begin P (fun _ _=>0) default).world.heap[g]?).bind Obj.row?=some (zero,t)):w.heap[g]? =some (.cells (bs.map fun b=>Value.string ⟨b.toArray⟩).toArray t (0,0)):=by
 rw [MakeChecks.laidMetH_plain _ _ _ (by subst hd;rfl)] at h;obtain ⟨ps,⟨g',t',cs,fuel,p,q,hg',ht',hv,hdd,_,_⟩,_⟩:=h;obtain rfl:=Option.some.inj (hg.symm.trans hg');obtain rfl:=Option.some.inj (hgt.symm.trans ht');obtain ⟨cs',hh,_,_⟩:=hS.1 g zero t hlt h0;have hcs:cs=cs':=by
  unfold World.var? at hv;rw [hg] at hv;simp only [Option.bind_some,hh] at hv;exact (Option.some.inj hv).symm
 subst hcs hd;have:=B6W ht hu hc hn hdd;rw [hh,<-this]
end
end Go.Xe
