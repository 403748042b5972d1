/-
  A part of the proof: it is imported by YtlgknghehgmodaaGreatDoorTop. Nothing here is a claim of its own.
-/
import Derived.Test.YtlgknghehgmodaaGreatDoorK7
import Derived.Shelf.Small.Strs
import Derived.Shelf.Strings.Search1
import Derived.Shelf.Strings.Search2
import Derived.Shelf.Strings.Search3
import Derived.Shelf.LaysM
import Derived.Shelf.Strings.Shaped
import Derived.Shelf.Sort.Plain
import Derived.Ground.Names2Prog
import Derived.Shelf.Slices.CompactI
import Derived.Shelf.Slices.In.SortNone
import Derived.Test.YtlgknghehgmodaaGreatDoorProg
import Derived.MakeChecks
set_option linter.unusedVariables false
set_option linter.unusedSimpArgs false
set_option linter.unusedSectionVars false
set_option maxRecDepth 100000
namespace Go.Xe.YtlgknghehgmodaaGreatDoor
section
open Go Go.Xe Go.Xt
variable {F:FuncId->Option TFun} {O:FuncId->List TV->Option TV}
theorem C1x (h54:F 54=some f1054) (h93:F 93=some f1093) (c:PCore) (hc:OkC c) (l:List Bool) (hl:l.length=c.funs.length) (hfl:c.funs.length<=1000000) (N b:Nat) (σ:Sto) (hN:c.funs.length<N) (hz:∀f∈c.funs,E3 f.term<=N/\cntT f.term<=3000) (hzq:E3 c.query.term<=N/\cntT c.query.term<=3000) (hct:cntFs c.funs<=900000) (hok:∀f∈c.funs,F1 c.funs.length f.term=true) (hokq:F1 c.funs.length c.query.term=true):
  A4 F O (N+1) b 54 [.agg (E9 c),.sl .fz (l.map K0)] σ=some (.ret (.agg (E9 (A08 c l))),σ):=by
 have htl:(toC l).length=c.funs.length:=by rw [A12];exact hl
 refine A3 h54 ?_;simp [B7q,A7 c];apply E2
 ·apply C1s (b:=σ.length) c hc l hl hfl hN (v4:=_) (v5:=_) (v6:=.ptr σ.length 0)
  ·rfl
  ·simp
  ·simp [A7 c]
  ·simp;rfl
  ·simp;rfl
  ·simp
  ·simp
  ·simp
 rintro ex ⟨tm,df,clk⟩ σ1 ⟨rfl,rfl,hdf,g1,g2,g4,g5,g6,v,hB,g7⟩;simp only at hdf g1 g2 g4 g5 g6 g7;subst hdf;obtain ⟨m,hm,rfl⟩:∃m,(m=Md.own 3 1\/m=.fz\/m=.nl/\toC l=[])/\v=.sl m ((toC l).map encI):=by
  generalize toC l=to at hB;rcases hB with _|_
  ·exact ⟨.nl,.inr (.inr ⟨rfl,rfl⟩),rfl⟩
  ·exact ⟨.own 3 1,.inl rfl,rfl⟩
 simp;apply E2
 ·apply C1t (b:=σ.length) h93 c hc l hl hfl hN hz (by omega) (toC l) (by rw [htl];exact hok) m hm (kc:=σ.length) (ver:=0) (hat:=G0 _ _) (v4:=_) (s5:=_) (t0:=.sl .fz (c.types.map K2)) (Q:=[.int .i64 c.query.params,.int .i64 c.query.slots,.int .i64 c.query.term.kind,.int .i64 c.query.term.n,.int .i64 c.query.term.m,.int .i64 c.query.term.val.kind,.int .i64 c.query.term.val.n,.sl .fz (c.query.term.val.list.map C9),.sl .fz (c.query.term.odds.map encI),.sl .fz (c.query.term.kids.map A5),.int .i64 0]) (hQ:=rfl)
  ·rfl
  ·exact g1
  ·exact g2
  ·exact g4
  ·exact g5
  ·exact g6
  ·exact g7
 rintro ex ⟨tm,df,clk⟩ σ2 ⟨rfl,⟨v1,rfl⟩,hdf,g2,g4,g6,⟨m2,hm2,g7⟩,v,hB,g5⟩;simp only at hdf g2 g4 g5 g6 g7;subst hdf;rw [A0B];have hst:=Y2 (toC l) l c.funs 0
 have hcc:=fun m hm=>A5Q (O:=O) h93 (E3 c.query.term) N c.query.term (toC l) m σ.length σ.length (σ++[some ⟨v1,.cells [.int .i64 (C6 (toC l) l c.funs 0).2] 113⟩]) v1 (C6 (toC l) l c.funs 0).2 (Nat.le_refl _) hzq.1 hm hc.query.term hzq.2 (by omega) (by omega) (by rw [htl];exact hokq) (G0 _ _)
 simp only [A0B] at hcc;have hat:∀v z,Sto.at (σ++[some (⟨v,.cells [.int .i64 z] 113⟩:TObj)]) σ.length=some ⟨v,.cells [.int .i64 z] 113⟩:=fun v z=>G0 _ _
 have hR:E9 (A08 c l)=_:=A7 (A08 c l);simp only [A08] at hR;rw [A7] at g2;have hE3:=A0 (H2 (toC l) c.query.term (C6 (toC l) l c.funs 0).2).1;rw [A0 c.query.term,hE3] at hcc;rw [show A08 c l=⟨c.types,(C6 (toC l) l c.funs 0).1,⟨c.query.params,c.query.slots,(H2 (toC l) c.query.term (C6 (toC l) l c.funs 0).2).1⟩,(H2 (toC l) c.query.term (C6 (toC l) l c.funs 0).2).2⟩ from rfl,hR];clear hR
 generalize (H2 (toC l) c.query.term (C6 (toC l) l c.funs 0).2).1=y at hcc hE3 ⊢;generalize (H2 (toC l) c.query.term (C6 (toC l) l c.funs 0).2).2=z at hcc ⊢;generalize (C6 (toC l) l c.funs 0).1=L at hB ⊢;generalize (C6 (toC l) l c.funs 0).2=s1 at hcc hst ⊢;rcases hm2 with rfl|rfl|⟨rfl,hto⟩
 ·obtain ⟨v2,hcc⟩:=hcc .fz (.inl rfl);rcases hB with _|_
  all_goals simp [g2,g4,g5,g6,g7,hcc,hat]
 ·obtain ⟨v2,hcc⟩:=hcc .fz (.inl rfl);rcases hB with _|_
  all_goals simp [g2,g4,g5,g6,g7,hcc,hat]
 ·obtain ⟨v2,hcc⟩:=hcc .nl (.inr ⟨rfl,hto⟩);rw [hto] at hcc g7;simp only [List.map_nil] at hcc g7;rcases hB with _|_
  all_goals simp [g2,g4,g5,g6,g7,hcc,hat]
def B53:XCode:=(by exact fun x _=>x:V0 (gT x1053.body [1,1,0])) _ (by conv=>lhs;cbv)
theorem B7u:x1053=(by exact fun x _=>x:V1 (fun a=>({x1053 with body:=pT (x1053.body) [1,1,0] a}:XFun))) _ (by intros;conv=>lhs;cbv) B53:=rfl
theorem C01 {N b:Nat} (c:PCore) (hc:OkC c) (hfl:c.funs.length<=1000000) (hN:c.funs.length<N) (hz:∀f∈c.funs,∀b σ,A4 F O N b 15 [.agg (A5 f.term)] σ=some (.ret (.agg (A5 (lessT f.term))),σ))
  (a:TAct) (σ:Sto) (v2 t0:TV) (Q:List TV) (s3:Nat) (hQ:Q.length=11)
  (hdf:a.df=[]) (h1:a.tm.get 1=some (.bx 0 (E9 c) 40)) (h2:a.tm.get 2=some v2) (h3:a.tm.get 3=some (.bx s3 (t0::.sl .nl []::Q) 40)):
  Tw B5E b (A4 F O N) N (fun ex a' σ'=>ex=.normal/\σ'=σ/\a'.df=[]/\a'.tm.get 1=some (.bx 0 (E9 c) 40)/\a'.tm.get 2=some v2/\∃v,Bld 38 10 G4 (c.funs.map slB) v/\a'.tm.get 3=some (.bx s3 (t0::v::Q) 40)) [] (B6 B5E b (A4 F O N) N B53 a σ):=by
 obtain ⟨tm,df,clk⟩:=a;simp only at hdf h1 h2 h3;subst hdf;obtain ⟨q0,q1,q2,q3,q4,q5,q6,q7,q8,q9,q10,rfl⟩:∃a b c d e f g h i j k,Q=[a,b,c,d,e,f,g,h,i,j,k]:=by
  match Q,hQ with|[a,b,c,d,e,f,g,h,i,j,k],_=>exact ⟨a,b,c,d,e,f,g,h,i,j,k,rfl⟩
 simp [B53];obtain ⟨I,hI⟩:∃I:Nat->TAct->Sto->Prop,I=(fun j a' σ'=>a'.df=[]/\σ'=σ/\a'.tm.get 1=some (.bx 0 (E9 c) 40)/\a'.tm.get 2=some v2/\(∃v,Bld 38 10 G4 ((c.funs.take j).map slB) v/\a'.tm.get 3=some (.bx s3 [t0,v,q0,q1,q2,q3,q4,q5,q6,q7,q8,q9,q10] 40))/\a'.tm.get 4=some (.int .i64 j)):=⟨_,rfl⟩
 obtain ⟨R,hR⟩:∃R:TEx->TAct->Sto->Prop,R=(fun ex a' σ'=>ex=.exit 0/\σ'=σ/\a'.df=[]/\a'.tm.get 1=some (.bx 0 (E9 c) 40)/\a'.tm.get 2=some v2/\∃v,Bld 38 10 G4 (c.funs.map slB) v/\a'.tm.get 3=some (.bx s3 [t0,v,q0,q1,q2,q3,q4,q5,q6,q7,q8,q9,q10] 40)):=⟨_,rfl⟩;refine A9 I c.funs.length R ?_ (by omega) ?_ ?_ ?_
 ·rw [hI];exact ⟨rfl,rfl,by simp [h1],by simp [h2],⟨_,.nl,by simp [h3]⟩,by simp⟩
 ·rw [hI];rintro j ⟨tm,df,clk⟩ σ' hj ⟨rfl,rfl,h1,h2,⟨v,hB,h3⟩,h4⟩;rw [<-hI];simp only at h1 h2 h3 h4;have hw:=C8 hj hc.flen;have hmem:=List.getElem_mem hj;have hcc:=hz _ hmem b σ';have hts:(c.funs.take (j+1)).map slB=(c.funs.take j).map slB++[slB c.funs[j]]:=by rw [H9 hj,List.map_append];rfl
  have hlt:((c.funs.take j).map slB).length<=1000000:=by rw [List.length_map,List.length_take];omega
  have hE:=B9 c.funs[j];have hE2:G4 (slB c.funs[j])=_:=B9 (slB c.funs[j]);simp only [slB] at hE2;have hE3:=A0 (lessT c.funs[j].term);rw [A0,hE3] at hcc;have hbb:slB c.funs[j]=⟨c.funs[j].params,c.funs[j].slots,lessT c.funs[j].term⟩:=rfl;rw [hbb] at hts;have h1':=h1;rw [A7] at h1;generalize lessT c.funs[j].term=y at hcc hts hE2 hE3;generalize (c.funs.take j).map slB=L at hB hts hlt
  have hlen3:L.length<=1073741823:=by omega
  rcases hB with _|_
  all_goals
   simp [h1,h2,h3,h4,hj,hcc,hw,hE,hE2,hlen3];rw [hI];dsimp only;rw [hts];exact ⟨rfl,rfl,by simp [h1'],by simp [h2],⟨_,.own _,by simp [hE2]⟩,by simp⟩
 ·rw [hI];rintro ⟨tm,df,clk⟩ σ' ⟨rfl,rfl,h1,h2,⟨v,hB,h3⟩,h4⟩;rw [List.take_of_length_le (Nat.le_refl _)] at hB;have h1':=h1;rw [A7] at h1;simp [h1,h4];rw [hR];exact ⟨rfl,rfl,rfl,by simp [h1'],by simp [h2],v,hB,by simp [h3]⟩
 ·rw [hR];rintro ex ⟨tm,df,clk⟩ σ' ⟨rfl,rfl,rfl,h1,h2,v,hB,h3⟩;simp;exact ⟨h1,h2,v,hB,h3⟩
theorem B54 (h53:F 53=some f1053) (c:PCore) (hc:OkC c) (hfl:c.funs.length<=1000000) (N b:Nat) (σ:Sto) (hN:c.funs.length<N) (hz:∀f∈c.funs,∀b σ,A4 F O N b 15 [.agg (A5 f.term)] σ=some (.ret (.agg (A5 (lessT f.term))),σ)) (hzq:∀b σ,A4 F O N b 15 [.agg (A5 c.query.term)] σ=some (.ret (.agg (A5 (lessT c.query.term))),σ)):
  A4 F O (N+1) b 53 [.agg (E9 c)] σ=some (.ret (.agg (E9 (slC c))),σ):=by
 have hcc:=hzq σ.length σ;have hE3:=A0 (lessT c.query.term);rw [A0,hE3] at hcc;refine A3 h53 ?_;simp [B7u,A7 c];apply E2
 ·apply C01 c hc hfl hN hz (v2:=_) (s3:=_) (t0:=.sl .fz (c.types.map K2)) (Q:=[.int .i64 c.query.params,.int .i64 c.query.slots,.int .i64 c.query.term.kind,.int .i64 c.query.term.n,.int .i64 c.query.term.m,.int .i64 c.query.term.val.kind,.int .i64 c.query.term.val.n,.sl .fz (c.query.term.val.list.map C9),.sl .fz (c.query.term.odds.map encI),.sl .fz (c.query.term.kids.map A5),.int .i64 c.sites]) (hQ:=rfl)
  ·rfl
  ·simp [A7 c]
  ·simp;rfl
  ·simp;rfl
 rintro ex ⟨tm,df,clk⟩ σ' ⟨rfl,rfl,hdf,g1,g2,v,hB,g3⟩;simp only at hdf g1 g2 g3;subst hdf;rw [A7] at g1;have hR:E9 (slC c)=_:=A7 (slC c);simp only [slC,slB] at hR;rw [show slC c=⟨c.types,c.funs.map slB,⟨c.query.params,c.query.slots,lessT c.query.term⟩,c.sites⟩ from rfl,hR];clear hR;generalize c.funs.map slB=L at hB;generalize lessT c.query.term=y at hcc hE3;rcases hB with _|_
 ·simp [g1,g2,g3,hcc]
 ·simp [g1,g2,g3,hcc]
def f1049v:TFun:=⟨x1049,B5C,false,true⟩
@[simp] theorem C6Z:f1049v.an=B5C:=rfl
@[simp] theorem C2s:f1049v.fn.body=x1049.body:=rfl
@[simp] theorem C2t:f1049v.keep=false:=rfl
@[simp] theorem C4V:f1049v.fn.results=[.tmp 2]:=rfl
theorem B68:∀l:List PTyp,A1S 2 l.length (l.map K2).flatten=l.map K2
 |[]=>rfl
 |t::l=>by
  simp only [List.length_cons,A1S,List.map_cons,List.flatten_cons];rw [List.take_append_of_le_length (by rw [A25];omega),List.take_of_length_le (by rw [A25];omega),List.drop_append_of_le_length (by rw [A25];omega),List.drop_of_length_le (by rw [A25];omega),List.nil_append,B68 l]
theorem A6r (l:List PTyp):(l.map K2).flatten.length=l.length*2:=by
 induction l with
 |nil=>rfl
 |cons t l ih=>simp only [List.map_cons,List.flatten_cons,List.length_append,A25,List.length_cons,ih];omega
theorem B3E (l:List PTyp):(l.map K2).flatten.any D1=false:=by
 rw [List.any_eq_false];intro x hx;obtain ⟨c,hc,hx⟩:=List.mem_flatten.1 hx;obtain ⟨t,_,rfl⟩:=List.mem_map.1 hc;rw [F6] at hx;simp only [List.mem_cons,List.not_mem_nil,or_false] at hx;rcases hx with rfl|rfl<;>simp [D1]
theorem C1y {σ2:Sto} {k0 j ver e:Nat} (n c:Nat) (l:List PTyp) (hj:k0<=j) (hk:σ2.at j=some ⟨ver,.cells (l.map K2).flatten e⟩) (hc:c=D3+2):X8 σ2 k0 (n+1) (.ref j 0 2 l.length c)=.sl .fz (l.map K2):=by
 have h3:(l.map K2).map (fun ch=>ch.map (X8 σ2 k0 n))=l.map K2:=by
  rw [List.map_map];apply List.map_congr_left;intro x _;simp only [Function.comp,F6,List.map_cons,List.map_nil];cases n<;>rfl
 have hb:Nat.ble k0 j=true:=by rw [D4];exact decide_eq_true hj
 unfold X8;rw [hb,hk];have hle:(Nat.ble (0+l.length*2) (l.map K2).flatten.length&& !(((l.map K2).flatten.drop 0).take (l.length*2)).any D1&&(Nat.blt c D3||Nat.beq c (D3+2)))=true:=by
  rw [List.drop_zero,List.take_of_length_le (by rw [A6r];omega),B3E,hc,A6r];simp
 dsimp only;rw [hle];simp only [List.drop_zero,B68,h3]
theorem B0A (h49:F 49=some f1049v) (N b:Nat) (l:List PTyp) (σ:Sto) (hl:l.length<=1000000):A4 F O (N+1) b 49 [.sl .fz (l.map K2)] σ=some (.ret (.sl .fz (l.map K2)),σ):=by
 cases l with
 |nil=>simp [A4,h49,B6z,f1049v]
 |cons t l=>
  generalize hL:t::l=L at hl;have hne:L≠[]:=by rw [<-hL];simp
  refine A3 h49 ?_ (by rw [<-hL];rfl);have hp:=G0 σ ⟨0,.cells [] 66⟩;have h2:(L.map K2).isEmpty=false:=by cases L<;>simp_all
  have h3:((L.map K2).all fun c=>decide (c.length=2))=true:=by
   rw [List.all_eq_true];intro c hc;obtain ⟨q,_,rfl⟩:=List.mem_map.1 hc;simp
  have h4:0<L.length:=by cases L<;>simp_all
  have h5:L.length<=1073741824:=by omega
  have hat:Sto.at (σ++[some (⟨0,.cells [] 66⟩:TObj),some ⟨0,.cells (L.map K2).flatten 66⟩]) (σ.length+1)=some ⟨0,.cells (L.map K2).flatten 66⟩:=by simp [Sto.at]
  have hth:=C1y (k0:=σ.length) 3 (D3+2) L (by omega) hat rfl;have hbl:=A8C σ.length L;generalize hE:L.map K2=E at*;have hEl:E.length=L.length:=by rw [<-hE];simp
  obtain ⟨e0,es,rfl⟩:∃e0 es,E=e0::es:=by
   cases E with
   |nil=>simp at h2
   |cons a b=>exact ⟨a,b,rfl⟩
  have hEl2:es.length+1=L.length:=by simpa using hEl
  rw [List.flatten_cons] at hth;have hbl2:below σ.length (.sl .fz (e0::es))=true:=by simpa [below] using hbl
  simp [x1049,h2,h3,h4,h5,hp,hEl,hEl2,-X8,hth,-below,hbl2]
end
section
open Go Go.Xe Go.Xt
variable {F:FuncId->Option TFun} {O:FuncId->List TV->Option TV}
open Classical in
noncomputable def reachL (c:PCore):List Bool:=(List.range c.funs.length).map fun j=>decide (ReachC c j)
theorem ReachC.lt {c:PCore} {j:Nat} (h:ReachC c j):j<c.funs.length:=by
 cases h with
 |base h=>grind [A0D]
 |step _ _ h=>grind [A0D]
theorem A3r (c:PCore):IsReach c (reachL c):=by
 refine ⟨by simp [reachL],fun j=> ?_⟩;unfold reachL;rw [List.getElem?_map]
 by_cases hj:j<c.funs.length
 ·grind
 ·rw [List.getElem?_eq_none (by simp;omega)];simp only [Option.map_none];exact ⟨fun h=>(by cases h),fun h=>absurd h.lt hj⟩
theorem IsReach.is {c:PCore} {l:List Bool} (h:IsReach c l):l=reachL c:=h.eq (A3r c)
def C02:XCode:=(by exact fun x _=>x:V0 (gT x1017.body [1,1,1,1,1,1,1,1,1,0])) _ (by conv=>lhs;cbv)
def C03:XCode:=(by exact fun x _=>x:V0 (gT x1017.body [1,1,1,1,1,1,0])) _ (by conv=>lhs;cbv)
theorem B0B:x1017=(by exact fun x _=>x:V2 (fun a b=>({x1017 with body:=pT (pT (x1017.body) [1,1,1,1,1,1,0] a) [1,1,1,1,1,1,1,1,1,0] b}:XFun))) _ (by intros;conv=>lhs;cbv) C03 C02:=rfl
theorem B7v (l:List Int) (o:Nat) (v:Int) (h:o<l.length):putAt (encZT l) o [.int .i64 v]=encZT (l.set o v):=by
 unfold putAt encZT;rw [List.map_set];simp only [List.length_cons,List.length_nil];rw [List.set_eq_take_append_cons_drop,if_pos (by simpa using h)];simp
def toJ (l:List Bool) (j:Nat):List Int:=(toC l).take j++List.replicate (l.length - j) 0
theorem C1z (l:List Bool) {j:Nat} (h:j<=l.length):(toJ l j).length=l.length:=by
 grind [toJ,A12]
theorem C04 (l:List Bool) {j:Nat} (h:j<l.length):(toJ l j).set j ((l.take j).count true:Int)=toJ l (j+1):=by
 have hj:j<(toC l).length:=by rw [A12];exact h
 have h1:((toC l).take j).length=j:=by rw [List.length_take];omega
 unfold toJ;rw [List.set_append_right _ _ (by omega),h1,Nat.sub_self,H9 hj,B67 l h];have:l.length - j=(l.length - (j+1))+1:=by omega
 grind
theorem C1A {N b:Nat} (l:List Bool) (hlm:l.length<=1000) (hN:l.length<N) (kt cap ver:Nat) (a:TAct) (σ:Sto) (hat:σ.at kt=some ⟨ver,.cells (encZT (List.replicate l.length 0)) 3⟩) (v1 v2:TV)
  (hdf:a.df=[]) (h1:a.tm.get 1=some v1) (h2:a.tm.get 2=some v2) (h4:a.tm.get 4=some (.sl .fz (l.map K0))) (h5:a.tm.get 5=some (.ref kt 0 1 l.length cap)) (h6:a.tm.get 6=some (.int .i64 0)):
  Tw A9V b (A4 F O N) N (fun ex a' σ'=>ex=.normal/\(∃ver',σ'=σ.set kt (some ⟨ver',.cells (encZT (toC l)) 3⟩))/\a'.df=[]/\a'.tm.get 1=some v1/\a'.tm.get 2=some v2/\a'.tm.get 4=some (.sl .fz (l.map K0))/\a'.tm.get 5=some (.ref kt 0 1 l.length cap)) [] (B6 A9V b (A4 F O N) N C03 a σ):=by
 obtain ⟨tm,df,clk⟩:=a;simp only at hdf h1 h2 h4 h5 h6;subst hdf;have hkl:=Sto.lt hat;simp [C03,h4]
 obtain ⟨I,hI⟩:∃I:Nat->TAct->Sto->Prop,I=(fun j a' σ'=>a'.df=[]/\(∃ver',σ'=σ.set kt (some ⟨ver',.cells (encZT (toJ l j)) 3⟩))/\a'.tm.get 1=some v1/\a'.tm.get 2=some v2/\a'.tm.get 4=some (.sl .fz (l.map K0))/\a'.tm.get 5=some (.ref kt 0 1 l.length cap)/\a'.tm.get 6=some (.int .i64 ((l.take j).count true:Nat))/\a'.tm.get 25=some (.sl .fz (l.map K0))/\a'.tm.get 26=some (.int .i64 l.length)/\a'.tm.get 27=some (.int .i64 j)):=⟨_,rfl⟩
 obtain ⟨R,hR⟩:∃R:TEx->TAct->Sto->Prop,R=(fun ex a' σ'=>ex=.exit 0/\(∃ver',σ'=σ.set kt (some ⟨ver',.cells (encZT (toC l)) 3⟩))/\a'.df=[]/\a'.tm.get 1=some v1/\a'.tm.get 2=some v2/\a'.tm.get 4=some (.sl .fz (l.map K0))/\a'.tm.get 5=some (.ref kt 0 1 l.length cap)):=⟨_,rfl⟩;refine A9 I l.length R ?_ (by omega) ?_ ?_ ?_
 ·rw [hI];exact ⟨rfl,⟨ver,by rw [show toJ l 0=List.replicate l.length 0 by simp [toJ]];exact (A5K hat).symm⟩,by simp [h1],by simp [h2],by simp [h4],by simp [h5],by simp [h6],by simp,by simp,by simp⟩
 ·rw [hI];rintro j ⟨tm,df,clk⟩ σ' hj ⟨rfl,⟨v1',rfl⟩,h1,h2,h4,h5,h6,h25,h26,h27⟩;rw [<-hI];simp only at h1 h2 h4 h5 h6 h25 h26 h27;have hw:=C8 hj (by unfold maxLen;omega);have hj1:j+1<=l.length:=hj;have hcs:(l.take (j+1)).count true=(l.take j).count true+(if l[j]=true then 1 else 0):=by rw [H9 hj,List.count_append];cases l[j]<;>simp
  have hct:(l.take j).count true<=1000000:=Nat.le_trans List.count_le_length (by rw [List.length_take];omega);have hw2:IntKind.i64.wrap (((l.take j).count true:Nat)+1:Int)=(((l.take j).count true+1:Nat):Int):=by rw [D7]<;>omega
  have hst:=C04 l hj;have htl:=C1z l (Nat.le_of_lt hj);have hpb:=B7v (toJ l j) j ((l.take j).count true:Int) (by omega);rw [hst] at hpb;have hel:(encZT (toJ l j)).length=l.length:=by rw [L7];exact htl
  have hat2:Sto.at (σ.set kt (some ⟨v1',.cells (encZT (toJ l j)) 3⟩)) kt=some ⟨v1',.cells (encZT (toJ l j)) 3⟩:=by simp [Sto.at,hkl]
  have hbl:(l.map K0)[j]? =some [.bool l[j]]:=by rw [List.getElem?_map,List.getElem?_eq_getElem hj];rfl
  have hbn:(l.map K0).length=l.length:=by simp
  have h4':=h4;have h25':=h25;generalize l.map K0=BL at h4 h25 hbl hbn;have hbl2:∀h:j<BL.length,BL[j]=[.bool l[j]]:=fun h=>by rw [List.getElem?_eq_getElem h] at hbl;exact Option.some.inj hbl
  generalize (l.take j).count true=q at*;generalize encZT (toJ l j)=EZ at*;cases hx:l[j] with
  |false=>
   rw [hx] at hcs hbl hbl2;simp [h1,h2,h4,h5,h6,h25,h26,h27,hj,hj1,hw,hat2,hel,hbl,hbl2,hbn];rw [hI];exact ⟨rfl,⟨v1'+1,by rw [<-hpb];simp [putAt]⟩,by simp [h1],by simp [h2],by simp [h4'],by simp [h5],by simp [h6,hcs],by simp [h25'],by simp [h26],by simp⟩
  |true=>
   rw [hx] at hcs hbl hbl2;simp [h1,h2,h4,h5,h6,h25,h26,h27,hj,hj1,hw,hw2,hat2,hel,hbl,hbl2,hbn];rw [hI];exact ⟨rfl,⟨v1'+1,by rw [<-hpb];simp [putAt]⟩,by simp [h1],by simp [h2],by simp [h4'],by simp [h5],by simp [hcs],by simp [h25'],by simp [h26],by simp⟩
 ·rw [hI];rintro ⟨tm,df,clk⟩ σ' ⟨rfl,⟨v1',rfl⟩,h1,h2,h4,h5,h6,h25,h26,h27⟩;simp only at h1 h2 h4 h5 h26 h27;simp [h26,h27];rw [hR];have e:toJ l l.length=toC l:=by unfold toJ;rw [List.take_of_length_le (by rw [A12];omega),Nat.sub_self];simp
  rw [e];exact ⟨rfl,⟨_,rfl⟩,rfl,by simp [h1],by simp [h2],by simp [h4],by simp [h5]⟩
 simp_all
theorem C1B {N b:Nat} (h50:F 50=some f1050) (c:PCore) (hc:OkC c) (l:List Bool) (hl:l.length=c.funs.length) (hfl:c.funs.length<=1000000) (hN:c.funs.length<N) (hz:∀f∈c.funs,E3 f.term<=N/\cntT f.term<=3000) (hct:cntFs c.funs<=1000000) (to:List Int) (htl:to.length=c.funs.length) (hok:∀f∈c.funs,F1 c.funs.length f.term=true)
  (a:TAct) (σ:Sto) (kt cap ver:Nat) (hat:σ.at kt=some ⟨ver,.cells (encZT to) 3⟩) (v2 t0:TV) (Q:List TV) (s5:Nat) (hQ:Q.length=11)
  (hdf:a.df=[]) (h1:a.tm.get 1=some (.bx 0 (E9 c) 40)) (h2:a.tm.get 2=some v2) (h4:a.tm.get 4=some (.sl .fz (l.map K0))) (h5:a.tm.get 5=some (.ref kt 0 1 c.funs.length cap)) (h9:a.tm.get 9=some (.bx s5 (t0::.sl .nl []::Q) 40)) (h10:a.tm.get 10=some (.int .i64 0)):
  Tw A9V b (A4 F O N) N (fun ex a' σ'=>ex=.normal/\σ'=σ/\a'.df=[]/\a'.tm.get 2=some v2/\a'.tm.get 5=some (.ref kt 0 1 c.funs.length cap)/\(∃v,Bld 38 10 G4 (C6 to l c.funs 0).1 v/\a'.tm.get 9=some (.bx s5 (t0::v::Q) 40))/\a'.tm.get 10=some (.int .i64 (C6 to l c.funs 0).2)) [] (B6 A9V b (A4 F O N) N C02 a σ):=by
 obtain ⟨tm,df,clk⟩:=a;simp only at hdf h1 h2 h4 h5 h9 h10;subst hdf;obtain ⟨q0,q1,q2,q3,q4,q5,q6,q7,q8,q9,q10,rfl⟩:∃a b c d e f g h i j k,Q=[a,b,c,d,e,f,g,h,i,j,k]:=by
  match Q,hQ with|[a,b,c,d,e,f,g,h,i,j,k],_=>exact ⟨a,b,c,d,e,f,g,h,i,j,k,rfl⟩
 rw [A7] at h1;simp [C02,h1]
 obtain ⟨I,hI⟩:∃I:Nat->TAct->Sto->Prop,I=(fun j a' σ'=>a'.df=[]/\σ'=σ/\a'.tm.get 2=some v2/\a'.tm.get 4=some (.sl .fz (l.map K0))/\a'.tm.get 5=some (.ref kt 0 1 c.funs.length cap)/\(∃v,Bld 38 10 G4 (C6 to (l.take j) (c.funs.take j) 0).1 v/\a'.tm.get 9=some (.bx s5 [t0,v,q0,q1,q2,q3,q4,q5,q6,q7,q8,q9,q10] 40))/\a'.tm.get 10=some (.int .i64 (C6 to (l.take j) (c.funs.take j) 0).2)/\
  a'.tm.get 47=some (.sl .fz (c.funs.map G4))/\a'.tm.get 48=some (.int .i64 c.funs.length)/\a'.tm.get 49=some (.int .i64 j)):=⟨_,rfl⟩
 obtain ⟨R,hR⟩:∃R:TEx->TAct->Sto->Prop,R=(fun ex a' σ'=>ex=.exit 2/\σ'=σ/\a'.df=[]/\a'.tm.get 2=some v2/\a'.tm.get 5=some (.ref kt 0 1 c.funs.length cap)/\(∃v,Bld 38 10 G4 (C6 to l c.funs 0).1 v/\a'.tm.get 9=some (.bx s5 [t0,v,q0,q1,q2,q3,q4,q5,q6,q7,q8,q9,q10] 40))/\a'.tm.get 10=some (.int .i64 (C6 to l c.funs 0).2)):=⟨_,rfl⟩;refine A9 I c.funs.length R ?_ (by omega) ?_ ?_ ?_
 ·rw [hI];refine ⟨rfl,rfl,by simp [h2],by simp [h4],by simp [h5],⟨.sl .nl [],?_,by simp [h9]⟩,by simp [h10,C6],by simp,by simp,by simp⟩;simp only [List.take_zero,C6];exact .nl
 ·rw [hI];rintro j ⟨tm,df,clk⟩ σ' hj ⟨rfl,rfl,h2,h4,h5,⟨v,hB,h9⟩,h10,h47,h48,h49⟩;rw [<-hI];simp only at h2 h4 h5 h9 h10 h47 h48 h49;have hw:=C8 hj hc.flen;have hjl:j<l.length:=by omega
  have hj1:j+1<=l.length:=hjl;have hmem:=List.getElem_mem hj;have hks:=A8J to 0 hj hl;have hst:=Y2 to (l.take j) (c.funs.take j) 0;have hst2:=A8I hj;have hlt:(C6 to (l.take j) (c.funs.take j) 0).1.length<=1000000:=by
   grind [A26]
  have hcc:=B1x (O:=O) h50 (E3 c.funs[j].term) N c.funs[j].term to kt c.funs.length cap b σ' ver (C6 to (l.take j) (c.funs.take j) 0).2 (Nat.le_refl _) (hz _ hmem).1 (hc.funs _ hmem).term (hz _ hmem).2 (by omega) (by omega) htl (hok _ hmem) hat;have hE:=B9 c.funs[j];have hE2:=B9 ⟨c.funs[j].params,c.funs[j].slots,(H2 to c.funs[j].term (C6 to (l.take j) (c.funs.take j) 0).2).1⟩
  have hE3:=A0 (H2 to c.funs[j].term (C6 to (l.take j) (c.funs.take j) 0).2).1;rw [A0 c.funs[j].term,hE3] at hcc;simp only at hE2;generalize (H2 to c.funs[j].term (C6 to (l.take j) (c.funs.take j) 0).2).1=y at hcc hks hE2 hE3;generalize (H2 to c.funs[j].term (C6 to (l.take j) (c.funs.take j) 0).2).2=z at hcc hks;generalize hK:C6 to (l.take j) (c.funs.take j) 0=K at*;obtain ⟨L,q⟩:=K
  simp only at hB hlt hcc hks h10;have hlen3:L.length<=1073741823:=by omega
  cases hx:l[j] with
  |false=>
   simp_all [K0]
  |true=>
   rw [hx,if_pos rfl] at hks;rcases hB with _|_
   all_goals
    simp [h2,h4,h5,h9,h10,h47,h48,h49,hj,hjl,hj1,hw,hx,K0,hcc,hE,hE2,hlen3];rw [hI];dsimp only;rw [hks];exact ⟨rfl,rfl,by simp [h2],by simp [h4],by simp [h5],⟨_,.own _,by simp [hE2]⟩,by simp,by simp [h47],by simp [h48],by simp⟩
 ·rw [hI];rintro ⟨tm,df,clk⟩ σ' ⟨rfl,rfl,h2,h4,h5,⟨v,hB,h9⟩,h10,h47,h48,h49⟩;rw [List.take_of_length_le (by omega:l.length<=c.funs.length),List.take_of_length_le (Nat.le_refl _)] at hB h10;simp_all
 simp_all
end
section
open Go Go.Xe Go.Xt
theorem C05 (P:PTerm->Prop) (t:PTerm) (h:P t) (hk:∀x∈t.kids,P x):P (A0O t):=by
 unfold A0O
 repeat' split
 all_goals first|exact h|(rename_i e;exact hk _ (by rw [e];simp))|(rename_i e _;exact hk _ (by rw [e];simp))|(rename_i e _ _;exact hk _ (by rw [e];simp))|(rename_i e _ _ _;exact hk _ (by rw [e];simp))
theorem A4i (n:Nat):∀(M:Nat) (t:PTerm),E3 t<=M->F1 n t=true->F1 n (lessT t)=true
 |0,t,h,_=>by rw [B5] at h;omega
 |M+1,t,h,ho=>by
  have hs:=B5 t;rw [Y8,Bool.and_eq_true] at ho;have hk:∀x∈t.kids.map lessT,F1 n x=true:=fun x hx=>by
   obtain ⟨y,hy,rfl⟩:=List.mem_map.1 hx;exact A4i n M y (by have:=D9 _ _ hy;omega) ((O9 _ _).1 ho.2 y hy)
  rw [A1Z];refine C05 (fun t=>F1 n t=true) _ ?_ hk;rw [Y8,Bool.and_eq_true];exact ⟨ho.1,(O9 _ _).2 hk⟩
structure CB (M:Nat) (c:PCore):Prop where
 ok:OkC c
 szt:A1c c.types<=M
 sz:∀f∈c.funs,E3 f.term<=M
 szq:E3 c.query.term<=M
 cnt:∀f∈c.funs,cntT f.term<=2000/\Lt 1000000 f.term
 cntq:cntT c.query.term<=2000/\Lt 1000000 c.query.term
structure CR (M:Nat) (c:PCore):Prop extends CB M c where
 tl:c.types.length<=8
 ty:∀t∈c.types,LtTy t
 fl:c.funs.length<=40
 calls:∀f∈c.funs,F1 c.funs.length f.term=true
 callsq:F1 c.funs.length c.query.term=true
theorem CB.right {M:Nat} {c:PCore} (h:CB M c) (hr:V8 c=true):CR M c:=by
 have hc:=B4S hr;unfold V8 at hr;rw [Bool.and_eq_true,decide_eq_true_eq,Bool.and_eq_true] at hr;exact { h with tl:=hr.1.1,ty:=fun t ht=>B1y 40 t (List.all_eq_true.1 hr.2.1 t ht),fl:=hr.1.2.1,calls:=hc.1,callsq:=hc.2 }
theorem CR.sliced {M:Nat} {c:PCore} (h:CR M c):CR M (slC c):=by
 have key:∀t,E3 t<=M->OkTm t->cntT t<=2000/\Lt 1000000 t->E3 (lessT t)<=M/\OkTm (lessT t)/\cntT (lessT t)<=2000/\Lt 1000000 (lessT t):=fun t h1 h2 h3=>by
  have:=A0o _ t (Nat.le_refl _);exact ⟨by omega,this.2.2.1 h2,by omega,this.2.2.2 _ h3.2⟩
 have hf:∀f∈(slC c).funs,∃g∈c.funs,f=slB g:=fun f hf=>by
  obtain ⟨g,hg,rfl⟩:=List.mem_map.1 hf;exact ⟨g,hg,rfl⟩
 have hl:(slC c).funs.length=c.funs.length:=by simp [slC]
 refine { ok:=⟨h.ok.tlen,h.ok.types,by rw [hl];exact h.ok.flen,fun f hf'=> ?_,⟨h.ok.query.params,h.ok.query.slots,(key _ h.szq h.ok.query.term h.cntq).2.1⟩,h.ok.sites⟩,szt:=h.szt,sz:=fun f hf'=> ?_,szq:=(key _ h.szq h.ok.query.term h.cntq).1,cnt:=fun f hf'=> ?_,cntq:=(key _ h.szq h.ok.query.term h.cntq).2.2,tl:=h.tl,ty:=h.ty,fl:=by rw [hl];exact h.fl,calls:=fun f hf'=> ?_,callsq:=?_ }
 ·obtain ⟨g,hg,rfl⟩:=hf f hf';exact ⟨(h.ok.funs g hg).params,(h.ok.funs g hg).slots,(key _ (h.sz g hg) (h.ok.funs g hg).term (h.cnt g hg)).2.1⟩
 ·obtain ⟨g,hg,rfl⟩:=hf f hf';exact (key _ (h.sz g hg) (h.ok.funs g hg).term (h.cnt g hg)).1
 ·obtain ⟨g,hg,rfl⟩:=hf f hf';exact (key _ (h.sz g hg) (h.ok.funs g hg).term (h.cnt g hg)).2.2
 ·obtain ⟨g,hg,rfl⟩:=hf f hf';rw [hl];exact A4i _ _ _ (Nat.le_refl _) (h.calls g hg)
 ·rw [hl];exact A4i _ _ _ (Nat.le_refl _) h.callsq
theorem O2 {z:Int} (h0:0<=z) (h1:z<=1000000):I64 z:=by constructor<;>omega
theorem A4j (to:List Int) (hto:∀z∈to,I64 z):∀(M:Nat) (t:PTerm) (s:Int),E3 t<=M->0<=s->s+cntT t<=1000000->
  E3 (H2 to t s).1=E3 t/\cntT (H2 to t s).1=cntT t/\(OkTm t->OkTm (H2 to t s).1)/\∀B,Lt B t->Lt B (H2 to t s).1
 |0,t,s,h,_,_=>by rw [B5] at h;omega
 |M+1,t,s,h,h0,h1=>by
  have hs:=B5 t;have hcd:=J8 t;have key:∀(l:List PTerm) (s:Int),(∀x∈l,E3 x<=M)->0<=s->s+F7 l<=1000000->A0R (D0 to l s).1=A0R l/\F7 (D0 to l s).1=F7 l/\((∀x∈l,OkTm x)->∀y∈(D0 to l s).1,OkTm y)/\∀B,(∀x∈l,Lt B x)->∀y∈(D0 to l s).1,Lt B y:=by
   intro l
   induction l with
   |nil=>intro s _ _ _;simp [D0,A0R,F7]
   |cons x l ih=>
    intro s hx h0 h1;simp only [F7] at h1;have hst:=A16 to _ x s (Nat.le_refl _);have k1:=A4j to hto M x s (hx x (by simp)) h0 (by omega);have k2:=ih (H2 to x s).2 (fun y hy=>hx y (by simp [hy])) (by omega) (by omega);simp only [D0,A0R,F7];refine ⟨by omega,by omega,fun ho y hy=> ?_,fun B ho y hy=> ?_⟩
    ·rcases List.mem_cons.1 hy with rfl|hy
     ·exact k1.2.2.1 (ho x (by simp))
     ·exact k2.2.2.1 (fun z hz=>ho z (by simp [hz])) y hy
    ·rcases List.mem_cons.1 hy with rfl|hy
     ·exact k1.2.2.2 B (ho x (by simp))
     ·exact k2.2.2.2 B (fun z hz=>ho z (by simp [hz])) y hy
  have hS:0<=U0 t s/\U0 t s+F7 t.kids<=1000000:=by unfold U0;split<;>omega
  have k:=key t.kids (U0 t s) (fun x hx=>by have:=D9 _ _ hx;omega) hS.1 hS.2;have hl:=A3q to t.kids (U0 t s);rw [A5e];simp only;refine ⟨?_,?_,fun ho=> ?_,fun B hB=> ?_⟩
  ·rw [B5,hs];have:=k.1;show A0R (D0 to t.kids (U0 t s)).1+szV t.val+t.odds.length+8=_;omega
  ·rw [J8,hcd];have:=k.2.1;show F7 (D0 to t.kids (U0 t s)).1+1=_;omega
  ·refine .mk ho.kind ?_ ho.m ho.val ho.olen ho.odds (by rw [hl];exact ho.len) (k.2.2.1 ho.sub);unfold A1D;split
   ·exact O2 h0 (by omega)
   ·split
    ·cases hq:to[t.n.toNat]? with
     |none=>exact O2 (Int.le_refl _) (by simp)
     |some z=>exact hto z (List.mem_of_getElem? hq)
    ·exact ho.n
  ·exact .mk hB.val hB.odds (k.2.2.2 B hB.sub)
theorem A5S (to:List Int):∀(l:List Bool) (fs:List PBody) (s:Int),0<=s->s+cntFs fs<=1000000->∀y∈(C6 to l fs s).1,∃f∈fs,∃s':Int,0<=s'/\s'+cntT f.term<=1000000/\y=⟨f.params,f.slots,(H2 to f.term s').1⟩
 |true::l,f::fs,s,h0,h1,y,hy=>by
  simp only [cntFs] at h1;simp only [C6] at hy;have hst:=A16 to _ f.term s (Nat.le_refl _);rcases List.mem_cons.1 hy with rfl|hy
  ·exact ⟨f,by simp,s,h0,by omega,rfl⟩
  ·obtain ⟨g,hg,s',h2⟩:=A5S to l fs _ (by omega) (by omega) y hy;exact ⟨g,by simp [hg],s',h2⟩
 |false::l,f::fs,s,h0,h1,y,hy=>by
  simp only [cntFs] at h1;simp only [C6] at hy;obtain ⟨g,hg,s',h2⟩:=A5S to l fs _ h0 (by omega) y hy;exact ⟨g,by simp [hg],s',h2⟩
 |[],fs,s,h0,h1,y,hy=>by cases fs<;>simp [C6] at hy
 |true::_,[],s,h0,h1,y,hy=>by simp [C6] at hy
 |false::_,[],s,h0,h1,y,hy=>by simp [C6] at hy
theorem B3F:∀(l:List PBody) (B:Nat),(∀f∈l,cntT f.term<=B)->cntFs l<=l.length*B
 |[],B,_=>by simp [cntFs]
 |f::l,B,h=>by
  have h1:=h f (by simp);have h2:=B3F l B fun g hg=>h g (by simp [hg])
  simp only [cntFs,List.length_cons,Nat.succ_mul];omega
theorem C1C (l:List Bool) (h:l.length<=1000):∀z∈toC l,I64 z:=fun z hz=>by
 unfold toC at hz;obtain ⟨i,_,rfl⟩:=List.mem_map.1 hz;have:(l.take i).count true<=1000:=Nat.le_trans List.count_le_length (by rw [List.length_take];omega);exact O2 (by omega) (by omega)
theorem CR.cntFs {M:Nat} {c:PCore} (h:CR M c):cntFs c.funs<=80000:=by
 have:=B3F c.funs 2000 fun f hf=>(h.cnt f hf).1
 have:=h.fl;have:c.funs.length*2000<=40*2000:=Nat.mul_le_mul_right _ h.fl;omega
theorem CR.ren {M:Nat} {c:PCore} (h:CR M c) (l:List Bool) (hl:l.length=c.funs.length):CB M (A08 c l)/\(A08 c l).funs.length<=40:=by
 have hto:=C1C l (by have:=h.fl;omega);have hF:=h.cntFs;have hlen:=A26 (toC l) l c.funs 0;have hst:=Y2 (toC l) l c.funs 0;have hq:=A4j (toC l) hto _ c.query.term (C6 (toC l) l c.funs 0).2 (Nat.le_refl _) (by omega) (by have:=h.cntq;omega);have hqs:=A16 (toC l) _ c.query.term (C6 (toC l) l c.funs 0).2 (Nat.le_refl _)
 have hm:∀y∈(A08 c l).funs,∃f∈c.funs,y.params=f.params/\y.slots=f.slots/\E3 y.term=E3 f.term/\cntT y.term=cntT f.term/\(OkTm f.term->OkTm y.term)/\∀B,Lt B f.term->Lt B y.term:=fun y hy=>by
  obtain ⟨f,hf,s',h0,h1,rfl⟩:=A5S (toC l) l c.funs 0 (by omega) (by omega) y hy;have k:=A4j (toC l) hto _ f.term s' (Nat.le_refl _) h0 h1;exact ⟨f,hf,rfl,rfl,k.1,k.2.1,k.2.2.1,k.2.2.2⟩
 refine ⟨{ ok:=⟨h.ok.tlen,h.ok.types,?_,fun y hy=> ?_,⟨h.ok.query.params,h.ok.query.slots,hq.2.2.1 h.ok.query.term⟩,O2 (by simp only [A08];omega) (by simp only [A08];have:=h.cntq;omega)⟩,szt:=h.szt,sz:=fun y hy=> ?_,szq:=by simp only [A08];rw [hq.1];exact h.szq,cnt:=fun y hy=> ?_,cntq:=⟨by simp only [A08];rw [hq.2.1];exact h.cntq.1,hq.2.2.2 _ h.cntq.2⟩ },?_⟩
 ·have:=h.ok.flen;simp only [A08];omega
 ·obtain ⟨f,hf,e1,e2,_,_,e5,_⟩:=hm y hy;exact ⟨by rw [e1];exact (h.ok.funs f hf).params,by rw [e2];exact (h.ok.funs f hf).slots,e5 (h.ok.funs f hf).term⟩
 ·obtain ⟨f,hf,_,_,e3,_⟩:=hm y hy;rw [e3];exact h.sz f hf
 ·obtain ⟨f,hf,_,_,_,e4,_,e6⟩:=hm y hy;exact ⟨by rw [e4];exact (h.cnt f hf).1,e6 _ (h.cnt f hf).2⟩
 ·have:=h.fl;simp only [A08];omega
end
section
open Go Go.Xe Go.Xt
variable {F:FuncId->Option TFun} {O:FuncId->List TV->Option TV}
def A09:PCore:=⟨[],[],⟨0,0,.mk 0 0 0 (.mk 0 0 []) [] []⟩,0⟩
noncomputable def A2B (c:PCore):PCore×Int:=match V8 c with
 |true=>(A08 (slC c) (reachL (slC c)),0)
 |false=>(A09,1)
structure KFits (F:FuncId->Option TFun) (O:FuncId->List TV->Option TV):Prop where
 c:CFits F
 l:LFits F O
 o:OFits F
 h17:F 17=some f1017
 h47:F 47=some f1047
 h48:F 48=some f1048
 h49:F 49=some f1049v
 h50:F 50=some f1050
 h41:F 41=some f1041
 h88:F 88=some f1088
 h21:F 21=some f1021
theorem A8K {M N:Nat} {c:PCore} (h:CB M c) (hf:c.funs.length<=1000) (hN:5*M+100200<=N):Lim N c:=
 ⟨by have:=h.szt;omega,fun f hf'=>by have:=h.sz f hf';omega,by omega,by have:=h.szq;omega⟩
theorem B0C:∀n,A4P [TV.int .i64 0] n=encZT (List.replicate n 0)
 |0=>rfl
 |n+1=>by simp only [A4P,B0C n];rfl
theorem B7w {N b:Nat} (hN:0<N) (a:TAct) (σ:Sto) (v2 v3 t1:TV) (Q:List TV) (hQ:Q.length=11)
  (hdf:a.df=[]) (h1:a.tm.get 1=some (.bx 0 (t1::.sl .nl []::Q) 40)) (h2:a.tm.get 2=some v2) (h3:a.tm.get 3=some v3):
  Tw A9W b (A4 F O N) N (fun ex a' σ'=>ex=.normal/\σ'=σ/\a'.df=[]/\a'.tm.get 2=some v2/\a'.tm.get 3=some v3) [] (B6 A9W b (A4 F O N) N A8F a σ):=by
 obtain ⟨tm,df,clk⟩:=a;simp only at hdf h1 h2 h3;subst hdf;obtain ⟨q0,q1,q2,q3,q4,q5,q6,q7,q8,q9,q10,rfl⟩:∃a b c d e f g h i j k,Q=[a,b,c,d,e,f,g,h,i,j,k]:=by
  match Q,hQ with|[a,b,c,d,e,f,g,h,i,j,k],_=>exact ⟨a,b,c,d,e,f,g,h,i,j,k,rfl⟩
 simp [A8F,h1];refine A9 (I:=fun j a' σ'=>j=0/\a'.df=[]/\σ'=σ/\a'.tm.get 2=some v2/\a'.tm.get 3=some v3/\a'.tm.get 17=some (.int .i64 0)/\a'.tm.get 18=some (.int .i64 0)) 0 (R:=fun ex a' σ'=>ex=.exit 0/\a'.df=[]/\σ'=σ/\a'.tm.get 2=some v2/\a'.tm.get 3=some v3) ?_ hN ?_ ?_ ?_
 ·exact ⟨rfl,rfl,rfl,by simp [h2],by simp [h3],by simp,by simp⟩
 ·intro j a σ hj;omega
 ·rintro ⟨tm,df,clk⟩ σ' ⟨_,rfl,rfl,h2,h3,h17,h18⟩;simp only at h2 h3 h17 h18;simp [h2,h3,h17,h18]
 ·rintro ex ⟨tm,df,clk⟩ σ' ⟨rfl,rfl,rfl,h2,h3⟩;simp [h2,h3]
theorem B7x (V:OFits F) (c:PCore) (hc:OkC c) (hf0:c.funs=[]) (htl:c.types.length<=1000000) (hty:∀t∈c.types,LtTy t) (N b:Nat) (σ:Sto) (hzt:A1c c.types+1<N) (hzq:E3 c.query.term<N/\cntT c.query.term<=1000000/\Lt 1000000 c.query.term):
  A4 F O (N+1) b 51 [.agg [.sl .fz (c.types.map K2),.sl .nl [],.int .i64 c.query.params,.int .i64 c.query.slots,.int .i64 c.query.term.kind,.int .i64 c.query.term.n,.int .i64 c.query.term.m,.int .i64 c.query.term.val.kind,.int .i64 c.query.term.val.n,
   .sl .fz (c.query.term.val.list.map C9),.sl .fz (c.query.term.odds.map encI),.sl .fz (c.query.term.kids.map A5),.int .i64 c.sites]] σ=some (.ret (.agg (E9 c)),σ):=by
 obtain ⟨N,rfl⟩:∃n,N=n+1:=⟨N - 1,by omega⟩;have hq:=A8E (O:=O) V.h90 V.h40 V.h80 V.h111 V.h81 N c.query σ.length σ (by omega) hc.query.term hzq.2.1 hzq.2.2;have ht:=A5O (O:=O) V.h89 (N+1) c.types σ.length σ hzt htl fun t h=>⟨hc.types t h,hty t h⟩
 rw [B9] at hq;refine A3 V.h51 ?_;simp [B0w,A7 c,hq,ht,hf0];apply E2
 ·apply B7w (by omega) _ _ (v2:=_) (v3:=_) (t1:=_) (Q:=[.int .i64 c.query.params,.int .i64 c.query.slots,.int .i64 c.query.term.kind,.int .i64 c.query.term.n,.int .i64 c.query.term.m,.int .i64 c.query.term.val.kind,.int .i64 c.query.term.val.n,.sl .fz (c.query.term.val.list.map C9),.sl .fz (c.query.term.odds.map encI),.sl .fz (c.query.term.kids.map A5),.int .i64 c.sites]) (hQ:=rfl)
  ·rfl
  ·simp;rfl
  ·simp;rfl
  ·simp;rfl
 rintro ex ⟨tm,df,clk⟩ σ' ⟨rfl,rfl,hdf,g2,g3⟩;simp only at hdf g2 g3;subst hdf;simp [g2,g3]
theorem C06 (V:KFits F O) (M N:Nat) (c:PCore) (b:Nat) (σ:Sto) (h:CB M c) (hf:c.funs.length<=1000) (hN:5*M+100300<=N):
  A4 F O (N+1) b 17 [.agg (E9 c)] σ=some (.ret (.tuple [.agg (E9 (A2B c).1),.int .i64 (A2B c).2]),σ):=by
 obtain ⟨K,rfl⟩:∃k,N=k+2:=⟨N - 2,by omega⟩;have hr:=B66 (O:=O) V.c K c σ.length σ (A8K h hf (by omega)) h.ok;rw [A7] at hr;unfold A2B;cases hcb:V8 c with
 |false=>
  rw [hcb] at hr;refine A3 V.h17 ?_;simp [B0B,A7 c,hr];rw [A7];rfl
 |true=>
  rw [hcb] at hr;have hR:=h.right hcb;have hS:=hR.sliced;have hsl:=A8D (O:=O) V.h47 V.h41 V.l c h.ok (by omega) (K+1) σ.length σ (by omega) (fun f hf=>by have:=h.sz f hf;have:=(h.cnt f hf).1;omega) (by have:=h.szq;have:=h.cntq.1;omega);have hfl:(slC c).funs.length<=40:=hS.fl
  obtain ⟨l,hl,hre⟩:=A6q (O:=O) V.h48 V.h88 (slC c) hS.ok (by omega) (K+1) σ.length σ (by omega) hS.calls hS.callsq (fun f hf=>by have:=hS.sz f hf;omega) (by have:=hS.szq;omega);have hll:=hl.len;obtain rfl:=hl.is;rw [A7 c] at hsl;generalize hcc:slC c=cc at*;generalize hl0:reachL cc=l at*;obtain ⟨hB,hB40⟩:=hS.ren l hll
  have hty:=B0A (O:=O) V.h49 (K+1) σ.length cc.types (σ++[some ⟨0,.cells (encZT (toC l)) 3⟩]) (by have:=hS.tl;omega);refine A3 V.h17 ?_;have hn2:cc.funs.length<=281474976710656:=by omega
  have hn3:cc.funs.length<=9223372036854775807:=by omega
  have hn4:8*cc.funs.length<=281474976710656:=by omega
  have hE:=A7 cc;rw [hE] at hre hsl;simp [B0B,A7 c,hr,hsl,hre,hn2,hn3,hn4];apply E2
  ·apply C1A (b:=σ.length) l (by omega) (by omega) σ.length cc.funs.length 0 (hat:=by rw [hll,<-B0C];exact G0 _ _) (v1:=.bx 0 (E9 cc) 40) (v2:=_)
   ·rfl
   ·simp [hE]
   ·simp;rfl
   ·simp
   ·simp [hll]
   ·simp
  rintro ex ⟨tm,df,clk⟩ σ1 ⟨rfl,⟨v1,rfl⟩,hdf,g1,g2,g4,g5⟩;simp only at hdf g1 g2 g4 g5;subst hdf;rw [A0B];rw [hll] at g5;have g1':=g1;rw [hE] at g1;have hty:=fun v=>B0A (O:=O) V.h49 (K+1) σ.length cc.types (σ++[some ⟨v,.cells (encZT (toC l)) 3⟩]) (by have:=hS.tl;omega)
  simp [g1,hty];apply E2
  ·apply C1B (b:=σ.length) V.h50 cc hS.ok l hll (by omega) (by omega) (fun f hf=>by have:=hS.sz f hf;have:=(hS.cnt f hf).1;omega) (by have:=hS.cntFs;omega) (toC l) (by rw [A12];exact hll) hS.calls _ _ (kt:=σ.length) (cap:=cc.funs.length) (ver:=v1) (hat:=G0 _ _) (v2:=_) (s5:=_) (t0:=.sl .fz (cc.types.map K2)) (Q:=[.int .i64 cc.query.params,.int .i64 cc.query.slots,.int .i64 cc.query.term.kind,.int .i64 cc.query.term.n,.int .i64 cc.query.term.m,.int .i64 cc.query.term.val.kind,.int .i64 cc.query.term.val.n,.sl .fz (cc.query.term.val.list.map C9),.sl .fz (cc.query.term.odds.map encI),.sl .fz (cc.query.term.kids.map A5),.int .i64 0]) (hQ:=rfl)
   ·rfl
   ·simp [g1']
   ·simp [g2];rfl
   ·simp [g4]
   ·simp [g5]
   ·simp;rfl
   ·simp
  rintro ex ⟨tm,df,clk⟩ σ1 ⟨rfl,rfl,hdf,g2,g5,⟨v,hB',g9⟩,g10⟩;simp only at hdf g2 g5 g9 g10;subst hdf;have hst:=Y2 (toC l) l cc.funs 0;have hF:=hS.cntFs
  have hq:=B1x (O:=O) V.h50 (E3 cc.query.term) (K+2) cc.query.term (toC l) σ.length cc.funs.length cc.funs.length σ.length (σ++[some ⟨v1,.cells (encZT (toC l)) 3⟩]) v1 (C6 (toC l) l cc.funs 0).2 (Nat.le_refl _) (by have:=hS.szq;omega) hS.ok.query.term (by have:=hS.cntq.1;omega) (by omega) (by have:=hS.cntq.1;omega) (by rw [A12];exact hll) hS.callsq (G0 _ _)
  have hownn:=fun h0=>B7x (O:=O) V.o (A08 cc l) hB.ok h0 (by have:=hS.tl;simp only [A08];omega) hS.ty (K+1) σ.length (σ++[some ⟨v1,.cells (encZT (toC l)) 3⟩]) (by have:=hB.szt;omega) (by have:=hB.szq;have:=hB.cntq;exact ⟨by omega,by omega,this.2⟩)
  have hown:=B9Q (O:=O) V.o (A08 cc l) hB.ok (by omega) (by have:=hS.tl;simp only [A08];omega) hS.ty (K+1) σ.length (σ++[some ⟨v1,.cells (encZT (toC l)) 3⟩]) (by omega) (by have:=hB.szt;omega) (fun f hf=>by have:=hB.sz f hf;have:=hB.cnt f hf;exact ⟨by omega,by omega,this.2⟩) (by have:=hB.szq;have:=hB.cntq;exact ⟨by omega,by omega,this.2⟩);have hRE:E9 (A08 cc l)=_:=A7 (A08 cc l)
  simp only [A08] at hRE;have hE3:=A0 (H2 (toC l) cc.query.term (C6 (toC l) l cc.funs 0).2).1;rw [A0 cc.query.term,hE3] at hq;rw [show A08 cc l=⟨cc.types,(C6 (toC l) l cc.funs 0).1,⟨cc.query.params,cc.query.slots,(H2 (toC l) cc.query.term (C6 (toC l) l cc.funs 0).2).1⟩,(H2 (toC l) cc.query.term (C6 (toC l) l cc.funs 0).2).2⟩ from rfl,hRE] at hown ⊢
  simp only [show A08 cc l=⟨cc.types,(C6 (toC l) l cc.funs 0).1,⟨cc.query.params,cc.query.slots,(H2 (toC l) cc.query.term (C6 (toC l) l cc.funs 0).2).1⟩,(H2 (toC l) cc.query.term (C6 (toC l) l cc.funs 0).2).2⟩ from rfl,hRE] at hownn;clear hRE hB hst hB40;generalize (H2 (toC l) cc.query.term (C6 (toC l) l cc.funs 0).2).1=y at hq hE3 hown hownn ⊢
  generalize (H2 (toC l) cc.query.term (C6 (toC l) l cc.funs 0).2).2=z at hq hown hownn ⊢;generalize (C6 (toC l) l cc.funs 0).1=L at hB' hown hownn ⊢;generalize (C6 (toC l) l cc.funs 0).2=s1 at hq g10 ⊢;rcases hB' with _|_
  ·have hownn:=hownn rfl;simp [g2,g5,g9,g10,hq,hownn]
  ·simp [g2,g5,g9,g10,hq,hown]
def deadJ (l:List Bool) (j:Nat):List Int:=((List.range j).filter fun i=>l[i]? ==some false).map fun (i:Nat)=>(i:Int)
noncomputable def A6s (c:PCore):List Int:=match V8 c with
 |true=>deadJ (reachL (slC c)) (slC c).funs.length
 |false=>[]
theorem B0D (l:List Bool) {j:Nat} (hj:j<l.length) (h:l[j]=false):deadJ l (j+1)=deadJ l j++[(j:Int)]:=by
 unfold deadJ;rw [List.range_succ,List.filter_append,List.map_append];congr 1;have:([j].filter fun i=>l[i]? ==some false)=[j]:=by simp [List.getElem?_eq_getElem hj,h]
 rw [this];rfl
theorem B3G (l:List Bool) {j:Nat} (hj:j<l.length) (h:l[j]=true):deadJ l (j+1)=deadJ l j:=by
 unfold deadJ;rw [List.range_succ,List.filter_append,List.map_append];have:([j].filter fun i=>l[i]? ==some false)=[]:=by simp [List.getElem?_eq_getElem hj,h]
 rw [this];simp
theorem A8L (l:List Bool):deadJ l 0=[]:=by simp [deadJ]
theorem A5T (l:List Bool) (j:Nat):(deadJ l j).length<=j:=by
 unfold deadJ;rw [List.length_map];exact Nat.le_trans (List.length_filter_le _ _) (by simp)
def C2u:XCode:=(by exact fun x _=>x:V0 (gT x1021.body [1,1,1,0])) _ (by conv=>lhs;cbv)
theorem B0E:x1021=(by exact fun x _=>x:V1 (fun a=>({x1021 with body:=pT (x1021.body) [1,1,1,0] a}:XFun))) _ (by intros;conv=>lhs;cbv) C2u:=rfl
def C2v:XCode:=(by exact fun x _=>x:V0 (gT x1022.body [1,1,1,1,0])) _ (by conv=>lhs;cbv)
theorem B0F:x1022=(by exact fun x _=>x:V1 (fun a=>({x1022 with body:=pT (x1022.body) [1,1,1,1,0] a}:XFun))) _ (by intros;conv=>lhs;cbv) C2v:=rfl
theorem C07 (V:KFits F O) (M N:Nat) (c:PCore) (b:Nat) (σ:Sto) (h:CB M c) (hf:c.funs.length<=1000) (hN:5*M+100300<=N):
  A4 F O (N+1) b 21 [.agg (E9 c)] σ=some (.ret (.sl .fz ((A6s c).map encI)),σ):=by
 obtain ⟨K,rfl⟩:∃k,N=k+2:=⟨N - 2,by omega⟩;have hr:=B66 (O:=O) V.c K c σ.length σ (A8K h hf (by omega)) h.ok;rw [A7] at hr;unfold A6s;cases hcb:V8 c with
 |false=>
  rw [hcb] at hr;refine A3 V.h21 ?_;simp [B0E,A7 c,hr]
 |true=>
  rw [hcb] at hr;have hR:=h.right hcb;have hS:=hR.sliced;have hsl:=A8D (O:=O) V.h47 V.h41 V.l c h.ok (by omega) (K+1) σ.length σ (by omega) (fun f hf=>by have:=h.sz f hf;have:=(h.cnt f hf).1;omega) (by have:=h.szq;have:=h.cntq.1;omega);have hfl:(slC c).funs.length<=40:=hS.fl
  obtain ⟨l,hl,hre⟩:=A6q (O:=O) V.h48 V.h88 (slC c) hS.ok (by omega) (K+1) σ.length σ (by omega) hS.calls hS.callsq (fun f hf=>by have:=hS.sz f hf;omega) (by have:=hS.szq;omega);have hll:=hl.len;obtain rfl:=hl.is;rw [A7 c] at hsl;generalize hcc:slC c=cc at*;generalize hl0:reachL cc=l at*;refine A3 V.h21 ?_;have hE:=A7 cc;rw [hE] at hre hsl;simp [B0E,A7 c,hr,C2u,hsl,hre]
  have hEl:∀x:Int,(encI x).length=1:=fun _=>rfl
  obtain ⟨I,hI⟩:∃I:Nat->TAct->Sto->Prop,I=(fun j a' σ'=>a'.df=[]/\σ'=σ/\(∃v,Bld 3 1 encI (deadJ l j) v/\a'.tm.get 3=some v)/\a'.tm.get 11=some (.sl .fz (l.map K0))/\a'.tm.get 12=some (.int .i64 l.length)/\a'.tm.get 13=some (.int .i64 j)):=⟨_,rfl⟩;obtain ⟨R,hRR⟩:∃R:TEx->TAct->Sto->Prop,R=(fun ex a' σ'=>ex=.exit 0/\a'.df=[]/\σ'=σ/\∃v,Bld 3 1 encI (deadJ l cc.funs.length) v/\a'.tm.get 3=some v):=⟨_,rfl⟩
  refine A9 I l.length R ?_ (by omega) ?_ ?_ ?_
  ·rw [hI];exact ⟨rfl,rfl,⟨.sl .nl [],by rw [A8L];exact .nl,by simp⟩,by simp,by simp,by simp⟩
  ·rw [hI];rintro j ⟨tm,df,clk⟩ σ' hj ⟨rfl,rfl,⟨v,hB,h3⟩,h11,h12,h13⟩;rw [<-hI];simp only at h3 h11 h12 h13;have hw:=C8 hj (by unfold maxLen;omega);have hj1:j+1<=l.length:=hj;have hlt:=A5T l j;cases hx:l[j] with
   |true=>
    have hd:=B3G l hj hx;simp [h3,h11,h12,h13,hj,hj1,hw,hx,K0];rw [hI];dsimp only;rw [hd];exact ⟨rfl,rfl,⟨v,hB,by simp [h3]⟩,by simp [h11],by simp [h12],by simp⟩
   |false=>
    have hd:=B0D l hj hx;generalize deadJ l j=L at hB hd hlt;have hlen3:L.length<=1073741823:=by omega
    rcases hB with _|_
    all_goals
     simp [h3,h11,h12,h13,hj,hj1,hw,hx,K0,hlen3,hEl];rw [hI];dsimp only;rw [hd];exact ⟨rfl,rfl,⟨_,.own _,by simp [encI]⟩,by simp [h11],by simp [h12],by simp⟩
  ·rw [hI];rintro ⟨tm,df,clk⟩ σ' ⟨rfl,rfl,⟨v,hB,h3⟩,h11,h12,h13⟩;rw [hll] at hB;simp only at h3 h12 h13;simp [h3,h12,h13];rw [hRR];exact ⟨rfl,rfl,rfl,v,hB,by simp [h3]⟩
  ·rw [hRR];rintro ex ⟨tm,df,clk⟩ σ' ⟨rfl,rfl,rfl,v,hB,h3⟩;simp only at h3;generalize deadJ l cc.funs.length=L at hB ⊢;rcases hB with _|_
   ·simp [h3]
   ·simp [h3]
structure JKFits (F:FuncId->Option TFun) (O:FuncId->List TV->Option TV):Prop where
 c:CFits F
 r:RFits F O
 h18:F 18=some f1018
 h53:F 53=some f1053
 h54:F 54=some f1054
 h55:F 55=some f1055
 h15:F 15=some f1015
 h93:F 93=some f1093
 h94:F 94=some f1094k
 h95:F 95=some f1095k
 h118:F 118=some f1118
 h22:F 22=some f1022
end
section
open Go Go.Xe Go.Xt
theorem A2t (bd:List Bool) (f:Nat):∀(n i:Nat),(F5 bd f true n)[i]? =some true↔bd[i]? =some true\/(i<bd.length/\f<=i/\i<f+n)
 |0,i=>by simp only [F5];constructor;exact .inl;rintro (h|h);exact h;omega
 |n+1,i=>by
  simp only [F5]
  by_cases e:f+n=i
  ·subst e
   by_cases hl:f+n<bd.length
   ·simp_all
   simp_all
  ·rw [List.getElem?_set_ne e,A2t bd f n i];grind
theorem A5f (bd:List Bool):∀(n f:Nat),A11 bd f n=true↔∃j,j<n/\bd[f+j]? =some true
 |0,f=>by simp [A11]
 |n+1,f=>by
  simp only [A11,Bool.or_eq_true,beq_iff_eq,A5f bd n (f+1)];constructor
  ·rintro (h|⟨j,hj,h⟩)
   ·exact ⟨0,by omega,h⟩
   ·exact ⟨j+1,by omega,by rw [show f+(j+1)=f+1+j by omega];exact h⟩
  ·rintro ⟨j,hj,h⟩;cases j with
   |zero=>exact .inl h
   |succ j=>grind
theorem A4k (n:Int):∀(k:Nat) (s:Int),s∈C0 n k↔∃j:Nat,j<k/\s=n+j/\s<=9223372036854775807
 |0,s=>by simp [C0]
 |k+1,s=>by
  simp only [C0,List.mem_append,A4k n k];grind
inductive NoV (S:Nat->Prop):PTerm->Prop
 |mk {t:PTerm}:(t.kind=2->∀i:Nat,t.n=i->¬S i)->(∀x∈t.kids,NoV S x)->NoV S t
theorem NoV.head {S:Nat->Prop} {t:PTerm}:NoV S t->t.kind=2->∀i:Nat,t.n=i->¬S i
 |.mk h _=>h
theorem NoV.sub {S:Nat->Prop} {t:PTerm}:NoV S t->∀x∈t.kids,NoV S x
 |.mk _ h=>h
theorem A8M {c:PCore} {bd:List Bool} {t:PTerm} (h:M1 c bd t=true):(P5 t).toNat=bindN t/\(bindN t=0\/0<=t.n/\t.n+(bindN t:Int)<=bd.length/\∀j,j<bindN t->bd[t.n.toNat+j]? ≠some true):=by
 unfold M1 at h;unfold P5 bindN;have key:∀m:Nat,A23 bd t.n m=true->0<=t.n/\t.n+(m:Int)<=bd.length/\∀j,j<m->bd[t.n.toNat+j]? ≠some true:=fun m hm=>by
  unfold A23 at hm;rw [Bool.and_eq_true,decide_eq_true_eq,Bool.not_eq_true'] at hm;refine ⟨hm.1.1,by omega,fun j hj he=> ?_⟩;rw [(A5f bd m t.n.toNat).2 ⟨j,hj,he⟩] at hm;grind
 grind
theorem A5U (c:PCore) (S:Nat->Prop):∀(left:Nat) (bd:List Bool) (t:PTerm) (L:List Int),E6 c left bd t=true->(∀i,S i->bd[i]? =some true)->(∀i:Nat,S i->(i:Int)∉L)->(∀i:Nat,S i->(i:Int)∉freeC L t)->NoV S t
 |0,bd,t,L,h,_,_,_=>by unfold E6 at h;cases h
 |left+1,bd,t,L,h,hb,hL,hf=>by
  unfold E6 A1m at h;rw [Bool.and_eq_true,Bool.and_eq_true] at h;obtain ⟨⟨_,hx⟩,hk⟩:=h;have hbn:=A8M hx;have hin:∀i:Nat,S i->(i:Int)∉Q5 L t:=fun i hi=>by
   unfold Q5;rw [List.mem_append];rintro (h|h)
   ·exact hL i hi h
   ·obtain ⟨j,h1,h2,h3⟩:=(A4k _ _ _).1 h;grind
  have hbi:∀i,S i->(F5 bd t.n.toNat true (bindN t))[i]? =some true:=fun i hi=>(A2t _ _ _ _).2 (.inl (hb i hi))
  rw [B04] at hf;refine .mk (fun k2 i hi hS=> ?_) ?_
  ·grind
  ·have hf2:∀i:Nat,S i->(i:Int)∉S5 L (Q5 L t) t.kids:=fun i hi hm=>hf i hi (by rw [List.mem_append];exact .inr hm)
   clear hf hx;generalize t.kids=l at hk hf2 ⊢
   induction l with
   |nil=>intro x hx;cases hx
   |cons k r ih=>
    unfold D2 at hk;rw [Bool.and_eq_true] at hk;simp only [S5] at hf2;intro x hx;rcases List.mem_cons.1 hx with rfl|hx
    ·cases r with
     |nil=>
      exact A5U c S left _ _ (Q5 L t) (by simpa using hk.1) hbi hin fun i hi hm=>hf2 i hi (by rw [List.mem_append];exact .inl hm)
     |cons y r=>
      exact A5U c S left _ _ L (by simpa using hk.1) hb hL fun i hi hm=>hf2 i hi (by rw [List.mem_append];exact .inl hm)
    grind
theorem A1L (c:PCore) (S:Nat->Prop):∀(left:Nat) (b1 b2:List Bool) (t:PTerm),E6 c left b2 t=true->NoV S t->b1.length=b2.length->(∀i:Nat,b1[i]? =some true->b2[i]? =some true)->(∀i:Nat,b2[i]? =some true->b1[i]? =some true\/S i)->E6 c left b1 t=true
 |0,b1,b2,t,h,_,_,_,_=>by unfold E6 at h;cases h
 |left+1,b1,b2,t,h,hv,hl,h12,h21=>by
  unfold E6 A1m at h ⊢;rw [Bool.and_eq_true,Bool.and_eq_true] at h ⊢;obtain ⟨⟨h1,hx⟩,hk⟩:=h;refine ⟨⟨h1,?_⟩,?_⟩
  ·have hfr:∀m,A23 b2 t.n m=true->A23 b1 t.n m=true:=fun m hm=>by
    unfold A23 at hm ⊢;rw [Bool.and_eq_true,Bool.not_eq_true'] at hm ⊢;rw [hl];refine ⟨hm.1,?_⟩;cases ha:A11 b1 t.n.toNat m with
    |false=>rfl
    |true=>
     obtain ⟨j,hj,he⟩:=(A5f _ _ _).1 ha;rw [(A5f b2 m t.n.toNat).2 ⟨j,hj,h12 _ he⟩] at hm;grind
   unfold M1 at hx ⊢
   by_cases k1:t.kind=1
   ·grind
   rw [if_neg k1] at hx ⊢
   by_cases k2:t.kind=2
   ·rw [if_pos k2,Bool.and_eq_true,decide_eq_true_eq,beq_iff_eq] at hx ⊢;refine ⟨hx.1,(h21 _ hx.2).resolve_right (hv.head k2 _ (by omega))⟩
   grind
  ·have h12':∀i,(F5 b1 t.n.toNat true (bindN t))[i]? =some true->(F5 b2 t.n.toNat true (bindN t))[i]? =some true:=fun i hi=>by
    rw [A2t] at hi ⊢;grind
   have h21':∀i,(F5 b2 t.n.toNat true (bindN t))[i]? =some true->(F5 b1 t.n.toNat true (bindN t))[i]? =some true\/S i:=fun i hi=>by
    grind [A2t]
   have hvk:=hv.sub;clear hx;generalize t.kids=l at hk hvk ⊢
   induction l with
   |nil=>rfl
   |cons k r ih=>
    unfold D2 at hk ⊢;rw [Bool.and_eq_true] at hk ⊢;refine ⟨?_,ih hk.2 fun x hx=>hvk x (by simp [hx])⟩
    by_cases hr:r.length=0
    ·rw [if_pos hr] at hk ⊢;exact A1L c S left _ _ k hk.1 (hvk k (by simp)) (by simp [hl]) h12' h21'
    ·rw [if_neg hr] at hk ⊢;exact A1L c S left _ _ k hk.1 (hvk k (by simp)) hl h12 h21
theorem A0a {f g:List Bool->PTerm->Bool} {h:PTerm->PTerm} {bd inner:List Bool}:∀{l:List PTerm},(∀bd',bd'=bd\/bd'=inner->∀x∈l,f bd' x=true->g bd' (h x)=true)->D2 f bd inner l=true->D2 g bd inner (l.map h)=true
 |[],_,_=>rfl
 |k::r,hfg,hk=>by
  simp only [List.map_cons,D2] at hk ⊢;rw [Bool.and_eq_true] at hk ⊢;rw [List.length_map];refine ⟨hfg _ (by split<;>simp) k (by simp) hk.1,A0a (fun bd' hb x hx=>hfg bd' hb x (by simp [hx])) hk.2⟩
theorem A4l (c:PCore):∀(left:Nat) (bd:List Bool) (t:PTerm),E6 c left bd t=true->E6 c (left+1) bd t=true
 |0,bd,t,h=>by unfold E6 at h;cases h
 |left+1,bd,t,h=>by
  rw [E6] at h ⊢;rw [Bool.and_eq_true] at h ⊢;have:=A0a (h:=id) (fun bd' _ x _ hx=>A4l c left bd' x hx) h.2;simp_all
theorem B3H {f:List Bool->PTerm->Bool} {bd inner:List Bool} {a b:PTerm} (h:D2 f bd inner [a,b]=true):f bd a=true/\f inner b=true:=by
 grind [D2]
theorem B7y (c:PCore) (left:Nat) (bd:List Bool) (t:PTerm) (hl:bd.length<=1000) (h:E6 c (left+1) bd t=true):E6 c (left+1) bd (A0O t)=true:=by
 have h0:=h;rw [E6,Bool.and_eq_true] at h;obtain ⟨hh,hk⟩:=h;unfold A1m at hh;rw [Bool.and_eq_true] at hh;have hbn:=A8M hh.2;unfold A0O
 by_cases k7:t.kind=7
 ·rw [if_pos k7];rcases hks:t.kids with _|⟨a,_|⟨b,_|⟨d,r⟩⟩⟩
  ·exact h0
  ·exact h0
  ·simp only
   by_cases hc:(Q8 t.n (Z3 t.m) b&&A06 a)=true
   ·rw [if_pos hc];rw [Bool.and_eq_true] at hc;have hn:=of_decide_eq_true hc.1;rw [hks] at hk;have hb:=(B3H hk).2;have hm:(P5 t).toNat=Z3 t.m:=by unfold P5 Z3;rw [if_pos k7]
    rw [hm] at hbn;refine A4l c left bd b (A1L c (fun i=>i<bd.length/\t.n.toNat<=i/\i<t.n.toNat+bindN t) left bd _ b hb ?_ (by simp) (fun i hi=>(A2t _ _ _ _).2 (.inl hi)) (fun i hi=>(A2t _ _ _ _).1 hi));refine A5U c _ left _ b [] hb (fun i hi=>(A2t _ _ _ _).2 (.inr hi)) (fun i _=>by simp) fun i hi hmem=> ?_
    rw [A5D] at hmem;rcases hbn.2 with h0|⟨q1,q2,_⟩
    ·omega
    ·refine hn (i:Int) ((A4k _ _ _).2 ⟨i - t.n.toNat,by omega,by omega,by omega⟩) hmem.1
   grind
  ·exact h0
 rw [if_neg k7];have hbd:∀(k9:t.kind≠9),F5 bd t.n.toNat true (bindN t)=bd:=fun k9=>by unfold bindN;rw [if_neg k9,if_neg k7];rfl
 grind [A4l,left,B3H,D2,E6]
theorem A6t (c:PCore):∀(left:Nat) (bd:List Bool) (t:PTerm),bd.length<=1000->E6 c left bd t=true->E6 c left bd (lessT t)=true
 |0,bd,t,_,h=>by unfold E6 at h;cases h
 |left+1,bd,t,hl,h=>by
  rw [A1Z];apply B7y c left bd _ hl;rw [E6,Bool.and_eq_true] at h ⊢;have hk:=A0a (h:=lessT) (g:=E6 c left) (fun bd' hb x _ hx=>A6t c left bd' x (by rcases hb with rfl|rfl<;>simp [hl]) hx) h.2;refine ⟨?_,hk⟩;have:=h.1;cases t with
  |mk k n m v o ks=>
   have e:A1m c bd (.mk k n m v o (ks.map lessT))=A1m c bd (.mk k n m v o ks):=by
    unfold A1m M1 L8;simp only [PTerm.kids,PTerm.kind,PTerm.n,PTerm.m,PTerm.val,PTerm.odds,List.length_map];rfl
   exact e.trans this
theorem B0G {c d:PCore} (hs:d.sites=c.sites) (hl:d.funs.length=c.funs.length) (hp:∀(i:Nat) (h:i<c.funs.length),(d.funs[i]'(by omega)).params=c.funs[i].params):∀(left:Nat) (bd:List Bool) (t:PTerm),E6 c left bd t=true->E6 d left bd t=true
 |0,bd,t,h=>by unfold E6 at h;cases h
 |left+1,bd,t,h=>by
  rw [E6,Bool.and_eq_true] at h ⊢;have hk:=A0a (h:=id) (g:=E6 d left) (fun bd' hb x _ hx=>B0G hs hl hp left bd' x hx) h.2;rw [List.map_id] at hk;grind [L8,M1,A1m]
theorem B3I {c:PCore} (h:V8 c=true):V8 (slC c)=true:=by
 unfold V8 at h ⊢;rw [Bool.and_eq_true,decide_eq_true_eq,Bool.and_eq_true,Bool.and_eq_true] at h ⊢;have hl:(slC c).funs.length=c.funs.length:=by simp [slC]
 have hb:∀d,T9 c d=true->T9 (slC c) (slB d)=true:=fun d hd=>by
  unfold T9 at hd ⊢;grind [B0G,slC,slB,A6t,N7,A5c]
 refine ⟨by rw [hl];exact h.1,h.2.1,List.all_eq_true.2 fun d hd=> ?_,hb _ h.2.2.2⟩;obtain ⟨e,he,rfl⟩:=List.mem_map.1 hd;grind
end
section
open Go Go.Xe Go.Xt
variable {F:FuncId->Option TFun} {O:FuncId->List TV->Option TV}
theorem A6u (V:JKFits F O) (M N:Nat) (c:PCore) (σ:Sto) (h:CB M c) (hf:c.funs.length<=1000) (hN:5*M+100400<=N) (hcb:V8 c=true):
  A4 F O (N+1) σ.length 53 [.agg (E9 c)] σ=some (.ret (.agg (E9 (slC c))),σ)/\∀b,A4 F O (N+1) b 55 [.agg (E9 (slC c))] σ=some (.ret (.sl .fz ((reachL (slC c)).map K0)),σ):=by
 have hR:=h.right hcb;have hS:=hR.sliced;have hfl:(slC c).funs.length<=40:=hS.fl
 refine ⟨B54 V.h53 c h.ok (by omega) N _ σ (by omega) (fun f hf b σ=>A8k V.h15 V.r (E3 f.term) N f.term b σ (Nat.le_refl _) (by have:=h.sz f hf;omega) (h.ok.funs f hf).term (by have:=(h.cnt f hf).1;omega) (h.cnt f hf).2) (fun b σ=>A8k V.h15 V.r (E3 c.query.term) N c.query.term b σ (Nat.le_refl _) (by have:=h.szq;omega) h.ok.query.term (by have:=h.cntq.1;omega) h.cntq.2),fun b=> ?_⟩
 have hrr:=fun σ:Sto=>B1w (O:=O) V.c (N - 3) (slC c) σ.length σ (A8K hS.toCB (by omega) (by omega)) hS.ok
 rw [B3I hcb] at hrr;obtain ⟨l,hl,hre⟩:=B3D (O:=O) V.h55 V.h95 V.h94 V.h118 (slC c) hS.ok (by omega) N b σ (by omega) hS.calls hS.callsq (fun f hf=>by have:=hS.sz f hf;omega) (by have:=hS.szq;omega) (fun σ=>by rw [show N - 1=N - 3+2 by omega];exact hrr σ);rw [hl.is] at hre;exact hre
theorem C08 (V:JKFits F O) (M N:Nat) (c:PCore) (b:Nat) (σ:Sto) (h:CB M c) (hf:c.funs.length<=1000) (hN:5*M+100500<=N):
  A4 F O (N+1) b 18 [.agg (E9 c)] σ=some (.ret (.tuple [.agg (E9 (A2B c).1),.int .i64 (A2B c).2]),σ):=by
 obtain ⟨K,rfl⟩:∃k,N=k+2:=⟨N - 2,by omega⟩;have hr:=B1w (O:=O) V.c K c σ.length σ (A8K h hf (by omega)) h.ok;rw [A7] at hr;unfold A2B;cases hcb:V8 c with
 |false=>
  rw [hcb] at hr;refine A3 V.h18 ?_;simp [x1018,A7 c,hr];rw [A7];rfl
 |true=>
  rw [hcb] at hr;have hR:=h.right hcb;have hS:=hR.sliced;have hfl:(slC c).funs.length<=40:=hS.fl;obtain ⟨hsl,hre⟩:=A6u (O:=O) V M (K+1) c σ h hf (by omega) hcb;have hre:=hre σ.length;have hll:=(A3r (slC c)).len;have hct:=hS.cntFs
  have hrn:=C1x (O:=O) V.h54 V.h93 (slC c) hS.ok (reachL (slC c)) hll (by omega) (K+1) σ.length σ (by omega) (fun f hf=>by have:=hS.sz f hf;have:=(hS.cnt f hf).1;omega) (by have:=hS.szq;have:=hS.cntq.1;omega) (by omega) hS.calls hS.callsq;rw [A7 c] at hsl;generalize slC c=cc at*;generalize reachL cc=l at*;have hE:=A7 cc;have hE2:=A7 (A08 cc l);rw [hE] at hre hsl hrn;rw [hE2] at hrn ⊢
  generalize (A08 cc l).types=q1 at*;generalize (A08 cc l).funs=q2 at*;generalize (A08 cc l).query=q3 at*;generalize (A08 cc l).sites=q4 at*;refine A3 V.h18 ?_;simp [x1018,A7 c,hr,hsl,hre,hrn]
theorem C09 (V:JKFits F O) (M N:Nat) (c:PCore) (b:Nat) (σ:Sto) (h:CB M c) (hf:c.funs.length<=1000) (hN:5*M+100500<=N):
  A4 F O (N+1) b 22 [.agg (E9 c)] σ=some (.ret (.sl .fz ((A6s c).map encI)),σ):=by
 obtain ⟨K,rfl⟩:∃k,N=k+2:=⟨N - 2,by omega⟩;have hr:=B1w (O:=O) V.c K c σ.length σ (A8K h hf (by omega)) h.ok;rw [A7] at hr;unfold A6s;cases hcb:V8 c with
 |false=>
  rw [hcb] at hr;refine A3 V.h22 ?_;simp [B0F,A7 c,hr]
 |true=>
  rw [hcb] at hr;have hR:=h.right hcb;have hS:=hR.sliced;have hfl:(slC c).funs.length<=40:=hS.fl;obtain ⟨hsl,hre⟩:=A6u (O:=O) V M (K+1) c σ h hf (by omega) hcb;have hre:=hre σ.length;have hll:=(A3r (slC c)).len;rw [A7 c] at hsl;generalize slC c=cc at*;generalize reachL cc=l at*;refine A3 V.h22 ?_;have hE:=A7 cc;rw [hE] at hre hsl;simp [B0F,A7 c,hr,hsl,hre,C2v]
  have hEl:∀x:Int,(encI x).length=1:=fun _=>rfl
  obtain ⟨I,hI⟩:∃I:Nat->TAct->Sto->Prop,I=(fun j a' σ'=>a'.df=[]/\σ'=σ/\(∃v,Bld 3 1 encI (deadJ l j) v/\a'.tm.get 3=some v)/\a'.tm.get 4=some (.sl .fz (l.map K0))/\a'.tm.get 5=some (.int .i64 j)):=⟨_,rfl⟩;obtain ⟨R,hRR⟩:∃R:TEx->TAct->Sto->Prop,R=(fun ex a' σ'=>ex=.exit 0/\a'.df=[]/\σ'=σ/\∃v,Bld 3 1 encI (deadJ l cc.funs.length) v/\a'.tm.get 3=some v):=⟨_,rfl⟩;refine A9 I l.length R ?_ (by omega) ?_ ?_ ?_
  ·rw [hI];exact ⟨rfl,rfl,⟨.sl .nl [],by rw [A8L];exact .nl,by simp⟩,by simp,by simp⟩
  ·rw [hI];rintro j ⟨tm,df,clk⟩ σ' hj ⟨rfl,rfl,⟨v,hB,h3⟩,h4,h5⟩;rw [<-hI];simp only at h3 h4 h5;have hw:=C8 hj (by unfold maxLen;omega);have hj1:j+1<=l.length:=hj;have hlt:=A5T l j;cases hx:l[j] with
   |true=>
    have hd:=B3G l hj hx;simp [h3,h4,h5,hj,hj1,hw,hx,K0];rw [hI];dsimp only;rw [hd];exact ⟨rfl,rfl,⟨v,hB,by simp [h3]⟩,by simp [h4],by simp⟩
   |false=>
    have hd:=B0D l hj hx;generalize deadJ l j=L at hB hd hlt;have hlen3:L.length<=1073741823:=by omega
    rcases hB with _|_
    all_goals
     simp [h3,h4,h5,hj,hj1,hw,hx,K0,hlen3,hEl];rw [hI];dsimp only;rw [hd];exact ⟨rfl,rfl,⟨_,.own _,by simp [encI]⟩,by simp [h4],by simp⟩
  ·rw [hI];rintro ⟨tm,df,clk⟩ σ' ⟨rfl,rfl,⟨v,hB,h3⟩,h4,h5⟩;rw [hll] at hB;simp only at h3 h4 h5;simp [h3,h4,h5];rw [hRR];exact ⟨rfl,rfl,rfl,v,hB,by simp [h3]⟩
  ·rw [hRR];rintro ex ⟨tm,df,clk⟩ σ' ⟨rfl,rfl,rfl,v,hB,h3⟩;simp only at h3;generalize deadJ l cc.funs.length=L at hB ⊢;rcases hB with _|_
   ·simp [h3]
   ·simp [h3]
theorem Sm.part {B:Nat} {l l':List TV} (h:Sm B l) (hs:∀x∈l',x∈l):Sm B l':=
 .mk (fun md chs hm=>h.len (hs _ hm)) fun md chs c hm hc=>h.sub (hs _ hm) hc
theorem C0a {B:Nat} {c:PCore} (h:Sm B (E9 c)):Sm B (A5 c.query.term):=
 Sm.part h fun x hx=>by rw [A7];rw [A0] at hx;simp only [List.mem_cons,List.not_mem_nil,or_false] at hx ⊢;grind
theorem C4W {B:Nat} {c:PCore} (h:Sm B (E9 c)) {f:PBody} (hf:f∈c.funs):Sm B (A5 f.term):=by
 rw [A7] at h;have h2:Sm B (G4 f):=h.sub (md:=.fz) (chs:=c.funs.map G4) (by simp) (List.mem_map.2 ⟨f,hf,rfl⟩);exact Sm.part h2 fun x hx=>by rw [G4];simp [hx]
theorem B1z (h6:F 16=some f6) (h23:F 46=some f23) (h47:F 87=some f47) (h24:F 29=some f24) (h7:F 69=some f7) (h25:F 100=some f25) (N:Nat) (c:PCore) (b:Nat) (σ:Sto) (B:Nat) (hB:B<=1000000) (hok:OkC c) (hsm:Sm reachBytes (E9 c))
  (h1:A1c c.types<N) (h2:E3 c.query.term<=N) (h3:∀f∈c.funs,E3 f.term<=N) (hn:c.funs.length<=N):
  ∃r,A4 F O (N+2) b 16 [.int .i64 B,.agg (E9 c)] σ=some (.ret (.bool r),σ)/\(r=true->c.funs.length<=100/\(cntT c.query.term<=B/\Lt B c.query.term)/\∀f∈c.funs,cntT f.term<=B/\Lt B f.term):=by
 obtain ⟨rt,ht⟩:=B4B (O:=O) h23 h47 N c.types σ.length σ B h1 hok.tlen hok.types;obtain ⟨rq,hq,hq0,hq1⟩:=A5E (O:=O) h24 h7 h25 B hB (N+1) c.query.term σ.length σ 0 (by omega) hok.query.term (C0a hsm) (by omega) (by omega)
 suffices hh:∃e' σ',A4 F O (N+2) b 16 [.int .i64 B,.agg (E9 c)] σ=some (e',σ')/\∃r,e'=.ret (.bool r)/\σ'=σ/\(r=true->c.funs.length<=100/\(cntT c.query.term<=B/\Lt B c.query.term)/\∀f∈c.funs,cntT f.term<=B/\Lt B f.term) by
  obtain ⟨e',σ',h1,r,rfl,rfl,h2⟩:=hh;exact ⟨r,h1,h2⟩
 refine D5 h6 ?_;rw [A0] at hq
 by_cases hf:(100:Int)<(c.funs.length:Int)
 ·simp [x6,A7,hf]
 by_cases htt:(100:Int)<(c.types.length:Int)
 ·simp [x6,A7,hf,htt]
 cases rt with
 |false=>simp [x6,A7,hf,htt,ht]
 |true=>
  simp [x6,A7,hf,htt,ht,hq];obtain ⟨Z,hZ⟩:∃Z:Prop,Z=(c.funs.length<=100/\(cntT c.query.term<=B/\Lt B c.query.term)/\∀f∈c.funs,cntT f.term<=B/\Lt B f.term):=⟨_,rfl⟩;simp only [<-hZ]
  obtain ⟨I,hI⟩:∃I:Nat->TAct->Sto->Prop,I=(fun j a σ'=>a.df=[]/\σ'=σ/\∃acc:Int,0<=acc/\(acc<=B->(cntT c.query.term<=B/\Lt B c.query.term)/\∀(i:Nat) (f:PBody),i<j->c.funs[i]? =some f->cntT f.term<=B/\Lt B f.term)/\a.tm.get 0=some (.int .i64 B)/\a.tm.get 3=some (.bx 0 (E9 c) 40)/\a.tm.get 5=some (.int .i64 acc)/\a.tm.get 6=some (.int .i64 j)):=⟨_,rfl⟩
  obtain ⟨R,hR⟩:∃R:TEx->TAct->Sto->Prop,R=(fun ex a σ'=>ex=.exit 0/\a.df=[]/\σ'=σ/\∃acc:Int,(acc<=B->Z)/\a.tm.get 0=some (.int .i64 B)/\a.tm.get 5=some (.int .i64 acc)):=⟨_,rfl⟩;refine A9 I c.funs.length R ?_ (by omega) ?_ ?_ ?_
  ·rw [hI];exact ⟨rfl,rfl,rq,hq0,fun h=>⟨⟨by have:=(hq1 h).1;omega,(hq1 h).2⟩,fun i f hi=>by omega⟩,by simp,by simp [A7],by simp,by simp⟩
  ·rw [hI];rintro j ⟨tm,df,clk⟩ σ' hj ⟨rfl,rfl,acc,ha0,hac,g0,g3,g5,g6⟩;rw [<-hI];simp only at g0 g3 g5 g6;have hw:=C8 hj hok.flen;have hmem:=List.getElem_mem hj;have g3':=g3;rw [A7] at g3
   by_cases ha:acc<=B
   ·obtain ⟨r,hc,hr0,hr1⟩:=A5E (O:=O) h24 h7 h25 B hB (N+1) c.funs[j].term σ'.length σ' acc (Nat.le_succ_of_le (h3 _ hmem)) (hok.funs _ hmem).term (C4W hsm hmem) ha0 ha;rw [A0] at hc;simp [g0,g3,g5,g6,hj,ha,hc,hw,B9];rw [hI];refine ⟨rfl,rfl,r,hr0,fun h=> ?_,by simp [g0],by simp [g3'],by simp,by simp⟩;obtain ⟨q1,q2⟩:=hr1 h;obtain ⟨q3,q4⟩:=hac ha;refine ⟨q3,fun i f hi hf=> ?_⟩
    by_cases e:i=j
    ·subst e;rw [List.getElem?_eq_getElem hj] at hf;obtain rfl:=Option.some.inj hf;exact ⟨by omega,q2⟩
    ·exact q4 i f (by omega) hf
   ·simp [g0,g3,g5,g6,hj,ha];rw [hR];exact ⟨rfl,rfl,rfl,acc,fun h=>absurd h ha,by simp [g0],by simp [g5]⟩
  ·rw [hI];rintro ⟨tm,df,clk⟩ σ' ⟨rfl,rfl,acc,ha0,hac,g0,g3,g5,g6⟩;simp only at g0 g3 g5 g6;rw [A7] at g3;simp [g0,g3,g5,g6,A6];rw [hR];refine ⟨rfl,rfl,rfl,acc,fun h=> ?_,by simp [g0],by simp [g5]⟩;rw [hZ];refine ⟨by omega,(hac h).1,fun f hf=> ?_⟩;obtain ⟨i,hi,rfl⟩:=List.getElem_of_mem hf;exact (hac h).2 i _ hi (List.getElem?_eq_getElem hi)
  ·rw [hR];rintro ex ⟨tm,df,clk⟩ σ' ⟨rfl,rfl,rfl,acc,hac,g0,g5⟩;simp only at g0 g5;simp [g0,g5]
   by_cases h:acc<=B
   ·exact .inr ⟨h,hac h⟩
   ·exact .inl (by omega)
theorem B0H (h57:F 57=some f1057):∀(N:Nat) (e:PTyp) (b:Nat) (σ:Sto),szT e<=N->OkT e->A4 F O N b 57 [.agg (K2 e),.agg (K2 e)] σ=some (.ret (.bool true),σ)
 |0,e,b,σ,h,_=>by rw [A1w] at h;omega
 |N+1,e,b,σ,h,he=>by
  have ih:=B0H h57 N;have hs:=A1w e;have hk:=A0w e.list;refine A3 h57 ?_;simp [x1057,F6];obtain ⟨I,hI⟩:∃I:Nat->TAct->Sto->Prop,I=(fun j a σ'=>a.df=[]/\σ'=σ/\(∃s2,a.tm.get 2=some (.bx s2 (K2 e) 66))/\(∃s3,a.tm.get 3=some (.bx s3 (K2 e) 66))/\a.tm.get 5=some (.int .i64 j)):=⟨_,rfl⟩;obtain ⟨R,hR⟩:∃R:TEx->TAct->Sto->Prop,R=(fun ex a σ'=>ex=.exit 0/\a.df=[]/\σ'=σ):=⟨_,rfl⟩
  refine A9 I e.list.length R ?_ (by omega) ?_ ?_ ?_
  ·rw [hI];exact ⟨rfl,rfl,⟨_,by simp [F6];rfl⟩,⟨_,by simp [F6];rfl⟩,by simp⟩
  ·rw [hI];rintro j ⟨tm,df,clk⟩ σ' hj ⟨rfl,rfl,⟨s2,h2⟩,⟨s3,h3⟩,h5⟩;rw [<-hI];simp only at h2 h3 h5;have hw:=C8 hj he.len;have hmem:=List.getElem_mem hj;have hcc:=ih e.list[j] σ'.length σ' (by have:=A02 _ _ hmem;omega) (he.sub _ hmem);have h2':=h2;have h3':=h3;rw [F6] at hcc h2 h3;simp [h2,h3,h5,hj,hcc,hw,F6];rw [hI];exact ⟨rfl,rfl,⟨_,by simp [h2'];rfl⟩,⟨_,by simp [h3'];rfl⟩,by simp⟩
  ·rw [hI];rintro ⟨tm,df,clk⟩ σ' ⟨rfl,rfl,⟨s2,h2⟩,⟨s3,h3⟩,h5⟩;simp only at h2 h3 h5;rw [F6] at h2 h3;simp [h2,h3,h5];rw [hR];exact ⟨rfl,rfl,rfl⟩
  ·rw [hR];rintro ex ⟨tm,df,clk⟩ σ' ⟨rfl,rfl,rfl⟩;simp
structure AFits (F:FuncId->Option TFun):Prop where
 h13:F 13=some f1013
 h38:F 38=some f1038
 h39:F 39=some f16
 h56:F 56=some f1056
 h57:F 57=some f1057
 h19:F 19=some f1019
 h20:F 20=some f1020
theorem B0I (V:AFits F) (N:Nat) (d:PBody) (b:Nat) (σ:Sto) (h:E3 d.term<=N) (hd:OkTm d.term):
  A4 F O (N+1) b 56 [.agg (G4 d),.agg (G4 d)] σ=some (.ret (.bool true),σ):=by
 have h1:=B0f (O:=O) V.h13 V.h38 V.h39 N d.term σ.length σ h hd;rw [A0] at h1;refine A3 V.h56 ?_;simp [x1056,B9,h1]
theorem C0b (V:AFits F) (N:Nat) (l:List Int) (b:Nat) (σ:Sto) (hl:l.length<=1000) (hN:l.length<N):
  A4 F O (N+1) b 20 [.sl .fz (l.map encI),.sl .fz (l.map encI)] σ=some (.ret (.bool true),σ):=by
 refine A3 V.h20 ?_;simp [x1020];obtain ⟨I,hI⟩:∃I:Nat->TAct->Sto->Prop,I=(fun j a σ'=>a.df=[]/\σ'=σ/\a.tm.get 0=some (.sl .fz (l.map encI))/\a.tm.get 1=some (.sl .fz (l.map encI))/\a.tm.get 5=some (.int .i64 j)):=⟨_,rfl⟩;obtain ⟨R,hR⟩:∃R:TEx->TAct->Sto->Prop,R=(fun ex a σ'=>ex=.exit 0/\a.df=[]/\σ'=σ):=⟨_,rfl⟩;refine A9 I l.length R ?_ hN ?_ ?_ ?_
 ·rw [hI];exact ⟨rfl,rfl,by simp,by simp,by simp⟩
 ·rw [hI];rintro j ⟨tm,df,clk⟩ σ' hj ⟨rfl,rfl,h0,h1,h5⟩;rw [<-hI];simp only at h0 h1 h5;have hw:=C8 hj (by unfold maxLen;omega);have hj1:j+1<=l.length:=hj;simp [h0,h1,h5,hj,hj1,hw,encI];rw [hI];exact ⟨rfl,rfl,by simp [h0],by simp [h1],by simp⟩
 ·rw [hI];rintro ⟨tm,df,clk⟩ σ' ⟨rfl,rfl,h0,h1,h5⟩;simp only at h0 h1 h5;simp [h0,h1,h5];rw [hR];exact ⟨rfl,rfl,rfl⟩
 ·rw [hR];rintro ex ⟨tm,df,clk⟩ σ' ⟨rfl,rfl,rfl⟩;simp
theorem C0c (V:AFits F) (M N:Nat) (c:PCore) (b:Nat) (σ:Sto) (h:CB M c) (hf:c.funs.length<=1000) (hN:M+2000<=N):
  A4 F O (N+1) b 19 [.agg (E9 c),.agg (E9 c)] σ=some (.ret (.bool true),σ):=by
 obtain ⟨K,rfl⟩:∃k,N=k+1:=⟨N - 1,by omega⟩;have hq:=B0I (O:=O) V K c.query σ.length σ (by have:=h.szq;omega) h.ok.query.term;rw [B9] at hq;have htl:=A0w c.types;have hzt:=h.szt;refine A3 V.h19 ?_;simp [x1019,A7,hq];obtain ⟨I,hI⟩:∃I:Nat->TAct->Sto->Prop,I=(fun j a σ'=>a.df=[]/\σ'=σ/\(∃s2,a.tm.get 2=some (.bx s2 (E9 c) 40))/\(∃s3,a.tm.get 3=some (.bx s3 (E9 c) 40))/\a.tm.get 5=some (.int .i64 j)):=⟨_,rfl⟩
 obtain ⟨R,hR⟩:∃R:TEx->TAct->Sto->Prop,R=(fun ex a σ'=>ex=.exit 0/\a.df=[]/\σ'=σ/\(∃s2,a.tm.get 2=some (.bx s2 (E9 c) 40))/\∃s3,a.tm.get 3=some (.bx s3 (E9 c) 40)):=⟨_,rfl⟩;refine A9 I c.types.length R ?_ (by omega) ?_ ?_ ?_
 ·rw [hI];exact ⟨rfl,rfl,⟨_,by simp [A7];rfl⟩,⟨_,by simp [A7];rfl⟩,by simp⟩
 ·rw [hI];rintro j ⟨tm,df,clk⟩ σ' hj ⟨rfl,rfl,⟨s2,h2⟩,⟨s3,h3⟩,h5⟩;rw [<-hI];simp only at h2 h3 h5;have hw:=C8 hj h.ok.tlen;have hmem:=List.getElem_mem hj;have hcc:=B0H (O:=O) V.h57 (K+1) c.types[j] σ'.length σ' (by have:=A02 _ _ hmem;omega) (h.ok.types _ hmem);have h2':=h2;have h3':=h3;rw [F6] at hcc;rw [A7] at h2 h3;simp [h2,h3,h5,hj,hcc,hw,F6];rw [hI]
  exact ⟨rfl,rfl,⟨_,by simp [h2'];rfl⟩,⟨_,by simp [h3'];rfl⟩,by simp⟩
 ·rw [hI];rintro ⟨tm,df,clk⟩ σ' ⟨rfl,rfl,⟨s2,h2⟩,⟨s3,h3⟩,h5⟩;simp only at h2 h3 h5;have h2':=h2;have h3':=h3;rw [A7] at h2 h3;simp [h2,h3,h5];rw [hR];exact ⟨rfl,rfl,rfl,⟨_,by simp [h2'];rfl⟩,⟨_,by simp [h3'];rfl⟩⟩
 ·rw [hR];rintro ex ⟨tm,df,clk⟩ σ' ⟨rfl,rfl,rfl,⟨s2,h2⟩,⟨s3,h3⟩⟩;simp only at h2 h3;simp;clear hI hR;obtain ⟨I,hI⟩:∃I:Nat->TAct->Sto->Prop,I=(fun j a σ2=>a.df=[]/\σ2=σ'/\(∃s2,a.tm.get 2=some (.bx s2 (E9 c) 40))/\(∃s3,a.tm.get 3=some (.bx s3 (E9 c) 40))/\a.tm.get 6=some (.int .i64 j)):=⟨_,rfl⟩;obtain ⟨R,hR⟩:∃R:TEx->TAct->Sto->Prop,R=(fun ex a σ2=>ex=.exit 2/\a.df=[]/\σ2=σ'):=⟨_,rfl⟩
  refine A9 I c.funs.length R ?_ (by omega) ?_ ?_ ?_
  ·rw [hI];exact ⟨rfl,rfl,⟨_,by simp [h2];rfl⟩,⟨_,by simp [h3];rfl⟩,by simp⟩
  ·rw [hI];rintro j ⟨tm,df,clk⟩ σ2 hj ⟨rfl,rfl,⟨s2,h2⟩,⟨s3,h3⟩,h6⟩;rw [<-hI];simp only at h2 h3 h6;have hw:=C8 hj h.ok.flen;have hmem:=List.getElem_mem hj;have hcc:=B0I (O:=O) V K c.funs[j] σ2.length σ2 (by have:=h.sz _ hmem;omega) (h.ok.funs _ hmem).term;have h2':=h2;have h3':=h3;rw [B9] at hcc;rw [A7] at h2 h3;simp [h2,h3,h6,hj,hcc,hw,B9];rw [hI]
   exact ⟨rfl,rfl,⟨_,by simp [h2'];rfl⟩,⟨_,by simp [h3'];rfl⟩,by simp⟩
  ·rw [hI];rintro ⟨tm,df,clk⟩ σ2 ⟨rfl,rfl,⟨s2,h2⟩,⟨s3,h3⟩,h6⟩;simp only at h2 h3 h6;rw [A7] at h2 h3;simp [h2,h3,h6];rw [hR];exact ⟨rfl,rfl,rfl⟩
  ·rw [hR];rintro ex ⟨tm,df,clk⟩ σ2 ⟨rfl,rfl,rfl⟩;simp
end
section
open Go Go.Xe Go.Xt
def FC (f:FuncId):Option TFun:=
 if f=4 then some f1004 else if f=9 then some f1009 else if f=10 then some f1010 else if f=11 then some f1011 else if f=12 then some f1012 else if f=13 then some f1013 else if f=15 then some f1015 else if f=16 then some f6 else if f=17 then some f1017 else if f=18 then some f1018 else if f=19 then some f1019 else if f=20 then some f1020 else if f=21 then some f1021 else if f=22 then some f1022 else if f=26 then some f9 else if f=29 then some f24 else if f=31 then some f1031 else if f=32 then some f66 else if f=33 then some f1033 else if f=34 then some f1034 else if f=35 then some f1035 else if f=36 then some f19 else if f=37 then some f20 else if f=38 then some f1038 else if f=39 then some f16 else if f=40 then some f1040 else if f=41 then some f1041 else if f=42 then some f1042 else if f=43 then some f1043 else if f=44 then some f1044 else if f=45 then some f65 else if f=46 then some f23 else if f=47 then some f1047 else if f=48 then some f1048 else if f=49 then some f1049v else if f=50 then some f1050 else if f=51 then some f1051 else if f=52 then some f10 else if f=53 then some f1053 else if f=54 then some f1054 else if f=55 then some f1055 else if f=56 then some f1056 else if f=57 then some f1057 else if f=62 then some f28 else if f=63 then some f29 else if f=64 then some f35 else if f=66 then some f37 else if f=68 then some f21 else if f=69 then some f7 else if f=72 then some f111 else if f=73 then some f1073 else if f=74 then some f41 else if f=77 then some f44 else if f=78 then some f45 else if f=79 then some f46 else if f=80 then some f1080 else if f=81 then some f67 else if f=82 then some f1082 else if f=83 then some f1083 else if f=84 then some f1084 else if f=85 then some f109 else if f=86 then some f110 else if f=87 then some f47 else if f=88 then some f1088 else if f=89 then some f1089 else if f=90 then some f1090 else if f=91 then some f30 else if f=92 then some f31k else if f=93 then some f1093 else if f=94 then some f1094k else if f=95 then some f1095k else if f=97 then some f56 else if f=98 then some f57 else if f=100 then some f25 else if f=111 then some f1111 else if f=112 then some f106 else if f=113 then some f107 else if f=114 then some f108 else if f=115 then some f159 else if f=116 then some f58 else if f=117 then some f59 else if f=118 then some f1118 else if f=119 then some f95 else if f=120 then some f96 else if f=121 then some f97 else if f=122 then some f98 else if f=123 then some f99 else if f=124 then some f100 else if f=125 then some f101k else if f=162 then some f158 else if f=163 then some f182 else if f=164 then some f102 else if f=165 then some f149 else if f=166 then some f150 else if f=167 then some f151 else if f=168 then some f61 else if f=169 then some f152 else if f=201 then some f165 else if f=202 then some f180 else if f=203 then some f181 else if f=204 then some f153 else if f=205 then some f154 else if f=206 then some f155 else if f=207 then some f156 else if f=208 then some f60 else if f=209 then some f178 else if f=223 then some f63 else if f=224 then some f179 else if f=225 then some f32 else if f=226 then some f103 else if f=227 then some f104 else if f=234 then some f105 else if f=235 then some f62 else if f=236 then some f190 else if f=237 then some f157 else none
theorem D0U:RowO FC OT:=⟨by decide,by decide,fun args=>rfl,fun args=>rfl⟩
theorem C4X:UFits FC:=⟨rfl,rfl,rfl,rfl,rfl,rfl,rfl⟩
theorem C0d:WFits FC OT:=⟨rfl,rfl,rfl,rfl,rfl,rfl,rfl,rfl,rfl,rfl,rfl,D0U⟩
theorem B69:VFits FC:=⟨rfl,rfl,rfl,rfl,rfl,rfl,rfl,rfl,rfl,rfl⟩
theorem C4Y:LFits FC OT:=⟨C4X,C0d,B69,rfl,rfl,rfl,rfl⟩
theorem C4Z:RFits FC OT:=⟨C0d,B69,rfl,rfl,rfl,rfl,rfl,rfl⟩
theorem C50:HFits FC:={ h60:=rfl,h104:=rfl,h103:=rfl,h157:=rfl,h32:=rfl }
theorem C51:SFits FC:={ has:=C50,h150:=rfl,h178:=rfl }
theorem C52:PFits FC:={ h62:=rfl,h179:=rfl,h190:=rfl }
theorem C0e:VFitsR FC:={ s:=C51,p:=C52,h98:=rfl,h153:=rfl,h151:=rfl,h28:=rfl,h56:=rfl,h96:=rfl,h95:=rfl,h149:=rfl,h61:=rfl,h63:=rfl,h105:=rfl }
theorem C53:TFits FC:={ v:=C0e,h57:=rfl,h97:=rfl,h99:=rfl,h152:=rfl,h100:=rfl,h101:=rfl }
theorem C54:JFits FC:={ v:=C0e,h102:=rfl,h154:=rfl,h155:=rfl,h156:=rfl,h45:=rfl,h59:=rfl }
theorem C0f:CFits FC:={ v:={ t:=C53,h29:=rfl },r:={ j:=C54,h31:=rfl },h9:=rfl,h10:=rfl,h30:=rfl,h58:=rfl }
theorem C55:OFits FC:=⟨rfl,rfl,rfl,rfl,rfl,rfl,rfl⟩
theorem C0g:KFits FC OT:=⟨C0f,C4Y,C55,rfl,rfl,rfl,rfl,rfl,rfl,rfl,rfl⟩
theorem B6a:JKFits FC OT:=⟨C0f,C4Z,rfl,rfl,rfl,rfl,rfl,rfl,rfl,rfl,rfl,rfl⟩
theorem C0h:AFits FC:=⟨rfl,rfl,rfl,rfl,rfl,rfl,rfl⟩
theorem C0i (N b:Nat) (σ:Sto):A4 FC OT (N+1) b 8 [] σ=some (.ret (.bool true),σ):=by
 have h:FC 8=none:=by decide
 have h2:OT 8 []=some (.bool true):=rfl;simp only [A4,h,h2,A94,A4T,A6I]
theorem C56:OkC A09:=⟨by simp [A09],fun t h=>by simp [A09] at h,by simp [A09],fun t h=>by simp [A09] at h,⟨O2 (by simp [A09]) (by simp [A09]),O2 (by simp [A09]) (by simp [A09]),
 .mk (O2 (by simp) (by simp)) (O2 (by simp) (by simp)) (O2 (by simp) (by simp)) (.mk (O2 (by simp) (by simp)) (O2 (by simp) (by simp)) (by simp) (by simp)) (by simp) (by simp) (by simp) (by simp)⟩,O2 (by simp [A09]) (by simp [A09])⟩
theorem cb_zero:CB 100 A09:={ ok:=C56,szt:=by simp [A09,A1c],sz:=fun f h=>by simp [A09] at h,szq:=by simp [A09,E3,A0R,szV,A10],cnt:=fun f h=>by simp [A09] at h,cntq:=⟨by simp [A09,cntT,F7],.mk (by simp [cntV,A2A]) (by simp) (by simp)⟩ }
theorem CB.mono {M M':Nat} {c:PCore} (h:CB M c) (hm:M<=M'):CB M' c:=
 { ok:=h.ok,szt:=Nat.le_trans h.szt hm,sz:=fun f hf=>Nat.le_trans (h.sz f hf) hm,szq:=Nat.le_trans h.szq hm,cnt:=h.cnt,cntq:=h.cntq }
set_option maxHeartbeats 8000000 in
theorem B1A (c:PCore) (hc:OkC c) (hsm:Sm reachBytes (E9 c)) (M:Nat) (h1:A1c c.types<=M) (h2:E3 c.query.term<=M) (h3:∀f∈c.funs,E3 f.term<=M) (h4:c.funs.length<=M) (K:Nat) (hK:5*M+101000<=K):
  ∃σ',A4 FC OT (K+1) 0 4 [.agg (E9 c)] []=some (.ret (.bool true),σ'):=by
 refine ⟨[],?_⟩;obtain ⟨K,rfl⟩:∃k,K=k+2:=⟨K - 2,by omega⟩;obtain ⟨r,hf,hr⟩:=B1z (O:=OT) (F:=FC) rfl rfl rfl rfl rfl rfl K c 0 [] 2000 (by omega) hc hsm (by omega) (by omega) (fun f hf=>by have:=h3 f hf;omega) (by omega);have haw:=C0i (K+1) 0 [];have h4':FC 4=some f1004:=rfl;rw [show ((2000:Nat):Int)=2000 from rfl] at hf;refine A3 h4' ?_;cases r with
 |false=>
  rw [A7] at hf;simp [x1004,A7 c,hf,haw]
 |true=>
  obtain ⟨hfl,hq,hfs⟩:=hr rfl;have hcb:CB M c:={ ok:=hc,szt:=h1,sz:=h3,szq:=h2,cnt:=fun f hf=>⟨(hfs f hf).1,Lt.mono (by omega) _ _ (Nat.le_refl _) (hfs f hf).2⟩,cntq:=⟨hq.1,Lt.mono (by omega) _ _ (Nat.le_refl _) hq.2⟩ };have s1:=C06 (F:=FC) (O:=OT) C0g M (K+1) c 0 [] hcb (by omega) (by omega);have s2:=C08 (F:=FC) (O:=OT) B6a M (K+1) c 0 [] hcb (by omega) (by omega)
  have s3:=C07 (F:=FC) (O:=OT) C0g M (K+1) c 0 [] hcb (by omega) (by omega);have s4:=C09 (F:=FC) (O:=OT) B6a M (K+1) c 0 [] hcb (by omega) (by omega);have hdl:(A6s c).length<=1000:=by
   unfold A6s;cases hcr:V8 c with
   |false=>simp
   |true=>
    have:=A5T (reachL (slC c)) (slC c).funs.length;have hl:(slC c).funs.length=c.funs.length:=by simp [slC]
    simp only;omega
  have s5:=C0b (F:=FC) (O:=OT) C0h (K+1) (A6s c) 0 [] hdl (by omega);have hcr:CB (M+100) (A2B c).1/\(A2B c).1.funs.length<=1000:=by
   unfold A2B;cases hcr:V8 c with
   |false=>exact ⟨cb_zero.mono (by omega),by simp [A09]⟩
   |true=>
    have:=(hcb.right hcr).sliced.ren (reachL (slC c)) (A3r _).len;exact ⟨this.1.mono (by omega),by have:=this.2;simp only;omega⟩
  have s6:=C0c (F:=FC) (O:=OT) C0h (M+100) (K+1) (A2B c).1 0 [] hcr.1 hcr.2 (by omega);generalize (A2B c).1=d at s1 s2 s6;generalize (A2B c).2=e at s1 s2;generalize (A6s c).map encI=dl at s3 s4 s5;have hd:=A7 d;rw [hd] at s1 s2 s6;rw [A7 c] at hf s1 s2 s3 s4;simp (maxSteps:=3000000) [x1004,A7 c,hf,haw,s1,s2,s3,s4,s5,s6]
end
end Go.Xe.YtlgknghehgmodaaGreatDoor
namespace Go.Proofs
section
open Go.Shelf
def Tryz.lays137_ren:Go.Shelf.Ren:=⟨fun|137=>230|217=>240|266=>246|n=>n,fun|9=>9|5=>5|3=>3|n=>n,fun|n=>n⟩
theorem Tryz.lays137:Go.Proofs.Lays.n137 Tryz.prog Tryz.lays137_ren:={
 mixed:=by kernel_rfl
 f137:=Tryz.func230.trans (congrArg some (by kernel_rfl))
 f217:=Tryz.func240.trans (congrArg some (by kernel_rfl))
 f266:=Tryz.func246.trans (congrArg some (by kernel_rfl))
 t3:=Tryz.underlying3
 a3:=Tryz.isAgg3
 z3:=Tryz.sizeOf3
 v3:=Tryz.zeroValue3
 t5:=Tryz.underlying5
 a5:=Tryz.isAgg5
 z5:=Tryz.sizeOf5
 v5:=Tryz.zeroValue5
 t9:=Tryz.underlying9
 a9:=Tryz.isAgg9
 z9:=Tryz.sizeOf9
 v9:=Tryz.zeroValue9 }
open Go.RowKit in
theorem Tryz.strings_IndexByte (s:ByteArray) (c:Int) (w:World):
  Calls Tryz.prog 230 #[.string s,.int .u8 c] w fun e w'=>e=.returned (.int .i64 (Lib.indexByte s.data.toList c.toNat.toUInt8))/\w'=w:=Any.strings_IndexByte Tryz.lays137 s c w
open Go.RowKit Go.Lib in
open Go.RowKit Go.Lib in
open Go.RowKit Go.Lib in
open Go.RowKit Go.Lib in
open Go.RowKit Go.Lib in
open Go.RowKit Go.Lib in
open Go.RowKit Go.Lib in
open Go.RowKit Go.Lib in
open Go.RowKit Go.Lib in
open Go.RowKit Go.Lib in
open Go.RowKit Go.Lib in
open Go.RowKit Go.Lib in
def Tryz.laysM144_ren:Go.Shelf.Ren:=⟨fun|144=>212|143=>228|219=>238|217=>240|225=>243|224=>244|267=>245|266=>246|314=>247|n=>n,fun|9=>9|4=>4|3=>3|5=>5|46=>141|146=>265|51=>196|n=>n,fun|1=>1|n=>n⟩
theorem Tryz.laysM144:Go.Proofs.LaysM.n144 Tryz.prog Tryz.laysM144_ren:={
 mixed:=by kernel_rfl
 f143:=Tryz.func228.trans (congrArg some (by kernel_rfl))
 f144:=Tryz.func212.trans (congrArg some (by kernel_rfl))
 f217:=Tryz.func240.trans (congrArg some (by kernel_rfl))
 f219:=Tryz.func238.trans (congrArg some (by kernel_rfl))
 f224:=Tryz.func244.trans (congrArg some (by kernel_rfl))
 f225:=Tryz.func243.trans (congrArg some (by kernel_rfl))
 f266:=Tryz.func246.trans (congrArg some (by kernel_rfl))
 f267:=Tryz.func245.trans (congrArg some (by kernel_rfl))
 f314:=Tryz.func247.trans (congrArg some (by kernel_rfl))
 t3:=Tryz.underlying3
 a3:=Tryz.isAgg3
 z3:=Tryz.sizeOf3
 v3:=Tryz.zeroValue3
 t4:=Tryz.underlying4
 a4:=Tryz.isAgg4
 z4:=Tryz.sizeOf4
 v4:=Tryz.zeroValue4
 t5:=Tryz.underlying5
 a5:=Tryz.isAgg5
 z5:=Tryz.sizeOf5
 v5:=Tryz.zeroValue5
 t9:=Tryz.underlying9
 a9:=Tryz.isAgg9
 z9:=Tryz.sizeOf9
 v9:=Tryz.zeroValue9
 t46:=Tryz.underlying141
 a46:=Tryz.isAgg141
 z46:=Tryz.sizeOf141
 v46:=Tryz.zeroValue141
 t51:=Tryz.underlying196
 a51:=Tryz.isAgg196
 z51:=Tryz.sizeOf196
 v51:=Tryz.zeroValue196
 t146:=Tryz.underlying265
 a146:=Tryz.isAgg265
 z146:=Tryz.sizeOf265
 v146:=Tryz.zeroValue265
 g1:=by kernel_rfl
 i3:=by kernel_rfl
 i4:=by kernel_rfl
 i5:=by kernel_rfl
 i9:=by kernel_rfl
 i46:=by kernel_rfl
 i51:=by kernel_rfl
 i146:=by kernel_rfl
 m1:=by kernel_rfl
 s1_3:=fun w h=>Go.Proofs.cell_of_shapedOpen_int (zero:=#[.int .i64 0]) (t:=3) h (of_decide_eq_true (by kernel_rfl)) (by kernel_rfl) rfl (by kernel_rfl) (by kernel_rfl) Tryz.underlying3 }
open Go.RowKit Go.Lib in
theorem Tryz.strings_Contains_shaped (s sub:ByteArray) (w:World) (h:w.ShapedOpen Tryz.prog) (hs:s.size<4294967281):
  Calls Tryz.prog 212 #[.string s,.string sub] w fun e w'=>e=.returned (.bool (Lib.contains s.data.toList sub.data.toList))/\w'=w:=Any.strings_Contains_shaped Tryz.laysM144 s sub w h hs
def Tryz.lays189_ren:Go.Shelf.Ren:=⟨fun|189=>75|125=>110|257=>109|128=>160|129=>161|294=>151|295=>152|296=>153|297=>154|298=>155|299=>156|216=>157|300=>158|301=>159|328=>196|329=>197|330=>198|331=>199|332=>200|215=>201|343=>222|n=>n,fun|28=>25|3=>3|46=>141|0=>0|51=>196|53=>198|4=>4|183=>188|182=>187|131=>193|5=>5|9=>9|218=>232|222=>236|228=>250|229=>251|n=>n,fun|n=>n⟩
theorem Tryz.lays189:Go.Proofs.Lays.n189 Tryz.prog Tryz.lays189_ren:={
 mixed:=by kernel_rfl
 f125:=Tryz.func110.trans (congrArg some (by kernel_rfl))
 f128:=Tryz.func160.trans (congrArg some (by kernel_rfl))
 f129:=Tryz.func161.trans (congrArg some (by kernel_rfl))
 f189:=Tryz.func75.trans (congrArg some (by kernel_rfl))
 f215:=Tryz.func201.trans (congrArg some (by kernel_rfl))
 f216:=Tryz.func157.trans (congrArg some (by kernel_rfl))
 f257:=Tryz.func109.trans (congrArg some (by kernel_rfl))
 f294:=Tryz.func151.trans (congrArg some (by kernel_rfl))
 f295:=Tryz.func152.trans (congrArg some (by kernel_rfl))
 f296:=Tryz.func153.trans (congrArg some (by kernel_rfl))
 f297:=Tryz.func154.trans (congrArg some (by kernel_rfl))
 f298:=Tryz.func155.trans (congrArg some (by kernel_rfl))
 f299:=Tryz.func156.trans (congrArg some (by kernel_rfl))
 f300:=Tryz.func158.trans (congrArg some (by kernel_rfl))
 f301:=Tryz.func159.trans (congrArg some (by kernel_rfl))
 f328:=Tryz.func196.trans (congrArg some (by kernel_rfl))
 f329:=Tryz.func197.trans (congrArg some (by kernel_rfl))
 f330:=Tryz.func198.trans (congrArg some (by kernel_rfl))
 f331:=Tryz.func199.trans (congrArg some (by kernel_rfl))
 f332:=Tryz.func200.trans (congrArg some (by kernel_rfl))
 f343:=Tryz.func222.trans (congrArg some (by kernel_rfl))
 t0:=Tryz.underlying0
 a0:=Tryz.isAgg0
 z0:=Tryz.sizeOf0
 v0:=Tryz.zeroValue0
 t3:=Tryz.underlying3
 a3:=Tryz.isAgg3
 z3:=Tryz.sizeOf3
 v3:=Tryz.zeroValue3
 t4:=Tryz.underlying4
 a4:=Tryz.isAgg4
 z4:=Tryz.sizeOf4
 v4:=Tryz.zeroValue4
 t5:=Tryz.underlying5
 a5:=Tryz.isAgg5
 z5:=Tryz.sizeOf5
 v5:=Tryz.zeroValue5
 t9:=Tryz.underlying9
 a9:=Tryz.isAgg9
 z9:=Tryz.sizeOf9
 v9:=Tryz.zeroValue9
 t28:=Tryz.underlying25
 a28:=Tryz.isAgg25
 z28:=Tryz.sizeOf25
 v28:=Tryz.zeroValue25
 t46:=Tryz.underlying141
 a46:=Tryz.isAgg141
 z46:=Tryz.sizeOf141
 v46:=Tryz.zeroValue141
 t51:=Tryz.underlying196
 a51:=Tryz.isAgg196
 z51:=Tryz.sizeOf196
 v51:=Tryz.zeroValue196
 t53:=Tryz.underlying198
 a53:=Tryz.isAgg198
 z53:=Tryz.sizeOf198
 v53:=Tryz.zeroValue198
 t131:=Tryz.underlying193
 a131:=Tryz.isAgg193
 z131:=Tryz.sizeOf193
 v131:=Tryz.zeroValue193
 t182:=Tryz.underlying187
 a182:=Tryz.isAgg187
 z182:=Tryz.sizeOf187
 v182:=Tryz.zeroValue187
 t183:=Tryz.underlying188
 a183:=Tryz.isAgg188
 z183:=Tryz.sizeOf188
 v183:=Tryz.zeroValue188
 t218:=Tryz.underlying232
 a218:=Tryz.isAgg232
 z218:=Tryz.sizeOf232
 v218:=Tryz.zeroValue232
 t222:=Tryz.underlying236
 a222:=Tryz.isAgg236
 z222:=Tryz.sizeOf236
 v222:=Tryz.zeroValue236
 t228:=Tryz.underlying250
 a228:=Tryz.isAgg250
 z228:=Tryz.sizeOf250
 v228:=Tryz.zeroValue250
 t229:=Tryz.underlying251
 a229:=Tryz.isAgg251
 z229:=Tryz.sizeOf251
 v229:=Tryz.zeroValue251 }
open Go.Sort Go.RowKit in
theorem Tryz.slices_Sort_int (blk off cap:Nat) (zs:List Int) (w:World) (hH:Holds (Value.int .i64) w blk off zs.toArray) (hblk:blk<w.heap.size) (hsz:zs.length<4611686018427387904):
  Calls Tryz.prog 75 #[.slice (some ⟨blk,off,none⟩) zs.length cap] w fun e w'=>
   e=.returned (.tuple #[])/\∃n os,w'=grow (putRow (Value.int .i64) (Sort.ahead w n) blk off (zs.mergeSort fun x y=>decide (x<=y)).toArray) os:=Any.slices_Sort_int Tryz.lays189 blk off cap zs w hH hblk hsz
def Tryz.laysNm220_ren:Go.Shelf.Ren:=⟨fun|20=>76|n=>n,fun|22=>25|3=>3|4=>4|0=>0|n=>n,fun|n=>n⟩
theorem Tryz.laysNm220:Go.Proofs.Lays2.n20 Tryz.prog Tryz.laysNm220_ren:={
 mixed:=by kernel_rfl
 f20:=Tryz.func76.trans (congrArg some (by kernel_rfl))
 t0:=Tryz.underlying0
 a0:=Tryz.isAgg0
 z0:=Tryz.sizeOf0
 v0:=Tryz.zeroValue0
 t3:=Tryz.underlying3
 a3:=Tryz.isAgg3
 z3:=Tryz.sizeOf3
 v3:=Tryz.zeroValue3
 t4:=Tryz.underlying4
 a4:=Tryz.isAgg4
 z4:=Tryz.sizeOf4
 v4:=Tryz.zeroValue4
 t22:=Tryz.underlying25
 a22:=Tryz.isAgg25
 z22:=Tryz.sizeOf25
 v22:=Tryz.zeroValue25
 i3:=by kernel_rfl }
open Go.RowKit Go.Lib Go.Sort in
open Go.RowKit Go.Lib Go.Sort in
theorem Tryz.slices_Compact_int (blk off cap:Nat) (zs:List Int) (w:World) (hH:Holds (Value.int .i64) w blk off zs.toArray) (hsz:zs.length<=9223372036854775807) (hcap:zs.length<=cap):
  Calls Tryz.prog 76 #[.slice (some ⟨blk,off,none⟩) zs.length cap] w fun e w'=>e=.returned (.slice (some ⟨blk,off,none⟩) (Lib.compact zs).length cap)/\∃q,w'=putRow (Value.int .i64) (Sort.ahead w q) blk off (Lib.compact zs++List.replicate (zs.length - (Lib.compact zs).length) 0).toArray:=Any.slices_Compact_int Tryz.laysNm220 blk off cap zs w hH hsz hcap
open Go.RowKit Go.Lib Go.Sort in
theorem Tryz.slices_Compact_int_empty (a:Option Addr) (cap:Nat) (w:World):
  Calls Tryz.prog 76 #[.slice a 0 cap] w fun e w'=>e=.returned (.slice a 0 cap)/\w'=w:=Any.slices_Compact_int_empty Tryz.laysNm220 a cap w
open Go.RowKit Go.Sort in
theorem Tryz.slices_Sort_int_none (p:Option Addr) (cap:Nat) (w:World):
  Calls Tryz.prog 75 #[.slice p 0 cap] w fun e w'=>e=.returned (.tuple #[])/\w'=w:=Any.slices_Sort_int_none Tryz.lays189 p cap w
end
end Go.Proofs
namespace Go.Xe.YtlgknghehgmodaaGreatDoor
section
open Go Go.Xe Go.Proofs Go.RowKit
def orc (f:FuncId) (args:List Value):Option Value:=
 match Nat.beq f 212,Nat.beq f 230,args with
 |true,_,[.string s,.string t]=>match Nat.ble s.data.toList.length 4000000000 with
  |true=>some (.bool (A1Q t.data.toList s.data.toList))
  |false=>none
 |_,true,[.string s,.int .u8 (.ofNat n)]=>match Nat.blt n 256 with
  |true=>some (.int .i64 (match A9B n s.data.toList 0 with|some i=>.ofNat i|none=>.negSucc 0))
  |false=>none
 |_,_,_=>none
noncomputable def F (f:FuncId):Option XFun:=
 match Nat.beq f 212||Nat.beq f 230 with
 |true=>none
 |false=>match Tryz.prog.funcs[f]? with
  |some fn=>A8 Tryz.prog glb fn
  |none=>none
theorem D0V:A00 Tryz.prog 212:=⟨Tryz.f212,Tryz.func212,by decide,rfl⟩
theorem D0W:A00 Tryz.prog 230:=⟨Tryz.f230,Tryz.func230,by decide,rfl⟩
theorem C2w {u v:Value} (hu:∀φ x,VRel φ u x->x=u) (hv:∀φ x,VRel φ v x->x=v) (φ:Loc) (l:List Value) (h:VRels φ [u,v] l):l=[u,v]:=by
 cases h with
 |cons h1 h=>cases h with
  |cons h2 h=>cases h;rw [hu φ _ h1,hv φ _ h2]
theorem env:Env Tryz.prog glb F orc:=by
 refine ⟨by kernel_rfl,fun f x h=> ?_,fun f args v hF hO=> ?_⟩
 ·unfold F at h;split at h
  ·cases h
  ·split at h
   ·rename_i fn hfn;exact ⟨fn,hfn,h⟩
   ·cases h
 ·unfold orc at hO;split at hO
  ·rename_i _ s t hf;rw [D8] at hf;obtain rfl:=of_decide_eq_true hf;split at hO
   ·rename_i hle;rw [D4] at hle;have hle:=of_decide_eq_true hle;cases hO;refine OOk.still D0V rfl rfl rfl (fun φ l h=>C2w (fun φ x h=>by cases h;rfl) (fun φ x h=>by cases h;rfl) φ l h) fun W0 N0 φ g w hg r=> ?_
    have hs:s.size<4294967281:=by
     have:s.size=s.data.toList.length:=by rw [Array.length_toList];rfl
     omega
    have:=Tryz.strings_Contains_shaped s t w (r.shaped hg.1) hs;rw [<-A4M] at this;exact this
   ·cases hO
  ·rename_i _ s n hf;rw [D8] at hf;obtain rfl:=of_decide_eq_true hf;split at hO
   ·rename_i hlt;rw [G6] at hlt;have hlt:=of_decide_eq_true hlt;cases hO;refine OOk.still D0W rfl rfl rfl (fun φ l h=>C2w (fun φ x h=>by cases h;rfl) (fun φ x h=>by cases h;rfl) φ l h) fun W0 N0 φ g w hg r=> ?_
    have:=Tryz.strings_IndexByte s (Int.ofNat n) w;have e:(match A9B n s.data.toList 0 with|some i=>Int.ofNat i|none=>Int.negSucc 0)=Lib.indexByte s.data.toList (Int.ofNat n).toNat.toUInt8:=by
     have hge:=Lib.indexByte_ge s.data.toList n.toUInt8;rw [B2p n hlt];show _=Lib.indexByte s.data.toList n.toUInt8
     by_cases h:Lib.indexByte s.data.toList n.toUInt8=-1
     ·rw [if_pos h,h];rfl
     ·rw [if_neg h];show ((0+(Lib.indexByte s.data.toList n.toUInt8).toNat:Nat):Int)=_;omega
    rw [e];exact this
   ·cases hO
  ·cases hO
theorem B7z:B2n F orc 100000 8 [] (A3K opsL) .nil 2 isTrue=true:=by kernel_rfl
theorem D0X (w:World) (h:w.ShapedOpen Tryz.prog) (hl:laidG opsL w):Calls Tryz.prog 8 #[] w fun E w'=>E=.returned (.bool true)/\Below w.heap.size w w':=
 A5t env (φ:=fun i=>if i<2 then some (i,0,if i=0 then 14 else 0) else none) (nx:=2) opsL (fun i h=>by
   have h:Nat.blt i 2=true:=h;rw [G6] at h
   exact ⟨if i=0 then 14 else 0,if_pos (of_decide_eq_true h)⟩) (fun i h=>if_neg (by omega)) (fun x hx=>by cases List.mem_singleton.1 hx;rfl) (fun x hx=>by cases List.mem_singleton.1 hx;exact ⟨rfl,rfl⟩) B7z hl ⟨⟨rfl,h⟩,hl⟩
end
end Go.Xe.YtlgknghehgmodaaGreatDoor
namespace Go.Xe
section
open Go Go.Proofs Go.RowKit Go.Sort
theorem Q7:∀(xs vs:List Value) (o j:Nat),o+xs.length<=vs.length->(setList vs o xs)[j]? =if o<=j/\j<o+xs.length then xs[j - o]? else vs[j]?
 |[],vs,o,j,h=>by
  have h0:¬(o<=j/\j<o+([]:List Value).length):=by simp only [List.length_nil];omega
  simp only [setList];rw [if_neg h0]
 |x::xs,vs,o,j,h=>by
  simp only [List.length_cons] at h;rw [setList,Q7 xs (vs.set o x) (o+1) j (by simp;omega)];simp only [List.length_cons]
  by_cases h1:o+1<=j/\j<o+1+xs.length
  ·rw [if_pos h1,if_pos (by omega)];have e:j - o=(j - (o+1))+1:=by omega
   rw [e,List.getElem?_cons_succ]
  ·rw [if_neg h1]
   by_cases h2:j=o
   ·subst h2;rw [if_pos (by omega),Nat.sub_self,List.getElem?_cons_zero,List.getElem?_set_self (by omega)]
   ·rw [if_neg (by omega),List.getElem?_set_ne (fun e=>h2 e.symm)]
theorem B3J (o:Nat) (zs:List Int) (c:Array Value) (h:o+zs.length<=c.size):putCells (Value.int .i64) o zs.toArray c=(setList c.toList o (P6 zs)).toArray:=by
 apply Array.ext_getElem?;intro j;unfold putCells;rw [Array.getElem?_mapIdx,List.getElem?_toArray (xs:=setList c.toList o (P6 zs)),Q7 _ _ _ _ (by rw [A4N];simpa using h),A4N]
 by_cases hj:o<=j/\j<o+zs.length
 ·have hjc:j<c.size:=by omega
  have hjz:j - o<zs.length:=by omega
  rw [if_pos hj,Array.getElem?_eq_getElem hjc];simp only [Option.map_some,List.size_toArray,if_pos hj];rw [P6,List.getElem?_map,List.getElem?_eq_getElem hjz,Option.map_some];congr 2;rw [getElem!_pos _ _ (by simpa using hjz)];simp
 ·rw [if_neg hj];simp only [List.size_toArray,if_neg hj];rw [Array.getElem?_toList];cases c[j]? <;>rfl
theorem B0J {b o:Nat} {zs:List Int} {c:Array Value} {e:TypeId} {w:World} (hb:w.heap[b]? =some (.cells c e (0,0))) (hc:(c.toList.drop o).take zs.length=P6 zs):Holds (Value.int .i64) w b o zs.toArray:=by
 intro j hj;have hj:j<zs.length:=by simpa using hj
 have h1:((c.toList.drop o).take zs.length)[j]? =some (.int .i64 zs[j]):=by rw [hc];simp [P6,hj]
 rw [List.getElem?_take_of_lt hj,List.getElem?_drop,Array.getElem?_toList] at h1;have h2:(zs.toArray)[j]! =zs[j]:=by rw [getElem!_pos _ _ (by simpa using hj)];simp
 rw [h2];constructor
 ·simp [World.cell?,hb,h1]
 ·simp only [World.frozen?,hb];simp
theorem B3K {o:Nat} {zs:List Int} {c:Array Value} (hc:(c.toList.drop o).take zs.length=P6 zs):zs=[]\/o+zs.length<=c.size:=by
 have:=congrArg List.length hc;rw [A4N,List.length_take,List.length_drop] at this;have hcl:c.toList.length=c.size:=Array.length_toList
 by_cases h:zs=[]
 ·exact .inl h
 ·have:zs.length≠0:=fun e=>h (List.length_eq_zero_iff.1 e)
  right;omega
theorem C0j {b o q:Nat} {zs:List Int} {c:Array Value} {e:TypeId} {w:World} {os:Array Obj} (hb:w.heap[b]? =some (.cells c e (0,0))) (h:o+zs.length<=c.size):Gr (K1 w b (.cells (setList c.toList o (P6 zs)).toArray e (0,0))) (grow (putRow (Value.int .i64) (Sort.ahead w q) b o zs.toArray) os):=by
 have hlt:b<w.heap.size:=(Array.getElem?_eq_some_iff.1 hb).1;refine ⟨by simp [K1,grow,putRow,mapBlock,Sort.ahead],fun k hk=> ?_,rfl,rfl,rfl⟩;have hk:k<w.heap.size:=by simpa [K1] using hk
 have e1:(grow (putRow (Value.int .i64) (Sort.ahead w q) b o zs.toArray) os).heap[k]? =(w.heap.modify b (onCells (putCells (Value.int .i64) o zs.toArray)))[k]? :=by
  simp only [grow,putRow,mapBlock,Sort.ahead];rw [Array.getElem?_append_left (by simpa using hk)]
 rw [e1];simp only [K1];rw [Array.getElem?_modify,Array.getElem?_setIfInBounds]
 by_cases hbk:b=k
 ·subst hbk;rw [if_pos rfl,if_pos rfl,if_pos hlt,hb];simp only [Option.map_some,onCells,B3J o zs c h]
 ·rw [if_neg hbk,if_neg hbk]
def goC:Option Int->List Int->List Int
 |_,[]=>[]
 |p,x::l=>if p=some x then goC (some x) l else x::goC (some x) l
theorem A37:∀(l:List Int) (x:Int),F0 (x::l)=x::goC (some x) l
 |[],x=>by unfold F0;rfl
 |y::l,x=>by
  unfold F0 goC
  by_cases h:x=y
  ·subst h;simp only [if_true];rw [A37 l x]
  ·simp only [if_neg h,if_neg (fun e=>h (Option.some.inj e):¬some x=some y)];rw [A37 l y]
theorem C0k (zs:List Int):∀(n k:Nat),k+n=zs.length->((List.range' k n).filter (Lib.keeps zs.toArray)).map (zs.toArray[·]!)=goC (if k=0 then none else zs[k - 1]?) (zs.drop k)
 |0,k,h=>by
  rw [List.drop_of_length_le (by omega)];simp [goC]
 |n+1,k,h=>by
  have hk:k<zs.length:=by omega
  have ih:=C0k zs n (k+1) (by omega);rw [if_neg (by omega),Nat.add_sub_cancel,List.getElem?_eq_getElem hk] at ih;rw [List.range'_succ,List.drop_eq_getElem_cons hk];have hg:zs.toArray[k]! =zs[k]:=by rw [getElem!_pos _ _ (by simpa using hk)];simp
  unfold goC
  by_cases h0:k=0
  ·subst h0;have hkeep:Lib.keeps zs.toArray 0=true:=by simp [Lib.keeps]
   rw [List.filter_cons_of_pos hkeep,List.map_cons,ih,hg,if_neg (by simp)]
  ·rw [if_neg h0];have hk1:k - 1<zs.length:=by omega
   have hg1:zs.toArray[k - 1]! =zs[k - 1]:=by rw [getElem!_pos _ _ (by simpa using hk1)];simp
   rw [List.getElem?_eq_getElem hk1]
   by_cases he:zs[k - 1]=zs[k]
   ·have hkeep:¬Lib.keeps zs.toArray k=true:=by
     unfold Lib.keeps;rw [hg,hg1];simp [h0,he]
    rw [List.filter_cons_of_neg hkeep,ih,if_pos (by rw [he])]
   ·have hkeep:Lib.keeps zs.toArray k=true:=by
     unfold Lib.keeps;rw [hg,hg1];simp [h0];exact fun e=>he e.symm
    rw [List.filter_cons_of_pos hkeep,List.map_cons,ih,hg,if_neg (fun e=>he (Option.some.inj e))]
theorem B3L (zs:List Int):Lib.compact zs=F0 zs:=by
 unfold Lib.compact Lib.compactUpTo;rw [List.range_eq_range',C0k zs zs.length 0 (by omega),if_pos rfl,List.drop_zero];cases zs with
 |nil=>rfl
 |cons x l=>rw [A37,goC,if_neg (by simp)]
theorem C1D:B44 Tryz.prog 75 .sort:=fun b o cap zs c e w hb hc hz hl hcap=>by
 have hlt:b<w.heap.size:=(Array.getElem?_eq_some_iff.1 hb).1;have hfit:o+zs.length<=c.size:=(B3K hc).resolve_left hz;refine Calls.mono (Tryz.slices_Sort_int b o cap zs w (B0J hb hc) hlt (by omega)) ?_;rintro E w' ⟨rfl,n,os,rfl⟩;exact ⟨rfl,C0j (zs:=A0b .sort zs) hb (by rw [A7v];exact hfit)⟩
theorem C0l:B0X Tryz.prog 75 .sort:=fun p cap w=>Tryz.slices_Sort_int_none p cap w
theorem B56:B44 Tryz.prog 76 .compact:=fun b o cap zs c e w hb hc hz hl hcap=>by
 have hfit:o+zs.length<=c.size:=(B3K hc).resolve_left hz;refine Calls.mono (Tryz.slices_Compact_int b o cap zs w (B0J hb hc) (by omega) hcap) ?_;rintro E w' ⟨rfl,q,rfl⟩;rw [B3L];refine ⟨rfl,?_⟩;have:=C0j (q:=q) (os:=#[]) (zs:=A0b .compact zs) hb (by rw [A7v];exact hfit)
 rwa [grow_empty] at this
theorem B3M:B0X Tryz.prog 76 .compact:=fun p cap w=>Tryz.slices_Compact_int_empty p cap w
end
end Go.Xe
namespace Go.Xe.YtlgknghehgmodaaGreatDoor
section
open Go Go.Xe Go.Xt Go.Proofs Go.RowKit
def FX (f:FuncId):Option XFun:=(FC f).map TFun.fn
def OX (f:FuncId) (args:List Value):Option Value:=
 if f=75 then some (.agg ⟨[]⟩) else if f=76 then some (.agg ⟨[.bool true]⟩) else
 match args with
 |[]=>if f=8 then some (.bool true) else none
 |_=>none
theorem ifs {c:Prop} [Decidable c] {a b:Option TFun} {t:TFun} (h:(if c then a else b)=some t):(c/\a=some t)\/b=some t:=by
 split at h
 ·exact .inl ⟨by assumption,h⟩
 ·exact .inr h
theorem nc {t:TFun} {P:Prop} (h:t.clone=false):t.clone=true->P:=fun k=>by rw [h] at k;cases k
def D0Y (f:FuncId) (tf:TFun):Prop:=(∃fn,Tryz.prog.funcs[f]? =some fn/\A8 Tryz.prog J9 fn=some tf.fn)/\(tf.clone=true->∃e sz z bytes,tf.fn=A5A e sz z bytes)
set_option maxHeartbeats 8000000 in
theorem C2y (f:FuncId) (tf:TFun) (h2:FC f=some tf):D0Y f tf:=by
 unfold FC at h2
 rcases ifs h2 with ⟨rfl,h⟩|h2; · cases h;exact ⟨⟨_,Tryz.func4,C7c⟩,nc rfl⟩
 rcases ifs h2 with ⟨rfl,h⟩|h2; · cases h;exact ⟨⟨_,Tryz.func9,C7d⟩,nc rfl⟩
 rcases ifs h2 with ⟨rfl,h⟩|h2; · cases h;exact ⟨⟨_,Tryz.func10,C7e⟩,nc rfl⟩
 rcases ifs h2 with ⟨rfl,h⟩|h2; · cases h;exact ⟨⟨_,Tryz.func11,C7f⟩,nc rfl⟩
 rcases ifs h2 with ⟨rfl,h⟩|h2; · cases h;exact ⟨⟨_,Tryz.func12,C7g⟩,nc rfl⟩
 rcases ifs h2 with ⟨rfl,h⟩|h2; · cases h;exact ⟨⟨_,Tryz.func13,C7h⟩,nc rfl⟩
 rcases ifs h2 with ⟨rfl,h⟩|h2; · cases h;exact ⟨⟨_,Tryz.func15,C7i⟩,nc rfl⟩
 rcases ifs h2 with ⟨rfl,h⟩|h2; · cases h;exact ⟨⟨_,Tryz.func16,d6⟩,nc rfl⟩
 rcases ifs h2 with ⟨rfl,h⟩|h2; · cases h;exact ⟨⟨_,Tryz.func17,C7j⟩,nc rfl⟩
 rcases ifs h2 with ⟨rfl,h⟩|h2; · cases h;exact ⟨⟨_,Tryz.func18,C7k⟩,nc rfl⟩
 rcases ifs h2 with ⟨rfl,h⟩|h2; · cases h;exact ⟨⟨_,Tryz.func19,C7l⟩,nc rfl⟩
 rcases ifs h2 with ⟨rfl,h⟩|h2; · cases h;exact ⟨⟨_,Tryz.func20,C7m⟩,nc rfl⟩
 rcases ifs h2 with ⟨rfl,h⟩|h2; · cases h;exact ⟨⟨_,Tryz.func21,C7n⟩,nc rfl⟩
 rcases ifs h2 with ⟨rfl,h⟩|h2; · cases h;exact ⟨⟨_,Tryz.func22,C7o⟩,nc rfl⟩
 rcases ifs h2 with ⟨rfl,h⟩|h2; · cases h;exact ⟨⟨_,Tryz.func26,d9⟩,nc rfl⟩
 rcases ifs h2 with ⟨rfl,h⟩|h2; · cases h;exact ⟨⟨_,Tryz.func29,d24⟩,nc rfl⟩
 rcases ifs h2 with ⟨rfl,h⟩|h2; · cases h;exact ⟨⟨_,Tryz.func31,C7p⟩,nc rfl⟩
 rcases ifs h2 with ⟨rfl,h⟩|h2; · cases h;exact ⟨⟨_,Tryz.func32,d66⟩,nc rfl⟩
 rcases ifs h2 with ⟨rfl,h⟩|h2; · cases h;exact ⟨⟨_,Tryz.func33,C7q⟩,nc rfl⟩
 rcases ifs h2 with ⟨rfl,h⟩|h2; · cases h;exact ⟨⟨_,Tryz.func34,C7r⟩,nc rfl⟩
 rcases ifs h2 with ⟨rfl,h⟩|h2; · cases h;exact ⟨⟨_,Tryz.func35,C7s⟩,nc rfl⟩
 rcases ifs h2 with ⟨rfl,h⟩|h2; · cases h;exact ⟨⟨_,Tryz.func36,d19⟩,nc rfl⟩
 rcases ifs h2 with ⟨rfl,h⟩|h2; · cases h;exact ⟨⟨_,Tryz.func37,d20⟩,nc rfl⟩
 rcases ifs h2 with ⟨rfl,h⟩|h2; · cases h;exact ⟨⟨_,Tryz.func38,C7t⟩,nc rfl⟩
 rcases ifs h2 with ⟨rfl,h⟩|h2; · cases h;exact ⟨⟨_,Tryz.func39,d16⟩,nc rfl⟩
 rcases ifs h2 with ⟨rfl,h⟩|h2; · cases h;exact ⟨⟨_,Tryz.func40,C7u⟩,nc rfl⟩
 rcases ifs h2 with ⟨rfl,h⟩|h2; · cases h;exact ⟨⟨_,Tryz.func41,C7v⟩,nc rfl⟩
 rcases ifs h2 with ⟨rfl,h⟩|h2; · cases h;exact ⟨⟨_,Tryz.func42,C7w⟩,nc rfl⟩
 rcases ifs h2 with ⟨rfl,h⟩|h2; · cases h;exact ⟨⟨_,Tryz.func43,C7x⟩,nc rfl⟩
 rcases ifs h2 with ⟨rfl,h⟩|h2; · cases h;exact ⟨⟨_,Tryz.func44,C7y⟩,nc rfl⟩
 rcases ifs h2 with ⟨rfl,h⟩|h2; · cases h;exact ⟨⟨_,Tryz.func45,d65⟩,nc rfl⟩
 rcases ifs h2 with ⟨rfl,h⟩|h2; · cases h;exact ⟨⟨_,Tryz.func46,d23⟩,nc rfl⟩
 rcases ifs h2 with ⟨rfl,h⟩|h2; · cases h;exact ⟨⟨_,Tryz.func47,C7z⟩,nc rfl⟩
 rcases ifs h2 with ⟨rfl,h⟩|h2; · cases h;exact ⟨⟨_,Tryz.func48,C7A⟩,nc rfl⟩
 rcases ifs h2 with ⟨rfl,h⟩|h2; · cases h;exact ⟨⟨_,Tryz.func49,C7B⟩,fun _=>⟨_,_,_,_,rfl⟩⟩
 rcases ifs h2 with ⟨rfl,h⟩|h2; · cases h;exact ⟨⟨_,Tryz.func50,C7C⟩,nc rfl⟩
 rcases ifs h2 with ⟨rfl,h⟩|h2; · cases h;exact ⟨⟨_,Tryz.func51,C7D⟩,nc rfl⟩
 rcases ifs h2 with ⟨rfl,h⟩|h2; · cases h;exact ⟨⟨_,Tryz.func52,d10⟩,nc rfl⟩
 rcases ifs h2 with ⟨rfl,h⟩|h2; · cases h;exact ⟨⟨_,Tryz.func53,C7E⟩,nc rfl⟩
 rcases ifs h2 with ⟨rfl,h⟩|h2; · cases h;exact ⟨⟨_,Tryz.func54,C7F⟩,nc rfl⟩
 rcases ifs h2 with ⟨rfl,h⟩|h2; · cases h;exact ⟨⟨_,Tryz.func55,C7G⟩,nc rfl⟩
 rcases ifs h2 with ⟨rfl,h⟩|h2; · cases h;exact ⟨⟨_,Tryz.func56,C7H⟩,nc rfl⟩
 rcases ifs h2 with ⟨rfl,h⟩|h2; · cases h;exact ⟨⟨_,Tryz.func57,C7I⟩,nc rfl⟩
 rcases ifs h2 with ⟨rfl,h⟩|h2; · cases h;exact ⟨⟨_,Tryz.func62,d28⟩,nc rfl⟩
 rcases ifs h2 with ⟨rfl,h⟩|h2; · cases h;exact ⟨⟨_,Tryz.func63,d29⟩,nc rfl⟩
 rcases ifs h2 with ⟨rfl,h⟩|h2; · cases h;exact ⟨⟨_,Tryz.func64,d35⟩,nc rfl⟩
 rcases ifs h2 with ⟨rfl,h⟩|h2; · cases h;exact ⟨⟨_,Tryz.func66,d37⟩,nc rfl⟩
 rcases ifs h2 with ⟨rfl,h⟩|h2; · cases h;exact ⟨⟨_,Tryz.func68,d21⟩,nc rfl⟩
 rcases ifs h2 with ⟨rfl,h⟩|h2; · cases h;exact ⟨⟨_,Tryz.func69,d7⟩,nc rfl⟩
 rcases ifs h2 with ⟨rfl,h⟩|h2; · cases h;exact ⟨⟨_,Tryz.func72,d111⟩,nc rfl⟩
 rcases ifs h2 with ⟨rfl,h⟩|h2; · cases h;exact ⟨⟨_,Tryz.func73,C7J⟩,nc rfl⟩
 rcases ifs h2 with ⟨rfl,h⟩|h2; · cases h;exact ⟨⟨_,Tryz.func74,d41⟩,nc rfl⟩
 rcases ifs h2 with ⟨rfl,h⟩|h2; · cases h;exact ⟨⟨_,Tryz.func77,d44⟩,nc rfl⟩
 rcases ifs h2 with ⟨rfl,h⟩|h2; · cases h;exact ⟨⟨_,Tryz.func78,d45⟩,nc rfl⟩
 rcases ifs h2 with ⟨rfl,h⟩|h2; · cases h;exact ⟨⟨_,Tryz.func79,d46⟩,nc rfl⟩
 rcases ifs h2 with ⟨rfl,h⟩|h2; · cases h;exact ⟨⟨_,Tryz.func80,C7K⟩,nc rfl⟩
 rcases ifs h2 with ⟨rfl,h⟩|h2; · cases h;exact ⟨⟨_,Tryz.func81,d67⟩,fun _=>⟨_,_,_,_,rfl⟩⟩
 rcases ifs h2 with ⟨rfl,h⟩|h2; · cases h;exact ⟨⟨_,Tryz.func82,C7L⟩,nc rfl⟩
 rcases ifs h2 with ⟨rfl,h⟩|h2; · cases h;exact ⟨⟨_,Tryz.func83,C7M⟩,nc rfl⟩
 rcases ifs h2 with ⟨rfl,h⟩|h2; · cases h;exact ⟨⟨_,Tryz.func84,C7N⟩,nc rfl⟩
 rcases ifs h2 with ⟨rfl,h⟩|h2; · cases h;exact ⟨⟨_,Tryz.func85,d109⟩,nc rfl⟩
 rcases ifs h2 with ⟨rfl,h⟩|h2; · cases h;exact ⟨⟨_,Tryz.func86,d110⟩,nc rfl⟩
 rcases ifs h2 with ⟨rfl,h⟩|h2; · cases h;exact ⟨⟨_,Tryz.func87,d47⟩,nc rfl⟩
 rcases ifs h2 with ⟨rfl,h⟩|h2; · cases h;exact ⟨⟨_,Tryz.func88,C7O⟩,nc rfl⟩
 rcases ifs h2 with ⟨rfl,h⟩|h2; · cases h;exact ⟨⟨_,Tryz.func89,C7P⟩,nc rfl⟩
 rcases ifs h2 with ⟨rfl,h⟩|h2; · cases h;exact ⟨⟨_,Tryz.func90,C7Q⟩,nc rfl⟩
 rcases ifs h2 with ⟨rfl,h⟩|h2; · cases h;exact ⟨⟨_,Tryz.func91,d30⟩,nc rfl⟩
 rcases ifs h2 with ⟨rfl,h⟩|h2; · cases h;exact ⟨⟨_,Tryz.func92,d31⟩,nc rfl⟩
 rcases ifs h2 with ⟨rfl,h⟩|h2; · cases h;exact ⟨⟨_,Tryz.func93,C7R⟩,nc rfl⟩
 rcases ifs h2 with ⟨rfl,h⟩|h2; · cases h;exact ⟨⟨_,Tryz.func94,C7S⟩,nc rfl⟩
 rcases ifs h2 with ⟨rfl,h⟩|h2; · cases h;exact ⟨⟨_,Tryz.func95,C7T⟩,nc rfl⟩
 rcases ifs h2 with ⟨rfl,h⟩|h2; · cases h;exact ⟨⟨_,Tryz.func97,d56⟩,nc rfl⟩
 rcases ifs h2 with ⟨rfl,h⟩|h2; · cases h;exact ⟨⟨_,Tryz.func98,d57⟩,nc rfl⟩
 rcases ifs h2 with ⟨rfl,h⟩|h2; · cases h;exact ⟨⟨_,Tryz.func100,d25⟩,nc rfl⟩
 rcases ifs h2 with ⟨rfl,h⟩|h2; · cases h;exact ⟨⟨_,Tryz.func111,C7U⟩,nc rfl⟩
 rcases ifs h2 with ⟨rfl,h⟩|h2; · cases h;exact ⟨⟨_,Tryz.func112,d106⟩,nc rfl⟩
 rcases ifs h2 with ⟨rfl,h⟩|h2; · cases h;exact ⟨⟨_,Tryz.func113,d107⟩,nc rfl⟩
 rcases ifs h2 with ⟨rfl,h⟩|h2; · cases h;exact ⟨⟨_,Tryz.func114,d108⟩,nc rfl⟩
 rcases ifs h2 with ⟨rfl,h⟩|h2; · cases h;exact ⟨⟨_,Tryz.func115,d159⟩,nc rfl⟩
 rcases ifs h2 with ⟨rfl,h⟩|h2; · cases h;exact ⟨⟨_,Tryz.func116,d58⟩,nc rfl⟩
 rcases ifs h2 with ⟨rfl,h⟩|h2; · cases h;exact ⟨⟨_,Tryz.func117,d59⟩,nc rfl⟩
 rcases ifs h2 with ⟨rfl,h⟩|h2; · cases h;exact ⟨⟨_,Tryz.func118,C7V⟩,nc rfl⟩
 rcases ifs h2 with ⟨rfl,h⟩|h2; · cases h;exact ⟨⟨_,Tryz.func119,d95⟩,nc rfl⟩
 rcases ifs h2 with ⟨rfl,h⟩|h2; · cases h;exact ⟨⟨_,Tryz.func120,d96⟩,nc rfl⟩
 rcases ifs h2 with ⟨rfl,h⟩|h2; · cases h;exact ⟨⟨_,Tryz.func121,d97⟩,nc rfl⟩
 rcases ifs h2 with ⟨rfl,h⟩|h2; · cases h;exact ⟨⟨_,Tryz.func122,d98⟩,nc rfl⟩
 rcases ifs h2 with ⟨rfl,h⟩|h2; · cases h;exact ⟨⟨_,Tryz.func123,d99⟩,nc rfl⟩
 rcases ifs h2 with ⟨rfl,h⟩|h2; · cases h;exact ⟨⟨_,Tryz.func124,d100⟩,nc rfl⟩
 rcases ifs h2 with ⟨rfl,h⟩|h2; · cases h;exact ⟨⟨_,Tryz.func125,d101⟩,nc rfl⟩
 rcases ifs h2 with ⟨rfl,h⟩|h2; · cases h;exact ⟨⟨_,Tryz.func162,d158⟩,nc rfl⟩
 rcases ifs h2 with ⟨rfl,h⟩|h2; · cases h;exact ⟨⟨_,Tryz.func163,d182⟩,nc rfl⟩
 rcases ifs h2 with ⟨rfl,h⟩|h2; · cases h;exact ⟨⟨_,Tryz.func164,d102⟩,nc rfl⟩
 rcases ifs h2 with ⟨rfl,h⟩|h2; · cases h;exact ⟨⟨_,Tryz.func165,d149⟩,nc rfl⟩
 rcases ifs h2 with ⟨rfl,h⟩|h2; · cases h;exact ⟨⟨_,Tryz.func166,d150⟩,nc rfl⟩
 rcases ifs h2 with ⟨rfl,h⟩|h2; · cases h;exact ⟨⟨_,Tryz.func167,d151⟩,nc rfl⟩
 rcases ifs h2 with ⟨rfl,h⟩|h2; · cases h;exact ⟨⟨_,Tryz.func168,d61⟩,nc rfl⟩
 rcases ifs h2 with ⟨rfl,h⟩|h2; · cases h;exact ⟨⟨_,Tryz.func169,d152⟩,nc rfl⟩
 rcases ifs h2 with ⟨rfl,h⟩|h2; · cases h;exact ⟨⟨_,Tryz.func201,d165⟩,nc rfl⟩
 rcases ifs h2 with ⟨rfl,h⟩|h2; · cases h;exact ⟨⟨_,Tryz.func202,d180⟩,nc rfl⟩
 rcases ifs h2 with ⟨rfl,h⟩|h2; · cases h;exact ⟨⟨_,Tryz.func203,d181⟩,nc rfl⟩
 rcases ifs h2 with ⟨rfl,h⟩|h2; · cases h;exact ⟨⟨_,Tryz.func204,d153⟩,nc rfl⟩
 rcases ifs h2 with ⟨rfl,h⟩|h2; · cases h;exact ⟨⟨_,Tryz.func205,d154⟩,nc rfl⟩
 rcases ifs h2 with ⟨rfl,h⟩|h2; · cases h;exact ⟨⟨_,Tryz.func206,d155⟩,nc rfl⟩
 rcases ifs h2 with ⟨rfl,h⟩|h2; · cases h;exact ⟨⟨_,Tryz.func207,d156⟩,nc rfl⟩
 rcases ifs h2 with ⟨rfl,h⟩|h2; · cases h;exact ⟨⟨_,Tryz.func208,d60⟩,nc rfl⟩
 rcases ifs h2 with ⟨rfl,h⟩|h2; · cases h;exact ⟨⟨_,Tryz.func209,d178⟩,nc rfl⟩
 rcases ifs h2 with ⟨rfl,h⟩|h2; · cases h;exact ⟨⟨_,Tryz.func223,d63⟩,nc rfl⟩
 rcases ifs h2 with ⟨rfl,h⟩|h2; · cases h;exact ⟨⟨_,Tryz.func224,d179⟩,nc rfl⟩
 rcases ifs h2 with ⟨rfl,h⟩|h2; · cases h;exact ⟨⟨_,Tryz.func225,d32⟩,nc rfl⟩
 rcases ifs h2 with ⟨rfl,h⟩|h2; · cases h;exact ⟨⟨_,Tryz.func226,d103⟩,nc rfl⟩
 rcases ifs h2 with ⟨rfl,h⟩|h2; · cases h;exact ⟨⟨_,Tryz.func227,d104⟩,nc rfl⟩
 rcases ifs h2 with ⟨rfl,h⟩|h2; · cases h;exact ⟨⟨_,Tryz.func234,d105⟩,nc rfl⟩
 rcases ifs h2 with ⟨rfl,h⟩|h2; · cases h;exact ⟨⟨_,Tryz.func235,d62⟩,nc rfl⟩
 rcases ifs h2 with ⟨rfl,h⟩|h2; · cases h;exact ⟨⟨_,Tryz.func236,d190⟩,nc rfl⟩
 rcases ifs h2 with ⟨rfl,h⟩|h2; · cases h;exact ⟨⟨_,Tryz.func237,d157⟩,nc rfl⟩
 cases h2
theorem fits:Fits FC OT FX OX:=by
 refine ⟨fun f tf h=>by unfold FX;rw [h];rfl,fun f h=>by unfold FX;rw [h];rfl,fun f tf h=>(C2y f tf h).2,fun f args v h g μ Z args' ha=> ?_⟩;unfold OT at h;unfold OX
 by_cases h75:f=75
 ·rw [if_pos h75] at h ⊢;cases h;exact ⟨_,rfl,.agg .nil⟩
 rw [if_neg h75] at h ⊢
 by_cases h76:f=76
 ·rw [if_pos h76] at h ⊢;cases h;exact ⟨_,rfl,.agg (.cons (.bool true) .nil)⟩
 rw [if_neg h76] at h ⊢;split at h
 ·cases ha;split at h
  ·rename_i h9;cases h;exact ⟨.bool true,by simp [h9],.bool true⟩
  ·cases h
 ·cases h
theorem to8:A00 Tryz.prog 8:=⟨Tryz.f8,Tryz.func8,by decide,rfl⟩
theorem D3e:A00 Tryz.prog 75:=⟨Tryz.f75,Tryz.func75,by decide,rfl⟩
theorem D3f:A00 Tryz.prog 76:=⟨Tryz.f76,Tryz.func76,by decide,rfl⟩
theorem D3g:Env Tryz.prog J9 FX OX:=by
 refine ⟨by kernel_rfl,fun f x h=> ?_,fun f args v hF hO=> ?_⟩
 ·unfold FX at h;obtain ⟨tf,h2,rfl⟩:=Option.map_eq_some_iff.1 h;exact (C2y f tf h2).1
 ·unfold OX at hO
  by_cases h75:f=75
  ·rw [if_pos h75] at hO;cases hO;subst h75;exact OOk.row rfl D3e C1D C0l
  rw [if_neg h75] at hO
  by_cases h76:f=76
  ·rw [if_pos h76] at hO;cases hO;subst h76;exact OOk.row rfl D3f B56 B3M
  rw [if_neg h76] at hO;split at hO
  ·split at hO
   ·rename_i h8;cases hO;subst h8;exact OOk.grow to8 rfl rfl (fun φ l h=>by cases h;rfl) fun W0 N0 φ g w hg r=>D0X w (r.shaped hg.1) (r.laidG hg)
   ·cases hO
  ·cases hO
end
end Go.Xe.YtlgknghehgmodaaGreatDoor
namespace Go.Xe
section
open Go Go.Proofs Go.RowKit
theorem B7A {H:Type} {enc:TypeId×Value->H} {P:Program} {w:World} {base:Nat} {spare:Nat->Bool} {held:Bool} {e:TypeId} (hu:P.underlying e=some .string) {fuel:Nat} {l:List Value} {b:List UInt8} {q:List MemPlace}
  (h:DataW.trod enc P w base spare held fuel e l=some (.lit (.string b),q)):l=[.string ⟨b.toArray⟩]:=by
 cases fuel with
 |zero=>simp [DataW.trod] at h
 |succ fuel=>
  unfold DataW.trod at h;rw [hu] at h;rcases l with _|⟨v,_|⟨v',l⟩⟩
  ·simp at h
  ·cases v<;>simp at h
   obtain ⟨_,h,_⟩:=h;rw [<-h]
  ·simp at h
theorem B7B {H:Type} {enc:TypeId×Value->H} {P:Program} {w:World} {base:Nat} {spare:Nat->Bool} {held:Bool} {t e:TypeId} {n:Nat} (ht:P.underlying t=some (.array n e)) (hu:P.underlying e=some .string) (hc:P.cellsOf e=1) (hn:P.cellsOf t=n) {fuel:Nat} {l:List Value} {bs:List (List UInt8)} {q:List MemPlace}
  (h:DataW.trod enc P w base spare held fuel t l=some (.agg (bs.map fun b=>.lit (.string b)),q)):l=bs.map fun b=>.string ⟨b.toArray⟩:=by
 cases fuel with
 |zero=>simp [DataW.trod] at h
 |succ fuel=>
  unfold DataW.trod at h;rw [ht] at h;simp only [hn,hc] at h;split at h
  ·rename_i hl;obtain ⟨xs,hxs,he⟩:=Option.map_eq_some_iff.1 h;have he1:xs.map (·.1)=bs.map fun b=>DataW.lit (.string b):=by
    have:=congrArg Prod.fst he
    injection this
   have hlen:=mapM_some_length hxs;rw [List.length_range] at hlen;have hbs:bs.length=n:=by
    have:=congrArg List.length he1;rw [List.length_map,List.length_map] at this;omega
   apply List.ext_getElem?;intro i
   by_cases hi:i<n
   ·have h1:=mapM_some_get hxs i i (by rw [List.getElem?_range hi]);have h2:xs[i]? =some xs[i]:=List.getElem?_eq_getElem (by omega);rw [h2] at h1;have h3:=congrArg (fun z=>z[i]?) he1;simp only [List.getElem?_map,h2,Option.map_some] at h3;rw [List.getElem?_eq_getElem (by omega:i<bs.length)] at h3;simp only [Option.map_some,Option.some.injEq] at h3
    rw [List.getElem?_map,List.getElem?_eq_getElem (by omega:i<bs.length),List.getElem?_eq_getElem (by omega:i<l.length)];generalize xs[i]=x at h1 h3;obtain ⟨x1,x2⟩:=x;simp only at h3;rw [h3] at h1;have h4:=B7A hu h1;rw [Nat.mul_one] at h4;have h5:=congrArg (fun z=>z[0]?) h4;simp only [List.getElem?_take,List.getElem?_drop,List.getElem?_cons_zero] at h5;simp at h5
    rw [List.getElem?_eq_getElem (by omega:i<l.length)] at h5
    simpa using h5
   ·rw [List.getElem?_eq_none (by omega),List.getElem?_eq_none (by rw [List.length_map];omega)]
  ·cases h
theorem C0m {P:Program} {w:World} {x:String} {d:DataW Unit} {g:Nat} {t e:TypeId} {n:Nat} {zero:Array Value} {bs:List (List UInt8)} (hS:w.ShapedOpen P) (h:laidMetH P [(x,d)] w) (hd:d=.agg (bs.map fun b=>.lit (.string b)))
  (hg:P.globalNamed x=some g) (hgt:(P.globals[g]?).map (·.type)=some t) (ht:P.underlying t=some (.array n e)) (hu:P.underlying e=some .string) (hc:P.cellsOf e=1) (hn:P.cellsOf t=n) (hlt:g<P.globals.size)
  (h0:((begin P (fun _ _=>0) default).world.heap[g]?).bind Obj.row?=some (zero,t)):w.heap[g]? =some (.cells (bs.map fun b=>Value.string ⟨b.toArray⟩).toArray t (0,0)):=by
 rw [MakeChecks.laidMetH_plain _ _ _ (by subst hd;rfl)] at h;obtain ⟨ps,⟨g',t',cs,fuel,p,q,hg',ht',hv,hdd,_,_⟩,_⟩:=h;obtain rfl:=Option.some.inj (hg.symm.trans hg');obtain rfl:=Option.some.inj (hgt.symm.trans ht');obtain ⟨cs',hh,_,_⟩:=hS.1 g zero t hlt h0;have hcs:cs=cs':=by
  unfold World.var? at hv;rw [hg] at hv;simp only [Option.bind_some,hh] at hv;exact (Option.some.inj hv).symm
 subst hcs hd;have:=B7B ht hu hc hn hdd;rw [hh,<-this]
end
end Go.Xe
