/-
  A part of the proof: it is imported by YtlgknghehgmodaaGreatDoorTop. Nothing here is a claim of its own.
-/
import Derived.Test.YtlgknghehgmodaaGreatDoorK3
set_option linter.unusedVariables false
set_option linter.unusedSimpArgs false
set_option linter.unusedSectionVars false
set_option maxRecDepth 100000
namespace Go.Xt
section
open Go Go.Xe
section
variable {Pr:Nat->Prop} {μ μ':List Nat} {w w':J3} {a a':TAct} {σ σ':Sto} {ax ax':Xe.Act} {s s':AS}
theorem at_app {o:TObj}:Sto.at (σ++[some o]) σ.length=some o:=by simp [Sto.at]
theorem C7Z (md b:Nat) (d:Option Nat) (e:TypeId) (x:Operand):N6 md b d (.box e x):=by
 intro Pr μ w a σ ax s v a' σ' h r hP;simp only [Z5] at h;simp only [B0];split at h
 ·cases h
 ·rename_i hb;simp only [Bool.and_eq_true] at hb;cases ho:D1 (a.ev x) with
  |false=>
   obtain ⟨q1,q2⟩:=B17 hb.2 ho;have hl:=(r.plain q1).cells q2;simp only [hl.ones hb.1];refine ⟨_,rfl,?_⟩;rw [A1h ho] at h;split at h
   ·simp only [A5v] at h;cases h;have h1:=r.tick;have:=A1g (σ:=σ) (o:=⟨0,.cells (a.ev x).cells e⟩) (b:=.cells (ax.ev x).cells.toList e false) h1 hP (A0y hl) (tv:=.ptr σ.length 0) (fun g Z=>.ptr (r.muNew _)) d;exact this
   ·cases h;have:=B2z r hP hl e d;obtain ⟨μ',w',h1,h2⟩:=this;refine ⟨μ',w',?_,h2⟩;cases d with
    |none=>exact h1.tick
    |some d=>exact (h1.tick).ext (fun t=>rfl) rfl rfl
  |true=>
   obtain ⟨t,rfl⟩:=Q4 ho;obtain ⟨j,h1,h2,h3,h4⟩:=r.takeTmp ho;obtain ⟨c1,c2,c3⟩:=h2.one;simp only [c2,c3];refine ⟨_,rfl,?_⟩;rw [A15 ho,c1] at h;have h5:=h3.hands 0 1;have hj:mv (mv w (.tmp t) (.hand 0)) (.hand 0) (.hand 1) (.hand 1)=some j:=(A1d _ (by simp)).trans ((A1d w (by simp)).trans h1)
   have hro:=h2.mono (Mo.mv (μ:=μ) (Pr:=Pr) (g:=s.get) (w:=mv w (.tmp t) (.hand 0)) (.hand 0) (.hand 1)) rfl;have hjl:j<s.next:=r.live _ _ h1;have hown:∀p i,mv (mv w (.tmp t) (.hand 0)) (.hand 0) (.hand 1) p=some i->∃q,w q=some i:=fun p i e=>by
    grind [G8]
   split at h
   ·simp only [A5v] at h;cases h;have hob:=h5.newObj (σ:=σ) (o:=⟨0,.cells [.dead] e⟩) (b:=.cells [ax.ev (.tmp t)] e false) hP (A0y (.cons (.dead _) .nil))
    have hmo:Mo s.get μ (Zo (mv (mv w (.tmp t) (.hand 0)) (.hand 0) (.hand 1)) Pr) (s.upd [(s.next,some ⟨0,.cells [ax.ev (.tmp t)] e false⟩)] (s.next+1)).get (μ++[s.next]) (Zo (A2T (mv (mv w (.tmp t) (.hand 0)) (.hand 0) (.hand 1)) s.next σ.length) Pr):=by
     refine (h5.moNew _).trans ⟨fun k j e=>by rw [List.getElem?_append_left (List.getElem?_eq_some_iff.1 e).1];exact e,fun j _ _ _ _ z hg=>⟨z.mv,hg⟩⟩
    have hf:=hob.fillObj (k:=σ.length) (o:=0) (h:=1) (j:=j) (tv:=a.ev (.tmp t)) at_app (by simp) (by simp only [A2T];rw [C5 _ (by simp) (by simp)];exact (if_neg (by simp):holds _ _ (.hand 1)=_).trans hj) (r.muNew _) (vs:=[ax.ev (.tmp t)]) (ver:=0) (i:=s.next) (by rw [X3,if_pos rfl])
     (v:=ax.ev (.tmp t)) rfl (hro.mono hmo (by rw [X3,if_neg (by omega)]))
    have hp:=hf.put d (tv:=.ptr σ.length 0) (v:=.pointer (some ⟨s.next,0,none⟩)) (.inl (.ptr (r.muNew _)));refine ⟨μ++[s.next],rel (mv (A2T (mv (mv w (.tmp t) (.hand 0)) (.hand 0) (.hand 1)) s.next σ.length) (.hand 1) (.cell σ.length 0)) d,?_,R9 _ (fun p i e hi=> ?_) ⟨[s.next],rfl⟩⟩
    ·grind
    grind [P1,G8,A7J]
   ·cases h;cases d with
    |none=>
     have hnp:¬Pr s.next:=fun h=>Nat.lt_irrefl _ (hP _ h)
     exact ⟨μ,_,(h5.alloc _ hnp).tick.tick,R9 _ (fun p i e hi=>by obtain ⟨q,e⟩:=A0m p i e hi;exact hown q i e) R5⟩
    |some d=>
     have hob:=h5.newBox hP (cs:=[.dead]) (vs:=[ax.ev (.tmp t)]) (.cons (.dead _) .nil) e d;have hev:((TAct.tick ⟨a.tm.set t .dead,a.df,a.clk+1⟩).put (some d) (.bx (a.clk+1) [.dead] e)).ev (.tmp d)=.bx (a.clk+1) [.dead] e:=TAct.ev_put_same _ _ _
     have hmo:Mo s.get μ (Zo (mv (mv w (.tmp t) (.hand 0)) (.hand 0) (.hand 1)) Pr) (s.upd [(s.next,some ⟨0,.cells [ax.ev (.tmp t)] e false⟩)] (s.next+1)).get μ (Zo (mv (rel (holds (mv (mv w (.tmp t) (.hand 0)) (.hand 0) (.hand 1)) s.next) (some d)) (.hand 0) (.tmp d)) Pr):=
      (h5.moNew _).trans ((Mo.sub (P1 _ _)).trans (Mo.mv _ _))
     have hf:=hob.fillBox (t:=d) (o:=0) (h:=1) (j:=j) (tv:=a.ev (.tmp t)) (A1W hev) (by simp) (by rw [C5 _ (by simp) (by simp)];simp only [rel];exact (if_neg (by simp):holds _ _ (.hand 1)=_).trans hj)
      (i:=s.next) (ver:=0) (vs:=[ax.ev (.tmp t)]) (by rw [A1d _ (by simp)];simp only [rel];exact A1e _ _) (by rw [X3,if_pos rfl]) (v:=ax.ev (.tmp t)) rfl (hro.mono hmo (by rw [X3,if_neg (by omega)]))
     refine ⟨μ,_,hf.ext (fun t'=> ?_) rfl rfl,R9 _ (fun p i e hi=> ?_) R5⟩
     ·rw [A1V]
      by_cases hd:d=t'
      ·grind [TAct.ev_put_same]
      ·rw [if_neg hd,TAct.ev_put_ne _ _ hd,TAct.ev_put_ne _ _ hd];rfl
     grind [G8,A7I,A0m]
theorem B6K {v v':TV} (h:give v=some v'):v'≠.dead:=by
 simp_all [give]<;>grind
theorem A7M (r:Rl Pr μ w a σ ax s) {L:List Operand} {a0:TAct} (ha:a=Xt.frzs a0 L):∀(ps:List (Nat×Nat×Operand)),(∀p∈ps,p.2.2∈L)->∀{cs cs':List TV} {vs:List Value},RVs s.get μ (Zo w Pr) cs vs->A3M cs (ps.map fun (o,n,x)=>(o,n,a0.ev x))=some cs'->
  ∃vs',A1M vs (ps.map fun (o,n,x)=>(o,n,ax.ev x))=some vs'/\RVs s.get μ (Zo w Pr) cs' vs'
 |[],_,cs,cs',vs,hv,h=>by simp only [List.map_nil,A3M] at h;cases h;exact ⟨vs,rfl,hv⟩
 |(o,n,x)::ps,hL,cs,cs',vs,hv,h=>by
  simp only [List.map_cons,A3M] at h;split at h
  ·rename_i tv hg;split at h
   ·rename_i hb;simp only [Bool.and_eq_true] at hb;have h1:=r.given ha (hL (o,n,x) (by simp)) hg;have hl:=h1.cells (B6K hg);have hb2:=hb.2;rw [D4] at hb2;have hb2:=of_decide_eq_true hb2;have hb1:=J7 hb.1;obtain ⟨vs',k1,k2⟩:=A7M r ha ps (fun p hp=>hL p (by simp [hp])) (hl.setList o hv (by omega)) h;refine ⟨vs',?_,k2⟩;simp only [List.map_cons,A1M,hl.length,hb.1,hv.length,hb.2,Bool.and_self]
    exact k1
   ·cases h
  ·cases h
theorem C0M (md b:Nat) (d:Option Nat) (z:List Value) (ps:List (Nat×Nat×Operand)):N6 md b d (.build z ps):=by
 intro Pr μ w a σ ax s v a' σ' h r hP;simp only [Z5] at h;simp only [B0];split at h
 ·rename_i cs hf;cases h;obtain ⟨w1,r1,hsub⟩:=r.frzs (ps.map fun p=>p.2.2);obtain ⟨vs',k1,k2⟩:=A7M r1 rfl ps (fun p hp=>List.mem_map.2 ⟨p,hp,rfl⟩) (RVs.ofVs _ _ _ z) hf;simp only [k1];refine ⟨_,rfl,L6 r1 (fun p i e=>⟨p,hsub p i e⟩) d (.inl (.agg ?_))⟩
  simpa using k2
 ·cases h
theorem A2U {g:Hp} {Z:Nat->Prop} {z:List TV} {z':List Value} (h:RVs g μ Z z z'):∀n,RVs g μ Z (A4P z n) (rep z' n)
 |0=>.nil
 |n+1=>h.append (A2U h n)
theorem A4Y (s:Nat):∀(n:Nat) (l:List TV),(A1S s n l).length=n
 |0,_=>rfl
 |n+1,l=>by simp [A1S,A4Y s n]
theorem B18 (s:Nat):∀(n:Nat) (l:List TV),n*s<=l.length->K5 s (A1S s n l)=true
 |0,_,_=>rfl
 |n+1,l,h=>by
  rw [Nat.succ_mul] at h;simp only [A1S,K5,List.all_cons,Bool.and_eq_true];exact ⟨by rw [D8];simp;omega,B18 s n (l.drop s) (by simp;omega)⟩
theorem A3f (s:Nat):∀(n:Nat) (l:List TV),(A1S s n l).flatten=l.take (n*s)
 |0,l=>by simp [A1S]
 |n+1,l=>by
  simp only [A1S,List.flatten_cons,A3f s n];rw [Nat.succ_mul,Nat.add_comm,List.take_add]
theorem A9G:∀(ps:List (Nat×Nat×TV)) {cs cs':List TV},A3M cs ps=some cs'->cs'.length=cs.length
 |[],cs,cs',h=>by simp only [A3M] at h;cases h;rfl
 |(o,n,v)::ps,cs,cs',h=>by
  simp only [A3M] at h;split at h
  ·split at h
   ·rename_i hb;simp only [Bool.and_eq_true] at hb;have hb2:=hb.2;rw [D4] at hb2;have hb2:=of_decide_eq_true hb2;rw [A9G ps h,A13 (by rw [J7 hb.1];exact hb2)]
   ·cases h
  ·cases h
theorem A67 (z:List TV):∀n,(A4P z n).length=n*z.length
 |0=>by simp [A4P]
 |n+1=>by simp [A4P,A67 z n,Nat.succ_mul,Nat.add_comm]
theorem A2V:∀l:List Value,(ofV.ofVs l).length=l.length
 |[]=>rfl
 |v::l=>by simp [ofV.ofVs,A2V l]
theorem B5u (r:Rl Pr μ w a σ ax s) (hP:∀i,Pr i->i<s.next) {chs:List (List TV)} {vs:List Value} {e sz n c:Nat} (hok:K5 sz chs=true) (hn:chs.length=n) (hnc:n<=c) (hc:c<D3) (hl:c*sz<=vs.length) (hv:RVs s.get μ (Zo w Pr) chs.flatten (vs.take (n*sz))) (d:Option Nat):
  A4U Pr μ w ax s d (.sl (.own e sz) chs) a.tick σ ⟨.slice (some ⟨s.next,0,none⟩) n c,[(s.next,some ⟨0,.cells vs e false⟩)],s.next+1⟩:=by
 have hnp:¬Pr s.next:=fun h=>Nat.lt_irrefl _ (hP _ h)
 have r1:=r.alloc ⟨0,.cells vs e false⟩ hnp;have hmul:n*sz<=c*sz:=Nat.mul_le_mul_right sz hnc;have hro:RO (s.upd [(s.next,some ⟨0,.cells vs e false⟩)] (s.next+1)).get μ (Zo (holds w s.next) Pr) s.next (.sl (.own e sz) chs) (.slice (some ⟨s.next,0,none⟩) n c):=
  .mk (ver:=0) (vs:=vs) (by rw [X3,if_pos rfl]) hok hn (fun _=>⟨hnc,by omega⟩) (fun h=>by omega) (by omega) (by rw [List.drop_zero];exact hv.mono (r.moNew _))
 obtain ⟨w',k1,k2⟩:=r1.tick.putHand (A1f r1) (A1e w _) hro d;exact ⟨μ,w',k1,R9 _ (fun p i e hi=>by obtain ⟨q,e⟩:=k2 p i e;exact A0m q i e hi) R5⟩
theorem B19 (md b:Nat) (d:Option Nat) (e:TypeId) (size:Nat) (z:List Value) (len:Nat) (ps:List (Nat×Nat×Operand)):N6 md b d (.buildSlice e size z len ps):=by
 intro Pr μ w a σ ax s v a' σ' h r hP;simp only [Z5] at h;simp only [B0];split at h
 ·rename_i cs hz hf;split at h
  ·cases h
  ·rename_i ho;obtain ⟨w1,r1,hsub⟩:=r.frzs (ps.map fun p=>p.2.2);obtain ⟨vs',k1,k2⟩:=A7M r1 rfl ps (fun p hp=>List.mem_map.2 ⟨p,hp,rfl⟩) (A2U (RVs.ofVs _ _ _ z) len) hf;simp only [k1,k2.ones ho];refine ⟨_,rfl,?_⟩;split at h
   ·simp only [A5v] at h;cases h;obtain ⟨μ',w',h1,h2⟩:=A1g (o:=⟨0,.cells cs e⟩) (b:=.cells vs' e false) r1 hP (A0y k2) (tv:=.ref σ.length 0 size len len) (fun g Z=>.ref (r.muNew _) (Nat.le_refl _)) d;exact ⟨μ',w',h1,h2.le,fun i hi hn=>h2.keep i hi (fun p e=>hn p (hsub p i e)),fun p i e hi=>by obtain ⟨q,e⟩:=h2.own p i e hi;exact ⟨q,hsub q i e⟩,h2.mu⟩
   ·cases h;have hz':=Bool.and_eq_true_iff.1 hz;have hsm:=hz'.2;rw [D4] at hsm;have hsm:=of_decide_eq_true hsm;have hlen:cs.length=len*size:=by rw [A9G _ hf,A67,A2V,J7 hz'.1]
    obtain ⟨μ',w',h1,h2⟩:=B5u (e:=e) (sz:=size) (n:=len) (c:=len) r1 hP (B18 size len cs (by omega)) (A4Y _ _ _) (Nat.le_refl _) (by unfold small at hsm;unfold D3;omega) (by rw [k2.length];omega) (by rw [A3f];exact k2.take _) d;exact ⟨μ',w',h1,h2.le,fun i hi hn=>h2.keep i hi (fun p e=>hn p (hsub p i e)),fun p i e hi=>by obtain ⟨q,e⟩:=h2.own p i e hi;exact ⟨q,hsub q i e⟩,h2.mu⟩
 ·cases h
end
section
variable {Pr:Nat->Prop} {μ μ':List Nat} {w w':J3} {a a':TAct} {σ σ':Sto} {ax ax':Xe.Act} {s s':AS}
theorem A7N (z:List TV):∀n,(List.replicate n z).flatten=A4P z n
 |0=>rfl
 |n+1=>by rw [List.replicate_succ,List.flatten_cons,A7N z n];rfl
theorem B8B (z:List TV) (n:Nat):K5 z.length (List.replicate n z)=true:=
 List.all_eq_true.2 fun c hc=>by rw [List.eq_of_mem_replicate hc,D8];simp
theorem B2C (z:List Value):∀(n c:Nat),n<=c->(rep z c).take (n*z.length)=rep z n
 |0,c,_=>by simp [rep]
 |n+1,0,h=>by omega
 |n+1,c+1,h=>by
  simp only [rep,Nat.succ_mul];rw [Nat.add_comm,List.take_append,List.take_of_length_le (by omega),show z.length+n*z.length - z.length=n*z.length by omega,B2C z n c (by omega)]
theorem B6L (md b:Nat) (d:Option Nat) (e:TypeId) (z:List Value) (bytes:Nat) (l c:Operand):N6 md b d (.mkSlice e z bytes l c):=by
 intro Pr μ w a σ ax s v a' σ' h r hP;simp only [Z5] at h;simp only [B0];split at h
 ·rename_i l' c' hl hc;have h1:=r.plainOf hl rfl;have h2:=r.plainOf hc rfl
  revert h1 h2
  generalize ax.ev l=y1;generalize ax.ev c=y2;intro h1 h2;cases h1;cases h2;split at h
  ·rename_i hb;simp only [hb];refine ⟨_,rfl,?_⟩;simp only [Bool.and_eq_true] at hb;obtain ⟨⟨⟨b1,b2⟩,b3⟩,b4⟩:=hb;rw [D4] at b1 b3;have b1:=of_decide_eq_true b1;have b3:=of_decide_eq_true b3;split at h
   ·simp only [A5v] at h;cases h;exact A1g (o:=⟨0,.cells (A4P (ofV.ofVs z) c') e⟩) (b:=.cells (rep z c') e false) r hP (A0y (A2U (RVs.ofVs _ _ _ z) c')) (tv:=.ref σ.length 0 z.length l' c') (fun g Z=>.ref (r.muNew _) b1) d
   ·cases h;refine B5u r hP ?_ (by simp) b1 (by unfold D3;omega) (by rw [X6];exact Nat.le_refl _) ?_ d
    ·grind [B8B,A2V]
    grind [A7N,B2C,A2U,RVs.ofVs]
  ·cases h
 ·cases h
theorem B6M (md b:Nat) (d:Option Nat) (t:TypeId) (x:Operand):N6 md b d (.mkIface t x):=by
 intro Pr μ w a σ ax s v a' σ' h r hP;simp only [Z5] at h;simp only [B0];split at h
 ·rename_i tv hg;cases h;obtain ⟨w1,r1,hsub⟩:=r.frz1 x;obtain ⟨g1,g2⟩:=A1T hg;have h2:RV s.get μ (Zo w1 Pr) tv (ax.ev x):=r1.plainOf (by rw [A14,<-g1]) g2;exact ⟨_,rfl,L6 r1 (fun p i e=>⟨p,hsub p i e⟩) d (.inl (.iface t h2))⟩
 ·cases h
theorem A68:∀(l m:List Operand) (a:TAct),frzs a (l++m)=frzs (frzs a l) m
 |[],m,a=>rfl
 |x::l,m,a=>A68 l m _
theorem B8C (md b:Nat) (d:Option Nat) (fn:Fn) (first cap:List Operand):N6 md b d (.mkFunc fn first cap):=by
 intro Pr μ w a σ ax s v a' σ' h r hP;simp only [Z5] at h;simp only [B0];split at h
 ·rename_i fn f x y h1 h2;cases h;rw [<-A68];obtain ⟨w1,r1,hsub⟩:=r.frzs (first++cap);have q1:=Y6 r1 rfl first (fun x hx=>by simp [hx]) h1;have q2:=Y6 r1 rfl cap (fun x hx=>by simp [hx]) h2;exact ⟨_,rfl,L6 r1 (fun p i e=>⟨p,hsub p i e⟩) d (.inl (.func f (by simpa using q1) (by simpa using q2)))⟩
 ·cases h
theorem RVs.u8 {g:Hp} {Z:Nat->Prop}:∀l:List UInt8,RVs g μ Z ((l.map fun b=>[TV.int .u8 b.toNat]).flatten) (l.map fun b=>Value.int .u8 b.toNat)
 |[]=>.nil
 |b::l=>.cons (.int _ _) (RVs.u8 l)
def A7O (w:J3):J3:=fun p=>if p=.hand 0 then none else w p
theorem B1a (md b:Nat) (d:Option Nat) (e:TypeId) (x:Operand):N6 md b d (.strToBytes e x):=by
 intro Pr μ w a σ ax s v a' σ' h r hP;simp only [Z5] at h;simp only [B0];split at h
 ·rename_i st hx;have h1:=r.plainOf hx rfl
  revert h1;generalize ax.ev x=y;intro h1;cases h1
  split at h
  ·rename_i hb;cases h;simp only [hb];refine ⟨_,rfl,?_⟩;have hnp:¬Pr s.next:=fun h=>Nat.lt_irrefl _ (hP _ h)
   have r1:=r.alloc ⟨0,.cells (st.data.toList.map fun b=>.int .u8 b.toNat) e true⟩ hnp;have hd:∀p i,A7O w p=some i->w p=some i:=fun p i e=>by
    grind [A7O]
   have r2:=r1.sub (w':=A7O w) (fun p i e=>by
    have:=hd p i e;unfold A7O at e;unfold holds;split at e
    ·cases e
    ·rename_i h;rw [if_neg h];exact e) (fun p hp=>by unfold A7O holds;rw [if_neg (hp 0),if_neg (hp 0)])
   have z:Zo (A7O w) Pr s.next:=⟨fun p e=>Nat.lt_irrefl _ (r.live p _ (hd p _ e)),hnp⟩;refine ⟨μ,rel (A7O w) d,r2.put d (.inl ?_),R9 _ (fun p i e _=>⟨p,hd p i (P1 _ d p i e)⟩) R5⟩;refine .fz (s:=1) (ver:=0) z (by rw [X3,if_pos rfl]) ?_ (by simp) (fun h=>by unfold D3 at h;omega) (fun h=>rfl) (by simp) ?_
   ·refine List.all_eq_true.2 fun c hc=> ?_
    simp_all<;>grind
   ·rw [List.drop_zero,Nat.mul_one,List.take_of_length_le (by simp)];exact RVs.u8 _
  ·cases h
 ·cases h
theorem B8D (md b:Nat) (d:Option Nat) (x:Operand):N6 md b d (.lenMap x):=by
 intro Pr μ w a σ ax s v a' σ' h r hP;simp only [Z5] at h;simp only [B0];split at h
 ·rename_i hx;have h1:=r.plainOf hx rfl
  revert h1;generalize ax.ev x=y;intro h1;cases h1
  cases h;exact ⟨_,rfl,B4 r d (.int _ _)⟩
 ·rename_i k hx;have h1:=r.plainOf hx rfl
  revert h1;generalize ax.ev x=y;intro h1;cases h1
  rename_i i hm;split at h
  ·rename_i ver es ck hob;cases h;obtain ⟨i',es',k1,k2,k3,_⟩:=r.mapOf hob;rw [hm] at k1;cases k1;simp only [k2,k3];exact ⟨_,rfl,B4 r d (.int _ _)⟩
  ·cases h
 ·cases h
theorem A7P (r:Rl Pr μ w a σ ax s) (k:EqK) {x:TV} {x':Value} (hx:pl x=true->RV s.get μ (Zo w Pr) x x'):∀(es:List (TV×TV×Nat)) (es':List MapEntry) (n:Nat),es'.length=es.length->(∀(j:Nat) (x:TV×TV×Nat) (y:MapEntry),es[j]? =some x->es'[j]? =some y->RV s.get μ (Zo w Pr) x.1 y.key/\RV s.get μ (Zo w Pr) x.2.1 y.val/\y.born=x.2.2)->
  ∀{q:Option (Nat×TV)},A64 σ k x es n=some q->(q=none/\S8 s.get k x' es' n=some none)\/∃i v v',q=some (i,v)/\S8 s.get k x' es' n=some (some (i,v'))/\RV s.get μ (Zo w Pr) v v'
 |[],[],n,_,_,q,h=>by simp only [A64] at h;cases h;exact .inl ⟨rfl,rfl⟩
 |[],_::_,n,hl,_,q,h=>by simp at hl
 |_::_,[],n,hl,_,q,h=>by simp at hl
 |e::es,e'::es',n,hl,he,q,h=>by
  simp only [A64] at h;obtain ⟨h1,h2,h3⟩:=he 0 e e' rfl rfl;split at h
  ·rename_i hq;cases h;have:=A4W r k hx (fun _=>h1) hq;exact .inr ⟨n,_,e'.val,rfl,by simp only [S8,this],h2⟩
  ·rename_i hq;have:=A4W r k hx (fun _=>h1) hq;simp only [S8,this];exact A7P r k hx es es' (n+1) (by simpa using hl) (fun j x y hx hy=>he (j+1) x y (by simpa using hx) (by simpa using hy)) h
  ·cases h
theorem B8E (md b:Nat) (d:Option Nat) (k:EqK) (z:Value) (m x:Operand) (ok:Bool):N6 md b d (.lookup k z m x ok):=by
 intro Pr μ w a σ ax s v a' σ' h r hP;simp only [Z5,A4R] at h;split at h
 ·rename_i tv hl;cases h;simp only [B13] at hl;simp only [B0];cases hm:a.ev m<;>rw [hm] at hl<;>simp only at hl<;>first|(cases hl;done)|skip
  case nilm=>
   have h1:=r.plainOf hm rfl
   revert h1;generalize ax.ev m=y;intro h1;cases h1
   cases hl;refine ⟨_,rfl,B4 r d ?_⟩;cases ok with
   |true=>exact .tuple (.cons (RV.ofV _ _ _ z) (.cons (.bool _) .nil))
   |false=>exact RV.ofV _ _ _ z
  case map kk=>
   have h1:=r.plainOf hm rfl
   revert h1;generalize ax.ev m=y;intro h1;cases h1
   rename_i i hmu;cases hob:σ.at kk with
   |none=>grind
   |some ob=>
    rw [hob] at hl;obtain ⟨ver,body⟩:=ob;cases body<;>simp only at hl<;>first|(cases hl;done)|skip
    rename_i es ck;obtain ⟨i',es',k1,k2,k3,k4,k5⟩:=r.mapOf hob;rw [hmu] at k1;cases k1;simp only [k2];cases hf:A64 σ k (a.ev x) es 0 with
    |none=>rw [hf] at hl;cases hl
    |some q=>
     rw [hf] at hl;rcases A7P r k (fun h=>r.plain h) es es' 0 k3 k4 hf with ⟨rfl,q2⟩|⟨i,v1,v2,rfl,q2,q3⟩
     ·simp only at hl;cases hl;simp only [q2];refine ⟨_,rfl,B4 r d ?_⟩;cases ok with
      |true=>exact .tuple (.cons (RV.ofV _ _ _ z) (.cons (.bool _) .nil))
      |false=>exact RV.ofV _ _ _ z
     ·simp only at hl;cases hl;simp only [q2];refine ⟨_,rfl,B4 r d ?_⟩;cases ok with
      |true=>exact .tuple (.cons q3 (.cons (.bool _) .nil))
      |false=>exact q3
 ·cases h
theorem B2D (md b:Nat) (d:Option Nat) (k:EqK) (m x v:Operand):N6 md b d (.mapUpdate k m x v):=by
 intro Pr μ w a σ ax s vv a' σ' h r hP;simp only [Z5] at h;split at h
 ·rename_i rr hr;cases h;simp only [A2i] at hr;split at hr
  ·rename_i kk x1 v1 hm gx gv;split at hr
   ·rename_i ver es ck hob;split at hr
    ·obtain ⟨w1,r1,hsub⟩:=r.frzs [x,v];have h1:=r.plainOf hm rfl;simp only [B0]
     revert h1;generalize ax.ev m=y;intro h1;cases h1
     rename_i i hmu;obtain ⟨i',es',k1,k2,k3,k4,k5⟩:=r1.mapOf hob;rw [hmu] at k1;cases k1;have hx:=r1.given rfl (by simp) gx;have hv:=r1.given rfl (by simp) gv;have hk:kk<σ.length:=by rw [<-r.len];exact (List.getElem?_eq_some_iff.1 hmu).1
     have hw:w1 (.obj kk)=some i:=(r1.wobj kk).trans hmu;have hne:∀(o:Option AObj) p j,w1 p=some j->p≠.obj kk->(s.upd [(i,o)] s.next).get j=s.get j:=fun o p j e h=>by
      rw [M3,if_neg];rintro rfl;exact h (r1.inj _ _ _ e hw)
     have key:∀(es1:List (TV×TV×Nat)) (es2:List MapEntry) (ck':Nat),es2.length=es1.length->(∀(j:Nat) (x:TV×TV×Nat) (y:MapEntry),es1[j]? =some x->es2[j]? =some y->RV s.get μ (Zo w1 Pr) x.1 y.key/\RV s.get μ (Zo w1 Pr) x.2.1 y.val/\y.born=x.2.2)->
       A4U Pr μ w ax s d A6 (frzs a [x,v]).tick (σ.set kk (some ⟨ver+1,.map es1 ck'⟩)) ⟨undef,[(i,some ⟨ver+1,.map es2 ck'⟩)],s.next⟩:=by
      intro es1 es2 ck' q1 q2;have mo:=r1.moOwn hw (some ⟨ver+1,.map es2 ck'⟩)
      have st:=r1.objStep mo (r1.toRs.setO (o:=⟨ver+1,.map es1 ck'⟩) hk mo (r1.dmSet hw _) (Nat.le_refl _) r1.inj (fun p i e=>⟨p,e⟩) (fun _=>rfl) (fun _ _ _=>rfl) (fun k' j hk' h=>by
       rcases h with h|⟨c,h⟩
       ·exact hne _ _ _ h (by simpa using hk')
       ·exact hne _ _ _ h (by simp)) ⟨i,.map es2 ck',hmu,by rw [M3,if_pos rfl],rfl,q1,fun j x y hx hy=>⟨(q2 j x y hx hy).1.mono mo,(q2 j x y hx hy).2.1.mono mo,(q2 j x y hx hy).2.2⟩,k5⟩) (fun _=>rfl) (fun _ _=>rfl) (fun t j h=>by
       rcases h with h|⟨c,h⟩
       ·exact hne _ _ _ h (by simp)
       ·exact hne _ _ _ h (by simp))
      exact A1X (p:=⟨undef,[(i,some ⟨ver+1,.map es2 ck'⟩)],s.next⟩) st d rfl rfl (fun w2 h2=>U9 (hsub _ _ hw) _ (fun p j e=>⟨p,hsub _ _ (h2 p j e)⟩))
     simp only [k2];have hf1:∀q,A64 σ k x1 es 0=some q->(q=none/\S8 s.get k (ax.ev x) es' 0=some none)\/∃i v v',q=some (i,v)/\S8 s.get k (ax.ev x) es' 0=some (some (i,v'))/\RV s.get μ (Zo w1 Pr) v v':=fun q hq=>A7P r1 k (fun _=>hx) es es' 0 k3 k4 hq
     split<;>grind
    ·cases hr
   ·cases hr
  ·cases hr
 ·cases h
end
section
variable {Pr:Nat->Prop} {μ μ':List Nat} {w w':J3} {a a':TAct} {σ σ':Sto} {ax ax':Xe.Act} {s s':AS}
theorem A3g {x:TV} {n i:Nat} (h:A2g x n=some i):i<=n/\∀m,n<=m->A2g x m=some i:=by
 unfold A2g at h;split at h
 ·split at h
  ·rename_i hb;cases h;rw [D4] at hb;have hb:=of_decide_eq_true hb;exact ⟨hb,fun m hm=>by simp only [A2g,D4];rw [decide_eq_true (by omega)]⟩
  ·cases h
 ·cases h
theorem A2k {len cap l h m:Nat} {lo hi mx:Option TV} (hb:P7 len cap lo hi mx=some (l,h,m)) (hc:len<=cap):l<=h/\h<=m/\m<=cap:=by
 unfold P7 at hb;cases e1:A7y mx cap cap with
 |none=>rw [e1] at hb;cases hb
 |some m0=>
  rw [e1] at hb;simp only at hb;cases e2:hiB hi mx m0 len with
  |none=>rw [e2] at hb;cases hb
  |some h0=>
   rw [e2] at hb;simp only at hb;cases e3:A7y lo h0 0 with
   |none=>rw [e3] at hb;cases hb
   |some l0=>
    rw [e3] at hb;cases hb;have k1:m<=cap/\(mx=none->m=cap):=by
     cases mx with
     |none=>grind [A7y]
     |some v=>exact ⟨(A3g e1).1,fun h=>by cases h⟩
    have k2:h<=m:=by
     cases hi with
     |some v=>exact (A3g e2).1
     |none=>cases mx with
      |none=>simp only [hiB,Option.some.injEq] at e2;have:=k1.2 rfl;omega
      |some v=>simp only [hiB] at e2;cases e2
    have k3:l<=h:=by
     cases lo with
     |none=>grind [A7y]
     |some v=>exact (A3g e3).1
    grind
theorem B2E {len cap l h m:Nat} {lo hi:Option TV} (hb:P7 len len lo hi none=some (l,h,m)) (hc:len<=cap):P7 len cap lo hi none=some (l,h,cap)/\m=len:=by
 unfold P7 at hb ⊢;rw [show ∀n,A7y none n n=some n from fun _=>rfl] at hb ⊢;simp only at hb ⊢;have:∀y,hiB hi none len len=some y->hiB hi none cap len=some y:=by
  intro y hy;cases hi with
  |none=>exact hy
  |some v=>exact (A3g hy).2 cap hc
 grind
theorem B4g (md b:Nat) (d:Option Nat) (n size:Nat) (x:Operand) (lo hi mx:Option Operand):N6 md b d (.sliceArr n size x lo hi mx):=by
 intro Pr μ w a σ ax s v a' σ' h r hP;simp only [Z5] at h;simp only [B0];split at h
 ·rename_i k o hx;have h1:=r.plainOf hx rfl
  revert h1;generalize ax.ev x=y;intro h1;cases h1
  rename_i i hm;split at h
  ·rename_i l hh m hb;cases h;have hb':=A0l (ORV.map r lo) (ORV.map r hi) (ORV.map r mx) hb;simp only [hb'];obtain ⟨b1,b2,_⟩:=A2k hb (Nat.le_refl _);refine ⟨_,rfl,B4 r d ?_⟩;cases Nat.beq m l with
   |true=>constructor<;>grind
   |false=>simp only [E0];exact .ref hm (by omega)
  ·cases h
 ·cases h
theorem A3h {sz:Nat} {chs:List (List TV)} (h:K5 sz chs=true) (l n:Nat):K5 sz ((chs.drop l).take n)=true:=
 List.all_eq_true.2 fun c hc=>List.all_eq_true.1 h c (List.mem_of_mem_drop (List.mem_of_mem_take hc))
theorem A9H {sz:Nat}:∀{chs:List (List TV)},K5 sz chs=true->∀l,(chs.drop l).flatten=chs.flatten.drop (l*sz)
 |[],_,l=>by simp
 |c::chs,h,0=>by simp
 |c::chs,h,l+1=>by
  simp only [K5,List.all_cons,Bool.and_eq_true] at h;have h1:=J7 h.1;rw [List.drop_succ_cons,A9H h.2 l,List.flatten_cons,Nat.succ_mul,Nat.add_comm,<-List.drop_drop,<-h1,List.drop_left,h1]
theorem A5x {sz:Nat}:∀{chs:List (List TV)},K5 sz chs=true->∀l,(chs.take l).flatten=chs.flatten.take (l*sz)
 |[],_,l=>by simp
 |c::chs,h,0=>by simp
 |c::chs,h,l+1=>by
  simp only [K5,List.all_cons,Bool.and_eq_true] at h;have h1:=J7 h.1;rw [List.take_succ_cons,List.flatten_cons,List.flatten_cons,A5x h.2 l,Nat.succ_mul,Nat.add_comm,List.take_append,List.take_of_length_le (show c.length<=sz+l*sz by omega),h1,show sz+l*sz - sz=l*sz by omega]
theorem piece {g:Hp} {Z:Nat->Prop} {chs:List (List TV)} {vs:List Value} {sz o n l h:Nat} (hok:K5 sz chs=true) (hn:chs.length=n) (hv:RVs g μ Z chs.flatten ((vs.drop o).take (n*sz))) (hl:l<=h) (hh:h<=n):
  RVs g μ Z ((chs.drop l).take (h - l)).flatten ((vs.drop (o+l*sz)).take ((h - l)*sz)):=by
 rw [A5x (List.all_eq_true.2 fun c hc=>List.all_eq_true.1 hok c (List.mem_of_mem_drop hc)),A9H hok];have:=(hv.drop (l*sz)).take ((h - l)*sz);have hle:l*sz+(h - l)*sz<=n*sz:=by rw [<-Nat.add_mul];exact Nat.mul_le_mul_right sz (by omega)
 rwa [List.drop_take,List.take_take,List.drop_drop,Nat.min_eq_left (by omega)] at this
theorem A7Q {sz n c l h:Nat} {a:Addr} {lo hi:Option TV} {lo' hi':Option Value} {g:Hp} {Z:Nat->Prop} {m:Nat} (h1:ORV g μ Z lo lo') (h2:ORV g μ Z hi hi') (hb:P7 n n lo hi none=some (l,h,m)) (hc:c<D3->n<=c) (hu:D3<=c->c=D3+sz):
  ∃a' c',A0G sz (.slice (some a) n c) lo' hi' none=some (.slice (some a') (h - l) c')/\((D3<=c/\c'=D3+sz/\a'=a.add (l*sz))\/(c<D3/\c'=c - l/\(a'=a.add (l*sz)\/(a'=a/\c=l)))):=by
 have h3:ORV g μ Z none none:=trivial
 by_cases hcap:D3<=c
 ·have:=hu hcap;have hb':=A0l h1 h2 h3 hb;simp_all [D3,A0G,D4,D8,A6T]<;>grind
 ·have hlt:c<D3:=by omega
  have hb':=A0l h1 h2 h3 (B2E hb (hc hlt)).1;simp_all<;>grind [A0G,D4,J7,A6T]
theorem RO.slice {g:Hp} {Z:Nat->Prop} {i e sz:Nat} {chs:List (List TV)} {v:Value} (hro:RO g μ Z i (.sl (.own e sz) chs) v) {lo hi:Option TV} {lo' hi':Option Value} {l h m:Nat} (h1:ORV g μ Z lo lo') (h2:ORV g μ Z hi hi') (hb:P7 chs.length chs.length lo hi none=some (l,h,m)):
  ∃v',A0G sz v lo' hi' none=some v'/\RO g μ Z i (.sl (.own e sz) ((chs.drop l).take (h - l))) v':=by
 cases hro with
 |mk m1 m2 m3 m4 m5 m6 m7=>
  rename_i n o c ver vs;subst m3;obtain ⟨b1,b2,b3⟩:=A2k hb (Nat.le_refl _);obtain ⟨a',c',q1,q2⟩:=A7Q (sz:=sz) (a:=⟨i,o,none⟩) h1 h2 hb (fun h=>(m4 h).1) m5;refine ⟨_,q1,?_⟩;have hlen:((chs.drop l).take (h - l)).length=h - l:=by simp;omega
  have hle:l*sz+(h - l)*sz<=chs.length*sz:=by rw [<-Nat.add_mul];exact Nat.mul_le_mul_right sz (by omega)
  rcases q2 with ⟨k1,rfl,rfl⟩|⟨k1,rfl,k3⟩
  ·rw [E0];exact .mk m1 (A3h m2 _ _) hlen (fun h=>absurd h (by omega)) (fun _=>rfl) (by omega) (piece m2 rfl m7 b1 (by omega))
  ·have hcs:=(m4 k1).2;have hlc:l<=c:=by have:=(m4 k1).1;omega
   rcases k3 with rfl|⟨rfl,hcl⟩
   ·have hmul:l*sz+(c - l)*sz=c*sz:=by rw [<-Nat.add_mul];congr 1;omega
    have hmul2:(h - l)*sz<=(c - l)*sz:=Nat.mul_le_mul_right sz (by have:=(m4 k1).1;omega);rw [E0];exact .mk m1 (A3h m2 _ _) hlen (fun _=>⟨by have:=(m4 k1).1;omega,by omega⟩) (fun h=>absurd h (by omega)) (by omega) (piece m2 rfl m7 b1 (by omega))
   ·have:h - l=0:=by have:=(m4 k1).1;omega
    rw [this,hcl];simp only [Nat.sub_self,List.take_zero];exact .mk m1 rfl rfl (fun _=>⟨Nat.le_refl _,by simp;omega⟩) (fun h=>absurd h (by unfold D3;omega)) (by simp;omega) (by simp;exact .nil)
theorem RV.slice {g:Hp} {Z:Nat->Prop} {size:Nat} {m:Md} {chs:List (List TV)} {v:Value} (hr:RV g μ Z (.sl m chs) v) {lo hi:Option TV} {lo' hi':Option Value} {l h mm:Nat} (h1:ORV g μ Z lo lo') (h2:ORV g μ Z hi hi') (hb:P7 chs.length chs.length lo hi none=some (l,h,mm)) (hok:K5 size chs=true) (hsl:B6y size m chs=true):
  ∃v',A0G size v lo' hi' none=some v'/\RV g μ Z (.sl m ((chs.drop l).take (h - l))) v':=by
 obtain ⟨b1,b2,b3⟩:=A2k hb (Nat.le_refl _);cases hr with
 |fz0=>simp [B6y] at hsl
 |nl=>
  have hb':=A0l h1 h2 (show ORV g μ Z none none from trivial) hb;have hm:mm=0:=by simpa using b3
  have hl:l=0:=by omega
  have hh:h=0:=by omega
  subst hm;subst hl;subst hh;refine ⟨.slice none 0 0,?_,.nl⟩;grind [A0G,D4,D3]
 |fz z hg ok hn hc hu hle hv=>
  rename_i n i o c s ver vs e ro;subst hn;have hs:s=size:=by
   cases chs with
   |nil=>simp [B6y] at hsl
   |cons c chs=>
    grind [K5,J7]
  subst hs;obtain ⟨a',c',q1,q2⟩:=A7Q (sz:=s) (a:=⟨i,o,none⟩) h1 h2 hb hc hu;refine ⟨_,q1,?_⟩;have hlen:((chs.drop l).take (h - l)).length=h - l:=by simp;omega
  have hmul:l*s+(h - l)*s<=chs.length*s:=by rw [<-Nat.add_mul];exact Nat.mul_le_mul_right s (by omega)
  rcases q2 with ⟨k1,rfl,rfl⟩|⟨k1,rfl,k3⟩
  ·rw [E0];exact .fz z hg (A3h ok _ _) hlen (fun h=>absurd h (by omega)) (fun _=>rfl) (by omega) (piece ok rfl hv b1 (by omega))
  ·have:=hc k1;rcases k3 with rfl|⟨rfl,hcl⟩
   ·rw [E0];exact .fz z hg (A3h ok _ _) hlen (fun _=>by omega) (fun h=>absurd h (by omega)) (by omega) (piece ok rfl hv b1 (by omega))
   ·have:h - l=0:=by omega
    rw [this];simp only [List.take_zero];exact .fz0 _ _
theorem ORV.mono {g g':Hp} {Z Z':Nat->Prop} (mo:Mo g μ Z g' μ' Z') {x:Option TV} {y:Option Value} (h:ORV g μ Z x y):ORV g' μ' Z' x y:=by
 cases x<;>cases y<;>simp only [ORV] at h ⊢
 exact fun hp=>(h hp).mono mo
theorem Rl.frzPlace (r:Rl Pr μ w a σ ax s) {p:Pl} {e sz:Nat} {chs:List (List TV)} (h:A0Q a σ p=some (.sl (.own e sz) chs)) {v:Value} (hv:A3w μ w ax s.get p v):
  ∃w1,Rl Pr μ w1 (A0u a σ frz p).1 (A0u a σ frz p).2 ax s/\(∀p i,w1 p=some i->w p=some i)/\RV s.get μ (Zo w1 Pr) (.sl .fz chs) v:=by
 cases p with
 |tmp t=>
  simp only [A0Q,Option.some.injEq] at h;have hv:v=ax.ev (.tmp t):=hv;subst hv;have ho:D1 (a.ev (.tmp t))=true:=by rw [h];rfl
  obtain ⟨i,h1,h2⟩:=r.ownOf ho;have hz:Zo (rel w (some t)) Pr i:=by
   refine ⟨fun p e=> ?_,r.pr _ i h1⟩;have:=r.inj _ _ _ (P1 w _ p i e) h1;grind [A03]
  have hf:=RO.frz (h2.mono (Mo.sub (P1 w (some t))) rfl) hz;refine ⟨rel w (some t),r.reTmp t hf,P1 w _,?_⟩;rw [h] at hf;exact hf
 |tcell t o ser=>
  simp only [A0Q] at h;split at h
  ·rename_i cs e' hb;obtain ⟨hbx,i,ver,vs,k1,k2,k3,k4⟩:=r.boxOf hb;obtain ⟨v',q1,q2⟩:=k4.at h;obtain ⟨j,q3,q4⟩:=q2.ownOf rfl;have hlt:=(List.getElem?_eq_some_iff.1 h).1;have hvv:v=v':=by
    obtain ⟨i2,ver2,vs2,e2,p1,p2,p3⟩:=hv;grind
   subst hvv
   have hz:Zo (A04 w t o 1 none) Pr j:=⟨fun p e=>by
    have:=r.inj _ _ _ (K3 w t o 1 p j e) q3;subst this
    simp [A04,clr] at e,r.pr _ _ q3⟩
   have hfz:RV s.get μ (Zo (A04 w t o 1 none) Pr) (.sl .fz chs) v:=RO.frz (q4.mono (Mo.sub (K3 w t o 1)) rfl) hz;have:=r.reBox (w':=A04 w t o 1 none) (tv:=.sl .fz chs) hb hlt (fun p i e=>⟨p,K3 w t o 1 p i e⟩) (fun p q i e f=>r.inj p q i (K3 w t o 1 p i e) (K3 w t o 1 q i f)) (fun _=>rfl) (fun _ _=>rfl) (fun _=>rfl)
    (fun k' c hk=>by
     simp only [A04];split
     ·rename_i h;subst h;have hc:c≠o:=by
       rcases hk with h|h
       · exact absurd rfl h
       · exact h
      unfold clr;split
      ·rfl
      ·rw [if_neg (by omega)]
     ·rfl) (fun i' ver' vs' v2 e1 e2 e3=>by
     rw [k1] at e1;cases e1;rw [k3] at e2;cases e2;rw [q1] at e3;cases e3;have:A04 w t o 1 none (.tcell t o)=none:=by simp [A04,clr]
     rw [this];exact hfz)
   refine ⟨A04 w t o 1 none,?_,K3 w t o 1,hfz⟩;simp only [A0u,hb,h];exact this
  ·cases h
 |cell k o=>
  simp only [A0Q] at h;split at h
  ·rename_i ver cs e' hob;obtain ⟨i,vs,k1,k2,k3⟩:=r.objOf hob;obtain ⟨v',q1,q2⟩:=k3.at h;obtain ⟨j,q3,q4⟩:=q2.ownOf rfl;have hlt:=(List.getElem?_eq_some_iff.1 h).1;have hvv:v=v':=by
    obtain ⟨i2,ver2,vs2,e2,p1,p2,p3⟩:=hv;grind
   subst hvv
   have hz:Zo (Z0 w k o 1 none) Pr j:=⟨fun p e=>by
    have:=r.inj _ _ _ (J1 w k o 1 p j e) q3;subst this
    simp [Z0,clr] at e,r.pr _ _ q3⟩
   have hfz:RV s.get μ (Zo (Z0 w k o 1 none) Pr) (.sl .fz chs) v:=RO.frz (q4.mono (Mo.sub (J1 w k o 1)) rfl) hz;have:=r.reCell (w':=Z0 w k o 1 none) (tv:=.sl .fz chs) hob hlt (fun p i e=>⟨p,J1 w k o 1 p i e⟩) (fun p q i e f=>r.inj p q i (J1 w k o 1 p i e) (J1 w k o 1 q i f)) (fun _=>rfl) (fun _ _=>rfl) (fun _=>rfl)
    (fun k' c hk=>by
     simp only [Z0];split
     ·rename_i h;subst h;have hc:c≠o:=by
       rcases hk with h|h
       · exact absurd rfl h
       · exact h
      unfold clr;split
      ·rfl
      ·rw [if_neg (by omega)]
     ·rfl) (fun i' vs' v2 e1 e2 e3=>by
     rw [k1] at e1;cases e1;rw [k2] at e2;cases e2;rw [q1] at e3;cases e3;have:Z0 w k o 1 none (.cell k o)=none:=by simp [Z0,clr]
     rw [this];exact hfz)
   refine ⟨Z0 w k o 1 none,?_,J1 w k o 1,hfz⟩;simp only [A0u,hob,h];exact this
  ·cases h
theorem C0N (md b:Nat) (d:Option Nat) (size:Nat) (x:Operand) (lo hi mx:Option Operand):N6 md b d (.slice size x lo hi mx):=by
 intro Pr μ w a σ ax s v a' σ' h r hP;simp only [Z5] at h;simp only [B0];have o1:=ORV.map r lo;have o2:=ORV.map r hi;have o3:=ORV.map r mx
 revert h o1 o2 o3
 generalize lo.map a.ev=l1;generalize hi.map a.ev=l2;generalize mx.map a.ev=l3;generalize lo.map ax.ev=l1';generalize hi.map ax.ev=l2';generalize mx.map ax.ev=l3';intro h o1 o2 o3;cases hx:a.ev x<;>rw [hx] at h<;>simp only [B12] at h<;>first|(cases h;done)|skip
 case sl m chs=>
  cases l3 with
  |some _=>cases h
  |none=>
   cases l3' with
   |some _=>exact o3.elim
   |none=>
    simp only at h;split at h
    ·rename_i l hh mm hb;split at h
     ·rename_i hok;simp only [Bool.and_eq_true] at hok;cases h;cases ho:D1 (a.ev x) with
      |false=>
       have h1:=r.plainOf hx (by rw [hx] at ho;cases m<;>first|rfl|(simp [D1] at ho));obtain ⟨v',k1,k2⟩:=h1.slice o1 o2 hb hok.1 hok.2;rw [k1,A1h ho];exact ⟨_,rfl,B4 r d k2⟩
      |true=>
       obtain ⟨t,rfl⟩:=Q4 ho;cases m<;>first|(rw [hx] at ho;cases ho;done)|skip
       rename_i e sz;have hsz:sz=size:=J7 hok.2;subst hsz;obtain ⟨i,h1,h2,h3,h4⟩:=r.takeTmp ho;rw [hx] at h2;obtain ⟨v',k1,k2⟩:=h2.slice (o1.mono (Mo.mv _ _)) (o2.mono (Mo.mv _ _)) hb;rw [k1,A15 ho];exact ⟨_,rfl,A5w h3 h4 ((A1d w (by simp)).trans h1) k2 (fun p j e=>G8 e) d⟩
     ·cases h
    ·cases h
 case via p ck=>
  split at h
  ·rename_i heq hc;cases l3' with
   |some _=>exact o3.elim
   |none=>
    split at h
    ·rename_i chs hp;split at h
     ·rename_i l hh mm hb;split at h
      ·rename_i hok;simp only [Bool.and_eq_true] at hok;cases h;have ha:a.at x=.via p ck:=by unfold TAct.at;rw [hx]
       have hv:=(r.atAl ha rfl).2 (J7 hc) chs hp;obtain ⟨e,sz,hpv⟩:=A9F hp;obtain ⟨w1,r1,hsub,hf⟩:=r.frzPlace hpv hv;obtain ⟨v',k1,k2⟩:=hf.slice (o1.mono (Mo.sub hsub)) (o2.mono (Mo.sub hsub)) hb hok.1 hok.2;rw [k1];exact ⟨_,rfl,L6 r1 (fun p i e=>⟨p,hsub p i e⟩) d (.inl k2)⟩
      ·cases h
     ·cases h
    ·cases h
  ·cases h
 case ref k o sz n c=>
  split at h
  ·cases h
  ·rename_i hcap;split at h
   ·rename_i l hh m hb;split at h
    ·rename_i hsz;cases h;have h1:=r.plainOf hx rfl
     revert h1;generalize ax.ev x=y;intro h1;cases h1
     rename_i i hm hnc;have hsz:=J7 hsz;subst hsz;have hb':=A0l o1 o2 o3 hb;obtain ⟨b1,b2,b3⟩:=A2k hb hnc;simp only [A0G,hcap,hb'];refine ⟨_,rfl,B4 r d ?_⟩;cases Nat.beq m l with
     |true=>constructor<;>grind
     |false=>simp only [A6T,Option.map_some,E0];exact .ref hm (by omega)
    ·cases h
   ·cases h
end
section
variable {Pr:Nat->Prop} {μ μ':List Nat} {w w':J3} {a a':TAct} {σ σ':Sto} {ax ax':Xe.Act} {s s':AS}
theorem B4h {g:Hp} {Z:Nat->Prop} {size i o n c ver e:Nat} {ro:Bool} {vs:List Value} {chs:List (List TV)} (hg:g i=some ⟨ver,.cells vs e ro⟩) (hn:chs.length=n) (hle:o+n*size<=vs.length) (hv:RVs g μ Z chs.flatten ((vs.drop o).take (n*size))):
  ∃l,L9 g size (.slice (some ⟨i,o,none⟩) n c)=some (chs.length,l)/\RVs g μ Z chs.flatten l:=by
 cases n with
 |zero=>
  have:chs=[]:=List.eq_nil_of_length_eq_zero hn;subst this;exact ⟨[],rfl,.nil⟩
 |succ n=>
  grind [L9,H7]
theorem B5v {s sz:Nat} {chs:List (List TV)} (h:K5 s chs=true) (k:K5 sz chs=true):chs=[]\/s=sz:=by
 cases chs with
 |nil=>exact .inl rfl
 |cons c chs=>
  grind [K5,J7]
theorem RO.src {g:Hp} {Z:Nat->Prop} {size i:Nat} {m:Md} {chs:List (List TV)} {v:Value} (h:RO g μ Z i (.sl m chs) v) (hok:K5 size chs=true):∃l,L9 g size v=some (chs.length,l)/\RVs g μ Z chs.flatten l:=by
 cases h with
 |mk m1 m2 m3 m4 m5 m6 m7=>
  rcases B5v m2 hok with rfl|rfl
  ·simp at m3;subst m3;exact ⟨[],rfl,.nil⟩
  ·exact B4h m1 m3 m6 m7
theorem RV.src {g:Hp} {Z:Nat->Prop} {size:Nat} {m:Md} {chs:List (List TV)} {v:Value} (h:RV g μ Z (.sl m chs) v) (hok:K5 size chs=true):∃l,L9 g size v=some (chs.length,l)/\RVs g μ Z chs.flatten l:=by
 cases h with
 |fz z hg ok hn hc hu hle hv=>
  rcases B5v ok hok with rfl|rfl
  ·simp at hn;subst hn;exact ⟨[],rfl,.nil⟩
  ·exact B4h hg hn hle hv
 |fz0 b c=>cases b<;>exact ⟨[],rfl,.nil⟩
 |nl=>exact ⟨[],rfl,.nil⟩
theorem Rl.src (r:Rl Pr μ w a σ ax s) {size:Nat} {y:Operand} {new:List (List TV)} (h:B46 a σ size (a.ev y)=some new) (hok:K5 size new=true):
  ∃l,L9 s.get size (ax.ev y)=some (new.length,l)/\RVs s.get μ (Zo w Pr) new.flatten l:=by
 cases hy:a.ev y<;>rw [hy] at h<;>simp only [B46] at h<;>first|(cases h;done)|skip
 case sl m c=>
  cases h;cases ho:D1 (a.ev y) with
  |false=>exact (r.plainOf hy (by rw [hy] at ho;cases m<;>first|rfl|(simp [D1] at ho))).src hok
  |true=>
   obtain ⟨t,rfl⟩:=Q4 ho;obtain ⟨i,h1,h2⟩:=r.ownOf ho;rw [hy] at h2;exact h2.src hok
 case via p ck=>
  split at h
  ·rename_i hc;have ha:a.at y=.via p ck:=by unfold TAct.at;rw [hy]
   obtain ⟨i,e,sz,h1,h2⟩:=r.viaOf (r.atAl ha rfl) hc h;exact h2.src hok
  ·cases h
 case ref k o sz n c=>
  split at h
  ·rename_i ver vs e hob;split at h
   ·rename_i hb;simp only [Bool.and_eq_true] at hb;obtain ⟨⟨b1,b2⟩,b3⟩:=hb;cases h;have hsz:=J7 b1;subst hsz;rw [D4] at b2;have b2:=of_decide_eq_true b2;have h1:=r.plainOf hy rfl
    revert h1;generalize ax.ev y=yy;intro h1;cases h1
    rename_i i hm hnc;obtain ⟨i',vs',k1,k2,k3⟩:=r.objOf hob;rw [hm] at k1;cases k1;have:=k3.plain b2 (by simpa using b3);refine B4h k2 (A4Y _ _ _) (by rw [k3.len];exact b2) ?_;grind [A3f]
   ·cases h
  ·cases h
 case str st=>
  have h1:=r.plainOf hy rfl
  revert h1;generalize ax.ev y=yy;intro h1;cases h1
  split at h
  ·cases h;simp_all [L9,RVs.u8]
  ·cases h
theorem B8F {sz:Nat} {x y:List (List TV)} (h:K5 sz x=true) (k:K5 sz y=true):K5 sz (x++y)=true:=by
 grind [K5]
theorem Rl.newOwn (r:Rl Pr μ w a σ ax s) (hf:A3O a) (hP:∀i,Pr i->i<s.next) {chs:List (List TV)} {vs:List Value} {e sz n:Nat} (hok:K5 sz chs=true) (hn:chs.length=n) (hl:n*sz<=vs.length) (hv:RVs s.get μ (Zo w Pr) chs.flatten (vs.take (n*sz))) (d:Option Nat):
  ∃w',Rl Pr μ w' (a.put d (.sl (.own e sz) chs)) σ (ax.put d (.slice (some ⟨s.next,0,none⟩) n (D3+sz))) (s.upd [(s.next,some ⟨0,.cells vs e false⟩)] (s.next+1))/\∀p i,w' p=some i->i<s.next->∃q,w q=some i:=by
 have hnp:¬Pr s.next:=fun h=>Nat.lt_irrefl _ (hP _ h)
 have r1:=r.alloc ⟨0,.cells vs e false⟩ hnp;have hro:RO (s.upd [(s.next,some ⟨0,.cells vs e false⟩)] (s.next+1)).get μ (Zo (holds w s.next) Pr) s.next (.sl (.own e sz) chs) (.slice (some ⟨s.next,0,none⟩) n (D3+sz)):=
  .mk (ver:=0) (vs:=vs) (by rw [X3,if_pos rfl]) hok hn (fun h=>by omega) (fun h=>rfl) (by omega) (by rw [List.drop_zero];exact hv.mono (r.moNew _))
 obtain ⟨w',k1,k2⟩:=r1.putHand hf (A1e w _) hro d;grind [A0m]
theorem Rl.appOwn (r:Rl Pr μ w a σ ax s) (hf:A3O a) (hP:∀i,Pr i->i<s.next) {i e sz bytes:Nat} {chs new:List (List TV)} {v:Value} {l:List Value} (hi:w (.hand 0)=some i) (hro:RO s.get μ (Zo w Pr) i (.sl (.own e sz) chs) v) (hok:K5 sz new=true) (hl:RVs s.get μ (Zo w Pr) new.flatten l)
  (hsm:Nat.ble (chs.length+new.length) small=true) (hby:Nat.ble bytes 65536=true) (d:Option Nat):
  ∃p,I1 s.get s.next e sz bytes v new.length l=some p/\∃w',Rl Pr μ w' (a.put d (.sl (.own e sz) (chs++new))) σ (ax.put d p.v) (s.upd p.δ p.nx)/\After w w' μ μ s (s.upd p.δ p.nx):=by
 have hll:l.length=new.length*sz:=by rw [hl.length,A2S hok]
 cases hro with
 |mk m1 m2 m3 m4 m5 m6 m7=>
  rename_i n o c ver vs;subst m3
  by_cases hn:new.length=0
  ·have hnew:new=[]:=List.eq_nil_of_length_eq_zero hn;subst hnew;refine ⟨_,rfl,?_⟩;obtain ⟨w',k1,k2⟩:=r.putHand hf hi (.mk m1 m2 rfl m4 m5 m6 m7) d;rw [List.append_nil];exact ⟨w',k1,Nat.le_refl _,fun _ _ _=>rfl,fun p i e _=>k2 p i e,R5⟩
  ·obtain ⟨k,hk⟩:∃k,new.length=k+1:=⟨new.length - 1,by omega⟩;have hold:=H7 m1 m6;have hsm':=hsm;have hcl:K5 sz (chs++new)=true:=B8F m2 hok;have hlen:(chs++new).length=chs.length+new.length:=List.length_append;have hmul:(chs.length+new.length)*sz=chs.length*sz+l.length:=by rw [hll,Nat.add_mul]
   have hold2:((vs.drop o).take (chs.length*sz)).length=chs.length*sz:=by simp;omega
   by_cases hcap:D3<=c
   ·have hc:=m5 hcap;have hwr:A17 s.get i e=true:=by simp only [A17,m1,D8,decide_true]
    refine ⟨⟨.slice (some ⟨s.next,0,none⟩) (chs.length+new.length) (D3+sz),[(i,none),(s.next,some ⟨0,.cells ((vs.drop o).take (chs.length*sz)++l) e false⟩)],s.next+1⟩,?_,?_⟩
    ·grind [I1,D4,D8]
    ·have r1:=r.handSet hi none;have mo1:=r.moOwn hi none;have hv2:RVs (s.upd [(i,none)] s.next).get μ (Zo w Pr) (chs++new).flatten (((vs.drop o).take (chs.length*sz)++l).take ((chs.length+new.length)*sz)):=by
      rw [List.take_of_length_le (by rw [List.length_append,hold2,hmul];exact Nat.le_refl _),List.flatten_append];exact (m7.mono mo1).append (hl.mono mo1)
     obtain ⟨w',k1,k2⟩:=r1.newOwn hf hP (e:=e) hcl hlen (by rw [List.length_append,hold2,hmul];exact Nat.le_refl _) hv2 d;refine ⟨w',k1,Nat.le_succ _,fun j hj hn=> ?_,fun p j e hj=>k2 p j e hj,R5⟩;have h1:((s.upd [(i,none)] s.next).upd [(s.next,some ⟨0,.cells ((vs.drop o).take (chs.length*sz)++l) e false⟩)] (s.next+1)).get j=(s.upd [(i,none)] s.next).get j:=by
      rw [AS.upd_get];simp only [Hp.upd];exact Hp.set1_ne _ _ (by omega)
     refine Eq.trans h1 ?_;grind [M3]
   ·have hlt:c<D3:=by omega
    obtain ⟨q1,q2⟩:=m4 hlt
    by_cases hroom:chs.length+new.length<=c
    ·have hmulc:(chs.length+new.length)*sz<=c*sz:=Nat.mul_le_mul_right sz hroom;have hst:=O7 m1 (o:=o+chs.length*sz) (xs:=l) (by omega);refine ⟨⟨.slice (some ⟨i,o,none⟩) (chs.length+new.length) c,[(i,some ⟨ver+1,.cells (setList vs (o+chs.length*sz) l) e false⟩)],s.next⟩,?_,?_⟩
     ·grind [I1,D4,E0]
     ·have r1:=r.handSet hi (some ⟨ver+1,.cells (setList vs (o+chs.length*sz) l) e false⟩);have mo1:=r.moOwn hi (some ⟨ver+1,.cells (setList vs (o+chs.length*sz) l) e false⟩);have hro:RO (s.upd [(i,some ⟨ver+1,.cells (setList vs (o+chs.length*sz) l) e false⟩)] s.next).get μ (Zo w Pr) i (.sl (.own e sz) (chs++new)) (.slice (some ⟨i,o,none⟩) (chs.length+new.length) c):=by
       refine .mk (by rw [M3,if_pos rfl]) hcl hlen (fun _=>⟨hroom,by rw [J5];exact q2⟩) (fun h=>absurd h hcap) (by rw [J5];omega) ?_;rw [hmul,A2b _ _ _ _ (by omega),List.flatten_append];exact (m7.mono mo1).append (hl.mono mo1)
      obtain ⟨w',k1,k2⟩:=r1.putHand hf hi hro d;exact ⟨w',k1,U9 hi _ k2⟩
    ·refine ⟨⟨.slice (some ⟨s.next,0,none⟩) (chs.length+new.length) (D3+sz),[(s.next,some ⟨0,.cells ((vs.drop o).take (chs.length*sz)++l) e false⟩)],s.next+1⟩,?_,?_⟩
     ·grind [I1,D4]
     ·obtain ⟨w',k1,k2⟩:=r.newOwn hf hP (e:=e) (vs:=(vs.drop o).take (chs.length*sz)++l) hcl hlen (by rw [List.length_append,hold2,hmul];exact Nat.le_refl _) (by
       rw [List.take_of_length_le (by rw [List.length_append,hold2,hmul];exact Nat.le_refl _),List.flatten_append]
       exact m7.append hl) d
      exact ⟨w',k1,R9 _ k2 R5⟩
theorem B8G (r:Rl Pr μ w a σ ax s) (hP:∀i,Pr i->i<s.next) {e size bytes:Nat} {x:Operand} {new:List (List TV)} {l:List Value} {v:TV} {k o sz n c:Nat} (hx:a.ev x=.ref k o sz n c) (h:U7 a σ e size bytes x new=some (v,a',σ')) (hl:RVs s.get μ (Zo w Pr) new.flatten l) (d:Option Nat):
  ∃p,I1 s.get s.next e size bytes (ax.ev x) new.length l=some p/\A4U Pr μ w ax s d v a' σ' p:=by
 simp only [U7,hx] at h;split at h
 ·rename_i hemp;have hnil:new=[]:=by simpa using hemp
  subst hnil;cases h;have h1:=r.plainOf hx rfl;have hv:RV s.get μ (Zo w Pr) (.ref k o sz n c) (ax.ev x):=h1
  revert h1 hv;generalize ax.ev x=y;intro h1 hv;cases h1
  exact ⟨_,rfl,B4 r d hv⟩
 ·rename_i ver cs e' hemp hob;split at h
  ·rename_i hb;simp only [Bool.and_eq_true] at hb;obtain ⟨⟨⟨⟨⟨⟨⟨b1,b2⟩,b3⟩,b4⟩,b5⟩,b6⟩,b7⟩,b8⟩:=hb;have hsz:=J7 b1;have he:=J7 b2;subst hsz;subst he;rw [D4] at b5;have b5:=of_decide_eq_true b5;rw [G6] at b4;have b4:=of_decide_eq_true b4;obtain ⟨q,hq⟩:∃q,new.length=q+1:=⟨new.length - 1,by omega⟩;have h1:=r.plainOf hx rfl
   revert h1;generalize ax.ev x=y;intro h1;cases h1
   rename_i i hm hnc;obtain ⟨i',vs,k1,k2,k3⟩:=r.objOf hob;rw [hm] at k1;cases k1;have hw:w (.obj k)=some i:=(r.wobj k).trans hm;have hpl:=k3.plain b5 (by simpa using b6);have hld:=H7 k2 (o:=o) (n:=n*sz) (by rw [k3.len];exact b5);have hwr:A17 s.get i e'=true:=by simp only [A17,k2,D8,decide_true]
   have b7':=b7;have b8':=b8;rw [D4] at b7 b8;have hv2:RVs s.get μ (Zo w Pr) ((cs.drop o).take (n*sz)++new.flatten) ((vs.drop o).take (n*sz)++l):=hpl.append hl;split at h
   ·rename_i hc;have hc:=J7 hc;cases h;have hcap:D3<=c:=by omega
    refine ⟨⟨.slice (some ⟨s.next,0,none⟩) (n+new.length) (D3+sz),[(i,none),(s.next,some ⟨0,.cells ((vs.drop o).take (n*sz)++l) e' false⟩)],s.next+1⟩,?_,?_⟩
    ·grind [I1,D4,D8,D3]
    ·have mo1:=r.moOwn hw none;have hne:∀p j,w p=some j->p≠.obj k->(s.upd [(i,none)] s.next).get j=s.get j:=fun p j e h=>by
      rw [M3,if_neg];rintro rfl;exact h (r.inj _ _ _ e hw)
     have r1:=r.objStep mo1 (r.toRs.setN (k:=k) mo1 (r.dmSet hw _) (Nat.le_refl _) (fun k' j hk' h=>by
      rcases h with h|⟨cc,h⟩
      ·exact hne _ _ h (by simpa using hk')
      ·exact hne _ _ h (by simp))) (fun _=>rfl) (fun _ _=>rfl) (fun t j h=>by
      rcases h with h|⟨cc,h⟩
      ·exact hne _ _ h (by simp)
      ·exact hne _ _ h (by simp))
     have hlen:(σ.set k none).length=σ.length:=List.length_set;have r2:=r1.newObj (o:=⟨0,.cells ((cs.drop o).take (n*sz)++new.flatten) e'⟩) (b:=.cells ((vs.drop o).take (n*sz)++l) e' false) (s:=s.upd [(i,none)] s.next) hP (A0y (hv2.mono mo1))
     have r3:=r2.put d (tv:=.ref σ.length 0 sz (n+new.length) (D3+sz)) (v:=.slice (some ⟨s.next,0,none⟩) (n+new.length) (D3+sz)) (.inl (.ref (by rw [<-hlen];exact r1.muNew _) (by have:=of_decide_eq_true b7;unfold small at this;unfold D3;omega)));refine ⟨_,_,r3,Nat.le_succ _,fun j hj hn=> ?_,fun p j e hj=> ?_,⟨_,rfl⟩⟩
     ·have h1:((s.upd [(i,none)] s.next).upd [(s.next,some ⟨0,.cells ((vs.drop o).take (n*sz)++l) e' false⟩)] (s.next+1)).get j=(s.upd [(i,none)] s.next).get j:=by
       rw [AS.upd_get];simp only [Hp.upd];exact Hp.set1_ne _ _ (by omega)
      refine Eq.trans h1 ?_;grind [M3]
     ·exact A7J p j (P1 _ _ _ _ e) hj
   ·split at h
    ·rename_i hc hlt;rw [G6] at hlt;have hlt:=of_decide_eq_true hlt;cases h;have hcap:¬D3<=c:=by have:=of_decide_eq_true b7;unfold small at this;unfold D3;omega
     refine ⟨⟨.slice (some ⟨s.next,0,none⟩) (n+new.length) (D3+sz),[(s.next,some ⟨0,.cells ((vs.drop o).take (n*sz)++l) e' false⟩)],s.next+1⟩,?_,?_⟩
     ·rw [hq] at b7 hlt ⊢;simp only [I1,D4,decide_eq_false hcap,decide_eq_false (show ¬n+(q+1)<=c by omega),hld,b7,b8,Bool.and_self]
     ·have r2:=r.tick;exact A1g (o:=⟨0,.cells ((cs.drop o).take (n*sz)++new.flatten) e'⟩) (b:=.cells ((vs.drop o).take (n*sz)++l) e' false) r2 hP (A0y hv2) (tv:=.ref σ.length 0 sz (n+new.length) (D3+sz)) (fun g Z=>.ref (r.muNew _) (by have:=of_decide_eq_true b7;unfold small at this;unfold D3;omega)) d
    ·cases h
  ·cases h
 ·cases h
theorem B8H (r:Rl Pr μ w a σ ax s) (hP:∀i,Pr i->i<s.next) {e size bytes:Nat} {x:Operand} {new:List (List TV)} {l:List Value} {v:TV} (h:U7 a σ e size bytes x new=some (v,a',σ')) (hl:RVs s.get μ (Zo w Pr) new.flatten l) (d:Option Nat):
  ∃p,I1 s.get s.next e size bytes (ax.ev x) new.length l=some p/\A4U Pr μ w ax s d v a' σ' p:=by
 have hcopy:=h;unfold U7 at h;split at h
 ·rename_i m c hx;split at h
  ·rename_i hb;simp only [Bool.and_eq_true] at hb;obtain ⟨⟨⟨⟨b1,b2⟩,b3⟩,b4⟩,b5⟩:=hb;cases h;cases m with
   |fz=>simp [Md.app] at b1
   |nl=>
    have h1:=r.plainOf hx rfl;have ho:D1 (a.ev x)=false:=by rw [hx];rfl
    rw [A1h ho]
    revert h1;generalize ax.ev x=y;intro h1;cases h1
    cases new with
    |nil=>exact ⟨_,rfl,B4 r.tick d .nl⟩
    |cons c0 new=>
     have hll:l.length=(c0::new).length*size:=by rw [hl.length,A2S b3]
     refine ⟨⟨.slice (some ⟨s.next,0,none⟩) (0+(new.length+1)) (D3+size),[(s.next,some ⟨0,.cells ([]++l) e false⟩)],s.next+1⟩,?_,?_⟩
     ·grind [D4,I1,D3]
     ·obtain ⟨w',k1,k2⟩:=r.tick.newOwn (A1f r) hP (e:=e) (sz:=size) (n:=0+(new.length+1)) (vs:=[]++l) b3 (by simp) (by simp at hll ⊢;omega) (by simp only [List.nil_append];rw [List.take_of_length_le (by simp at hll ⊢;omega)];exact hl) d;exact ⟨μ,w',k1,R9 _ k2 R5⟩
   |own e' s'=>
    simp only [Md.app,Bool.and_eq_true] at b1;have he:=J7 b1.1;have hs:=J7 b1.2;subst he;subst hs;have ho:D1 (a.ev x)=true:=by rw [hx];rfl
    obtain ⟨t,rfl⟩:=Q4 ho;obtain ⟨i,h1,h2,h3,h4⟩:=r.takeTmp ho;rw [hx] at h2;rw [A15 ho];obtain ⟨p,k1,w',k2,k3⟩:=h3.tick.appOwn (A1f h3) hP ((A1d w (by simp)).trans h1) h2 b3 (hl.mono (Mo.mv _ _)) b4 b5 d;have hap:apm e' s' (.own e' s') new=.own e' s':=by cases new<;>rfl
    refine ⟨p,k1,μ,w',by rw [hap];exact k2,k3.le,fun j hj hn=>k3.keep j hj (fun q e=> ?_),fun q j e hj=> ?_,k3.mu⟩
    ·grind [G8]
    ·obtain ⟨q',e⟩:=k3.own q j e hj;exact G8 e
  ·cases h
 ·rename_i hx;exact B8G r hP hx hcopy hl d
 ·cases h
theorem A7R {e size bytes:Nat} {x:Operand} {new:List (List TV)} {v:TV} (h:U7 a σ e size bytes x new=some (v,a',σ')):K5 size new=true:=by
 unfold U7 at h;split at h
 ·grind
 ·split at h
  ·rename_i hemp;have hnil:new=[]:=by simpa using hemp
   subst hnil;rfl
  ·grind
  ·cases h
 ·cases h
theorem B8I (r:Rl Pr μ w a σ ax s) (hP:∀i,Pr i->i<s.next) {e size bytes:Nat} {x:Operand} {new:List (List TV)} {l:List Value} {v:TV} (h:A2h a σ e size bytes x new=some (v,a',σ')) (hl:RVs s.get μ (Zo w Pr) new.flatten l) (d:Option Nat):
  ∃p,I1 s.get s.next e size bytes (ax.ev x) new.length l=some p/\A4U Pr μ w ax s d v a' σ' p:=by
 unfold A2h at h;split at h
 ·rename_i c0 new' hx;split at h
  ·rename_i hb;simp only [Bool.and_eq_true] at hb;obtain ⟨⟨b3,b4⟩,b5⟩:=hb;cases h;have h1:=r.plainOf hx rfl
   revert h1;generalize ax.ev x=y;intro h1;cases h1
   rw [D4] at b4 b5;have hsm:=of_decide_eq_true b4;refine ⟨⟨.slice (some ⟨s.next,0,none⟩) (0+(new'.length+1)) (D3+size),[(s.next,some ⟨0,.cells ([]++l) e false⟩)],s.next+1⟩,?_,?_⟩
   ·grind [small,I1,D4,D3]
   ·have r2:=r.tick;rw [Nat.zero_add];exact A1g (o:=⟨0,.cells (c0::new').flatten e⟩) (b:=.cells ([]++l) e false) r2 hP (A0y hl) (tv:=.ref σ.length 0 size (c0::new').length (D3+size)) (fun g Z=>.ref (r.muNew _) (by unfold small at hsm;unfold D3;simp only [List.length_cons] at hsm ⊢;omega)) d
  ·cases h
 ·exact B8H r hP h hl d
theorem B4i {e size bytes:Nat} {x:Operand} {new:List (List TV)} {v:TV} (h:A2h a σ e size bytes x new=some (v,a',σ')):K5 size new=true:=by
 unfold A2h at h;grind [A7R]
theorem B8J (md b:Nat) (d:Option Nat) (e size bytes:Nat) (x y:Operand):N6 md b d (.append e size bytes x y):=by
 intro Pr μ w a σ ax s v a' σ' h r hP;simp only [Z5] at h;simp only [B0];split at h
 ·rename_i new hs;split at h
  ·obtain ⟨l,k1,k2⟩:=r.src hs (B4i h);rw [k1];exact B8I r hP h k2 d
  ·obtain ⟨l,k1,k2⟩:=r.src hs (A7R h);rw [k1];exact B8H r hP h k2 d
 ·cases h
theorem B6N (md b:Nat) (d:Option Nat) (e:Nat) (z:List Value) (bytes:Nat) (x n:Operand):N6 md b d (.appendZ e z bytes x n):=by
 intro Pr μ w a σ ax s v a' σ' h r hP;simp only [Z5] at h;simp only [B0];split at h
 ·rename_i n' hn;have h1:=r.plainOf hn rfl
  revert h1;generalize ax.ev n=y;intro h1;cases h1
  split at h
  ·rename_i hb;simp only [hb];have:=B8H r hP h (l:=rep z n') (by rw [A7N];exact A2U (RVs.ofVs _ _ _ z) n') d;grind
  ·cases h
 ·cases h
end
section
variable {Pr:Nat->Prop} {μ μ':List Nat} {w w':J3} {a a':TAct} {σ σ':Sto} {ax ax':Xe.Act} {s s':AS}
theorem A7S {g:Hp} {size n:Nat} {v:Value} {l:List Value} (h:L9 g size v=some (n,l)) (hs:∀st,v≠.string st) (hl:l.length=n*size):
  ∃b c,v=.slice b n c/\∀k,k<=n->0<k->∃a,b=some a/\B8 g a (k*size)=some (l.take (k*size)):=by
 unfold L9 at h;split at h
 ·simp_all<;>grind
 ·rename_i a n0 c;split at h
  ·cases h;exact ⟨_,_,rfl,fun k h1 h2=>by omega⟩
  ·rename_i n1;split at h
   ·rename_i l0 hld;cases h;refine ⟨_,_,rfl,fun k h1 h2=>⟨a,rfl,?_⟩⟩;obtain ⟨b,o,sp⟩:=a;cases sp with
    |some _=>simp [B8] at hld
    |none=>
     simp only [B8] at hld ⊢;split at hld
     ·rename_i ver vs e ro hg;split at hld
      ·rename_i hle;cases hld;rw [D4] at hle;have hle:=of_decide_eq_true hle;have hmul:k*size<=(n1+1)*size:=Nat.mul_le_mul_right size h1;grind [D4]
      ·cases hld
     ·cases hld
   ·cases h
 ·grind
 ·cases h
theorem C2U (md b:Nat) (d:Option Nat) (size:Nat) (x y:Operand):N6 md b d (.copy size x y):=by
 intro Pr μ w a σ ax s v a' σ' h r hP;simp only [Z5] at h;split at h
 ·rename_i src hst hsrc;unfold B8g at h;split at h
  ·rename_i k o sz n c hx;split at h
   ·rename_i ver cs e hob;split at h
    ·rename_i hb;simp only [Bool.and_eq_true] at hb;obtain ⟨⟨⟨b1,b2⟩,b3⟩,b4⟩:=hb;have hsz:=J7 b1;subst hsz;rw [D4] at b2;have b2:=of_decide_eq_true b2;have h1:=r.plainOf hx rfl;obtain ⟨l,k1,k2⟩:=r.src hsrc b3;have hll:l.length=src.length*sz:=by rw [k2.length,A2S b3]
     have hns:∀st,ax.ev y≠.string st:=by
      intro st hst';have:∀tv,B46 a σ sz tv=some src->isStr tv=false->a.ev y=tv->False:=by
       intro tv q1 q2 q3;cases tv<;>simp only [B46] at q1<;>first|(cases q1;done)|(cases q2;done)|skip
       case sl m c=>
        cases q1;cases ho:D1 (a.ev y) with
        |false=>
         have:=r.plainOf q3 (by rw [q3] at ho;cases m<;>first|rfl|(simp [D1] at ho));rw [hst'] at this;cases this
        |true=>
         obtain ⟨t,rfl⟩:=Q4 ho;obtain ⟨i,h1,h2⟩:=r.ownOf ho;rw [q3,hst'] at h2;cases h2
       case via p ck=>
        split at q1
        ·rename_i hc;have ha:a.at y=.via p ck:=by unfold TAct.at;rw [q3]
         obtain ⟨i,e,sz,h1,h2⟩:=r.viaOf (r.atAl ha rfl) hc q1;rw [hst'] at h2;cases h2
        ·cases q1
       case ref=>
        have:=r.plainOf q3 rfl;rw [hst'] at this;cases this
      grind
     obtain ⟨bb,cc,hv,hld⟩:=A7S k1 hns hll
     revert h1
     simp only [B0];generalize ax.ev x=yy;intro h1;cases h1;rename_i i hm hnc;obtain ⟨i',vs,q1,q2,q3⟩:=r.objOf hob;rw [hm] at q1;cases q1;rw [hv];simp only;cases hmin:Nat.min src.length n with
     |zero=>
      rw [hmin] at h;cases h;exact ⟨_,rfl,B4 r d (.int _ _)⟩
     |succ m=>
      rw [hmin] at h;cases h;have hm1:m+1<=src.length:=by rw [<-hmin];exact Nat.min_le_left _ _
      have hm2:m+1<=n:=by rw [<-hmin];exact Nat.min_le_right _ _
      obtain ⟨a0,hbb,hld2⟩:=hld (m+1) hm1 (by omega);subst hbb;have hlt:(l.take ((m+1)*sz)).length=(m+1)*sz:=by
       simp_all
      have hmul:(m+1)*sz<=n*sz:=Nat.mul_le_mul_right sz hm2;simp only [hld2,O7 q2 (show o+(l.take ((m+1)*sz)).length<=vs.length by rw [hlt,q3.len];omega)];refine ⟨_,rfl,?_⟩;have hl2:RVs s.get μ (Zo w Pr) (src.take (m+1)).flatten (l.take ((m+1)*sz)):=by
       rw [A5x b3];exact k2.take _
      have st:=r.storeObj (o:=o) hm q2 q3 hl2 (by rw [<-hl2.length,hlt];omega);have hw:w (.obj k)=some i:=(r.wobj k).trans hm;exact ⟨μ,_,st.put d (.inl (.int _ _)),U9 hw _ (fun p j e=>⟨p,J1 _ _ _ _ _ _ (P1 _ _ _ _ e)⟩)⟩
    ·cases h
   ·cases h
  ·cases h
 ·cases h
theorem A9I {g:Hp} {Z:Nat->Prop}:∀{chs:List (List TV)} {bs:List UInt8} {l:List Value},X5 chs=some bs->RVs g μ Z chs.flatten l->K5 1 chs=true/\Z7 l=some bs:=by
 intro chs
 induction chs with
 |nil=>intro bs l h hv;simp only [X5] at h;cases h;cases hv;exact ⟨rfl,rfl⟩
 |cons c chs ih=>
  intro bs l h hv;unfold X5 at h;split at h
  ·rename_i heq;cases heq
  ·rename_i n r heq;cases heq;split at h
   ·rename_i bs' hb;cases h;simp only [List.flatten_cons,List.cons_append,List.nil_append] at hv;cases hv with
    |cons h1 h2=>
     cases h1;simp_all [Z7,K5]<;>grind
   ·cases h
  ·cases h
def b2s (g:Hp) (nx:Nat) (v:Value):Option PR:=
 match v with
 |.slice none _ _=>some ⟨.string ⟨#[]⟩,[],nx⟩
 |.slice (some a) n _=>match B8 g a n with
  |some l=>match Z7 l with
   |some bs=>some ⟨.string ⟨bs.toArray⟩,[],nx⟩
   |none=>none
  |none=>none
 |_=>none
theorem B1b (md b:Nat) (d:Option Nat) (x:Operand):N6 md b d (.bytesToStr x):=by
 intro Pr μ w a σ ax s v a' σ' h r hP;simp only [Z5] at h;simp only [B0];split at h
 ·rename_i chs hs;split at h
  ·rename_i bs hb;cases h;have own:∀{i:Nat} {e sz:Nat} {v:Value},RO s.get μ (Zo w Pr) i (.sl (.own e sz) chs) v->∃p,b2s s.get s.next v=some p/\A4U Pr μ w ax s d (.str ⟨bs.toArray⟩) a σ p:=by
    intro i e sz v h;cases h with
    |mk m1 m2 m3 m4 m5 m6 m7=>
     obtain ⟨q1,q2⟩:=A9I hb m7;rcases B5v m2 q1 with rfl|rfl
     ·simp at m3;subst m3;simp at m6;simp only [X5] at hb;cases hb;simp only [b2s,H7 m1 (n:=0) (by omega),List.take_zero,Z7];exact ⟨_,rfl,B4 r d (.str _)⟩
     ·simp only [Nat.mul_one] at m6 m7 q2;simp only [b2s,H7 m1 m6,q2];exact ⟨_,rfl,B4 r d (.str _)⟩
   unfold A7z at hs;split at hs
   ·cases hs
   ·rename_i m c hno hx;cases hs;cases ho:D1 (a.ev x) with
    |true=>
     obtain ⟨t,rfl⟩:=Q4 ho;obtain ⟨i,h1,h2⟩:=r.ownOf ho;cases m<;>first|(rw [hx] at ho;cases ho;done)|skip
     rw [hx] at h2;exact own h2
    |false=>
     have h1:=r.plainOf hx (by rw [hx] at ho;cases m<;>first|rfl|(simp [D1] at ho))
     revert h1;generalize ax.ev x=y;intro h1
     cases h1 with
     |fz0=>grind
     |nl=>
      simp only [X5] at hb;cases hb;exact ⟨_,rfl,B4 r d (.str _)⟩
     |fz z hg ok hn hc hu hle hv=>
      obtain ⟨q1,q2⟩:=A9I hb hv;rcases B5v ok q1 with rfl|rfl
      ·grind
      ·simp only [Nat.mul_one] at hle hv q2;simp only [H7 hg hle,q2];exact ⟨_,rfl,B4 r d (.str _)⟩
   ·rename_i p ck hx;split at hs
    ·rename_i hc;have ha:a.at x=.via p ck:=by unfold TAct.at;rw [hx]
     obtain ⟨i,e,sz,h1,h2⟩:=r.viaOf (r.atAl ha rfl) hc hs;exact own h2
    ·cases hs
   ·cases hs
  ·cases h
 ·cases h
theorem A9J (md b:Nat) (d:Option Nat) (op:XOp):N6 md b d op:=by
 cases op with
 |move x=>exact C2T md b d x
 |keep x=>exact C2M md b d x
 |pick c x y=>grind [C2N]
 |alloc e z=>grind [C0J]
 |box e x=>exact C7Z md b d e x
 |build z ps=>grind [C0M]
 |buildSlice e size z len ps=>grind [B19]
 |load1 p=>exact C0H md b d p
 |loadN n p=>exact C0I md b d n p
 |store n p x=>exact C0L md b d n p x
 |nilCheck x=>grind [B4a]
 |bin op x y=>grind [C7W]
 |eq k neg x y=>grind [D2l]
 |un op x=>exact D2k md b d op x
 |toInt k x=>grind [C0F]
 |bytesToStr x=>grind [B1b]
 |strToBytes e x=>grind [B1a]
 |mkIface t x=>grind [B6M]
 |mkFunc fn first cap=>grind [B8C]
 |mkMap=>exact C0K md b d
 |mkSlice e z bytes l c=>grind [B6L]
 |sliceStr x lo hi=>grind [B49]
 |slice size x lo hi mx=>grind [C0N]
 |sliceArr n size x lo hi mx=>exact B4g md b d n size x lo hi mx
 |addr off x=>grind [C2R]
 |field1 off x=>grind [B8t]
 |fieldN off n x=>exact B8u md b d off n x
 |indexAddr size x i=>grind [B2y]
 |indexArrAddr len size x i=>grind [A7G]
 |indexStr x i=>grind [B48]
 |index1 len x i=>grind [B8v]
 |indexN len size x i=>grind [B8w]
 |lookup k z m x ok=>exact B8E md b d k z m x ok
 |mapUpdate k m x v=>exact B2D md b d k m x v
 |assertT t z x ok=>grind [B6D]
 |extract x i=>grind [B6C]
 |lenStr x=>exact B8r md b d x
 |lenSlice x=>grind [B4c]
 |lenArr n=>exact B8s md b d n
 |lenMap x=>exact B8D md b d x
 |capSlice x=>grind [B4d]
 |append e size bytes x y=>grind [B8J]
 |appendZ e z bytes x n=>exact B6N md b d e z bytes x n
 |copy size x y=>grind [C2U]
 |maxI xs=>exact C2P md b d xs
 |minI xs=>exact C2Q md b d xs
 |rangeStr x=>intro Pr μ w a σ ax s v a' σ' h r hP;simp [Z5] at h
 |nextStr x=>intro Pr μ w a σ ax s v a' σ' h r hP;simp [Z5] at h
 |call f args=>intro Pr μ w a σ ax s v a' σ' h r hP;simp [Z5] at h
 |callV x args=>intro Pr μ w a σ ax s v a' σ' h r hP;simp [Z5] at h
 |panic x=>intro Pr μ w a σ ax s v a' σ' h r hP;simp [Z5] at h
 |defer x args=>intro Pr μ w a σ ax s v a' σ' h r hP;simp [Z5] at h
 |recover=>intro Pr μ w a σ ax s v a' σ' h r hP;simp [Z5] at h
end
def sto (w:J3):J3
 |.obj k=>w (.obj k)
 |.cell k c=>w (.cell k c)
 |_=>none
def Pr2 (w:J3) (Pr:Nat->Prop) (i:Nat):Prop:=Pr i\/(∃t,w (.tmp t)=some i)\/(∃t o,w (.tcell t o)=some i)\/∃h,w (.hand h)=some i
structure OnlyS (w:J3):Prop where
 tmp:∀t,w (.tmp t)=none
 tcell:∀t o,w (.tcell t o)=none
 hand:∀h,w (.hand h)=none
def both (w w':J3):J3
 |.obj k=>w' (.obj k)
 |.cell k c=>w' (.cell k c)
 |p=>w p
theorem B1c (w:J3) (Pr:Nat->Prop):Zo (sto w) (Pr2 w Pr)=Zo w Pr:=by
 funext i
 apply propext;constructor
 ·rintro ⟨h1,h2⟩;refine ⟨fun p e=> ?_,fun h=>h2 (.inl h)⟩;cases p with
  |tmp t=>exact h2 (.inr (.inl ⟨t,e⟩))
  |tcell t o=>exact h2 (.inr (.inr (.inl ⟨t,o,e⟩)))
  |hand h=>exact h2 (.inr (.inr (.inr ⟨h,e⟩)))
  |obj k=>exact h1 (.obj k) e
  |cell k c=>exact h1 (.cell k c) e
 ·rintro ⟨h1,h2⟩;refine ⟨fun p e=> ?_,?_⟩
  ·cases p<;>first|(cases e;done)|exact h1 _ e
  ·rintro (h|⟨t,h⟩|⟨t,o,h⟩|⟨t,h⟩)
   ·exact h2 h
   ·exact h1 _ h
   ·exact h1 _ h
   ·exact h1 _ h
theorem Y0 (w:J3) (p:Pc) (i:Nat) (h:sto w p=some i):w p=some i:=by
 cases p<;>first|exact h|cases h
theorem A4Z (w:J3):OnlyS (sto w):=⟨fun _=>rfl,fun _ _=>rfl,fun _=>rfl⟩
section
variable {Pr:Nat->Prop} {μ μ':List Nat} {w w':J3} {a a':TAct} {σ σ':Sto} {ax ax':Xe.Act} {s s':AS}
theorem Rs.stoOf (r:Rs Pr μ w σ s):Rs (Pr2 w Pr) μ (sto w) σ s:=by
 refine ⟨r.dm,r.len,fun p q i e f=>r.inj p q i (Y0 w p i e) (Y0 w q i f),fun p i e h=> ?_,fun p i e=>r.live p i (Y0 w p i e),r.wobj,r.out,fun k o e=> ?_,r.full⟩
 ·have hw:=Y0 w p i e;rcases h with h|⟨t,h⟩|⟨t,o,h⟩|⟨t,h⟩
  ·exact r.pr p i hw h
  ·have:=r.inj _ _ _ hw h;subst this;cases e
  ·have:=r.inj _ _ _ hw h;subst this;cases e
  ·have:=r.inj _ _ _ hw h;subst this;cases e
 ·have:=r.obj k o e;obtain ⟨i,b,h1,h2,h3⟩:=this;refine ⟨i,b,h1,h2,?_⟩;rw [B1c]
  revert h3
  cases o.body<;>cases b<;>exact id
theorem After.refl (w:J3) (μ:List Nat) (s:AS):After w w μ μ s s:=⟨Nat.le_refl _,fun _ _ _=>rfl,fun p i e _=>⟨p,e⟩,R5⟩
theorem After.trans {w1 w2:J3} {μ1 μ2:List Nat} {s1 s2:AS} (h:After w w1 μ μ1 s s1) (k:After w1 w2 μ1 μ2 s1 s2):After w w2 μ μ2 s s2:=by
 refine ⟨Nat.le_trans h.le k.le,fun i hi hn=> ?_,fun p i e hi=> ?_,?_⟩
 ·rw [k.keep i (Nat.lt_of_lt_of_le hi h.le) (fun p e=>by obtain ⟨q,e⟩:=h.own p i e hi;exact hn q e)];exact h.keep i hi hn
 ·obtain ⟨q,e⟩:=k.own p i e (Nat.lt_of_lt_of_le hi h.le);exact h.own q i e hi
 ·obtain ⟨ν,h⟩:=h.mu;obtain ⟨ν',k⟩:=k.mu;grind
theorem After.sub {w0:J3} (h:After w w' μ μ' s s') (hs:∀p i,w p=some i->w0 p=some i):After w0 w' μ μ' s s':=
 ⟨h.le,fun i hi hn=>h.keep i hi (fun p e=>hn p (hs p i e)),fun p i e hi=>by obtain ⟨q,e⟩:=h.own p i e hi;exact ⟨q,hs q i e⟩,h.mu⟩
theorem After.mo (h:After w w' μ μ' s s') (dm:Dm s):Mo s.get μ (Zo w Pr) s'.get μ' (Zo w' Pr):=by
 refine ⟨fun k i e=> ?_,fun i ver vs e ro z hg=> ?_⟩
 ·obtain ⟨ν,rfl⟩:=h.mu;grind
 ·have hi:i<s.next:=by
   by_cases h:i<s.next
   ·exact h
   ·rw [dm i (by omega)] at hg;cases hg
  refine ⟨⟨fun p e=> ?_,z.2⟩,(h.keep i hi z.1).trans hg⟩;obtain ⟨q,e⟩:=h.own p i e hi;exact z.1 q e
def B2F (g:Hp) (μ:List Nat) (Z:Nat->Prop):TEnd->Xe.End->Prop
 |.ret v,.ret v'=>RV g μ Z v v'
 |.panic v,.panic v'=>RV g μ Z v v'
 |_,_=>False
structure CallOk (C:G5) (X:Xe.Callee):Prop where
 call:∀{b f:Nat} {args:List TV} {σ:Sto} {e:TEnd} {σ':Sto},C b f args σ=some (e,σ')->∀{Pr:Nat->Prop} {μ:List Nat} {w:J3} {s:AS} {args':List Value},Rs Pr μ w σ s->OnlyS w->(∀i,Pr i->i<s.next)->RVs s.get μ (Zo w Pr) args args'->
  ∃e' s' μ' w',X f args' s=some (e',s')/\Rs Pr μ' w' σ' s'/\OnlyS w'/\After w w' μ μ' s s'/\B2F s'.get μ' (Zo w' Pr) e e'
theorem C0O (r:Rs (Pr2 w Pr) μ' w' σ' s') (ho:OnlyS w') (hP:∀i,Pr i->Pr2 w Pr i):Zo (both w w') Pr=Zo w' (Pr2 w Pr):=by
 funext i
 apply propext;constructor
 ·rintro ⟨h1,h2⟩;refine ⟨fun p e=> ?_,?_⟩
  ·cases p with
   |tmp t=>rw [ho.tmp] at e;cases e
   |tcell t o=>rw [ho.tcell] at e;cases e
   |hand h=>rw [ho.hand] at e;cases e
   |obj k=>exact h1 (.obj k) e
   |cell k c=>exact h1 (.cell k c) e
  ·rintro (h|⟨t,h⟩|⟨t,o,h⟩|⟨t,h⟩)
   ·exact h2 h
   ·exact h1 (.tmp t) h
   ·exact h1 (.tcell t o) h
   ·exact h1 (.hand t) h
 ·rintro ⟨h1,h2⟩;refine ⟨fun p e=> ?_,fun h=>h2 (.inl h)⟩;cases p with
  |tmp t=>exact h2 (.inr (.inl ⟨t,e⟩))
  |tcell t o=>exact h2 (.inr (.inr (.inl ⟨t,o,e⟩)))
  |hand h=>exact h2 (.inr (.inr (.inr ⟨h,e⟩)))
  |obj k=>exact h1 (.obj k) e
  |cell k c=>exact h1 (.cell k c) e
theorem Rl.back (r:Rl Pr μ w a σ ax s) (hP:∀i,Pr i->i<s.next) (h2:Rs (Pr2 w Pr) μ' w' σ' s') (h3:OnlyS w') (h4:After (sto w) w' μ μ' s s'):
  Rl Pr μ' (both w w') a.tick σ' ax s'/\After w (both w w') μ μ' s s'/\Zo (both w w') Pr=Zo w' (Pr2 w Pr)/\(∀i,i<s.next->(∀k,w (.obj k)≠some i)->(∀k c,w (.cell k c)≠some i)->s'.get i=s.get i):=by
 have hP2:∀i,Pr2 w Pr i->i<s.next:=by
  rintro i (h|⟨t,h⟩|⟨t,o,h⟩|⟨t,h⟩)
  ·exact hP i h
  ·exact r.live _ _ h
  ·exact r.live _ _ h
  ·exact r.live _ _ h
 have hz:=C0O (w:=w) (Pr:=Pr) h2 h3 (fun i h=>.inl h);have hle:∀p i,both w w' p=some i->(w' p=some i/\¬Pr2 w Pr i)\/(w p=some i/\Pr2 w Pr i):=by
  intro p i e;cases p with
  |tmp t=>exact .inr ⟨e,.inr (.inl ⟨t,e⟩)⟩
  |tcell t o=>exact .inr ⟨e,.inr (.inr (.inl ⟨t,o,e⟩))⟩
  |hand h=>exact .inr ⟨e,.inr (.inr (.inr ⟨h,e⟩))⟩
  |obj k=>exact .inl ⟨e,h2.pr _ _ e⟩
  |cell k c=>exact .inl ⟨e,h2.pr _ _ e⟩
 have hkeep:∀i,i<s.next->(∀k,w (.obj k)≠some i)->(∀k c,w (.cell k c)≠some i)->s'.get i=s.get i:=fun i hi ho hc=>h4.keep i hi (fun p e=>by
  cases p with
  |obj k=>exact ho k e
  |cell k c=>exact hc k c e
  |tmp t=>cases e
  |tcell t o=>cases e
  |hand h=>cases e)
 have hpk:∀i,Pr2 w Pr i->i<s.next->s'.get i=s.get i:=fun i hp hi=>h4.keep i hi (fun p e=>r.toRs.stoOf.pr p i e hp)
 have hown:∀p i,both w w' p=some i->i<s.next->∃q,w q=some i:=fun p i e hi=>by
  rcases hle p i e with ⟨h,_⟩|⟨h,_⟩
  ·obtain ⟨q,hq⟩:=h4.own p i h hi;exact ⟨q,Y0 w q i hq⟩
  ·exact ⟨p,h⟩
 have haft:After w (both w w') μ μ' s s':=⟨h4.le,fun i hi hn=>h4.keep i hi (fun p e=>hn p (Y0 w p i e)),hown,h4.mu⟩;have rs:Rs Pr μ' (both w w') σ' s':=by
  refine ⟨h2.dm,h2.len,fun p q i e f=> ?_,fun p i e=> ?_,fun p i e=> ?_,h2.wobj,h2.out,fun k o e=> ?_,h2.full⟩
  ·rcases hle p i e with ⟨k1,k2⟩|⟨k1,k2⟩<;>rcases hle q i f with ⟨q1,q2⟩|⟨q1,q2⟩
   ·exact h2.inj p q i k1 q1
   ·exact absurd q2 k2
   ·exact absurd k2 q2
   ·exact r.inj p q i k1 q1
  ·rcases hle p i e with ⟨k1,k2⟩|⟨k1,k2⟩
   ·exact fun h=>k2 (.inl h)
   ·exact r.pr p i k1
  ·rcases hle p i e with ⟨k1,k2⟩|⟨k1,k2⟩
   ·exact h2.live p i k1
   ·exact Nat.lt_of_lt_of_le (hP2 i k2) h4.le
  ·obtain ⟨i,b,q1,q2,q3⟩:=h2.obj k o e;refine ⟨i,b,q1,q2,?_⟩;rw [hz]
   revert q3
   cases o.body<;>cases b<;>exact id
 exact ⟨r.step (haft.mo r.dm) rs (Nat.lt_succ_self _) (fun t=>.inl ⟨rfl,rfl,rfl,fun _=>rfl,fun i e=>hpk i (.inr (.inl ⟨t,e⟩)) (r.live _ _ e),fun o i e=>hpk i (.inr (.inr (.inl ⟨t,o,e⟩))) (r.live _ _ e)⟩) ⟨rfl,rfl⟩,haft,hz,hkeep⟩
theorem Rl.hP2 (r:Rl Pr μ w a σ ax s) (hP:∀i,Pr i->i<s.next):∀i,Pr2 w Pr i->i<s.next:=by
 rintro i (h|⟨t,h⟩|⟨t,o,h⟩|⟨t,h⟩)
 ·exact hP i h
 ·exact r.live _ _ h
 ·exact r.live _ _ h
 ·exact r.live _ _ h
theorem Rl.call {C:G5} {X:Xe.Callee} (hC:CallOk C X) (r:Rl Pr μ w a σ ax s) (hP:∀i,Pr i->i<s.next) {b f:Nat} {vs:List TV} {e:TEnd} (h:C b f vs σ=some (e,σ')) {args':List Value} (ha:RVs s.get μ (Zo w Pr) vs args'):
  ∃e' s' μ' w',X f args' s=some (e',s')/\Rl Pr μ' w' a.tick σ' ax s'/\After w w' μ μ' s s'/\B2F s'.get μ' (Zo w' Pr) e e'/\(∀i,i<s.next->(∀k,w (.obj k)≠some i)->(∀k c,w (.cell k c)≠some i)->s'.get i=s.get i):=by
 obtain ⟨e',s',μ',w',h1,h2,h3,h4,h5⟩:=hC.call h r.toRs.stoOf (A4Z w) (r.hP2 hP) (by rw [B1c];exact ha);obtain ⟨q1,q2,q3,q4⟩:=r.back hP h2 h3 h4;grind
theorem B2G {g:Hp} {Z:Nat->Prop} {v:Value} (h:RV g μ Z A6 v):v=.tuple #[]:=by
 cases h with
 |tuple h=>
  rename_i l;cases l;cases h;rfl
theorem Rl.wanted (r:Rl Pr μ w a σ ax s) {g:Option (Nat×Bool)} {c:Bool} (h:P8 a g=some c):J4 ax g=c:=by
 cases g with
 |none=>simp only [P8,Option.some.injEq] at h;exact h
 |some p=>
  obtain ⟨t,b⟩:=p;have ht:=r.plain (x:=.tmp t);simp only [P8] at h;simp only [J4];simp only [TAct.ev,Act.ev] at ht;cases hq:a.tm.get t with
  |none=>
   rw [hq] at h ht;simp only [Option.some.injEq] at h;subst h;have:=B2G (ht rfl);grind
  |some tv=>
   rw [hq] at h ht;simp only at h ht;split at h
   ·rename_i c' heq;cases heq;cases h;have:=ht rfl
    revert this
    cases ax.tm.get t with
    |none=>intro this;cases this
    |some v=>intro this;cases this;rfl
   ·rename_i heq;cases heq;cases h;have:=B2G (ht rfl);grind
   ·rename_i heq;cases heq
   ·cases h
def REx (g:Hp) (μ:List Nat) (Z:Nat->Prop):TEx->Xe.Ex->Prop
 |.normal,.normal=>True
 |.exit k,.exit k'=>k'=k
 |.ret,.ret=>True
 |.panic v,.panic v'=>RV g μ Z v v'
 |_,_=>False
def Res (Pr:Nat->Prop) (μ:List Nat) (w:J3) (s:AS) (e:TEx) (a:TAct) (σ:Sto) (x:Option (Xe.Ex×Xe.Act×AS)):Prop:=
 ∃e' ax s' μ' w',x=some (e',ax,s')/\Rl Pr μ' w' a σ ax s'/\After w w' μ μ' s s'/\REx s'.get μ' (Zo w' Pr) e e'
theorem Res.after {w1:J3} {μ1:List Nat} {s1:AS} {e:TEx} {x:Option (Xe.Ex×Xe.Act×AS)} (h:After w w1 μ μ1 s s1) (k:Res Pr μ1 w1 s1 e a σ x):Res Pr μ w s e a σ x:=by
 obtain ⟨e',ax,s',μ',w',k1,k2,k3,k4⟩:=k;exact ⟨e',ax,s',μ',w',k1,k2,h.trans k3,k4⟩
theorem Rl.putD (r:Rl Pr μ w a σ ax s) (d:Option Nat) {tv:TV} {v:Value} (h:RV s.get μ (Zo w Pr) tv v):∃w',Rl Pr μ w' (a.put d tv) σ (ax.put d v) s/\After w w' μ μ s s:=
 ⟨_,r.put d (.inl h),Nat.le_refl _,fun _ _ _=>rfl,fun p i e _=>⟨p,P1 w d p i e⟩,R5⟩
theorem After.ofSub {w1:J3} (h:∀p i,w1 p=some i->w p=some i):After w w1 μ μ s s:=⟨Nat.le_refl _,fun _ _ _=>rfl,fun p i e _=>⟨p,h p i e⟩,R5⟩
theorem A43 {g:Hp} {Z:Nat->Prop} {x:TV} {x':Value} {vs:List TV} {vs':List Value} {f:FuncId} {l:List TV} (hx:pl x=true->RV g μ Z x x') (hv:RVs g μ Z vs vs') (h:A1v x vs=some (f,l)):∃l',target x' vs'=some (f,l')/\RVs g μ Z l l':=by
 unfold A1v at h;split at h
 ·cases h;have:=hx rfl;cases this with
  |func f h1 h2=>exact ⟨_,rfl,(h1.append hv).append h2⟩
 ·cases h
end
section
variable {Pr:Nat->Prop} {μ μ':List Nat} {w w':J3} {a a':TAct} {σ σ':Sto} {ax ax':Xe.Act} {s s':AS}
theorem After.hP {Pr:Nat->Prop} (h:After w w' μ μ' s s') (hP:∀i,Pr i->i<s.next):∀i,Pr i->i<s'.next:=fun i hi=>Nat.lt_of_lt_of_le (hP i hi) h.le
theorem Rl.callA {C:G5} {X:Xe.Callee} (hC:CallOk C X) (r:Rl Pr μ w a σ ax s) (hP:∀i,Pr i->i<s.next) {b f:Nat} {args:List Operand} {vs:List TV} {e:TEnd} (hg:W9 (args.map a.ev)=some vs) (h:C b f vs σ=some (e,σ')):
  ∃e' s' μ' w',X f (args.map ax.ev) s=some (e',s')/\Rl Pr μ' w' (Xt.frzs a args).tick σ' ax s'/\After w w' μ μ' s s'/\B2F s'.get μ' (Zo w' Pr) e e':=by
 obtain ⟨w1,r1,hsub⟩:=r.frzs args;have ha:=Y6 r1 rfl args (fun x hx=>hx) hg;obtain ⟨e',s',μ',w',k1,k2,k3,k4,_⟩:=r1.call hC hP h ha;exact ⟨e',s',μ',w',k1,k2,k3.sub hsub,k4⟩
theorem Rl.callVA {C:G5} {X:Xe.Callee} (hC:CallOk C X) (r:Rl Pr μ w a σ ax s) (hP:∀i,Pr i->i<s.next) {b f:Nat} {x:Operand} {args:List Operand} {vs l:List TV} {e:TEnd} (hg:W9 (args.map a.ev)=some vs) (ht:A1v (a.ev x) vs=some (f,l)) (h:C b f l σ=some (e,σ')):
  ∃e' s' μ' w' l',target (ax.ev x) (args.map ax.ev)=some (f,l')/\X f l' s=some (e',s')/\Rl Pr μ' w' (Xt.frzs a args).tick σ' ax s'/\After w w' μ μ' s s'/\B2F s'.get μ' (Zo w' Pr) e e':=by
 obtain ⟨w1,r1,hsub⟩:=r.frzs args;have ha:=Y6 r1 rfl args (fun x hx=>hx) hg;have hx:pl (a.ev x)=true->RV s.get μ (Zo w1 Pr) (a.ev x) (ax.ev x):=fun h=>(r.plain h).mono (Mo.sub hsub)
 obtain ⟨l',t1,t2⟩:=A43 hx ha ht;obtain ⟨e',s',μ',w',k1,k2,k3,k4,_⟩:=r1.call hC hP h t2;exact ⟨e',s',μ',w',l',t1,k1,k2,k3.sub hsub,k4⟩
theorem C0P (a:TAct) (x:Operand):(frz1 a x).df=a.df:=by
 simp_all [frz1]<;>grind
theorem B5w:∀(l:List Operand) (a:TAct),(frzs a l).df=a.df
 |[],a=>rfl
 |x::l,a=>(B5w l _).trans (C0P a x)
theorem A44 {C:G5} {X:Xe.Callee} (hC:CallOk C X) {an:Ann} {b:Nat}:∀(ops:List XOper) {Pr:Nat->Prop} {μ:List Nat} {w:J3} {a:TAct} {σ:Sto} {ax:Xe.Act} {s:AS} {e:TEx} {a':TAct} {σ':Sto},
  A2Q an b C ops a σ=some (e,a',σ')->Rl Pr μ w a σ ax s->(∀i,Pr i->i<s.next)->Res Pr μ w s e a' σ' (A0g X ops ax s)
 |[],Pr,μ,w,a,σ,ax,s,e,a',σ',h,r,hP=>by
  simp only [A2Q] at h;cases h;exact ⟨.normal,ax,s,μ,w,rfl,r,After.refl _ _ _,trivial⟩
 |⟨dst,op,guard⟩::ops,Pr,μ,w,a,σ,ax,s,e,a',σ',h,r,hP=>by
  have ih:=@A44 C X hC an b ops;rw [A2Q] at h;rw [A0g];cases hg:P8 a guard with
  |none=>grind
  |some c=>
   have hw:=r.wanted hg;cases c with
   |false=>
    simp only [hg] at h;simp only [hw];obtain ⟨w1,r1,h1⟩:=r.putD dst (A1U _ _);exact (ih h r1 (h1.hP hP)).after h1
   |true=>
    simp only [hg] at h;simp only [hw];cases op
    case call f args=>
     simp only at h ⊢;split at h
     ·rename_i vs hgv;split at h
      ·rename_i v σ1 hc;obtain ⟨e',s',μ',w',k1,k2,k3,k4⟩:=r.callA hC hP hgv hc;cases e' with
       |panic v'=>exact k4.elim
       |ret v'=>
        simp only [k1];obtain ⟨w2,r2,h2⟩:=k2.putD dst k4;exact (ih h r2 (h2.hP (k3.hP hP))).after (k3.trans h2)
      ·rename_i v σ1 hc;cases h;obtain ⟨e',s',μ',w',k1,k2,k3,k4⟩:=r.callA hC hP hgv hc;cases e' with
       |ret v'=>exact k4.elim
       |panic v'=>
        simp only [k1];exact ⟨.panic v',ax,s',μ',w',rfl,k2,k3,k4⟩
      ·cases h
     ·cases h
    case callV x args=>
     simp only at h ⊢;split at h
     ·rename_i vs hgv;split at h
      ·rename_i f l ht;split at h
       ·rename_i v σ1 hc;obtain ⟨e',s',μ',w',l',t1,k1,k2,k3,k4⟩:=r.callVA hC hP hgv ht hc;cases e' with
        |panic v'=>exact k4.elim
        |ret v'=>
         simp only [t1,k1];obtain ⟨w2,r2,h2⟩:=k2.putD dst k4;exact (ih h r2 (h2.hP (k3.hP hP))).after (k3.trans h2)
       ·rename_i v σ1 hc;cases h;obtain ⟨e',s',μ',w',l',t1,k1,k2,k3,k4⟩:=r.callVA hC hP hgv ht hc;cases e' with
        |ret v'=>exact k4.elim
        |panic v'=>
         simp only [t1,k1];exact ⟨.panic v',ax,s',μ',w',rfl,k2,k3,k4⟩
       ·cases h
      ·cases h
     ·cases h
    case panic x=>
     simp only at h ⊢;split at h
     ·rename_i t v hx;cases h;have h1:=r.plainOf hx rfl
      revert h1;generalize ax.ev x=y;intro h1
      cases h1 with
      |iface t h1=>exact ⟨.panic _,ax,s,μ,w,rfl,r,After.refl _ _ _,.iface t h1⟩
     ·cases h
    case defer x args=>
     simp only at h ⊢;split at h
     ·rename_i vs hgv;split at h
      ·rename_i f l ht;obtain ⟨w1,r1,hsub⟩:=r.frzs args;have ha:=Y6 r1 rfl args (fun x hx=>hx) hgv;have hx:pl (a.ev x)=true->RV s.get μ (Zo w1 Pr) (a.ev x) (ax.ev x):=fun h=>(r.plain h).mono (Mo.sub hsub)
       obtain ⟨l',t1,t2⟩:=A43 hx ha ht;simp only [t1];have r2:Rl Pr μ w1 ⟨(frzs a args).tm,⟨f,l⟩::(frzs a args).df,(frzs a args).clk⟩ σ ⟨ax.tm,⟨f,l'⟩::ax.df⟩ s:=
        ⟨r1.toRs,r1.tm,r1.al,⟨rfl,t2,r1.df⟩⟩
       have hdf:(frzs a args).df=a.df:=B5w args a;rw [hdf] at r2;obtain ⟨w2,r3,h3⟩:=r2.putD dst (A1U _ _);exact (ih h r3 (h3.hP hP)).after ((After.ofSub hsub).trans h3)
      ·cases h
     ·cases h
    all_goals
     simp only at h ⊢;split at h
     ·rename_i v a1 σ1 hd;obtain ⟨p,k1,μ1,w1,k2,k3⟩:=A9J _ _ dst _ hd r hP;simp only [k1];exact (ih h k2 (k3.hP hP)).after k3
     ·cases h
end
structure Snap where
 μ:List Nat
 w:J3
 a:TAct
 σ:Sto
 ax:Xe.Act
 s:AS
def B1d (tr:TRec) (r:Rec) (n:Snap):TK->Prop
 |.bad=>True
 |.no=>r.call=false/\r.touched=[]/\r.wrote=[]
 |.rd q=>r.call=false/\r.wrote=[]/\∃i o,n.ax.ev q=.pointer (some ⟨i,o,none⟩)/\r.touched=[i]/\i<n.s.next
 |.wr q=>r.call=false/\∃i o,n.ax.ev q=.pointer (some ⟨i,o,none⟩)/\r.touched=[i]/\r.wrote=[i]
 |.new=>r.call=false/\r.touched=[]/\r.wrote=[n.s.next]
 |.call=>r.call=true/\(∀i,i<n.s.next->(∀k,n.w (.obj k)≠some i)->(∀k c,n.w (.cell k c)≠some i)->r.s1.get i=n.s.get i)/\
   ∀k i o o',n.μ[k]? =some i->tr.s0.at k=some o->tr.s1.at k=some o'->(∃b,r.s0.get i=some ⟨o.ver,b⟩)/\∃b,r.s1.get i=some ⟨o'.ver,b⟩
structure Good (Pr:Nat->Prop) (tr:TRec) (r:Rec) (n:Snap) (ax':Xe.Act) (s':AS):Prop where
 rl:Rl Pr n.μ n.w n.a n.σ n.ax n.s
 pre:tr.kind≠.bad->tr.pre=n.a
 s0:r.s0=n.s
 nx:n.s.next<=s'.next
 ax:∀t,tr.dst≠some t->ax'.ev (.tmp t)=n.ax.ev (.tmp t)
 kind:B1d tr r n tr.kind
inductive Chn (Pr:Nat->Prop):Xe.Act->AS->List TRec->List Rec->Prop
 |nil (ax:Xe.Act) (s:AS):Chn Pr ax s [] []
 |cons {tr:TRec} {r:Rec} {n:Snap} {ax':Xe.Act} {s':AS} {l:List TRec} {rs:List Rec}:Good Pr tr r n ax' s'->Chn Pr ax' s' l rs->Chn Pr n.ax n.s (tr::l) (r::rs)
theorem Chn.drop {Pr:Nat->Prop} {ax:Xe.Act} {s:AS} {l:List TRec} {rs:List Rec} (h:Chn Pr ax s l rs):∀i,∃ax1 s1,Chn Pr ax1 s1 (l.drop i) (rs.drop i):=by
 induction h with
 |nil ax s=>intro i;exact ⟨ax,s,by simp;exact .nil ax s⟩
 |cons g t ih=>
  intro i;cases i with
  |zero=>exact ⟨_,_,.cons g t⟩
  |succ i=>exact ih i
theorem Chn.path {Pr:Nat->Prop} {ax:Xe.Act} {s:AS} {l:List TRec} {rs:List Rec} (h:Chn Pr ax s l rs):∀{j:Nat} {y:TRec},l[j]? =some y->∃ry n ax' s',rs[j]? =some ry/\Good Pr y ry n ax' s'/\s.next<=n.s.next/\∀t,(∀r∈l.take j,r.dst≠some t)->n.ax.ev (.tmp t)=ax.ev (.tmp t):=by
 induction h with
 |nil ax s=>intro j y e;simp at e
 |cons g t ih=>
  intro j y e;cases j with
  |zero=>grind
  |succ j=>
   obtain ⟨ry,n,ax',s',h1,h2,h3,h4⟩:=ih (by simpa using e);refine ⟨ry,n,ax',s',by simpa using h1,h2,Nat.le_trans g.nx h3,fun t ht=> ?_⟩;rw [h4 t (fun r hr=>ht r (by simp [hr])),g.ax t (ht _ (by simp))]
theorem Chn.head {Pr:Nat->Prop} {ax:Xe.Act} {s:AS} {l l':List TRec} {rs:List Rec} {x:TRec} (h:Chn Pr ax s l rs) (hl:l=x::l'):∃rx n ax' s',rs[0]? =some rx/\Good Pr x rx n ax' s'/\ax=n.ax/\s=n.s:=by
 cases h with
 |nil=>cases hl
 |cons g t=>grind
section
variable {Pr:Nat->Prop} {μ μ':List Nat} {w w':J3} {a a':TAct} {σ σ':Sto} {ax ax':Xe.Act} {s s':AS}
inductive Cls (g:Hp) (w:J3) (Pr:Nat->Prop) (μ:List Nat) (a:TAct) (i:Nat):TV->Prop
 |box {t o ser:Nat}:(∃x,g i=some x)->w (.tmp t)=some i->Cls g w Pr μ a i (.vpt t o ser)
 |fz {ch:List TV} {o:Nat}:(∃x,g i=some x)->Zo w Pr i->Cls g w Pr μ a i (.elt ch o)
 |obj {k o:Nat}:μ[k]? =some i->w (.obj k)=some i->Cls g w Pr μ a i (.ptr k o)
theorem Rl.cls_elt (r:Rl Pr μ w a σ ax s) {q:Operand} {i o:Nat} (hv:ax.ev q=.pointer (some ⟨i,o,none⟩)) {ch:List TV} {o':Nat} (h:a.at q=.elt ch o'):Cls s.get w Pr μ a i (.elt ch o'):=by
 have h1:=r.atPlain h rfl;rw [hv] at h1;cases h1 with
 |elt z hg=>exact .fz ⟨_,hg⟩ z
theorem Rl.cls_ptr (r:Rl Pr μ w a σ ax s) {q:Operand} {i o:Nat} (hv:ax.ev q=.pointer (some ⟨i,o,none⟩)) {k o':Nat} (h:a.at q=.ptr k o'):Cls s.get w Pr μ a i (.ptr k o'):=by
 have h1:=r.atPlain h rfl;rw [hv] at h1;cases h1 with
 |ptr e=>exact .obj e ((r.wobj k).trans e)
theorem Rl.cls_vpt (r:Rl Pr μ w a σ ax s) {q:Operand} {i o:Nat} (hv:ax.ev q=.pointer (some ⟨i,o,none⟩)) {t o' ser:Nat} (h:a.at q=.vpt t o' ser) (hb:(M6 a t ser).isSome=true):Cls s.get w Pr μ a i (.vpt t o' ser):=by
 have h1:=r.atAl h rfl;cases hq:M6 a t ser with
 |none=>rw [hq] at hb;cases hb
 |some p=>
  obtain ⟨cs,e⟩:=p;obtain ⟨i',ver,vs,k1,k2,k3,k4⟩:=r.vptOf h1 hq;constructor<;>grind
theorem B2H (r:Rl Pr μ w a σ ax s) {tr:TRec} {rc:Rec} {n:Snap} (hn:n=⟨μ,w,a,σ,ax,s⟩) (hk:B1d tr rc n .call) (h0:rc.s0=s) {q:Operand} {i o:Nat} (hv:ax.ev q=.pointer (some ⟨i,o,none⟩)) (h:stays a tr.s0 tr.s1 q=true):U2 rc.s0 rc.s1 [i]=true:=by
 subst hn;obtain ⟨k1,k2,k3⟩:=hk;have same:(∃x,s.get i=some x)->rc.s1.get i=s.get i->U2 rc.s0 rc.s1 [i]=true:=by
  grind [U2,D8]
 unfold stays at h;split at h
 ·rename_i t o' ser hq;cases r.cls_vpt hv hq h with
  |box hx hw=>obtain ⟨_,hx2⟩:=hx;exact same ⟨_,hx2⟩ (k2 i (r.lt hx2) (fun k e=>by have:=r.inj _ _ _ e hw;cases this) (fun k c e=>by have:=r.inj _ _ _ e hw;cases this))
 ·rename_i ch o' hq;cases r.cls_elt hv hq with
  |fz hx z=>obtain ⟨_,hx2⟩:=hx;exact same ⟨_,hx2⟩ (k2 i (r.lt hx2) (fun k e=>z.1 _ e) (fun k c e=>z.1 _ e))
 ·rename_i k o' hq;cases r.cls_ptr hv hq with
  |obj hm hw=>
   grind [U2]
 ·cases h
theorem B8K (r:Rl Pr μ w a σ ax s) {q q':Operand} {i o i' o':Nat} (hv:ax.ev q=.pointer (some ⟨i,o,none⟩)) (hv':ax.ev q'=.pointer (some ⟨i',o',none⟩)) (h:B8h a q q'=true):i≠i':=by
 unfold B8h at h;split at h
 ·rename_i t1 o1 s1 t2 o2 s2 h1 h2;simp only [Bool.and_eq_true] at h;cases r.cls_vpt hv h1 h.1.2 with
  |box _ w1=>cases r.cls_vpt hv' h2 h.2 with
   |box _ w2=>rintro rfl;have:=r.inj _ _ _ w1 w2;simp at this;exact beq_false.1 h.1.1 this
 ·rename_i k1 o1 k2 o2 h1 h2;cases r.cls_ptr hv h1 with
  |obj _ w1=>cases r.cls_ptr hv' h2 with
   |obj _ w2=>rintro rfl;have:=r.inj _ _ _ w1 w2;simp at this;exact beq_false.1 h this
 ·rename_i t1 o1 s1 k2 o2 h1 h2;cases r.cls_vpt hv h1 h with
  |box _ w1=>cases r.cls_ptr hv' h2 with
   |obj _ w2=>rintro rfl;have:=r.inj _ _ _ w1 w2;cases this
 ·rename_i k1 o1 t2 o2 s2 h1 h2;cases r.cls_ptr hv h1 with
  |obj _ w1=>cases r.cls_vpt hv' h2 h with
   |box _ w2=>rintro rfl;have:=r.inj _ _ _ w1 w2;cases this
 ·rename_i ch o1 t2 o2 s2 h1 h2;cases r.cls_elt hv h1 with
  |fz _ z=>cases r.cls_vpt hv' h2 h with
   |box _ w2=>rintro rfl;exact z.1 _ w2
 ·rename_i ch o1 k2 o2 h1 h2;cases r.cls_elt hv h1 with
  |fz _ z=>cases r.cls_ptr hv' h2 with
   |obj _ w2=>rintro rfl;exact z.1 _ w2
 ·cases h
theorem C0Q (r:Rl Pr μ w a σ ax s) {q q':Operand} {i o i' o':Nat} (hv:ax.ev q=.pointer (some ⟨i,o,none⟩)) (hv':ax.ev q'=.pointer (some ⟨i',o',none⟩)) (h:C0E a q q'=true):i≠i':=by
 unfold C0E at h;split at h
 ·rename_i t c j o1 k2 o2 h1 h2;obtain ⟨ch,hch⟩:=Option.isSome_iff_exists.1 h;have hch:A4Q a σ (.tmp t) c j=some ch:=hch;obtain ⟨i1,ver,vs,e,d,q1,q2,_⟩:=r.velOf (r.atAl h1 rfl) hch;rw [hv] at q1;cases q1;cases r.cls_ptr hv' h2 with
  |obj _ w2=>rintro rfl;have:=r.inj _ _ _ q2 w2;cases this
 grind [B8K]
theorem B2I {g:Hp} {i o n:Nat} {l:List Value} (h:B8 g ⟨i,o,none⟩ n=some l):∃x,g i=some x:=by
 grind [B8]
theorem C0R {l:List TRec} {i j:Nat} {q:Operand} {axi axj:Xe.Act} (h:A4S l i j q=true) (hax:∀t,(∀r∈(l.drop i).take (j - i),r.dst≠some t)->axj.ev (.tmp t)=axi.ev (.tmp t)):axj.ev q=axi.ev q:=by
 unfold A4S at h;grind [D8]
theorem A5y:∀l,apart l []=true
 |[]=>rfl
 |x::l=>by simp only [apart,A1E,A5y l]
theorem C0S {ax0:Xe.Act} {s0:AS} {l:List TRec} {rs:List Rec} (hc:Chn Pr ax0 s0 l rs) {i j:Nat} {x y:TRec} (hi:l[i]? =some x) (hj:l[j]? =some y) (hij:i<j) (h:A6G l i j x y=true):∃rx ry,rs[i]? =some rx/\rs[j]? =some ry/\V9 rx ry=true:=by
 obtain ⟨ax1,s1,hd⟩:=hc.drop i;obtain ⟨ry,ny,ax2',s2',p1,p2,p3,p4⟩:=hd.path (j:=j - i) (y:=y) (by rw [List.getElem?_drop];rw [show i+(j - i)=j by omega];exact hj);have hx:l.drop i=x::l.drop (i+1):=by
  have:=(List.getElem?_eq_some_iff.1 hi);rw [List.drop_eq_getElem_cons this.1,this.2]
 obtain ⟨rx,nx,ax1',s1',q1,q2,q3,q4⟩:=hd.head hx;rw [List.getElem?_drop] at p1;rw [show i+(j - i)=j by omega] at p1;have q1:rs[i]? =some rx:=by simpa using q1
 refine ⟨rx,ry,q1,p1,?_⟩;have kx:=q2.kind;have ky:=p2.kind;have hax:∀{q},A4S l i j q=true->ny.ax.ev q=nx.ax.ev q:=fun h=>by
  grind [C0R]
 unfold A6G at h;split at h
 ·rename_i hk1;rw [hk1] at kx;obtain ⟨a1,a2,a3⟩:=kx;grind [V9,apart,A5y,U2]
 ·rename_i hk2 hk1;rw [hk2] at ky;obtain ⟨a1,a2,a3⟩:=ky;grind [V9,apart,A5y,U2]
 ·rename_i q hk1 hk2;simp only [Bool.and_eq_true] at h;rw [hk1] at kx;rw [hk2] at ky;obtain ⟨a1,a2,i0,o0,a3,a4,a5⟩:=kx;have hv:ny.ax.ev q=.pointer (some ⟨i0,o0,none⟩):=(hax h.1).trans a3;have hpre:=p2.pre (by rw [hk2];simp);rw [hpre] at h;have:=B2H p2.rl (n:=ny) rfl ky p2.s0 hv h.2;simp only [V9,a1,ky.1,a4,this]
 ·rename_i q hk1 hk2;rw [hk1] at kx;rw [hk2] at ky;obtain ⟨a1,a2,i0,o0,a3,a4,a5⟩:=ky;rw [Bool.or_eq_true] at h;rcases h with h|h
  case inr=>
   have hprex:=q2.pre (by rw [hk1];simp);have hprey:=p2.pre (by rw [hk2];simp);unfold B8i at h;split at h
   ·rename_i t o s hq;simp only [Bool.and_eq_true] at h;obtain ⟨⟨h1,h2⟩,h3⟩:=h;rw [hprex] at h2;rw [hprey] at h3 hq;have hat:=hax h1;cases p2.rl.cls_vpt a3 hq h3 with
    |box _ hw=>
     obtain ⟨⟨cs,e⟩,hbx⟩:=Option.isSome_iff_exists.1 h2;obtain ⟨⟨cs',e'⟩,hby⟩:=Option.isSome_iff_exists.1 h3;obtain ⟨_,i1,ver1,vs1,w1,v1,g1,_⟩:=q2.rl.boxOf hbx;obtain ⟨_,i2,ver2,vs2,w2,v2,g2,_⟩:=p2.rl.boxOf hby
     rw [v1,v2] at hat;cases hat;rw [hw] at w2;cases w2;obtain ⟨k1,k2,k3⟩:=kx;have hs:=k2 i0 (q2.rl.lt g1) (fun k e=>by have:=q2.rl.inj _ _ _ e w1;cases this) (fun k c e=>by have:=q2.rl.inj _ _ _ e w1;cases this);simp only [V9,a1,k1,a4,U2,q2.s0,hs,g1,D8,decide_true]
   ·cases h
  simp only [Bool.and_eq_true] at h;have hv:nx.ax.ev q=.pointer (some ⟨i0,o0,none⟩):=(hax h.1).symm.trans a3;have hpre:=q2.pre (by rw [hk1];simp);rw [hpre] at h;have:=B2H q2.rl (n:=nx) rfl kx q2.s0 hv h.2;simp only [V9,a1,kx.1,a4,this]
 ·rename_i q hk1 hk2;rw [hk1] at kx;rw [hk2] at ky;obtain ⟨a1,a2,i0,o0,a3,a4,a5⟩:=kx;obtain ⟨b1,b2,b3⟩:=ky;grind [V9,apart,A1E,D8]
 ·rename_i q q' hk1 hk2;simp only [Bool.and_eq_true] at h;rw [hk1] at kx;rw [hk2] at ky;obtain ⟨a1,a2,i0,o0,a3,a4,a5⟩:=kx;obtain ⟨b1,i1,o1,b2,b3,b4⟩:=ky;have hv:ny.ax.ev q=.pointer (some ⟨i0,o0,none⟩):=(hax h.1).trans a3;have hpre:=p2.pre (by rw [hk2];simp);rw [hpre] at h;have:i1≠i0:=(B8K p2.rl hv b2 h.2).symm;grind [V9,apart,A1E,D8]
 ·rename_i q q' hk1 hk2;simp only [Bool.and_eq_true] at h;rw [hk1] at kx;rw [hk2] at ky;obtain ⟨a1,i0,o0,a3,a4,a5⟩:=kx;obtain ⟨b1,i1,o1,b2,b3,b4⟩:=ky;have hv':nx.ax.ev q'=.pointer (some ⟨i1,o1,none⟩):=(hax h.1).symm.trans b2;have hpre:=q2.pre (by rw [hk1];simp);rw [hpre] at h;have hne:=C0Q q2.rl a3 hv' h.2;grind [V9,apart,A1E,D8]
 ·cases h
theorem B2J {ax0:Xe.Act} {s0:AS} {l:List TRec} {rs:List Rec} (hc:Chn Pr ax0 s0 l rs):∀ps:List (Nat×Nat),A0v l ps=true->A1o rs ps=true
 |[],_=>rfl
 |(i,j)::ps,h=>by
  simp only [A0v] at h;split at h
  ·rename_i x y hi hj;split at h
   ·rename_i hb;simp only [Bool.and_eq_true] at hb;have hlt:=hb.1;rw [G6] at hlt;obtain ⟨rx,ry,k1,k2,k3⟩:=C0S hc hi hj (of_decide_eq_true hlt) hb.2;simp only [A1o,k1,k2,k3];exact B2J hc ps h
   ·cases h
  ·cases h
theorem B6O {op:XOp} {p:PR} (hp:B0 s.get s.next ax.ev op=some p) (dm:Dm s) (tr:TRec) (n:Snap) (hn:n.ax=ax) (hs:n.s=s):
  B1d tr ⟨false,A18 s.get ax.ev op,p.δ.map (·.1),s,s.upd p.δ p.nx⟩ n (kindOf op):=by
 have hlt:∀{i x},s.get i=some x->i<s.next:=fun {i x} e=>by
  by_cases h:i<s.next
  ·exact h
  ·rw [dm i (by omega)] at e;cases e
 cases op<;>simp only [kindOf]<;>first|trivial|skip
 case load1 q=>
  simp only [B0] at hp;split at hp
  ·rename_i ad hq;split at hp
   ·rename_i v hl;cases hp;obtain ⟨b,o,sp⟩:=ad;cases sp with
    |some _=>simp [B8] at hl
    |none=>
     constructor<;>grind [B2I,A18,S4]
   ·cases hp
  ·cases hp
 case loadN m q=>
  simp only [B0] at hp;split at hp
  ·rename_i ad hq;split at hp
   ·rename_i v hl;cases hp;obtain ⟨b,o,sp⟩:=ad;cases sp with
    |some _=>simp [B8] at hl
    |none=>
     constructor<;>grind [B2I,A18,S4]
   ·cases hp
  ·cases hp
 case store m q x=>
  simp only [B0] at hp;split at hp
  ·rename_i ad hq;split at hp
   ·split at hp
    ·rename_i δ hl;cases hp;obtain ⟨b,o,sp⟩:=ad;cases sp with
     |some _=>simp [F8] at hl
     |none=>
      constructor<;>grind [F8,A18,S4]
    ·cases hp
   ·cases hp
  ·cases hp
 all_goals
  refine ⟨rfl,rfl,?_⟩;simp only [B0] at hp;rw [hs]
  first
   |(cases hp;rfl)
   |(split at hp<;>first|(cases hp;rfl)|(cases hp;done)|(split at hp<;>first|(cases hp;rfl)|(cases hp;done)|(split at hp<;>first|(cases hp;rfl)|(cases hp;done))))
end
section
variable {Pr:Nat->Prop} {μ μ':List Nat} {w w':J3} {a a':TAct} {σ σ':Sto} {ax ax':Xe.Act} {s s':AS}
theorem put_ne (d:Option Nat) (v:Value) (t:Nat) (h:d≠some t):(ax.put d v).ev (.tmp t)=ax.ev (.tmp t):=by
 cases d with
 |none=>rfl
 |some d=>grind [Act.ev_put_ne]
theorem A9K {dst:Option Nat} (r:Rl Pr μ w a σ ax s) (k2:Rl Pr μ' w' a' σ' ax s') (mu:∃ν,μ'=μ++ν) (k5:∀i,i<s.next->(∀k,w (.obj k)≠some i)->(∀k c,w (.cell k c)≠some i)->s'.get i=s.get i):
  B1d ⟨.call,dst,a,σ,σ'⟩ ⟨true,[],[],s,s'⟩ ⟨μ,w,a,σ,ax,s⟩ .call:=by
 refine ⟨rfl,k5,fun k i o o' hm h0 h1=> ?_⟩;obtain ⟨i1,b1,p1,p2,p3⟩:=r.obj k o h0;obtain ⟨i2,b2,q1,q2,q3⟩:=k2.obj k o' h1;grind
theorem A69 {C:G5} {X:Xe.Callee} (hC:CallOk C X) {an:Ann} {b:Nat}:∀(ops:List XOper) {Pr:Nat->Prop} {μ:List Nat} {w:J3} {a:TAct} {σ:Sto} {ax:Xe.Act} {s:AS} {lt lt':List TRec} {lr:List Rec} {a':TAct} {σ':Sto},
  A01 an b C ops a σ lt=some (a',σ',lt')->Rl Pr μ w a σ ax s->(∀i,Pr i->i<s.next)->∃ax' s' μ' w' tl rl,Z8 X ops ax s lr=some (ax',s',lr.reverse++rl)/\lt'=lt.reverse++tl/\Chn Pr ax s tl rl/\Rl Pr μ' w' a' σ' ax' s'/\After w w' μ μ' s s'
 |[],Pr,μ,w,a,σ,ax,s,lt,lt',lr,a',σ',h,r,hP=>by
  simp only [A01] at h;cases h;exact ⟨ax,s,μ,w,[],[],by simp [Z8],by simp,.nil ax s,r,After.refl _ _ _⟩
 |⟨dst,op,guard⟩::ops,Pr,μ,w,a,σ,ax,s,lt,lt',lr,a',σ',h,r,hP=>by
  have ih:=@A69 C X hC an b ops;have fin:∀{tr:TRec} {rc:Rec} {n:Snap} {ax1:Xe.Act} {s1:AS} {μ1:List Nat} {w1:J3} {a1:TAct} {σ1:Sto},n.ax=ax->n.s=s->Good Pr tr rc n ax1 s1->A01 an b C ops a1 σ1 (tr::lt)=some (a',σ',lt')->Rl Pr μ1 w1 a1 σ1 ax1 s1->After w w1 μ μ1 s s1->
    ∃ax' s' μ' w' tl rl,Z8 X ops ax1 s1 (rc::lr)=some (ax',s',lr.reverse++rl)/\lt'=lt.reverse++tl/\Chn Pr ax s tl rl/\Rl Pr μ' w' a' σ' ax' s'/\After w w' μ μ' s s':=by
   intro tr rc n ax1 s1 μ1 w1 a1 σ1 hn hs hg hd hr haf;obtain ⟨ax',s',μ',w',tl,rl,q1,q2,q3,q4,q5⟩:=ih (lr:=rc::lr) hd hr (haf.hP hP);refine ⟨ax',s',μ',w',tr::tl,rc::rl,by rw [q1];simp,by rw [q2];simp,?_,q4,haf.trans q5⟩;have:=Chn.cons hg q3
   rwa [hn,hs] at this
  rw [A01] at h;rw [Z8];cases hg:P8 a guard with
  |none=>grind
  |some c=>
   have hw:=r.wanted hg;cases c with
   |false=>
    simp only [hg] at h;simp only [hw];obtain ⟨w1,r1,h1⟩:=r.putD dst (A1U _ _);exact fin (tr:=⟨.no,dst,a,σ,σ⟩) (n:=⟨μ,w,a,σ,ax,s⟩) rfl rfl ⟨r,fun _=>rfl,rfl,Nat.le_refl _,fun t ht=>put_ne dst _ t ht,rfl,rfl,rfl⟩ h r1 h1
   |true=>
    simp only [hg] at h;simp only [hw];cases op
    case call f args=>
     simp only at h ⊢;split at h
     ·rename_i vs hgv;split at h
      ·rename_i v σ1 hc;obtain ⟨w1,r1,hsub⟩:=r.frzs args;obtain ⟨e',s',μ',w',k1,k2,k3,k4,k5⟩:=r1.call hC hP hc (Y6 r1 rfl args (fun x hx=>hx) hgv);cases e' with
       |panic v'=>exact k4.elim
       |ret v'=>
        simp only [k1];obtain ⟨w2,r2,h2⟩:=k2.putD dst k4;exact fin (n:=⟨μ,w1,frzs a args,σ,ax,s⟩) rfl rfl ⟨r1,fun _=>rfl,rfl,k3.le,fun t ht=>put_ne dst _ t ht,A9K r1 k2 k3.mu k5⟩ h r2 ((k3.sub hsub).trans h2)
      ·cases h
     ·cases h
    case callV x args=>
     simp only at h ⊢;split at h
     ·rename_i vs hgv;split at h
      ·rename_i f l ht;split at h
       ·rename_i v σ1 hc;obtain ⟨w1,r1,hsub⟩:=r.frzs args;have hx:pl (a.ev x)=true->RV s.get μ (Zo w1 Pr) (a.ev x) (ax.ev x):=fun h=>(r.plain h).mono (Mo.sub hsub)
        obtain ⟨l',t1,t2⟩:=A43 hx (Y6 r1 rfl args (fun x hx=>hx) hgv) ht;obtain ⟨e',s',μ',w',k1,k2,k3,k4,k5⟩:=r1.call hC hP hc t2;cases e' with
        |panic v'=>exact k4.elim
        |ret v'=>
         simp only [t1,k1];obtain ⟨w2,r2,h2⟩:=k2.putD dst k4;exact fin (n:=⟨μ,w1,frzs a args,σ,ax,s⟩) rfl rfl ⟨r1,fun _=>rfl,rfl,k3.le,fun t ht=>put_ne dst _ t ht,A9K r1 k2 k3.mu k5⟩ h r2 ((k3.sub hsub).trans h2)
       ·cases h
      ·cases h
     ·cases h
    all_goals
     simp only at h ⊢;split at h
     ·rename_i v a1 σ1 hd;obtain ⟨p,k1,μ1,w1,k2,k3⟩:=A9J _ _ dst _ hd r hP;simp only [k1];exact fin (n:=⟨μ,w,a,σ,ax,s⟩) rfl rfl ⟨r,fun _=>rfl,rfl,k3.le,fun t ht=>put_ne dst _ t ht,B6O k1 r.dm _ _ rfl rfl⟩ h k2 k3
     ·cases h
end
section
variable {Pr:Nat->Prop} {μ μ':List Nat} {w w':J3} {a a':TAct} {σ σ':Sto} {ax ax':Xe.Act} {s s':AS}
def B4k (t:TAct->Sto->Option (TEx×TAct×Sto)) (x:Xe.Act->AS->Option (Xe.Ex×Xe.Act×AS)):Prop:=
 ∀(Pr:Nat->Prop) (μ:List Nat) (w:J3) (a:TAct) (σ:Sto) (ax:Xe.Act) (s:AS) (e:TEx) (a':TAct) (σ':Sto),t a σ=some (e,a',σ')->Rl Pr μ w a σ ax s->(∀i,Pr i->i<s.next)->Res Pr μ w s e a' σ' (x ax s)
theorem A6a {t:TAct->Sto->Option (TEx×TAct×Sto)} {x:Xe.Act->AS->Option (Xe.Ex×Xe.Act×AS)} (hb:B4k t x):∀n,B4k (A2z t n) (A2u x n)
 |0,Pr,μ,w,a,σ,ax,s,e,a',σ',h,r,hP=>by simp only [A2z] at h;cases h
 |n+1,Pr,μ,w,a,σ,ax,s,e,a',σ',h,r,hP=>by
  simp only [A2z] at h;simp only [A2u];cases ht:t a σ with
  |none=>rw [ht] at h;cases h
  |some p=>
   obtain ⟨e1,a1,σ1⟩:=p;rw [ht] at h;obtain ⟨e',ax1,s1,μ1,w1,k1,k2,k3,k4⟩:=hb Pr μ w a σ ax s e1 a1 σ1 ht r hP;rw [k1];cases e1 with
   |normal=>
    cases e'<;>first|(exact k4.elim)|skip
    exact (A6a hb n Pr μ1 w1 a1 σ1 ax1 s1 e a' σ' h k2 (k3.hP hP)).after k3
   |exit k=>
    cases h;cases e'<;>first|(exact k4.elim)|skip
    exact ⟨_,ax1,s1,μ1,w1,rfl,k2,k3,k4⟩
   |ret=>
    cases h;cases e'<;>first|(exact k4.elim)|skip
    exact ⟨_,ax1,s1,μ1,w1,rfl,k2,k3,k4⟩
   |panic v=>
    cases h;cases e'<;>first|(exact k4.elim)|skip
    exact ⟨_,ax1,s1,μ1,w1,rfl,k2,k3,k4⟩
theorem M7 {C:G5} {X:Xe.Callee} (hC:CallOk C X) {an:Ann} {b n:Nat}:∀c:XCode,B4k (B6 an b C n c) (G1 X n c)
 |.skip,Pr,μ,w,a,σ,ax,s,e,a',σ',h,r,hP=>by
  simp only [B6] at h;cases h;exact ⟨.normal,ax,s,μ,w,rfl,r,After.refl _ _ _,trivial⟩
 |.exit id,Pr,μ,w,a,σ,ax,s,e,a',σ',h,r,hP=>by
  simp only [B6] at h;cases h;exact ⟨.exit id,ax,s,μ,w,rfl,r,After.refl _ _ _,rfl⟩
 |.ret,Pr,μ,w,a,σ,ax,s,e,a',σ',h,r,hP=>by
  simp only [B6] at h;cases h;exact ⟨.ret,ax,s,μ,w,rfl,r,After.refl _ _ _,trivial⟩
 |.region ops,Pr,μ,w,a,σ,ax,s,e,a',σ',h,r,hP=>by
  grind [B6,G1,A44]
 |.regionD ops ps,Pr,μ,w,a,σ,ax,s,e,a',σ',h,r,hP=>by
  simp only [B6] at h;simp only [G1];split at h
  ·rename_i a1 σ1 l hd;split at h
   ·rename_i hp;cases h;obtain ⟨ax',s',μ',w',tl,rl,q1,q2,q3,q4,q5⟩:=A69 hC ops (lr:=[]) hd r hP;simp only [List.reverse_nil,List.nil_append] at q1 q2;subst q2;simp only [q1,B2J q3 ps hp];exact ⟨.normal,ax',s',μ',w',rfl,q4,q5,trivial⟩
   ·cases h
  ·cases h
 |.seq x y,Pr,μ,w,a,σ,ax,s,e,a',σ',h,r,hP=>by
  have h1:=M7 hC (an:=an) (b:=b) (n:=n) x;have h2:=M7 hC (an:=an) (b:=b) (n:=n) y;simp only [B6] at h;simp only [G1];cases ht:B6 an b C n x a σ with
  |none=>rw [ht] at h;cases h
  |some p=>
   obtain ⟨e1,a1,σ1⟩:=p;rw [ht] at h;obtain ⟨e',ax1,s1,μ1,w1,k1,k2,k3,k4⟩:=h1 Pr μ w a σ ax s e1 a1 σ1 ht r hP;rw [k1];cases e1 with
   |normal=>
    cases e'<;>first|(exact k4.elim)|skip
    exact (h2 Pr μ1 w1 a1 σ1 ax1 s1 e a' σ' h k2 (k3.hP hP)).after k3
   |exit k=>
    cases h;cases e'<;>first|(exact k4.elim)|skip
    exact ⟨_,ax1,s1,μ1,w1,rfl,k2,k3,k4⟩
   |ret=>
    cases h;cases e'<;>first|(exact k4.elim)|skip
    exact ⟨_,ax1,s1,μ1,w1,rfl,k2,k3,k4⟩
   |panic v=>
    cases h;cases e'<;>first|(exact k4.elim)|skip
    exact ⟨_,ax1,s1,μ1,w1,rfl,k2,k3,k4⟩
 |.cond c x y,Pr,μ,w,a,σ,ax,s,e,a',σ',h,r,hP=>by
  have h1:=M7 hC (an:=an) (b:=b) (n:=n) x;have h2:=M7 hC (an:=an) (b:=b) (n:=n) y;simp only [B6] at h;simp only [G1];split at h
  ·rename_i hc;have:=r.plainOf hc rfl
   revert this;generalize ax.ev c=z;intro this;cases this
   exact h1 Pr μ w a σ ax s e a' σ' h r hP
  ·rename_i hc;have:=r.plainOf hc rfl
   revert this;generalize ax.ev c=z;intro this;cases this
   exact h2 Pr μ w a σ ax s e a' σ' h r hP
  ·cases h
 |.block id c,Pr,μ,w,a,σ,ax,s,e,a',σ',h,r,hP=>by
  have h1:=M7 hC (an:=an) (b:=b) (n:=n) c;simp only [B6] at h;simp only [G1];cases ht:B6 an b C n c a σ with
  |none=>rw [ht] at h;cases h
  |some p=>
   obtain ⟨e1,a1,σ1⟩:=p;rw [ht] at h;obtain ⟨e',ax1,s1,μ1,w1,k1,k2,k3,k4⟩:=h1 Pr μ w a σ ax s e1 a1 σ1 ht r hP;rw [k1];cases e1 with
   |normal=>
    cases h;cases e'<;>first|(exact k4.elim)|skip
    exact ⟨_,ax1,s1,μ1,w1,rfl,k2,k3,k4⟩
   |exit k=>
    cases e'<;>first|(exact k4.elim)|skip
    have k4:_=k:=k4;subst k4;simp only at h ⊢;split at h
    ·rename_i hb;cases h;simp only [hb];exact ⟨.normal,ax1,s1,μ1,w1,rfl,k2,k3,trivial⟩
    ·rename_i hb;cases h;simp only [hb];exact ⟨_,ax1,s1,μ1,w1,rfl,k2,k3,rfl⟩
   |ret=>
    cases h;cases e'<;>first|(exact k4.elim)|skip
    exact ⟨_,ax1,s1,μ1,w1,rfl,k2,k3,k4⟩
   |panic v=>
    cases h;cases e'<;>first|(exact k4.elim)|skip
    exact ⟨_,ax1,s1,μ1,w1,rfl,k2,k3,k4⟩
 |.loop c,Pr,μ,w,a,σ,ax,s,e,a',σ',h,r,hP=>by
  have h1:=M7 hC (an:=an) (b:=b) (n:=n) c;simp only [B6] at h;simp only [G1];exact A6a h1 n Pr μ w a σ ax s e a' σ' h r hP
def RMd (g:Hp) (μ:List Nat) (Z:Nat->Prop):TMode->Xe.Mode->Prop
 |.ret,.ret=>True
 |.panicking v,.panicking v'=>RV g μ Z v v'
 |.recovered,.recovered=>True
 |_,_=>False
theorem RMd.mono {g g':Hp} {Z Z':Nat->Prop} (mo:Mo g μ Z g' μ' Z'):∀{m:TMode} {m':Xe.Mode},RMd g μ Z m m'->RMd g' μ' Z' m m'
 |.ret,.ret,_=>trivial
 |.panicking _,.panicking _,h=>RV.mono mo h
 |.recovered,.recovered,_=>trivial
 |.ret,.panicking _,h=>h.elim
 |.ret,.recovered,h=>h.elim
 |.panicking _,.ret,h=>h.elim
 |.panicking _,.recovered,h=>h.elim
 |.recovered,.ret,h=>h.elim
 |.recovered,.panicking _,h=>h.elim
def ResR (Pr:Nat->Prop) (μ:List Nat) (w:J3) (s:AS) (e:TEx) (a:TAct) (σ:Sto) (m:TMode) (x:Option (Xe.Ex×Xe.Act×AS×Xe.Mode)):Prop:=
 ∃e' ax s' μ' w' m',x=some (e',ax,s',m')/\Rl Pr μ' w' a σ ax s'/\After w w' μ μ' s s'/\REx s'.get μ' (Zo w' Pr) e e'/\RMd s'.get μ' (Zo w' Pr) m m'
theorem ResR.after {w1:J3} {μ1:List Nat} {s1:AS} {e:TEx} {m:TMode} {x:Option (Xe.Ex×Xe.Act×AS×Xe.Mode)} (h:After w w1 μ μ1 s s1) (k:ResR Pr μ1 w1 s1 e a σ m x):ResR Pr μ w s e a σ m x:=by
 obtain ⟨e',ax,s',μ',w',m',k1,k2,k3,k4⟩:=k;exact ⟨e',ax,s',μ',w',m',k1,k2,h.trans k3,k4⟩
theorem B2K {X:Xe.Callee} {dst:Option Nat} {op:XOp} {guard:Option (Nat×Bool)} {ops:List XOper} {m:Xe.Mode} (hw:J4 ax guard=true) (h:op≠.recover):xopsR X (⟨dst,op,guard⟩::ops) ax s m=(match A0g X [⟨dst,op,guard⟩] ax s with
        |some (.normal,a,s)=>xopsR X ops a s m
        |some (e,a,s)=>some (e,a,s,m)
        |none=>none):=by
 rw [xopsR.eq_def];grind
theorem A6b {C:G5} {X:Xe.Callee} (hC:CallOk C X) {an:Ann} {b:Nat}:∀(ops:List XOper) {Pr:Nat->Prop} {μ:List Nat} {w:J3} {a:TAct} {σ:Sto} {ax:Xe.Act} {s:AS} {m:TMode} {mx:Xe.Mode} {e:TEx} {a':TAct} {σ':Sto} {m':TMode},
  topsR an b C ops a σ m=some (e,a',σ',m')->Rl Pr μ w a σ ax s->(∀i,Pr i->i<s.next)->RMd s.get μ (Zo w Pr) m mx->ResR Pr μ w s e a' σ' m' (xopsR X ops ax s mx)
 |[],Pr,μ,w,a,σ,ax,s,m,mx,e,a',σ',m',h,r,hP,hm=>by
  simp only [topsR] at h;cases h;exact ⟨.normal,ax,s,μ,w,mx,rfl,r,After.refl _ _ _,trivial,hm⟩
 |⟨dst,op,guard⟩::ops,Pr,μ,w,a,σ,ax,s,m,mx,e,a',σ',m',h,r,hP,hm=>by
  have ih:=@A6b C X hC an b ops;rw [topsR.eq_def] at h;cases hg:P8 a guard with
  |none=>grind
  |some c=>
   have hw:=r.wanted hg;cases c with
   |false=>
    rw [xopsR.eq_def];simp only [hg] at h;simp only [hw];obtain ⟨w1,r1,h1⟩:=r.putD dst (A1U _ _);exact (ih h r1 (h1.hP hP) (hm.mono (h1.mo r.dm))).after h1
   |true=>
    simp only [hg] at h
    have other:op≠.recover->(match A2Q an b C [⟨dst,op,guard⟩] a σ with
      |some (.normal,a,σ)=>topsR an b C ops a σ m
      |some (e,a,σ)=>some (e,a,σ,m)
      |none=>none)=some (e,a',σ',m')->ResR Pr μ w s e a' σ' m' (xopsR X (⟨dst,op,guard⟩::ops) ax s mx):=by
     intro hne h;rw [B2K hw hne];cases ht:A2Q an b C [⟨dst,op,guard⟩] a σ with
     |none=>rw [ht] at h;cases h
     |some p=>
      obtain ⟨e1,a1,σ1⟩:=p;rw [ht] at h;obtain ⟨e',ax1,s1,μ1,w1,k1,k2,k3,k4⟩:=A44 hC _ ht r hP;rw [k1];have hm1:=hm.mono (k3.mo r.dm);cases e1 with
      |normal=>
       cases e'<;>first|(exact k4.elim)|skip
       exact (ih h k2 (k3.hP hP) hm1).after k3
      |exit k=>
       cases h;cases e'<;>first|(exact k4.elim)|skip
       exact ⟨_,ax1,s1,μ1,w1,mx,rfl,k2,k3,k4,hm1⟩
      |ret=>
       cases h;cases e'<;>first|(exact k4.elim)|skip
       exact ⟨_,ax1,s1,μ1,w1,mx,rfl,k2,k3,k4,hm1⟩
      |panic v=>
       cases h;cases e'<;>first|(exact k4.elim)|skip
       exact ⟨_,ax1,s1,μ1,w1,mx,rfl,k2,k3,k4,hm1⟩
    cases op
    case recover=>
     rw [xopsR.eq_def];simp only [hw];cases m with
     |panicking v=>
      cases mx<;>first|(exact hm.elim)|skip
      simp only at h ⊢;obtain ⟨w1,r1,h1⟩:=r.putD dst (show RV s.get μ (Zo w Pr) v _ from hm);exact (ih (mx:=.recovered) h r1 (h1.hP hP) trivial).after h1
     |ret=>
      cases mx<;>first|(exact hm.elim)|skip
      simp only at h ⊢;obtain ⟨w1,r1,h1⟩:=r.putD dst (tv:=.nili) (v:=.nilIface) .nili;exact (ih (mx:=.ret) h r1 (h1.hP hP) trivial).after h1
     |recovered=>
      cases mx<;>first|(exact hm.elim)|skip
      simp only at h ⊢;obtain ⟨w1,r1,h1⟩:=r.putD dst (tv:=.nili) (v:=.nilIface) .nili;exact (ih (mx:=.recovered) h r1 (h1.hP hP) trivial).after h1
    all_goals exact other (by simp) h
theorem B1e {C:G5} {X:Xe.Callee} (hC:CallOk C X) {an:Ann} {b n:Nat}:∀(c:XCode) {Pr:Nat->Prop} {μ:List Nat} {w:J3} {a:TAct} {σ:Sto} {ax:Xe.Act} {s:AS} {m:TMode} {mx:Xe.Mode} {e:TEx} {a':TAct} {σ':Sto} {m':TMode},
  tcodeR an b C n c a σ m=some (e,a',σ',m')->Rl Pr μ w a σ ax s->(∀i,Pr i->i<s.next)->RMd s.get μ (Zo w Pr) m mx->ResR Pr μ w s e a' σ' m' (xcodeR X n c ax s mx):=by
 intro c
 have other:∀(c:XCode),(∀Pr μ w a σ ax s m mx e a' σ' m',(match B6 an b C n c a σ with|some (e,a,σ)=>some (e,a,σ,m)|none=>none)=some (e,a',σ',m')->Rl Pr μ w a σ ax s->(∀i,Pr i->i<s.next)->RMd s.get μ (Zo w Pr) m mx->
   ResR Pr μ w s e a' σ' m' (match G1 X n c ax s with|some (e,a,s)=>some (e,a,s,mx)|none=>none)):=by
  intro c Pr μ w a σ ax s m mx e a' σ' m' h r hP hm;split at h
  ·rename_i e1 a1 σ1 ht;cases h;obtain ⟨e',ax1,s1,μ1,w1,k1,k2,k3,k4⟩:=M7 hC c Pr μ w a σ ax s _ _ _ ht r hP;rw [k1];exact ⟨e',ax1,s1,μ1,w1,mx,rfl,k2,k3,k4,hm.mono (k3.mo r.dm)⟩
  ·cases h
 induction c with
 |skip=>intro Pr μ w a σ ax s m mx e a' σ' m' h r hP hm;rw [tcodeR.eq_def] at h;rw [xcodeR.eq_def];simp only at h ⊢;exact other .skip _ _ _ _ _ _ _ _ _ _ _ _ _ h r hP hm
 |exit id=>intro Pr μ w a σ ax s m mx e a' σ' m' h r hP hm;rw [tcodeR.eq_def] at h;rw [xcodeR.eq_def];simp only at h ⊢;exact other (.exit id) _ _ _ _ _ _ _ _ _ _ _ _ _ h r hP hm
 |ret=>intro Pr μ w a σ ax s m mx e a' σ' m' h r hP hm;rw [tcodeR.eq_def] at h;rw [xcodeR.eq_def];simp only at h ⊢;exact other .ret _ _ _ _ _ _ _ _ _ _ _ _ _ h r hP hm
 |loop c ih=>intro Pr μ w a σ ax s m mx e a' σ' m' h r hP hm;rw [tcodeR.eq_def] at h;rw [xcodeR.eq_def];simp only at h ⊢;exact other (.loop c) _ _ _ _ _ _ _ _ _ _ _ _ _ h r hP hm
 |regionD ops ps=>intro Pr μ w a σ ax s m mx e a' σ' m' h r hP hm;rw [tcodeR.eq_def] at h;rw [xcodeR.eq_def];simp only at h ⊢;exact other (.regionD ops ps) _ _ _ _ _ _ _ _ _ _ _ _ _ h r hP hm
 |region ops=>
  intro Pr μ w a σ ax s m mx e a' σ' m' h r hP hm;rw [tcodeR.eq_def] at h;rw [xcodeR.eq_def];simp only at h ⊢;grind [A6b]
 |seq x y ihx ihy=>
  intro Pr μ w a σ ax s m mx e a' σ' m' h r hP hm;rw [tcodeR.eq_def] at h;rw [xcodeR.eq_def];simp only at h ⊢;cases ht:tcodeR an b C n x a σ m with
  |none=>rw [ht] at h;cases h
  |some p=>
   obtain ⟨e1,a1,σ1,m1⟩:=p;rw [ht] at h;obtain ⟨e',ax1,s1,μ1,w1,mx1,k1,k2,k3,k4,k5⟩:=ihx ht r hP hm;rw [k1];cases e1 with
   |normal=>
    cases e'<;>first|(exact k4.elim)|skip
    exact (ihy h k2 (k3.hP hP) k5).after k3
   |exit k=>
    cases h;cases e'<;>first|(exact k4.elim)|skip
    grind
   |ret=>
    cases h;cases e'<;>first|(exact k4.elim)|skip
    grind
   |panic v=>
    cases h;cases e'<;>first|(exact k4.elim)|skip
    grind
 |cond c x y ihx ihy=>
  intro Pr μ w a σ ax s m mx e a' σ' m' h r hP hm;rw [tcodeR.eq_def] at h;rw [xcodeR.eq_def];simp only at h ⊢;split at h
  ·rename_i hc;have:=r.plainOf hc rfl
   revert this;generalize ax.ev c=z;intro this;cases this
   exact ihx h r hP hm
  ·rename_i hc;have:=r.plainOf hc rfl
   revert this;generalize ax.ev c=z;intro this;cases this
   exact ihy h r hP hm
  ·cases h
 |block id c ih=>
  intro Pr μ w a σ ax s m mx e a' σ' m' h r hP hm;rw [tcodeR.eq_def] at h;rw [xcodeR.eq_def];simp only at h ⊢;cases ht:tcodeR an b C n c a σ m with
  |none=>rw [ht] at h;cases h
  |some p=>
   obtain ⟨e1,a1,σ1,m1⟩:=p;rw [ht] at h;obtain ⟨e',ax1,s1,μ1,w1,mx1,k1,k2,k3,k4,k5⟩:=ih ht r hP hm;rw [k1];cases e1 with
   |normal=>
    cases h;cases e'<;>first|(exact k4.elim)|skip
    grind
   |exit k=>
    cases e'<;>first|(exact k4.elim)|skip
    have k4:_=k:=k4;subst k4;simp only at h ⊢;split at h
    ·rename_i hb;cases h;simp only [hb];exact ⟨.normal,ax1,s1,μ1,w1,mx1,rfl,k2,k3,trivial,k5⟩
    grind
   |ret=>
    cases h;cases e'<;>first|(exact k4.elim)|skip
    grind
   |panic v=>
    cases h;cases e'<;>first|(exact k4.elim)|skip
    grind
end
theorem R6 {k:Nat}:∀{l:List TV},below.belows k l=true↔∀v∈l,below k v=true
 |[]=>by simp [below.belows]
 |v::l=>by simp [below.belows,R6 (l:=l)]
theorem A6c {k:Nat}:∀{l:List (List TV)},below.belowss k l=true↔∀c∈l,below.belows k c=true
 |[]=>by simp [below.belowss]
 |v::l=>by simp [below.belowss,A6c (l:=l)]
mutual
theorem B8L (k:Nat):∀v:TV,below 0 v=true->below k v=true
 |.ptr i o,h=>by simp [below,G6] at h
 |.ref i _ _ _ _,h=>by simp [below,G6] at h
 |.map i,h=>by simp [below,G6] at h
 |.elt ch _,h=>by simp only [below] at h ⊢;exact A1x k ch h
 |.sl _ chs,h=>by simp only [below] at h ⊢;exact B2L k chs h
 |.func _ x y,h=>by simp only [below,Bool.and_eq_true] at h ⊢;exact ⟨A1x k x h.1,A1x k y h.2⟩
 |.iface _ v,h=>by simp only [below] at h ⊢;exact B8L k v h
 |.agg l,h=>by simp only [below] at h ⊢;exact A1x k l h
 |.tuple l,h=>by simp only [below] at h ⊢;exact A1x k l h
 |.int _ _,_=>rfl
 |.bool _,_=>rfl
 |.str _,_=>rfl
 |.nilp,_=>rfl
 |.via _ _,_=>rfl
 |.vel _ _ _ _,_=>rfl
 |.bx _ _ _,_=>rfl
 |.vpt _ _ _,_=>rfl
 |.nilm,_=>rfl
 |.nilf,_=>rfl
 |.nili,_=>rfl
 |.dead,_=>rfl
theorem A1x (k:Nat):∀l:List TV,below.belows 0 l=true->below.belows k l=true
 |[],_=>rfl
 |v::l,h=>by
  simp only [below.belows,Bool.and_eq_true] at h ⊢;exact ⟨B8L k v h.1,A1x k l h.2⟩
theorem B2L (k:Nat):∀l:List (List TV),below.belowss 0 l=true->below.belowss k l=true
 |[],_=>rfl
 |v::l,h=>by
  simp only [below.belowss,Bool.and_eq_true] at h ⊢;exact ⟨A1x k v h.1,B2L k l h.2⟩
end
theorem A5z (k:Nat) (v:TV):below k (frz v)=below k v:=by
 cases v<;>first|rfl|skip
 rename_i m c;cases m<;>rfl
def A0M (k:Nat) (o:TObj):Bool:=
 match o.body with
 |.cells vs _=>below.belows k vs
 |.map es _=>es.all fun e=>below k e.1&&below k e.2.1
 |.iter _ _=>true
structure Inv (k:Nat) (σ:Sto):Prop where
 le:k<=σ.length
 obj:∀k' o,k'<k->σ.at k'=some o->A0M k o=true
section
variable {a a':TAct} {σ σ':Sto} {k b:Nat}
theorem Sto.at_set (σ:Sto) (i:Nat) (o:TObj) (j:Nat) (x:TObj) (h:Sto.at (σ.set i (some o)) j=some x):(j=i/\x=o)\/σ.at j=some x:=by
 grind [Sto.at]
theorem Sto.at_app (σ:Sto) (o:TObj) (j:Nat) (x:TObj) (h:Sto.at (σ++[some o]) j=some x):j=σ.length\/σ.at j=some x:=by
 grind [Sto.at,left]
theorem Inv.set (h:Inv k σ) (i:Nat) (o:TObj) (ho:i<k->A0M k o=true):Inv k (σ.set i (some o)):=
 ⟨by simp;exact h.le,fun k' x hk e=>by
  rcases Sto.at_set σ i o k' x e with ⟨rfl,rfl⟩|e
  ·exact ho hk
  ·exact h.obj k' x hk e⟩
theorem Inv.app (h:Inv k σ) (o:TObj):Inv k (σ++[some o]):=
 ⟨by simp;have:=h.le;omega,fun k' x hk e=>by
  rcases Sto.at_app σ o k' x e with rfl|e
  ·have:=h.le;omega
  ·exact h.obj k' x hk e⟩
theorem A1i {vs l:List TV} {o:Nat} (h:below.belows k vs=true) (hl:below.belows k l=true):below.belows k (putAt vs o l)=true:=by
 grind [R6,putAt]
theorem A45 {vs:List TV} {o:Nat} {v:TV} (h:below.belows k vs=true) (hl:below k v=true):below.belows k (vs.set o v)=true:=by
 grind [R6]
theorem B4l {vs l:List TV} (h:below.belows k vs=true) (hs:∀x∈l,x∈vs):below.belows k l=true:=by
 grind [R6]
theorem B4m {l:List TV} (h:below.belows k l=true):below.belows k (l.map frz)=true:=by
 grind [R6,A5z]
theorem A1j {i:Nat} {l:List TV} (h:A3Y b i l=true) (hk:i<k) (hb:k<=b):below.belows k l=true:=by
 grind [A3Y,D4,A1x]
theorem Inv.del (h:Inv k σ) (i:Nat):Inv k (σ.set i none):=
 ⟨by simp;exact h.le,fun k' x hk e=>h.obj k' x hk (by
  unfold Sto.at at e ⊢;rw [List.getElem?_set] at e
  by_cases hi:i=k'
  ·rw [if_pos hi] at e;split at e
   ·rename_i y hy;split at hy<;>cases hy
   ·cases e
  ·rw [if_neg hi] at e;exact e)⟩
theorem A9L (h:Inv k σ) {f:TV->TV} {p:Pl} (hf:∀i o v vs ver e,p=.cell i o->i<k->σ.at i=some ⟨ver,.cells vs e⟩->vs[o]? =some v->below k v=true->below k (f v)=true):Inv k (A0u a σ f p).2:=by
 cases p with
 |tmp t=>exact h
 |tcell t o s=>
  grind [A0u]
 |cell i o=>
  simp only [A0u];split
  ·rename_i ver vs e hat;split
   ·rename_i v hv;refine h.set _ _ fun hk=> ?_
    have:=h.obj i _ hk hat;simp only [A0M] at this ⊢;exact A45 this (hf i o v vs ver e rfl hk hat hv (R6.1 this v (List.mem_of_getElem? hv)))
   ·exact h
  ·exact h
theorem B5x {md:Nat} {op:XOp} {v:TV} (h:Z5 md b a σ op=some (v,a',σ')) (hb:k<=b) (hi:Inv k σ):Inv k σ':=by
 cases op<;>simp only [Z5,A4R,A5v] at h<;>try (first|(cases h;exact hi)|((repeat' split at h)<;>first|(cases h;exact hi)|(cases h;done)|(cases h;exact hi.app _)))
 case move x=>
  simp_all [B5r]<;>grind
 case load1 p=>
  revert h;generalize a.at p=q;intro h
  cases q<;>simp only [B0Z] at h<;>((repeat' split at h)<;>first|(cases h;exact hi)|(cases h;done)|skip)
  ·rename_i i o _ ver vs e hat _ v0 hv0 _ _ _;cases h;refine hi.set _ _ fun hk=> ?_
   have:=hi.obj i _ hk hat;simp only [A0M] at this ⊢;exact A45 this rfl
  ·rename_i i o _ ver vs e hat _ v0 hv0 _ _ _;cases h;refine hi.set _ _ fun hk=> ?_
   have:=hi.obj i _ hk hat;simp only [A0M] at this ⊢;exact A45 this (by rw [A5z];exact R6.1 this v0 (List.mem_of_getElem? hv0))
 case loadN n p=>
  revert h;generalize a.at p=q;intro h
  cases q<;>simp only [B10] at h<;>((repeat' split at h)<;>first|(cases h;exact hi)|(cases h;done)|skip)
  rename_i i o _ ver vs e hat _ _ _ _;cases h;refine hi.set _ _ fun hk=> ?_
  have:=hi.obj i _ hk hat;grind [A0M,A1i,B4m,B4l]
 case store n p x=>
  revert h;generalize a.at p=q;intro h
  cases q<;>simp only [B11] at h<;>((repeat' split at h)<;>first|(cases h;exact hi)|(cases h;done)|skip)
  ·rename_i i o _ ver vs e hat _ hc;cases h;simp only [Bool.and_eq_true] at hc;refine hi.set _ _ fun hk=> ?_
   have:=hi.obj i _ hk hat;grind [A0M,A1i,A1j]
  ·rename_i pp c j o _ hcc _ _ chs gv hp hgv _ ch hch _ hc;cases h;simp only [Bool.and_eq_true] at hc;refine A9L hi fun i o' v0 vs ver e hpp hk hat hv0 hbl=> ?_
   subst hpp;simp only [K6,hat,hv0] at hp;obtain ⟨_,e',sz,rfl⟩:=T7 hp;simp only [B6w,below] at hbl ⊢;rw [A6c] at hbl ⊢;intro x hx;rcases List.mem_or_eq_of_mem_set hx with hx|rfl
   ·exact hbl x hx
   ·exact A1i (hbl ch (List.mem_of_getElem? hch)) (A1j hc.2 hk hb)
 case slice size x lo hi' mx=>
  revert h;generalize a.ev x=q;intro h
  cases q<;>simp only [B12] at h<;>((repeat' split at h)<;>first|(cases h;exact hi)|(cases h;done)|skip)
  grind [A9L,A5z]
 case indexAddr size x i=>
  split at h
  ·revert h;generalize a.ev x=q;intro h
   cases q<;>(try (rename_i m c;cases m))<;>simp only [A3Z] at h<;>(repeat' split at h)<;>first|(cases h;exact hi)|(cases h;done)
  ·cases h
 case mapUpdate kk m x v=>
  split at h
  ·rename_i r hr;cases h;simp only [A2i] at hr;split at hr
   ·rename_i i x1 v1 hm gx gv;split at hr
    ·rename_i ver es ck hat;split at hr
     ·rename_i hbo;split at hr
      ·cases hr;refine hi.set _ _ fun hk=> ?_
       have h1:=hi.obj i _ hk hat;have h2:=A1j hbo hk hb;simp only [A0M,below.belows,Bool.and_true,Bool.and_eq_true] at h1 h2 ⊢;rw [List.all_eq_true] at h1 ⊢;intro y hy;obtain ⟨j,hj⟩:=List.getElem?_of_mem hy;grind
      ·cases hr;refine hi.set _ _ fun hk=> ?_
       have h1:=hi.obj i _ hk hat;have h2:=A1j hbo hk hb;simp only [A0M,below.belows,Bool.and_true,Bool.and_eq_true] at h1 h2 ⊢;grind
      ·cases hr
     ·cases hr
    ·cases hr
   ·cases hr
  ·cases h
 case append e size bytes x y=>
  split at h
  ·have hh:∀{v:TV} {a':TAct} {σ':Sto} {new:List (List TV)},U7 a σ e size bytes x new=some (v,a',σ')->Inv k σ':=by
    intro v a' σ' new h;unfold U7 at h
    (repeat' split at h)<;>first|(cases h;exact hi)|(cases h;done)|(cases h;exact (hi.del _).app _)|(cases h;exact hi.app _)
   split at h
   ·unfold A2h at h;split at h
    ·split at h
     ·cases h;exact hi.app _
     ·cases h
    ·exact hh h
   ·exact hh h
  ·cases h
 case appendZ e z bytes x n=>
  split at h
  ·split at h
   ·unfold U7 at h
    (repeat' split at h)<;>first|(cases h;exact hi)|(cases h;done)|(cases h;exact (hi.del _).app _)|(cases h;exact hi.app _)
   ·cases h
  ·cases h
 case copy size x y=>
  split at h
  ·unfold B8g at h;split at h
   ·rename_i i o sz n c hx;split at h
    ·rename_i ver vs e hat;split at h
     ·rename_i hc;simp only [Bool.and_eq_true] at hc;split at h
      ·cases h;exact hi
      ·rename_i m hm;cases h;refine hi.set _ _ fun hk=> ?_
       have h1:=hi.obj i _ hk hat;grind [A1j,A0M,A1i]
     ·cases h
    ·cases h
   ·cases h
  ·cases h
end
structure InvC (C:G5):Prop where
 call:∀{b f:Nat} {args:List TV} {σ:Sto} {e:TEnd} {σ':Sto} {k:Nat},C b f args σ=some (e,σ')->k<=b->Inv k σ->Inv k σ'
section
variable {C:G5} {an:Ann} {b n k:Nat}
theorem A7T (hC:InvC C) (hb:k<=b):∀(ops:List XOper) {a:TAct} {σ:Sto} {e:TEx} {a':TAct} {σ':Sto},A2Q an b C ops a σ=some (e,a',σ')->Inv k σ->Inv k σ'
 |[],a,σ,e,a',σ',h,hi=>by simp only [A2Q] at h;cases h;exact hi
 |⟨dst,op,guard⟩::ops,a,σ,e,a',σ',h,hi=>by
  have ih:=@A7T hC hb ops;rw [A2Q] at h;cases hg:P8 a guard with
  |none=>grind
  |some c=>
   cases c with
   |false=>grind
   |true=>
    simp only [hg] at h;cases op
    case call f args=>
     simp only at h;split at h
     ·split at h
      ·rename_i hc;exact ih h (hC.call hc hb hi)
      ·rename_i hc;cases h;exact hC.call hc hb hi
      ·cases h
     ·cases h
    case callV x args=>
     simp only at h;split at h
     ·split at h
      ·split at h
       ·rename_i hc;exact ih h (hC.call hc hb hi)
       ·rename_i hc;cases h;exact hC.call hc hb hi
       ·cases h
      ·cases h
     ·cases h
    case panic x=>
     grind
    case defer x args=>
     grind
    all_goals
     simp only at h;split at h
     ·rename_i hd;exact ih h (B5x hd hb hi)
     ·cases h
theorem A9M (hC:InvC C) (hb:k<=b):∀(ops:List XOper) {a:TAct} {σ:Sto} {l l':List TRec} {a':TAct} {σ':Sto},A01 an b C ops a σ l=some (a',σ',l')->Inv k σ->Inv k σ'
 |[],a,σ,l,l',a',σ',h,hi=>by simp only [A01] at h;cases h;exact hi
 |⟨dst,op,guard⟩::ops,a,σ,l,l',a',σ',h,hi=>by
  have ih:=@A9M hC hb ops;rw [A01] at h;cases hg:P8 a guard with
  |none=>grind
  |some c=>
   cases c with
   |false=>grind
   |true=>
    simp only [hg] at h;cases op
    case call f args=>
     simp only at h;split at h
     ·split at h
      ·rename_i hc;exact ih h (hC.call hc hb hi)
      ·cases h
     ·cases h
    case callV x args=>
     simp only at h;split at h
     ·split at h
      ·split at h
       ·rename_i hc;exact ih h (hC.call hc hb hi)
       ·cases h
      ·cases h
     ·cases h
    all_goals
     simp only at h;split at h
     ·rename_i hd;exact ih h (B5x hd hb hi)
     ·cases h
theorem A9N {t:TAct->Sto->Option (TEx×TAct×Sto)} (ht:∀a σ e a' σ',t a σ=some (e,a',σ')->Inv k σ->Inv k σ'):∀n a σ e a' σ',A2z t n a σ=some (e,a',σ')->Inv k σ->Inv k σ'
 |0,a,σ,e,a',σ',h,hi=>by simp only [A2z] at h;cases h
 |n+1,a,σ,e,a',σ',h,hi=>by
  simp only [A2z] at h;split at h
  ·rename_i h1;exact A9N ht n _ _ _ _ _ h (ht _ _ _ _ _ h1 hi)
  grind
theorem N2 (hC:InvC C) (hb:k<=b):∀(c:XCode) (a:TAct) (σ:Sto) (e:TEx) (a':TAct) (σ':Sto),B6 an b C n c a σ=some (e,a',σ')->Inv k σ->Inv k σ'
 |.skip,a,σ,e,a',σ',h,hi=>by simp only [B6] at h;cases h;exact hi
 |.exit id,a,σ,e,a',σ',h,hi=>by simp only [B6] at h;cases h;exact hi
 |.ret,a,σ,e,a',σ',h,hi=>by simp only [B6] at h;cases h;exact hi
 |.region ops,a,σ,e,a',σ',h,hi=>by simp only [B6] at h;exact A7T hC hb ops h hi
 |.regionD ops ps,a,σ,e,a',σ',h,hi=>by
  grind [B6,A9M]
 |.seq x y,a,σ,e,a',σ',h,hi=>by
  simp only [B6] at h;split at h
  ·rename_i h1;exact N2 hC hb y _ _ _ _ _ h (N2 hC hb x _ _ _ _ _ h1 hi)
  ·exact N2 hC hb x _ _ _ _ _ h hi
 |.cond c x y,a,σ,e,a',σ',h,hi=>by
  simp only [B6] at h;split at h
  ·exact N2 hC hb x _ _ _ _ _ h hi
  ·exact N2 hC hb y _ _ _ _ _ h hi
  ·cases h
 |.block id c,a,σ,e,a',σ',h,hi=>by
  simp only [B6] at h;split at h
  ·rename_i h1;have:=N2 hC hb c _ _ _ _ _ h1 hi;grind
  ·exact N2 hC hb c _ _ _ _ _ h hi
 |.loop c,a,σ,e,a',σ',h,hi=>by
  simp only [B6] at h;exact A9N (fun a σ e a' σ' h hi=>N2 hC hb c a σ e a' σ' h hi) n _ _ _ _ _ h hi
theorem A9O (hC:InvC C) (hb:k<=b):∀(ops:List XOper) {a:TAct} {σ:Sto} {m:TMode} {e:TEx} {a':TAct} {σ':Sto} {m':TMode},topsR an b C ops a σ m=some (e,a',σ',m')->Inv k σ->Inv k σ'
 |[],a,σ,m,e,a',σ',m',h,hi=>by simp only [topsR] at h;cases h;exact hi
 |⟨dst,op,guard⟩::ops,a,σ,m,e,a',σ',m',h,hi=>by
  have ih:=@A9O hC hb ops;rw [topsR.eq_def] at h;grind [P8,A7T]
theorem B4n (hC:InvC C) (hb:k<=b) (c:XCode):∀(a:TAct) (σ:Sto) (m:TMode) (e:TEx) (a':TAct) (σ':Sto) (m':TMode),tcodeR an b C n c a σ m=some (e,a',σ',m')->Inv k σ->Inv k σ':=by
 induction c with
 |region ops=>intro a σ m e a' σ' m' h hi;rw [tcodeR.eq_def] at h;simp only at h;exact A9O hC hb ops h hi
 |seq x y ihx ihy=>
  intro a σ m e a' σ' m' h hi;rw [tcodeR.eq_def] at h;simp only at h;grind
 |cond c x y ihx ihy=>
  intro a σ m e a' σ' m' h hi;rw [tcodeR.eq_def] at h;simp only at h;grind
 |block id c ih=>
  intro a σ m e a' σ' m' h hi;rw [tcodeR.eq_def] at h;simp only at h;grind
 |_=>
  intro a σ m e a' σ' m' h hi;rw [tcodeR.eq_def] at h;simp only at h;grind [N2]
theorem Y7 (hC:InvC C) {F:FuncId->Option TFun} (hb:k<=b):∀(l:List TDfr) (σ:Sto) (m:TMode) (σ':Sto) (m':TMode),P9 C F b n l σ m=some (σ',m')->Inv k σ->Inv k σ'
 |[],σ,m,σ',m',h,hi=>by simp only [P9] at h;cases h;exact hi
 |d::r,σ,m,σ',m',h,hi=>by
  simp only [P9] at h;split at h
  ·split at h
   ·rename_i h1;have:=B4n hC hb _ _ _ _ _ _ _ _ h1 hi;split at h
    ·exact Y7 hC hb r _ _ _ _ h this
    ·exact Y7 hC hb r _ _ _ _ h this
    ·cases h
   ·cases h
  ·cases h
theorem Inv.take {σ σ':Sto} (h:Inv k σ') (h0:Inv k σ):Inv k (σ'.take σ.length):=by
 refine ⟨by rw [List.length_take];have:=h.le;have:=h0.le;omega,fun k' o hk e=>h.obj k' o hk ?_⟩;grind [Sto.at]
theorem B4o {keep:Bool} {σ σ' σ2:Sto} {v v':TV} (h:A2j keep σ.length σ' v=some (v',σ2)) (hi:Inv k σ') (h0:Inv k σ):Inv k σ2:=by
 unfold A2j at h;split at h
 ·cases h;exact hi
 ·split at h
  ·cases h;exact hi.take h0
  ·cases h
theorem A2W {a:TAct} {fn:TFun} {σ σ' σ2:Sto} {m:TMode} {e:TEnd} (h:M2 a fn σ.length σ' m=some (e,σ2)) (hi:Inv k σ') (h0:Inv k σ):Inv k σ2:=by
 unfold M2 at h;grind [B4o]
theorem A6d (k:Nat):∀zs:List Int,below.belows k (encZT zs)=true
 |[]=>rfl
 |z::zs=>by simp only [encZT,List.map_cons,below.belows,below,Bool.true_and];exact A6d k zs
theorem B8M {v:TV} {args:List TV} {σ σ':Sto} {e:TEnd} {k:Nat} (h:A94 v args σ=some (e,σ')) (hi:Inv k σ):Inv k σ':=by
 unfold A94 at h;split at h
 ·unfold B8j at h;split at h
  ·split at h
   ·cases h;exact hi
   ·rename_i hk;split at h
    ·cases h;refine hi.set _ _ fun hlt=> ?_
     have:=hi.obj _ _ hlt hk;exact A1i this (A6d _ _)
    ·cases h
   ·cases h
  ·cases h;exact hi
  ·cases h
 ·cases h;exact hi
 ·cases h
theorem A9P {F:FuncId->Option TFun} {O:FuncId->List TV->Option TV}:∀n,InvC (A4 F O n)
 |0=>⟨fun h _ _=>by simp only [A4] at h;cases h⟩
 |n+1=>⟨fun {b f args σ e σ' k} h hb hi=>by
  have ih:=@A9P F O n;simp only [A4] at h;split at h
  ·rename_i fn hf;have hb2:k<=W2 fn.keep b σ.length:=by
    unfold W2;split
    ·exact hb
    ·exact hi.le
   split at h
   ·cases h;exact hi
   split at h
   ·rename_i h1;have i1:=N2 ih hb2 _ _ _ _ _ _ h1 hi;split at h
    ·rename_i h2;exact A2W h (Y7 ih hb2 _ _ _ _ _ h2 i1) hi
    ·cases h
   ·rename_i h1;have i1:=N2 ih hb2 _ _ _ _ _ _ h1 hi;split at h
    ·rename_i h2;exact A2W h (Y7 ih hb2 _ _ _ _ _ h2 i1) hi
    ·cases h
   ·rename_i h1;have i1:=N2 ih hb2 _ _ _ _ _ _ h1 hi;split at h
    ·rename_i h2;exact A2W h (Y7 ih hb2 _ _ _ _ _ h2 i1) hi
    ·cases h
   ·cases h
  ·split at h
   ·exact B8M h hi
   ·cases h⟩
end
theorem A0z {k:Nat}:∀{chs:List (List TV)},below.belows k chs.flatten=below.belowss k chs
 |[]=>rfl
 |c::chs=>by
  have h:∀x y:List TV,below.belows k (x++y)=(below.belows k x&&below.belows k y):=by
   intro x y
   induction x with
   |nil=>simp [below.belows]
   |cons v x ih=>simp [below.belows,ih,Bool.and_assoc]
  rw [List.flatten_cons,h,A0z];rfl
section
variable {g:Hp} {μ:List Nat} {Z Z':Nat->Prop}
mutual
theorem RV.isBelow:∀{tv:TV} {v:Value},RV g μ Z tv v->Xt.below μ.length tv=true
 |_,_,.int k n=>rfl
 |_,_,.bool b=>rfl
 |_,_,.str s=>rfl
 |_,_,.nilp=>rfl
 |_,_,.ptr e=>by simp only [Xt.below,G6];exact decide_eq_true (List.getElem?_eq_some_iff.1 e).1
 |_,_,.elt a b c d=>by simp only [Xt.below];exact d.areBelow
 |_,_,.fz a b c d e f m k=>by simp only [Xt.below];rw [<-A0z];exact k.areBelow
 |_,_,.fz0 b c=>rfl
 |_,_,.nl=>rfl
 |_,_,.ref e n=>by simp only [Xt.below,G6];exact decide_eq_true (List.getElem?_eq_some_iff.1 e).1
 |_,_,.nilm=>rfl
 |_,_,.map e=>by simp only [Xt.below,G6];exact decide_eq_true (List.getElem?_eq_some_iff.1 e).1
 |_,_,.nilf=>rfl
 |_,_,.func f a b=>by simp only [Xt.below,a.areBelow,b.areBelow,Bool.and_self]
 |_,_,.nili=>rfl
 |_,_,.iface t a=>by simp only [Xt.below];exact a.isBelow
 |_,_,.agg a=>by simp only [Xt.below];exact a.areBelow
 |_,_,.tuple a=>by simp only [Xt.below];exact a.areBelow
 |_,_,.dead v=>rfl
theorem RVs.areBelow:∀{l:List TV} {l':List Value},RVs g μ Z l l'->below.belows μ.length l=true
 |_,_,.nil=>rfl
 |_,_,.cons a b=>by simp only [below.belows,a.isBelow,b.areBelow,Bool.and_self]
end
mutual
theorem RV.cut {ν:List Nat} (hz:∀i,Z i->Z' i):∀{tv:TV} {v:Value},RV g (μ++ν) Z tv v->Xt.below μ.length tv=true->RV g μ Z' tv v
 |_,_,.int k n,_=>.int k n
 |_,_,.bool b,_=>.bool b
 |_,_,.str s,_=>.str s
 |_,_,.nilp,_=>.nilp
 |_,_,.ptr e,h=>by
  simp only [Xt.below,G6] at h;constructor<;>grind
 |_,_,.elt a b c d,h=>by simp only [Xt.below] at h;exact .elt (hz _ a) b c (d.cut hz h)
 |_,_,.fz a b c d e f m k,h=>by simp only [Xt.below] at h;rw [<-A0z] at h;exact .fz (hz _ a) b c d e f m (k.cut hz h)
 |_,_,.fz0 b c,_=>.fz0 b c
 |_,_,.nl,_=>.nl
 |_,_,.ref e n,h=>by
  simp only [Xt.below,G6] at h;constructor<;>grind
 |_,_,.nilm,_=>.nilm
 |_,_,.map e,h=>by
  simp only [Xt.below,G6] at h;constructor<;>grind
 |_,_,.nilf,_=>.nilf
 |_,_,.func f a b,h=>by simp only [Xt.below,Bool.and_eq_true] at h;exact .func f (a.cut hz h.1) (b.cut hz h.2)
 |_,_,.nili,_=>.nili
 |_,_,.iface t a,h=>by simp only [Xt.below] at h;exact .iface t (a.cut hz h)
 |_,_,.agg a,h=>by simp only [Xt.below] at h;exact .agg (a.cut hz h)
 |_,_,.tuple a,h=>by simp only [Xt.below] at h;exact .tuple (a.cut hz h)
 |_,_,.dead v,_=>.dead v
theorem RVs.cut {ν:List Nat} (hz:∀i,Z i->Z' i):∀{l:List TV} {l':List Value},RVs g (μ++ν) Z l l'->below.belows μ.length l=true->RVs g μ Z' l l'
 |_,_,.nil,_=>.nil
 |_,_,.cons a b,h=>by simp only [below.belows,Bool.and_eq_true] at h;exact .cons (a.cut hz h.1) (b.cut hz h.2)
end
mutual
theorem RV.canon:∀{tv:TV} {v:Value},RV g μ Z tv v->RV g μ Z (Xt.canon tv) v
 |_,_,.int k n=>.int k n
 |_,_,.bool b=>.bool b
 |_,_,.str s=>.str s
 |_,_,.nilp=>.nilp
 |_,_,.ptr e=>.ptr e
 |_,_,.elt a b c d=>.elt a b c d
 |_,_,.fz a b c d e f m k=>.fz a b c d e f m k
 |_,_,.fz0 b c=>.fz0 b c
 |_,_,.nl=>.fz0 none 0
 |_,_,.ref e n=>.ref e n
 |_,_,.nilm=>.nilm
 |_,_,.map e=>.map e
 |_,_,.nilf=>.nilf
 |_,_,.func f a b=>.func f a b
 |_,_,.nili=>.nili
 |_,_,.iface t a=>.iface t a
 |_,_,.agg a=>.agg a.canon
 |_,_,.tuple a=>.tuple a.canon
 |_,_,.dead v=>.dead v
theorem RVs.canon:∀{l:List TV} {l':List Value},RVs g μ Z l l'->RVs g μ Z (canon.canons l) l'
 |_,_,.nil=>.nil
 |_,_,.cons a b=>.cons a.canon b.canon
end
theorem RO.isBelow {i:Nat} {tv:TV} {v:Value} (h:RO g μ Z i tv v):Xt.below μ.length tv=true:=by
 cases h with
 |mk a b c d e f k=>simp only [Xt.below];rw [<-A0z];exact k.areBelow
theorem RO.cut {ν:List Nat} (hz:∀i,Z i->Z' i) {i:Nat} {tv:TV} {v:Value} (h:RO g (μ++ν) Z i tv v) (hb:Xt.below μ.length tv=true):RO g μ Z' i tv v:=by
 cases h with
 |mk a b c d e f k=>simp only [Xt.below] at hb;rw [<-A0z] at hb;exact .mk a b c d e f (k.cut hz hb)
theorem RCs.areBelow {ow:Nat->Option Nat} {cs:List TV} {vs:List Value} (r:RCs g μ Z ow cs vs):below.belows μ.length cs=true:=by
 rw [R6];intro v hv;obtain ⟨j,hj⟩:=List.getElem?_of_mem hv;obtain ⟨v',h1,h2⟩:=r.at hj
 revert h2
 cases ow j with
 |none=>exact RV.isBelow
 |some i=>exact RO.isBelow
end
section
variable {Pr:Nat->Prop} {μ μ':List Nat} {w w':J3} {a a':TAct} {σ σ':Sto} {ax ax':Xe.Act} {s s':AS}
theorem Rs.inv (r:Rs Pr μ w σ s):Inv σ.length σ:=by
 refine ⟨Nat.le_refl _,fun k o hk e=> ?_⟩;obtain ⟨i,b,h1,h2,h3⟩:=r.obj k o e;rw [<-r.len];unfold A0M
 revert h3
 cases o.body<;>cases b<;>intro h3<;>simp only [RB] at h3<;>first|(exact h3.elim)|skip
 ·exact h3.2.2.areBelow
 ·rw [List.all_eq_true];intro x hx;obtain ⟨j,hj⟩:=List.getElem?_of_mem hx;rename_i es ck es' ck';have hlt:=(List.getElem?_eq_some_iff.1 hj).1;have:es'[j]? =some es'[j]:=List.getElem?_eq_getElem (by rw [h3.2.1];exact hlt);obtain ⟨q1,q2,_⟩:=h3.2.2.1 j _ _ hj this;simp only [q1.isBelow,q2.isBelow,Bool.and_self]
 ·rfl
def A3x (k:Nat) (w:J3):J3
 |.obj k'=>if k'<k then w (.obj k') else none
 |.cell k' c=>if k'<k then w (.cell k' c) else none
 |_=>none
theorem B1f (k:Nat) (w:J3) (p:Pc) (i:Nat) (h:A3x k w p=some i):w p=some i:=by
 simp_all [A3x]<;>grind
theorem B6P (k:Nat) (w:J3):OnlyS (A3x k w):=⟨fun _=>rfl,fun _ _=>rfl,fun _=>rfl⟩
theorem Rs.cutS {ν:List Nat} (r:Rs Pr (μ++ν) w σ s) (hi:Inv μ.length σ):Rs Pr μ (A3x μ.length w) (σ.take μ.length) s:=by
 have hsub:=B1f μ.length w;have hz:∀i,Zo w Pr i->Zo (A3x μ.length w) Pr i:=fun i z=>z.sub hsub
 have hat:∀k o,Sto.at (σ.take μ.length) k=some o->k<μ.length/\σ.at k=some o:=fun k o e=>by
  grind [Sto.at]
 refine ⟨r.dm,by rw [List.length_take];have:=hi.le;omega,fun p q i e f=>r.inj p q i (hsub p i e) (hsub q i f),fun p i e=>r.pr p i (hsub p i e),fun p i e=>r.live p i (hsub p i e),fun k=> ?_,fun k c hk=> ?_,fun k o e=> ?_,trivial⟩
 ·simp only [A3x]
  by_cases h:k<μ.length
  ·rw [if_pos h,r.wobj,List.getElem?_append_left h]
  grind
 ·rw [List.length_take] at hk;have:=hi.le;grind [A3x]
 ·obtain ⟨hk,e⟩:=hat k o e;obtain ⟨i,b,h1,h2,h3⟩:=r.obj k o e;rw [List.getElem?_append_left hk] at h1;refine ⟨i,b,h1,h2,?_⟩;have hb:=hi.obj k o hk e;unfold A0M at hb
  revert h3 hb
  have hc:∀c,A3x μ.length w (.cell k c)=w (.cell k c):=fun c=>by simp only [A3x,if_pos hk]
  cases o.body<;>cases b<;>intro h3 hb<;>simp only [RB] at h3 ⊢<;>first|(exact h3.elim)|skip
  ·refine ⟨h3.1,h3.2.1,h3.2.2.len,fun j tv v q1 q2=> ?_,fun j hj=>(hc j).trans (h3.2.2.out j hj)⟩;have q3:=h3.2.2.get j tv v q1 q2;have q4:=R6.1 hb tv (List.mem_of_getElem? q1);simp only [hc]
   revert q3
   cases w (.cell k j) with
   |none=>exact fun q3=>RV.cut hz q3 q4
   |some i=>exact fun q3=>RO.cut hz q3 q4
  ·refine ⟨h3.1,h3.2.1,fun j x y q1 q2=> ?_,fun c=>(hc c).trans (h3.2.2.2 c)⟩;obtain ⟨p1,p2,p3⟩:=h3.2.2.1 j x y q1 q2;have:=List.all_eq_true.1 hb x (List.mem_of_getElem? q1);simp only [Bool.and_eq_true] at this;exact ⟨p1.cut hz this.1,p2.cut hz this.2,p3⟩
  ·exact ⟨h3.1,h3.2.1,fun c=>(hc c).trans (h3.2.2 c)⟩
theorem A7U {α:Type}:∀(l:List α) (k:Nat) (t:Tri α) (j:Nat),(Tri.ofList l k t).get j=if k<=j/\j<k+l.length then l[j - k]? else t.get j
 |[],k,t,j=>by
  simp only [Tri.ofList,List.length_nil,Nat.add_zero];rw [if_neg (by omega)]
 |x::l,k,t,j=>by
  rw [Tri.ofList,A7U l (k+1) (t.set k x) j,Tri.get_set];simp only [List.length_cons]
  by_cases h1:k=j
  ·subst h1;rw [if_neg (by omega),if_pos rfl,if_pos (by omega)];simp
  ·by_cases h2:k+1<=j/\j<k+1+l.length
   ·rw [if_pos h2,if_pos (by omega),show j - k=(j - (k+1))+1 by omega];simp
   ·rw [if_neg h2,if_neg h1,if_neg (by omega)]
theorem Rs.enter (r:Rs Pr μ w σ s) (ho:OnlyS w) {args:List TV} {args':List Value} (ha:RVs s.get μ (Zo w Pr) args args'):Rl Pr μ w (A1H args) σ (A0H args') s:=by
 have hrv:∀t,RV s.get μ (Zo w Pr) ((A1H args).ev (.tmp t)) ((A0H args').ev (.tmp t)):=by
  intro t;simp only [A1H,A0H,TAct.ev,Act.ev,A7U,ha.length]
  by_cases h:0<=t/\t<0+args.length
  ·rw [if_pos h,if_pos h];have hlt:t - 0<args.length:=by have:=h.2;rw [Nat.zero_add] at this;exact this
   obtain ⟨v',h1,h2⟩:=ha.get (List.getElem?_eq_getElem hlt);grind
  ·rw [if_neg h,if_neg h,Tri.get_nil,Tri.get_nil];exact A1U _ _
 refine ⟨r,fun t=>.plain (hrv t) (ho.tmp t) (ho.tcell t),fun t=> ?_,trivial⟩;have:=(hrv t).notown.2.2.1
 revert this
 generalize (A1H args).ev (.tmp t)=x;intro this;cases x<;>first|trivial|cases this
theorem Rs.out' (r:Rs Pr μ w σ s):Rs Pr μ (sto w) σ s:=r.sub (Y0 w) (fun _=>rfl) (fun _ _=>rfl)
theorem B5y {v v':TV} (h:give v=some v') (hp:pl v=true):v'=v:=by
 cases v<;>simp only [give] at h<;>first|(cases h;rfl)|(cases h;done)|(simp [pl] at hp;done)|skip
 rename_i m c;cases m<;>simp only [give] at h<;>first|(cases h;rfl)|(simp [pl] at hp)
theorem B8N (r:Rl Pr μ w a σ ax s) {x:XRes} {tv tv':TV} (h:A93 a σ x=some tv) (hg:give tv=some tv'):∃v,A5i ax s x=some v/\RV s.get μ (Zo (sto w) Pr) tv' v:=by
 have hmo:=Mo.sub (g:=s.get) (μ:=μ) (Pr:=Pr) (Y0 w)
 have hz:∀{p:Pc} {i:Nat},w p=some i->(∀k,p≠.obj k)->(∀k c,p≠.cell k c)->Zo (sto w) Pr i:=fun {p i} e h1 h2=>⟨fun q f=>by
  have:=r.inj _ _ _ (Y0 w q i f) e;subst this
  cases q<;>first|(cases f;done)|(exact h1 _ rfl)|(exact h2 _ _ rfl),r.pr _ _ e⟩
 cases x with
 |tmp t=>
  simp only [A93,Option.some.injEq] at h;refine ⟨ax.ev (.tmp t),rfl,?_⟩;subst h;cases ho:D1 (a.ev (.tmp t)) with
  |true=>
   obtain ⟨i,h1,h2⟩:=r.ownOf ho;obtain ⟨g1,g2⟩:=A1T hg;rw [g1];exact RO.frz (h2.mono hmo rfl) (hz h1 (by simp) (by simp))
  |false=>
   obtain ⟨g1,g2⟩:=A1T hg;rw [A2R ho] at g1;exact (r.plainOf g1.symm g2).mono hmo
 |cell1 t=>
  simp only [A93] at h;simp only [A5i];split at h
  ·rename_i ser cs e hb;obtain ⟨hbx,i,ver,vs,k1,k2,k3,k4⟩:=r.boxOf (A1W hb);obtain ⟨v',q1,q2⟩:=k4.at h;rw [k2];simp only [A0s k3 q1];refine ⟨v',rfl,?_⟩;cases ho:D1 tv with
   |true=>
    obtain ⟨j,q3,q4⟩:=q2.ownOf ho;obtain ⟨g1,g2⟩:=A1T hg;rw [g1];exact RO.frz (q4.mono hmo rfl) (hz q3 (by simp) (by simp))
   |false=>
    obtain ⟨_,q3⟩:=q2.plainOf ho;rw [B5y hg q3.pl];exact q3.mono hmo
  ·rename_i k o hp;split at h
   ·rename_i ver cs e hat;split at h
    ·rename_i v0 hv0;split at h
     ·cases h
     ·rename_i ho;cases h;have h1:=r.plainOf hp rfl
      revert h1;generalize ax.ev (.tmp t)=y;intro h1;cases h1
      rename_i i hm;obtain ⟨i',vs,k1,k2,k3⟩:=r.objOf hat;rw [hm] at k1;cases k1;obtain ⟨v',q1,q2⟩:=k3.at hv0;simp only [A0s k2 q1];obtain ⟨_,q3⟩:=q2.plainOf ho;exact ⟨v',rfl,by rw [B5y hg q3.pl];exact q3.mono hmo⟩
    ·cases h
   ·cases h
  ·cases h
 |cellN t n=>
  simp only [A93] at h;simp only [A5i];split at h
  ·rename_i ser cs e hb;split at h
   ·rename_i hle;rw [D4] at hle;have hle:=of_decide_eq_true hle;cases h;obtain ⟨hbx,i,ver,vs,k1,k2,k3,k4⟩:=r.boxOf (A1W hb);rw [k2];simp only [H7 k3 (o:=0) (n:=n) (by rw [k4.len];omega)];refine ⟨_,rfl,?_⟩;simp only [give] at hg;cases hg;have:=A7H (w':=sto w) (P:=fun o=>.tcell t o) (o:=0) (n:=n) k4 r.inj r.pr (by omega) (Y0 w) (fun j _ _=>rfl);constructor<;>grind
   ·cases h
  ·rename_i k o hp;split at h
   ·rename_i ver cs e hat;split at h
    ·rename_i hb;simp only [Bool.and_eq_true] at hb;cases h;obtain ⟨b1,b2⟩:=hb;rw [D4] at b1;have b1:=of_decide_eq_true b1;have h1:=r.plainOf hp rfl
     revert h1;generalize ax.ev (.tmp t)=y;intro h1;cases h1
     rename_i i hm;obtain ⟨i',vs,k1,k2,k3⟩:=r.objOf hat;rw [hm] at k1;cases k1;simp only [H7 k2 (o:=o) (n:=n) (by rw [k3.len];exact b1)];refine ⟨_,rfl,?_⟩;simp only [give] at hg;cases hg;exact .agg ((k3.plain b1 (by simpa using b2)).mono hmo)
    ·cases h
   ·cases h
  ·cases h
theorem A50 (r:Rl Pr μ w a σ ax s):∀(l:List XRes) {vs vs':List TV},O5 a σ l=some vs->W9 vs=some vs'->∃l',K4 ax s l=some l'/\RVs s.get μ (Zo (sto w) Pr) vs' l'
 |[],vs,vs',h,hg=>by
  simp only [O5] at h;cases h;simp only [W9] at hg;cases hg;exact ⟨[],rfl,.nil⟩
 |x::l,vs,vs',h,hg=>by
  simp only [O5] at h;split at h
  ·rename_i v vs1 h1 h2;cases h;simp only [W9] at hg;split at hg
   ·rename_i v1 l1 g1 g2;cases hg;obtain ⟨v',q1,q2⟩:=B8N r h1 g1;obtain ⟨l',q3,q4⟩:=A50 r l h2 g2;exact ⟨v'::l',by simp only [K4,q1,q3],.cons q2 q4⟩
   ·cases hg
  ·cases h
theorem B6Q (r:Rl Pr μ w a σ ax s) {x:XRes} {tv:TV} (h:A93 a σ x=some tv):∃v,A5i ax s x=some v:=by
 cases x with
 |tmp t=>exact ⟨_,rfl⟩
 |cell1 t=>
  simp only [A93] at h;simp only [A5i];split at h
  ·rename_i ser cs e hb;obtain ⟨hbx,i,ver,vs,k1,k2,k3,k4⟩:=r.boxOf (A1W hb);obtain ⟨v',q1,q2⟩:=k4.at h;rw [k2];simp only [A0s k3 q1];exact ⟨v',rfl⟩
  ·rename_i k o hp;split at h
   ·rename_i ver cs e hat;split at h
    ·rename_i v0 hv0;have h1:=r.plainOf hp rfl
     revert h1;generalize ax.ev (.tmp t)=y;intro h1;cases h1
     rename_i i hm;obtain ⟨i',vs,k1,k2,k3⟩:=r.objOf hat;rw [hm] at k1;cases k1;obtain ⟨v',q1,q2⟩:=k3.at hv0;simp only [A0s k2 q1];exact ⟨v',rfl⟩
    ·cases h
   ·cases h
  ·cases h
 |cellN t n=>
  simp only [A93] at h;simp only [A5i];split at h
  ·rename_i ser cs e hb;split at h
   ·rename_i hle;rw [D4] at hle;have hle:=of_decide_eq_true hle;obtain ⟨hbx,i,ver,vs,k1,k2,k3,k4⟩:=r.boxOf (A1W hb);rw [k2];simp only [H7 k3 (o:=0) (n:=n) (by rw [k4.len];omega)];exact ⟨_,rfl⟩
   ·cases h
  ·rename_i k o hp;split at h
   ·rename_i ver cs e hat;split at h
    ·rename_i hb;simp only [Bool.and_eq_true] at hb;obtain ⟨b1,b2⟩:=hb;rw [D4] at b1;have b1:=of_decide_eq_true b1;have h1:=r.plainOf hp rfl
     revert h1;generalize ax.ev (.tmp t)=y;intro h1;cases h1
     rename_i i hm;obtain ⟨i',vs,k1,k2,k3⟩:=r.objOf hat;rw [hm] at k1;cases k1;simp only [H7 k2 (o:=o) (n:=n) (by rw [k3.len];exact b1)];exact ⟨_,rfl⟩
    ·cases h
   ·cases h
  ·cases h
theorem A3P (r:Rl Pr μ w a σ ax s):∀(l:List XRes) {vs:List TV},O5 a σ l=some vs->∃l',K4 ax s l=some l'
 |[],vs,h=>⟨[],rfl⟩
 |x::l,vs,h=>by
  simp only [O5] at h;split at h
  ·rename_i v vs1 h1 h2;obtain ⟨v',q1⟩:=B6Q r h1;obtain ⟨l',q3⟩:=A3P r l h2;grind [K4]
  ·cases h
end
def A5A (e sz:Nat) (z:List Value) (bytes:Nat):XFun:=
 ⟨8,[.tmp 2],.seq (.region [⟨some 2,.move (.const (.slice none 0 0)),none⟩]) (.seq (.seq (.region [⟨some 3,.move (.tmp 0),none⟩,⟨some 4,.eq .sliceNil false (.tmp 3) (.const (.slice none 0 0)),none⟩]) (.cond (.tmp 4) (.seq (.region [⟨some 2,.move (.const (.slice none 0 0)),none⟩]) .ret) .skip)) (.seq (.region [⟨some 5,.buildSlice e sz z 0 [],none⟩,⟨some 6,.move (.tmp 0),none⟩,⟨some 7,.append e sz bytes (.tmp 5) (.tmp 6),none⟩,⟨some 2,.move (.tmp 7),none⟩]) .ret))⟩
theorem B4p {Fx:FuncId->Option XFun} {Ox:FuncId->List Value->Option Value} {n f e sz bytes c:Nat} {z:List Value} {s:AS} (hF:Fx f=some (A5A e sz z bytes)):P4 Fx Ox (n+1) f [.slice none 0 c] s=some (.ret (.slice none 0 0),s):=by
 simp [P4,hF,A5A,G1,A0g,J4,B0,Xe.Act.ev,Xe.Act.put,A0H,Tri.ofList,Tri.get_set,Tri.get_nil,xeq,J0,O3,K4,A5i,packed,B5p]
theorem B2M {Fx:FuncId->Option XFun} {Ox:FuncId->List Value->Option Value} {n f e sz bytes c:Nat} {a:Addr} {z:List Value} {s:AS} (hF:Fx f=some (A5A e sz z bytes)):
  P4 Fx Ox (n+1) f [.slice (some a) 0 c] s=some (.ret (.slice (some ⟨s.next,0,none⟩) 0 0),s.upd [(s.next,some ⟨0,.cells [] e false⟩)] (s.next+1)):=by
 simp [P4,hF,A5A,G1,A0g,J4,B0,Xe.Act.ev,Xe.Act.put,A0H,Tri.ofList,Tri.get_set,Tri.get_nil,xeq,J0,O3,K4,A5i,packed,B5p,rep,A1M,Xe.ones,L9,I1]
structure Fits (F:FuncId->Option TFun) (O:FuncId->List TV->Option TV) (Fx:FuncId->Option XFun) (Ox:FuncId->List Value->Option Value):Prop where
 some:∀f tf,F f=some tf->Fx f=some tf.fn
 none:∀f,F f=none->Fx f=none
 cl:∀f tf,F f=.some tf->tf.clone=true->∃e sz z bytes,tf.fn=A5A e sz z bytes
 orc:∀f args v,O f args=.some v->∀(g:Hp) (μ:List Nat) (Z:Nat->Prop) args',RVs g μ Z args args'->∃v',Ox f args'=.some v'/\RV g μ Z v v'
section
variable {Pr:Nat->Prop} {μ μ':List Nat} {w w':J3} {a a':TAct} {σ σ':Sto} {ax ax':Xe.Act} {s s':AS}
variable {F:FuncId->Option TFun} {O:FuncId->List TV->Option TV} {Fx:FuncId->Option XFun} {Ox:FuncId->List Value->Option Value}
theorem B4q (a b:Value) (l:List Value):A0I (.agg ⟨a::b::l⟩)=none:=by
 cases a<;>first|rfl|(rename_i x;cases x<;>rfl)
theorem B6R (a b:TV) (l:List TV):A4T (.agg (a::b::l))=none:=by
 cases a<;>first|rfl|(rename_i x;cases x<;>rfl)
theorem B2N {g:Hp} {Z:Nat->Prop} {v:TV} {v':Value} (h:RV g μ Z v v') (hd:A6I v=false):A0I v'=A4T v:=by
 cases h<;>first|rfl|skip
 case agg l l' hl=>
  obtain ⟨l'⟩:=l';have hl:RVs g μ Z l l':=hl;cases hl with
  |nil=>rfl
  |cons h1 h2=>
   cases h2 with
   |nil=>
    cases h1<;>first|rfl|(cases hd;done)|skip
    case bool b=>cases b<;>rfl
   |cons h3 h4=>rw [B4q,B6R]
 case dead=>cases hd
theorem A2X:∀{l:List TV} {zs:List Int},A40 l=some zs->l=encZT zs
 |[],zs,h=>by simp only [A40] at h;cases h;rfl
 |v::l,zs,h=>by
  unfold A40 at h;split at h
  ·rename_i h1;cases h1
  ·rename_i z l2 h1;cases h1;split at h
   ·rename_i zs' hz;cases h;rw [A2X hz];rfl
   ·cases h
  ·cases h
theorem A9Q:∀zs:List Int,A5V (P6 zs)=some zs
 |[]=>rfl
 |z::zs=>by simp only [P6,List.map_cons,A5V];rw [show A5V (List.map (fun z=>Value.int .i64 z) zs)=some zs from A9Q zs]
theorem B2O {g:Hp} {Z:Nat->Prop}:∀zs:List Int,RVs g μ Z (encZT zs) (P6 zs)
 |[]=>.nil
 |z::zs=>.cons (.int _ z) (B2O zs)
theorem L7 (zs:List Int):(encZT zs).length=zs.length:=by simp [encZT]
theorem A9R (zs:List Int):(P6 zs).length=zs.length:=by simp [P6]
theorem A1I:∀zs:List Int,(F0 zs).length<=zs.length
 |[]=>Nat.le_refl _
 |x::l=>by
  have ih:=A1I l;unfold F0;grind
theorem A9S (mk:Mk) (zs:List Int):(A0b mk zs).length=zs.length:=by
 cases mk with
 |sort=>simp [A0b,W3]
 |compact=>grind [A1I,A0b]
theorem A1y {g:Hp} {Z:Nat->Prop} (mk:Mk) {v:TV} {v':Value} (h:RV g μ Z v v'):RV g μ Z (A7A mk v) (A4m mk v'):=by
 cases mk with
 |sort=>exact .tuple .nil
 |compact=>exact h
theorem B4r {g:Hp} {Z:Nat->Prop} {ow:Nat->Option Nat} {cs:List TV} {vs:List Value} (r:RCs g μ Z ow cs vs) {o n:Nat} {zs:List Int} (h:(cs.drop o).take n=encZT zs) (hle:o+n<=cs.length):(vs.drop o).take n=P6 zs:=by
 have hn:zs.length=n:=by
  grind [L7]
 apply List.ext_getElem?;intro j
 by_cases hj:j<n
 ·have hz:j<zs.length:=by omega
  have e1:((cs.drop o).take n)[j]? =some (.int .i64 zs[j]):=by rw [h];simp [encZT,hz]
  rw [List.getElem?_take_of_lt hj,List.getElem?_drop] at e1;have hv:o+j<vs.length:=by rw [r.len];omega
  rw [List.getElem?_take_of_lt hj,List.getElem?_drop,List.getElem?_eq_getElem hv];have hc:=r.get (o+j) _ _ e1 (List.getElem?_eq_getElem hv);have e2:(P6 zs)[j]? =some (.int .i64 zs[j]):=by simp [P6,hz]
  rw [e2]
  revert hc
  generalize vs[o+j]=x;cases ow (o+j) with
  |none=>intro hc;have hc:RV g μ Z (.int .i64 zs[j]) x:=hc;cases hc;rfl
  |some i=>intro hc;have hc:RO g μ Z i (.int .i64 zs[j]) x:=hc;cases hc
 grind [A9R]
theorem B4s {w:J3} {k o n:Nat} (h:OnlyS w):OnlyS (Z0 w k o n none):=⟨fun t=>h.tmp t,fun t c=>h.tcell t c,fun x=>h.hand x⟩
theorem B4t {v:TV} {v':Value} (q2:RV s.get μ (Zo w Pr) v v') {args:List TV} {args':List Value} {e:TEnd} (h:A94 v args σ=.some (e,σ')) (r:Rs Pr μ w σ s) (ho:OnlyS w) (hP:∀i,Pr i->i<s.next) (ha:RVs s.get μ (Zo w Pr) args args'):
  ∃e' s' μ' w',A8P v' args' s=.some (e',s')/\Rs Pr μ' w' σ' s'/\OnlyS w'/\After w w' μ μ' s s'/\B2F s'.get μ' (Zo w' Pr) e e':=by
 unfold A94 at h;split at h
 ·rename_i mk hm;have hd:A6I v=false:=by
   unfold A4T at hm;split at hm<;>first|rfl|(cases hm;done)
  have hmk:=B2N q2 hd;rw [hm] at hmk;unfold A8P;rw [hmk];simp only;unfold B8j at h;split at h
  ·rename_i k o sz n c;cases ha with
   |cons hv hnil=>
    cases hnil;have hv0:=hv;cases hv with
    |@ref _ _ _ _ _ i hmu hnc=>
     unfold B3P;simp only;split at h
     ·rename_i hn0;cases h;rw [hn0];exact ⟨_,s,μ,w,rfl,r,ho,After.refl _ _ _,A1y mk hv0⟩
     ·rename_i ver cs ee hn0 hk;rw [hn0];simp only;split at h
      ·rename_i zs hcond hz;cases h;simp only [Bool.and_eq_true,D4,decide_eq_true_eq] at hcond;obtain ⟨hle,hsm⟩:=hcond;obtain ⟨i',b,o1,o2,o3⟩:=r.obj k _ hk;rw [hmu] at o1;cases o1;cases b with
       |cells vs e' ro=>
        obtain ⟨rfl,rfl,hc⟩:=o3;have hle':o+n<=vs.length:=by rw [hc.len];exact hle
        have hpiece:=B4r hc (A2X hz) hle;have hzn:zs.length=n:=by
         have:=congrArg List.length (A2X hz);grind [L7]
        have hld:B8 s.get ⟨i,o,none⟩ n=.some (P6 zs):=by
         grind [B8,D4]
        have hst:=O7 (xs:=P6 (A0b mk zs)) o2 (by rw [A9R,A9S,hzn];exact hle');have r0:=r.enter ho (args:=[]) (args':=[]) .nil;have r1:=r0.storeObj hmu o2 hc (l:=encZT (A0b mk zs)) (l':=P6 (A0b mk zs)) (o:=o) (B2O _) (by rw [L7,A9S,hzn];exact hle);have hcz:=A1I zs
        refine ⟨.ret (A5j mk ⟨i,o,none⟩ zs c),s.upd [(i,.some ⟨ver+1,.cells (setList vs o (P6 (A0b mk zs))) e' false⟩)] s.next,μ,_,?_,r1.toRs,B4s ho,U9 ((r.wobj k).trans hmu) _ (fun p j hp=>⟨p,J1 w k o _ p j hp⟩),?_⟩
        ·grind [A9Q,D4]
        ·cases mk with
         |sort=>exact .tuple .nil
         |compact=>constructor<;>grind
       |map es ck=>exact o3.elim
       |iter a b=>exact o3.elim
      ·cases h
     ·cases h
  ·rename_i m;cases h;cases ha with
   |cons hv hnil=>
    cases hnil;have hv0:=hv;unfold B3P;cases hv with
    |fz a b c d e f g=>
     simp at d;subst d;exact ⟨_,s,μ,w,rfl,r,ho,After.refl _ _ _,A1y mk hv0⟩
    |fz0 b c=>exact ⟨_,s,μ,w,rfl,r,ho,After.refl _ _ _,A1y mk hv0⟩
    |nl=>exact ⟨_,s,μ,w,rfl,r,ho,After.refl _ _ _,A1y mk hv0⟩
  ·cases h
 ·rename_i hm hd;cases h;have hmk:=B2N q2 hd;rw [hm] at hmk;unfold A8P;rw [hmk];exact ⟨.ret v',s,μ,w,rfl,r,ho,After.refl _ _ _,q2⟩
 ·cases h
theorem After.out (h:After w w' μ μ' s s'):After w (sto w') μ μ' s s':=
 ⟨h.le,h.keep,fun p i e hi=>h.own p i (Y0 w' p i e) hi,h.mu⟩
theorem RMd.settle {g:Hp} {Z:Nat->Prop} {m:TMode} {m':Xe.Mode} (h:RMd g μ Z m m'):RMd g μ Z m.settle m'.settle:=by
 cases m<;>cases m'<;>first|exact h.elim|exact h|trivial
theorem A3Q {C:G5} {X:Xe.Callee} (hC:CallOk C X) (hF:Fits F O Fx Ox) {b n:Nat}:∀(l:List TDfr) {l':List Dfr} {μ:List Nat} {w:J3} {a:TAct} {σ:Sto} {s:AS} {m:TMode} {mx:Xe.Mode} {σ':Sto} {m':TMode},
  P9 C F b n l σ m=some (σ',m')->Rl Pr μ w a σ ax s->(∀i,Pr i->i<s.next)->RDf s.get μ (Zo w Pr) l l'->RMd s.get μ (Zo w Pr) m mx->
  ∃s' μ' w' a' mx',J0 X Fx n l' s mx=some (s',mx')/\Rl Pr μ' w' a' σ' ax s'/\(∀t,a'.ev (.tmp t)=a.ev (.tmp t))/\After w w' μ μ' s s'/\RMd s'.get μ' (Zo w' Pr) m' mx'
 |[],[],μ,w,a,σ,s,m,mx,σ',m',h,r,hP,hd,hm=>by
  simp only [P9] at h;cases h;exact ⟨s,μ,w,a,mx,rfl,r,fun _=>rfl,After.refl _ _ _,hm⟩
 |[],_::_,μ,w,a,σ,s,m,mx,σ',m',h,r,hP,hd,hm=>hd.elim
 |_::_,[],μ,w,a,σ,s,m,mx,σ',m',h,r,hP,hd,hm=>hd.elim
 |d::l,d'::l',μ,w,a,σ,s,m,mx,σ',m',h,r,hP,⟨hd1,hd2,hd3⟩,hm=>by
  simp only [P9] at h;simp only [J0];split at h
  ·rename_i fn hf;rw [hd1,hF.some _ _ hf];split at h
   ·rename_i e1 a1 σ1 m1 h1;have r0:=r.toRs.stoOf.enter (A4Z w) (args:=d.args) (args':=d'.args) (by rw [B1c];exact hd2);obtain ⟨e',ax1,s1,μ1,w1,mx1,k1,k2,k3,k4,k5⟩:=B1e hC fn.fn.body h1 r0 (r.hP2 hP) (by rw [B1c];exact hm);simp only [k1];have go:∀{l0:List TV},a1.df=[]->(e1=.normal\/e1=.ret)->O5 a1 σ1 fn.fn.results=some l0->P9 C F b n l σ1 m1.settle=some (σ',m')->
      ∃s' μ' w' a' mx',(match ax1.df,e',K4 ax1 s1 fn.fn.results with
       |[],.normal,some _=>J0 X Fx n l' s1 mx1.settle
       |[],.ret,some _=>J0 X Fx n l' s1 mx1.settle
       |_,_,_=>none)=some (s',mx')/\Rl Pr μ' w' a' σ' ax s'/\(∀t,a'.ev (.tmp t)=a.ev (.tmp t))/\After w w' μ μ' s s'/\RMd s'.get μ' (Zo w' Pr) m' mx':=by
     intro l0 q1 q2 q3 q4;have hdf:ax1.df=[]:=by
      have:=k2.df;rw [q1] at this
      revert this
      cases ax1.df with
      |nil=>intro _;rfl
      |cons=>intro h;exact h.elim
     obtain ⟨l1,p1⟩:=A3P k2 _ q3;obtain ⟨b1,b2,b3,b4⟩:=r.back hP k2.toRs.out' (A4Z w1) k3.out;have hm1:RMd s1.get μ1 (Zo (both w (sto w1)) Pr) m1.settle mx1.settle:=by
      rw [b3];exact (k5.mono (Mo.sub (Y0 w1))).settle
     obtain ⟨s',μ',w',a',mx',c1,c2,c3,c4,c5⟩:=A3Q hC hF l q4 b1 (b2.hP hP) (hd3.mono (b2.mo r.dm)) hm1;refine ⟨s',μ',w',a',mx',?_,c2,c3,b2.trans c4,c5⟩;rw [hdf,p1];rcases q2 with rfl|rfl
     ·cases e'<;>first|exact k4.elim|exact c1
     ·cases e'<;>first|exact k4.elim|exact c1
    split<;>grind
   ·cases h
  ·cases h
theorem B4u {g:Hp} {Z:Nat->Prop} {l:List TV} {l':List Value} (h:RVs g μ Z l l'):RV g μ Z (A6H l) (packed l'):=by
 cases h with
 |nil=>exact .tuple .nil
 |cons a b=>
  cases b with
  |nil=>exact a
  |cons c d=>exact .tuple (.cons a (.cons c d))
theorem RVs.mapT {g:Hp} {μ:List Nat} {Z:Nat->Prop} {f:TV->TV} (h:∀v v',RV g μ Z v v'->RV g μ Z (f v) v'):∀{l:List TV} {l':List Value},RVs g μ Z l l'->RVs g μ Z (l.map f) l'
 |_,_,.nil=>.nil
 |_,_,.cons a b=>.cons (h _ _ a) (RVs.mapT h b)
theorem B8O {s:Nat} {f:TV->TV} {chs:List (List TV)} (h:K5 s chs=true):K5 s (chs.map fun ch=>ch.map f)=true:=by
 grind [K5]
theorem A9T (f:TV->TV):∀chs:List (List TV),(chs.map fun ch=>ch.map f).flatten=chs.flatten.map f
 |[]=>rfl
 |c::l=>by simp only [List.map_cons,List.flatten_cons,List.map_append,A9T f l]
theorem B2P (r:Rl Pr μ w a σ ax s) {Z:Nat->Prop} {k:Nat} (hz:∀i,Zo w Pr i->Z i) (hn:∀j i,k<=j->μ[j]? =some i->Z i):∀n v v',RV s.get μ Z v v'->RV s.get μ Z (X8 σ k n v) v'
 |0,v,v',h=>by cases v<;>exact h
 |n+1,v,v',h=>by
  have ih:=B2P r hz hn n;cases h with
  |ref e hc=>
   rename_i j o sz m c i;unfold X8;split
   ·rename_i ver vs ty hb ho;split
    ·rename_i hck;simp only [Bool.and_eq_true,Bool.or_eq_true,D4,G6,D8,decide_eq_true_eq] at hck hb;obtain ⟨⟨q1,q2⟩,q3⟩:=hck;obtain ⟨i',vs',p1,p2,p3⟩:=r.objOf ho;rw [e] at p1;cases p1;have hpl:=(p3.plain q1 (by simpa using q2)).mono (Mo.mk (fun _ _ e=>e) (fun i _ _ _ _ z hg=>⟨hz i z,hg⟩):Mo s.get μ (Zo w Pr) s.get μ Z);have hle:m*sz<=(vs.drop o).length:=by rw [List.length_drop];omega
     refine .fz (hn _ _ hb e) p2 (B8O (B18 _ _ _ hle)) (by rw [List.length_map,A4Y]) (fun _=>hc) (fun h=> ?_) (by rw [p3.len];exact q1) ?_
     ·grind
     ·rw [A9T,A3f];exact hpl.mapT ih
    ·exact .ref e hc
   ·exact .ref e hc
  |agg h=>exact .agg (h.mapT ih)
  |tuple h=>exact .tuple (h.mapT ih)
  |int=>exact .int _ _
  |bool=>exact .bool _
  |str=>exact .str _
  |nilp=>exact .nilp
  |ptr e=>exact .ptr e
  |elt a b c d=>exact .elt a b c d
  |fz a b c d e f m k=>exact .fz a b c d e f m k
  |fz0 b c=>exact .fz0 b c
  |nl=>exact .nl
  |nilm=>exact .nilm
  |map e=>exact .map e
  |nilf=>exact .nilf
  |func f a b=>exact .func f a b
  |nili=>exact .nili
  |iface t a=>exact .iface t a
  |dead=>exact .dead _
theorem A7V {ν:List Nat} (r:Rl Pr (μ++ν) w a σ ax s) (hi:Inv μ.length σ) {keep:Bool} {v v2:TV} {v':Value} {σ2:Sto} (h:A2j keep μ.length σ v=some (v2,σ2)) (hv:RV s.get (μ++ν) (Zo (sto w) Pr) v v'):
  ∃ν2 w2,Rs Pr (μ++ν2) w2 σ2 s/\OnlyS w2/\(∀p i,w2 p=some i->w p=some i)/\RV s.get (μ++ν2) (Zo w2 Pr) v2 v':=by
 unfold A2j at h;split at h
 ·cases h;exact ⟨ν,sto w,r.toRs.out',A4Z w,Y0 w,hv⟩
 ·split at h
  ·rename_i hb;cases h;have hz:∀i,Zo (sto w) Pr i->Zo (A3x μ.length w) Pr i:=fun i z=>by
    refine ⟨fun p e=>z.1 p ?_,z.2⟩;cases p<;>first|(cases e;done)|skip
    ·simp only [A3x] at e;split at e
     ·exact e
     ·cases e
    ·simp only [A3x] at e;split at e
     ·exact e
     ·cases e
   have hnew:∀j i,μ.length<=j->(μ++ν)[j]? =some i->Zo (A3x μ.length w) Pr i:=fun j i hj e=>by
    have ho:w (.obj j)=some i:=(r.wobj j).trans e;refine ⟨fun p hp=> ?_,r.pr _ _ ho⟩;have:=r.inj _ _ _ (B1f _ _ _ _ hp) ho;grind [A3x]
   refine ⟨[],A3x μ.length w,?_,B6P _ _,B1f _ _,?_⟩
   ·rw [List.append_nil];exact r.toRs.cutS hi
   ·rw [List.append_nil];have hv2:RV s.get (μ++ν) (Zo (A3x μ.length w) Pr) v v':=hv.mono (Mo.mk (fun _ _ e=>e) (fun i _ _ _ _ z hg=>⟨hz i z,hg⟩));exact RV.cut (fun i z=>z) (B2P r (fun i z=>hz i (z.sub (Y0 w))) hnew 4 _ _ hv2.canon) hb
  ·cases h
theorem A6e {ν:List Nat} (r:Rl Pr (μ++ν) w a σ ax s) (hi:Inv μ.length σ) {fn:TFun} {m:TMode} {mx:Xe.Mode} {e:TEnd} {σ2:Sto} (h:M2 a fn μ.length σ m=some (e,σ2)) (hm:RMd s.get (μ++ν) (Zo w Pr) m mx):
  ∃e' ν2 w2,O3 ax fn.fn s mx=some (e',s)/\Rs Pr (μ++ν2) w2 σ2 s/\OnlyS w2/\(∀p i,w2 p=some i->w p=some i)/\B2F s.get (μ++ν2) (Zo w2 Pr) e e':=by
 have ret:∀{m0:Xe.Mode},(∀v,m0≠.panicking v)->(match O5 a σ fn.fn.results with
   |some l=>match W9 l with
    |some l=>match A2j fn.keep μ.length σ (A6H l) with
     |some (v,σ)=>some (TEnd.ret v,σ)
     |none=>none
    |none=>none
   |none=>none)=some (e,σ2)->∃e' ν2 w2,O3 ax fn.fn s m0=some (e',s)/\Rs Pr (μ++ν2) w2 σ2 s/\OnlyS w2/\(∀p i,w2 p=some i->w p=some i)/\B2F s.get (μ++ν2) (Zo w2 Pr) e e':=by
  intro m0 hm0 h;split at h
  ·rename_i l h1;split at h
   ·rename_i l2 h2;split at h
    ·rename_i v σ3 h3;cases h;obtain ⟨l',q1,q2⟩:=A50 r _ h1 h2;obtain ⟨ν2,w2,p1,p2,p3,p4⟩:=A7V r hi h3 (B4u q2);refine ⟨.ret (packed l'),ν2,w2,?_,p1,p2,p3,p4⟩;unfold O3;cases m0 with
     |panicking v=>exact absurd rfl (hm0 v)
     |ret=>simp only [q1]
     |recovered=>simp only [q1]
    ·cases h
   ·cases h
  ·cases h
 unfold M2 at h;cases m with
 |panicking v=>
  cases mx<;>first|exact hm.elim|skip
  rename_i v';simp only at h;split at h
  ·rename_i v1 σ3 h3;cases h;have hv:RV s.get (μ++ν) (Zo w Pr) v v':=hm;obtain ⟨ν2,w2,p1,p2,p3,p4⟩:=A7V r hi h3 (hv.mono (Mo.sub (Y0 w)));exact ⟨.panic v',ν2,w2,rfl,p1,p2,p3,p4⟩
  ·cases h
 |ret=>
  cases mx<;>first|exact hm.elim|skip
  exact ret (fun v=>by simp) h
 |recovered=>
  cases mx<;>first|exact hm.elim|skip
  exact ret (fun v=>by simp) h
theorem A6f (hF:Fits F O Fx Ox):∀n,CallOk (A4 F O n) (P4 Fx Ox n)
 |0=>⟨fun h=>by simp only [A4] at h;cases h⟩
 |n+1=>⟨fun {b f args σ e σ'} h {Pr μ w s args'} r ho hP ha=>by
  have ih:=A6f hF n;have hinv:=@A9P F O n;simp only [A4] at h;simp only [P4];split at h
  ·rename_i fn hf;have r0:=r.enter ho ha;split at h
   ·rename_i hpre;cases h;have hcl:fn.clone=true/\args=[.sl .fz []]:=by
     unfold B6z at hpre;split at hpre
     ·rename_i h1;exact ⟨h1,rfl⟩
     ·cases hpre
    obtain ⟨hc1,rfl⟩:=hcl;obtain ⟨ty,sz,z,bytes,hfn⟩:=hF.cl _ _ hf hc1;have hx:=hF.some _ _ hf;rw [hfn] at hx;obtain ⟨bb,c,rfl⟩:∃bb c,args'=[.slice bb 0 c]:=by
     cases ha with
     |cons h1 h2=>
      cases h2;cases h1 with
      |fz z hg ok hn=>simp only [List.length_nil] at hn;subst hn;exact ⟨_,_,rfl⟩
      |fz0 b c=>exact ⟨b,c,rfl⟩
    cases bb with
    |none=>
     have:=B4p (Ox:=Ox) (n:=n) (c:=c) (s:=s) hx;simp only [P4] at this;exact ⟨_,s,μ,w,this,r,ho,After.refl w μ s,.fz0 _ _⟩
    |some ad=>
     have:=B2M (Ox:=Ox) (n:=n) (c:=c) (a:=ad) (s:=s) hx;simp only [P4] at this;have r1:=r0.alloc ⟨0,.cells [] ty false⟩ (fun h=>Nat.lt_irrefl _ (hP _ h));refine ⟨_,_,μ,w,this,r1.toRs.sub (fun p i e=> ?_) (fun k=>rfl) (fun k c=>rfl),ho,⟨by rw [B6G];omega,fun i hi _=>by rw [X3,if_neg (by omega)],fun p i e _=>⟨p,e⟩,R5⟩,.fz0 _ _⟩
     cases p<;>first|exact e|(rename_i q;have:=ho.hand q;rw [this] at e;cases e)
   rw [hF.some _ _ hf];simp only;have hlen:σ.length=μ.length:=r.len.symm;have i0:Inv σ.length σ:=r.inv;have fin:∀{e1:TEx} {a1:TAct} {σ1:Sto} {m0:TMode} {ex:Xe.Ex} {ax1:Xe.Act} {s1:AS} {μ1:List Nat} {w1:J3} {mx0:Xe.Mode},
     B6 fn.an (W2 fn.keep b σ.length) (A4 F O n) n fn.fn.body (A1H args) σ=some (e1,a1,σ1)->Rl Pr μ1 w1 a1 σ1 ax1 s1->After w w1 μ μ1 s s1->RMd s1.get μ1 (Zo w1 Pr) m0 mx0->
     (match P9 (A4 F O n) F (W2 fn.keep b σ.length) n a1.df σ1 m0 with
      |some (σ2,m)=>M2 a1 fn σ.length σ2 m
      |none=>none)=some (e,σ')->
     ∃e' s' μ' w',(match J0 (P4 Fx Ox n) Fx n ax1.df s1 mx0 with
      |some (s,m)=>O3 ax1 fn.fn s m
      |none=>none)=some (e',s')/\Rs Pr μ' w' σ' s'/\OnlyS w'/\After w w' μ μ' s s'/\B2F s'.get μ' (Zo w' Pr) e e':=by
    intro e1 a1 σ1 m0 ex ax1 s1 μ1 w1 mx0 hc r1 haf hm h;split at h
    ·rename_i σ2 m2 hd;obtain ⟨s2,μ2,w2,a2,mx2,c1,c2,c3,c4,c5⟩:=A3Q ih hF _ hd r1 (haf.hP hP) r1.df hm;have haf2:=haf.trans c4;obtain ⟨ν,hν⟩:=haf2.mu;subst hν;have hft:M2 a2 fn μ.length σ2 m2=some (e,σ'):=by
      rw [<-hlen];have htr:∀l,O5 a2 σ2 l=O5 a1 σ2 l:=by
       intro l
       induction l with
       |nil=>rfl
       |cons x l ihl=>
        simp only [O5,ihl];cases x<;>simp only [A93,c3]
      revert h
      unfold M2;rw [htr];exact id
     have hbase:W2 fn.keep b σ.length=W2 fn.keep b σ.length:=rfl
     by_cases hk:fn.keep=true
     ·have h2:∃ν2,(μ++ν)=(μ++ν)++ν2:=⟨[],by simp⟩;have hft':∀k,M2 a2 fn k σ2 m2=some (e,σ'):=by
       intro k
       revert hft
       unfold M2 A2j;rw [hk];exact id
      have hlen2:σ2.length=(μ++ν).length:=c2.len.symm;have r2:Rl Pr ((μ++ν)++[]) w2 a2 σ2 ax1 s2:=by rw [List.append_nil];exact c2
      obtain ⟨e',ν2,w3,f1,f2,f3,f4,f5⟩:=A6e (μ:=μ++ν) (ν:=[]) r2 (by rw [<-hlen2];exact c2.toRs.inv) (hft' _) (by rw [List.append_nil];exact c5);refine ⟨e',s2,(μ++ν)++ν2,w3,?_,f2,f3,⟨haf2.le,haf2.keep,fun p i e hi=>haf2.own p i (f4 p i e) hi,ν++ν2,by rw [List.append_assoc]⟩,f5⟩;simp only [c1];exact f1
     ·have hk:fn.keep=false:=by simpa using hk
      have hb2:W2 fn.keep b σ.length=σ.length:=by rw [hk];rfl
      have i1:Inv μ.length σ2:=by
       rw [<-hlen];refine Y7 hinv ?_ _ _ _ _ _ hd (N2 hinv ?_ _ _ _ _ _ _ hc i0)<;>rw [hb2]<;>exact Nat.le_refl _
      obtain ⟨e',ν2,w3,f1,f2,f3,f4,f5⟩:=A6e c2 i1 hft c5;refine ⟨e',s2,μ++ν2,w3,?_,f2,f3,⟨haf2.le,haf2.keep,fun p i e hi=>haf2.own p i (f4 p i e) hi,ν2,rfl⟩,f5⟩;simp only [c1];exact f1
    ·cases h
   split at h
   ·rename_i a1 σ1 hc;obtain ⟨e',ax1,s1,μ1,w1,k1,k2,k3,k4⟩:=M7 ih _ _ _ _ _ _ _ _ _ _ _ hc r0 hP;rw [k1];cases e'<;>first|exact k4.elim|skip
    exact fin (ex:=.normal) (m0:=.ret) hc k2 k3 (mx0:=.ret) trivial h
   ·rename_i a1 σ1 hc;obtain ⟨e',ax1,s1,μ1,w1,k1,k2,k3,k4⟩:=M7 ih _ _ _ _ _ _ _ _ _ _ _ hc r0 hP;rw [k1];cases e'<;>first|exact k4.elim|skip
    exact fin (ex:=.ret) (m0:=.ret) hc k2 k3 (mx0:=.ret) trivial h
   ·rename_i v a1 σ1 hc;obtain ⟨e',ax1,s1,μ1,w1,k1,k2,k3,k4⟩:=M7 ih _ _ _ _ _ _ _ _ _ _ _ hc r0 hP;rw [k1];cases e'<;>first|exact k4.elim|skip
    rename_i v';exact fin (ex:=.panic v') (m0:=.panicking v) hc k2 k3 (mx0:=.panicking v') k4 h
   ·cases h
  ·rename_i hf;rw [hF.none _ hf];simp only;split at h
   ·rename_i v hv;obtain ⟨v',q1,q2⟩:=hF.orc _ _ _ hv s.get μ (Zo w Pr) args' ha;rw [q1];exact B4t q2 h r ho hP ha
   ·cases h⟩
end
inductive Sh (P:Program):TypeId->List TV->Prop
 |bool {t:TypeId} (b:Bool):P.underlying t=some .bool->Sh P t [.bool b]
 |int {t:TypeId} {k:IntKind} (n:Int):P.underlying t=some (.int k)->(Lit.int k n).wf=true->Sh P t [.int k n]
 |str {t:TypeId} (s:ByteArray):P.underlying t=some .string->s.size<=maxLen->Sh P t [.str s]
 |slice {t e:TypeId} (chs:List (List TV)):P.underlying t=some (.slice e)->chs.length<=maxLen->(∀c,c∈chs->Sh P e c)->Sh P t [.sl .fz chs]
 |struct {t:TypeId} {fs:Array Field} (cs:List TV):P.underlying t=some (.struct fs)->cs.length=P.cellsOf t->(∀(i:Nat) (f:Field),fs[i]? =some f->Sh P f.type ((cs.drop f.offset).take (P.cellsOf f.type)))->Sh P t cs
theorem C0T {α:Type} {n:Nat} {R:Nat->α->Prop} (h:∀i,i<n->∃x,R i x):∃l:List α,l.length=n/\∀i x,l[i]? =some x->R i x:=by
 induction n with
 |zero=>exact ⟨[],rfl,fun i x e=>by simp at e⟩
 |succ n ih=>
  obtain ⟨l,h1,h2⟩:=ih (fun i hi=>h i (by omega));obtain ⟨x,hx⟩:=h n (by omega);refine ⟨l++[x],by simp [h1],fun i y e=> ?_⟩
  by_cases hi:i<l.length
  ·rw [List.getElem?_append_left hi] at e;exact h2 i y e
  ·have:=(List.getElem?_eq_some_iff.1 e).1;have hin:i=n:=by simp at this;omega
   subst hin;rw [List.getElem?_append_right (by omega),h1] at e;simp at e;subst e;exact hx
section
variable {g:Hp} {μ:List Nat} {Z:Nat->Prop}
theorem B2Q {vs:List Value} {k:Nat}:∀(chs:List (List TV)) (o:Nat),(∀i c,chs[i]? =some c->RVs g μ Z c ((vs.drop (o+i*k)).take k)/\c.length=k)->RVs g μ Z chs.flatten ((vs.drop o).take (chs.length*k))
 |[],o,_=>by simp;exact .nil
 |c::chs,o,h=>by
  rw [List.flatten_cons,List.length_cons,Nat.succ_mul,Nat.add_comm,List.take_add,List.drop_drop];refine RVs.append ?_ (B2Q chs (o+k) fun i c' e=> ?_)
  ·have:=(h 0 c rfl).1
   simpa using this
  ·have:=h (i+1) c' (by simpa using e)
   rwa [show o+(i+1)*k=o+k+i*k by rw [Nat.succ_mul];omega] at this
end
theorem B6S {F:FuncId->Option TFun} {O:FuncId->List TV->Option TV} {Fx:FuncId->Option XFun} {Ox:FuncId->List Value->Option Value} (hF:Fits F O Fx Ox) {L:Lst} {args:List TV} {args':List Value} (ha:RVs (gL L) [] (fun _=>True) args args') {n f:Nat} {σ':Sto}
  (h:A4 F O n 0 f args []=some (.ret (.bool true),σ')):∃s',P4 Fx Ox n f args' ⟨gL L,.nil,L.length⟩=some (.ret (.bool true),s'):=by
 have hget:(AS.mk (gL L) .nil L.length).get=gL L:=by
  funext k
  simp only [AS.get,Tri.get_nil]
 have hz:Zo (fun _=>none) (fun _=>False)=fun _=>True:=by
  funext i
  exact propext ⟨fun _=>trivial,fun _=>⟨fun p e=>(by cases e),fun h=>h⟩⟩
 have rs:Rs (fun _=>False) [] (fun _=>none) [] ⟨gL L,.nil,L.length⟩:=by
  refine ⟨fun i hi=> ?_,rfl,fun p q i e=>(by cases e),fun p i e=>(by cases e),fun p i e=>(by cases e),fun k=>(by simp),fun k c _=>rfl,fun k o e=>(by simp [Sto.at] at e),trivial⟩;rw [hget];unfold gL;rw [List.getElem?_eq_none (by exact hi)];rfl
 obtain ⟨e',s',μ',w',h1,h2,h3,h4,h5⟩:=(A6f hF n).call h rs ⟨fun _=>rfl,fun _ _=>rfl,fun _=>rfl⟩ (fun _ h=>h.elim) (args':=args') (by rw [hget,hz];exact ha);cases e' with
 |panic v=>exact h5.elim
 |ret v=>
  have h5:RV _ _ _ (.bool true) v:=h5;cases h5;exact ⟨s',h1⟩
def I64 (n:Int):Prop:=-9223372036854775808<=n/\n<=9223372036854775807
inductive OkT:PTyp->Prop
 |mk {k:Int} {l:List PTyp}:I64 k->l.length<=maxLen->(∀t∈l,OkT t)->OkT (.mk k l)
inductive OkE:PExpr->Prop
 |mk {k n:Int} {s:Str} {ns:List Str} {od:List Int} {l:List PExpr} {ln c:Int}:I64 k->I64 n->I64 ln->I64 c->s.size<=maxLen->ns.length<=maxLen->(∀x∈ns,x.size<=maxLen)->od.length<=maxLen->(∀x∈od,I64 x)->l.length<=maxLen->(∀e∈l,OkE e)->OkE (.mk k n s ns od l ln c)
theorem OkT.len {t:PTyp} (h:OkT t):t.list.length<=maxLen:=by cases h;assumption
theorem OkT.sub {t:PTyp} (h:OkT t):∀x∈t.list,OkT x:=by cases h;assumption
theorem OkE.kids {e:PExpr} (h:OkE e):e.kids.length<=maxLen:=by cases h;assumption
theorem OkE.sub {e:PExpr} (h:OkE e):∀x∈e.kids,OkE x:=by cases h;assumption
theorem OkE.names {e:PExpr} (h:OkE e):e.names.length<=maxLen:=by cases h;assumption
theorem OkE.odds {e:PExpr} (h:OkE e):e.odds.length<=maxLen:=by cases h;assumption
def A95 (P:Program) (t:TypeId) (n:Nat) (fs:List (Nat×TypeId×Nat)):Prop:=
 ∃a:Array Field,P.underlying t=some (.struct a)/\P.cellsOf t=n/\a.toList.map (fun f=>(f.offset,f.type,P.cellsOf f.type))=fs
theorem Sh.st {P:Program} {t:TypeId} {n:Nat} {fs:List (Nat×TypeId×Nat)} (h:A95 P t n fs) {l:List TV} (s:Sh P t l):l.length=n/\∀x∈fs,Sh P x.2.1 ((l.drop x.1).take x.2.2):=by
 obtain ⟨a,h1,h2,h3⟩:=h;cases s with
 |bool _ h=>rw [h1] at h;cases h
 |int _ h=>rw [h1] at h;cases h
 |str _ h=>rw [h1] at h;cases h
 |slice _ h=>rw [h1] at h;cases h
 |struct _ h hl hf=>
  rw [h1] at h;cases h;refine ⟨hl.trans h2,fun x hx=> ?_⟩;rw [<-h3] at hx;obtain ⟨f,hf',rfl⟩:=List.mem_map.1 hx;obtain ⟨i,hi⟩:=List.getElem?_of_mem hf';grind
theorem Sh.intOf {P:Program} {t:TypeId} {k:IntKind} (h:P.underlying t=some (.int k)) {l:List TV} (s:Sh P t l):∃n,l=[.int k n]/\(Lit.int k n).wf=true:=by
 cases s with
 |bool _ h'=>rw [h] at h';cases h'
 |int n h' w=>grind
 |str _ h'=>rw [h] at h';cases h'
 |slice _ h'=>rw [h] at h';cases h'
 |struct _ h'=>rw [h] at h';cases h'
theorem Sh.sliceOf {P:Program} {t e:TypeId} (h:P.underlying t=some (.slice e)) {l:List TV} (s:Sh P t l):∃chs,l=[.sl .fz chs]/\chs.length<=maxLen/\∀c∈chs,Sh P e c:=by
 cases s with
 |bool b h'=>rw [h] at h';cases h'
 |int n h' w=>rw [h] at h';cases h'
 |str b h' hs=>rw [h] at h';cases h'
 |slice chs h' hl hc=>grind
 |struct _ h'=>rw [h] at h';cases h'
theorem A1J {n:Int} (h:(Lit.int .i64 n).wf=true):I64 n:=by
 simp only [Lit.wf,Bool.and_eq_true,decide_eq_true_eq] at h;have h1:IntKind.i64.min=-9223372036854775808:=by decide
 have h2:IntKind.i64.max=9223372036854775807:=by decide
 constructor<;>grind
theorem A46 {α β:Type} {f:α->β} {R:α->Prop}:∀(l:List β),(∀x∈l,∃y,x=f y/\R y)->∃m:List α,l=m.map f/\∀y∈m,R y
 |[],_=>⟨[],rfl,fun y h=>by cases h⟩
 |x::l,h=>by
  obtain ⟨y,rfl,hy⟩:=h x (by simp);obtain ⟨m,rfl,hm⟩:=A46 l (fun z hz=>h z (by simp [hz]))
  exact ⟨y::m,rfl,fun z hz=>by
   rcases List.mem_cons.1 hz with rfl|hz
   ·exact hy
   ·exact hm z hz⟩
structure ApiT (P:Program) where
 int:TypeId
 str:TypeId
 strs:TypeId
 ints:TypeId
 typ:TypeId
 typs:TypeId
 exp:TypeId
 exps:TypeId
 fld:TypeId
 flds:TypeId
 fn:TypeId
 fns:TypeId
 prog:TypeId
 hint:P.underlying int=some (.int .i64)
 hstr:P.underlying str=some .string
 hstrs:P.underlying strs=some (.slice str)
 hints:P.underlying ints=some (.slice int)
 htyp:A95 P typ 2 [(0,int,1),(1,typs,1)]
 htyps:P.underlying typs=some (.slice typ)
 hexp:A95 P exp 8 [(0,int,1),(1,int,1),(2,str,1),(3,strs,1),(4,ints,1),(5,exps,1),(6,int,1),(7,int,1)]
 hexps:P.underlying exps=some (.slice exp)
 hfld:A95 P fld 5 [(0,str,1),(1,typ,2),(3,int,1),(4,int,1)]
 hflds:P.underlying flds=some (.slice fld)
 hfn:A95 P fn 14 [(0,str,1),(1,flds,1),(2,typ,2),(4,exp,8),(12,int,1),(13,int,1)]
 hfns:P.underlying fns=some (.slice fn)
 hprog:A95 P prog 10 [(0,flds,1),(1,fns,1),(2,exp,8)]
theorem C2V {α:Type} {l:List α} (h:l.length=2):∃a b,l=[a,b]:=by
 match l,h with|[a,b],_=>exact ⟨a,b,rfl⟩
theorem len8 {α:Type} {l:List α} (h:l.length=8):∃a b c d e f g i,l=[a,b,c,d,e,f,g,i]:=by
 match l,h with|[a,b,c,d,e,f,g,i],_=>exact ⟨a,b,c,d,e,f,g,i,rfl⟩
theorem B1g {chs:List (List TV)} {c:List TV} (h:c∈chs) {l:List TV} (m:Md) (hl:TV.sl m chs∈l):SizeOf.sizeOf c<SizeOf.sizeOf l:=by
 have h1:=List.sizeOf_lt_of_mem h;have h2:=List.sizeOf_lt_of_mem hl;simp at h2;omega
section
variable {P:Program} (A:ApiT P)
theorem B8P:∀(n:Nat) (l:List TV),SizeOf.sizeOf l<n->Sh P A.typ l->∃t,l=K2 t/\OkT t
 |0,l,hn,h=>by omega
 |n+1,l,hn,h=>by
  obtain ⟨h1,h2⟩:=h.st A.htyp;obtain ⟨a,b,rfl⟩:=C2V h1;obtain ⟨k,q1,q2⟩:=(h2 (0,A.int,1) (by simp)).intOf A.hint;obtain ⟨chs,q3,q4,q5⟩:=(h2 (1,A.typs,1) (by simp)).sliceOf A.htyps;simp at q1 q3;subst q1;subst q3
  obtain ⟨m,rfl,hm⟩:=A46 (f:=K2) (R:=OkT) chs (fun c hc=>B8P n c (by
   have:=B1g (l:=[TV.int .i64 k,.sl .fz chs]) hc .fz (by simp)
   omega) (q5 c hc))
  exact ⟨.mk k m,by rw [F6];rfl,.mk (A1J q2) (by simpa using q4) hm⟩
end
inductive Kt where
 |seq (y:XCode)
 |blk (id:Nat)
section
variable (an:Ann) (b:Nat) (C:G5) (n:Nat) (Q:TEx->TAct->Sto->Prop)
def T1:List Kt->TEx->TAct->Sto->Prop
 |[],e,a,σ=>Q e a σ
 |.seq y::ks,e,a,σ=>match e with
  |.normal=>∃e' a' σ',B6 an b C n y a σ=some (e',a',σ')/\T1 ks e' a' σ'
  |e=>T1 ks e a σ
 |.blk id::ks,e,a,σ=>match e with
  |.exit k=>match Nat.beq k id with
   |true=>T1 ks .normal a σ
   |false=>T1 ks (.exit k) a σ
  |e=>T1 ks e a σ
def Tw (ks:List Kt) (r:Option (TEx×TAct×Sto)):Prop:=∃e a σ,r=some (e,a,σ)/\T1 an b C n Q ks e a σ
def TwC (v:TV) (ks:List Kt) (x y:XCode) (a:TAct) (σ:Sto):Prop:=
 match v with
 |.bool true=>Tw an b C n Q ks (B6 an b C n x a σ)
 |.bool false=>Tw an b C n Q ks (B6 an b C n y a σ)
 |_=>False
end
section
variable {an:Ann} {b:Nat} {C:G5} {n:Nat} {a:TAct} {σ:Sto} {Q:TEx->TAct->Sto->Prop} {ks:List Kt}
theorem A6J (e:TEx):Tw an b C n Q ks (some (e,a,σ))↔T1 an b C n Q ks e a σ:=
 ⟨fun ⟨_,_,_,h,q⟩=>by cases h;exact q,fun q=>⟨e,a,σ,rfl,q⟩⟩
theorem B5z:Tw an b C n Q ks none↔False:=⟨fun ⟨_,_,_,h,_⟩=>(by cases h),fun h=>False.elim h⟩
theorem C2W (e:TEx):T1 an b C n Q [] e a σ↔Q e a σ:=Iff.rfl
theorem D2n {y:XCode}:T1 an b C n Q (.seq y::ks) .normal a σ↔Tw an b C n Q ks (B6 an b C n y a σ):=Iff.rfl
theorem B6T {y:XCode} (id:Nat):T1 an b C n Q (.seq y::ks) (.exit id) a σ↔T1 an b C n Q ks (.exit id) a σ:=Iff.rfl
theorem B8Q {y:XCode}:T1 an b C n Q (.seq y::ks) .ret a σ↔T1 an b C n Q ks .ret a σ:=Iff.rfl
theorem B4v {y:XCode} (v:TV):T1 an b C n Q (.seq y::ks) (.panic v) a σ↔T1 an b C n Q ks (.panic v) a σ:=Iff.rfl
theorem D2o {id:Nat}:T1 an b C n Q (.blk id::ks) .normal a σ↔T1 an b C n Q ks .normal a σ:=Iff.rfl
theorem B8R {id:Nat}:T1 an b C n Q (.blk id::ks) .ret a σ↔T1 an b C n Q ks .ret a σ:=Iff.rfl
theorem B4w {id:Nat} (v:TV):T1 an b C n Q (.blk id::ks) (.panic v) a σ↔T1 an b C n Q ks (.panic v) a σ:=Iff.rfl
theorem B6U {id k:Nat}:T1 an b C n Q (.blk id::ks) (.exit k) a σ↔T1 an b C n Q ks (if k=id then .normal else .exit k) a σ:=by
 simp only [T1];rw [D8]
 by_cases h:k=id<;>simp [h]
theorem C2X {x y:XCode}:Tw an b C n Q ks (B6 an b C n (.seq x y) a σ)↔Tw an b C n Q (.seq y::ks) (B6 an b C n x a σ):=by
 simp only [B6];constructor
 ·rintro ⟨e,a2,σ2,h,q⟩;split at h
  ·rename_i a1 σ1 h1;exact ⟨.normal,a1,σ1,h1,e,a2,σ2,h,q⟩
  ·rename_i r hr;refine ⟨e,a2,σ2,h,?_⟩;cases e with
   |normal=>exact absurd h (hr _ _)
   |_=>exact q
 ·rintro ⟨e,a1,σ1,h,q⟩;rw [h];cases e with
  |normal=>exact q
  |_=>exact ⟨_,_,_,rfl,q⟩
theorem B8S {id:Nat} {c:XCode}:Tw an b C n Q ks (B6 an b C n (.block id c) a σ)↔Tw an b C n Q (.blk id::ks) (B6 an b C n c a σ):=by
 simp only [B6];constructor
 ·rintro ⟨e,a2,σ2,h,q⟩;split at h
  ·rename_i k a1 σ1 h1;refine ⟨.exit k,a1,σ1,h1,?_⟩;simp only [T1];split at h
   ·rename_i hb;rw [hb];cases h;exact q
   ·rename_i hb;rw [hb];cases h;exact q
  ·rename_i r hr;refine ⟨e,a2,σ2,h,?_⟩;cases e with
   |exit k=>exact absurd h (hr _ _ _)
   |_=>exact q
 ·rintro ⟨e,a1,σ1,h,q⟩;rw [h];cases e with
  |exit k=>
   simp only [T1] at q;simp only;split at q
   ·rename_i hb;rw [hb];exact ⟨_,_,_,rfl,q⟩
   ·rename_i hb;rw [hb];exact ⟨_,_,_,rfl,q⟩
  |_=>exact ⟨_,_,_,rfl,q⟩
theorem C0U {c:Operand} {x y:XCode}:Tw an b C n Q ks (B6 an b C n (.cond c x y) a σ)↔TwC an b C n Q (a.ev c) ks x y a σ:=by
 simp only [B6];unfold TwC;cases a.ev c<;>first|exact B5z|skip
 rename_i t;cases t<;>exact Iff.rfl
theorem B8T {x y:XCode}:TwC an b C n Q (.bool true) ks x y a σ↔Tw an b C n Q ks (B6 an b C n x a σ):=Iff.rfl
theorem B6V {x y:XCode}:TwC an b C n Q (.bool false) ks x y a σ↔Tw an b C n Q ks (B6 an b C n y a σ):=Iff.rfl
theorem C0V:Tw an b C n Q ks (B6 an b C n .skip a σ)↔T1 an b C n Q ks .normal a σ:=A6J _
theorem C0W {id:Nat}:Tw an b C n Q ks (B6 an b C n (.exit id) a σ)↔T1 an b C n Q ks (.exit id) a σ:=A6J _
theorem C2Y:Tw an b C n Q ks (B6 an b C n .ret a σ)↔T1 an b C n Q ks .ret a σ:=A6J _
theorem B6W {ops:List XOper}:Tw an b C n Q ks (B6 an b C n (.region ops) a σ)↔Tw an b C n Q ks (A2Q an b C ops a σ):=Iff.rfl
theorem B2R (I:Nat->TAct->Sto->Prop) (len:Nat) {c:XCode} (R:TEx->TAct->Sto->Prop)
  (step:∀j a σ,j<len->I j a σ->Tw an b C n (fun e a σ=>match e with|.normal=>I (j+1) a σ|e=>R e a σ) [] (B6 an b C n c a σ))
  (stop:∀a σ,I len a σ->Tw an b C n (fun e a σ=>match e with|.normal=>False|e=>R e a σ) [] (B6 an b C n c a σ)):
  ∀(m j:Nat) (a:TAct) (σ:Sto),len<j+m->j<=len->I j a σ->∃e a' σ',A2z (B6 an b C n c) m a σ=some (e,a',σ')/\R e a' σ'
 |0,j,a,σ,h,h2,hI=>by omega
 |m+1,j,a,σ,h,h2,hI=>by
  simp only [A2z]
  by_cases hj:j<len
  ·obtain ⟨e,a1,σ1,h3,q⟩:=step j a σ hj hI;rw [h3];cases e with
   |normal=>exact B2R I len R step stop m (j+1) a1 σ1 (by omega) (by omega) q
   |_=>exact ⟨_,_,_,rfl,q⟩
  ·obtain rfl:j=len:=by omega
   obtain ⟨e,a1,σ1,h3,q⟩:=stop a σ hI;rw [h3];cases e with
   |normal=>exact q.elim
   |_=>exact ⟨_,_,_,rfl,q⟩
theorem A9 (I:Nat->TAct->Sto->Prop) (len:Nat) {c:XCode} (R:TEx->TAct->Sto->Prop) (h0:I 0 a σ) (hn:len<n)
  (step:∀j a σ,j<len->I j a σ->Tw an b C n (fun e a σ=>match e with|.normal=>I (j+1) a σ|e=>R e a σ) [] (B6 an b C n c a σ))
  (stop:∀a σ,I len a σ->Tw an b C n (fun e a σ=>match e with|.normal=>False|e=>R e a σ) [] (B6 an b C n c a σ))
  (next:∀e a σ,R e a σ->T1 an b C n Q ks e a σ):Tw an b C n Q ks (B6 an b C n (.loop c) a σ):=by
 obtain ⟨e,a',σ',h1,h2⟩:=B2R I len R step stop n 0 a σ (by omega) (Nat.zero_le _) h0;exact ⟨e,a',σ',h1,next _ _ _ h2⟩
theorem A9U (I:Nat->TAct->Sto->Prop) (B:Nat) {c:XCode} (R:TEx->TAct->Sto->Prop) (bd:∀j a σ,I j a σ->j<=B)
  (step:∀j a σ,I j a σ->Tw an b C n (fun e a σ=>match e with|.normal=>I (j+1) a σ|e=>R e a σ) [] (B6 an b C n c a σ)):
  ∀(m j:Nat) (a:TAct) (σ:Sto),B<j+m->I j a σ->∃e a' σ',A2z (B6 an b C n c) m a σ=some (e,a',σ')/\R e a' σ'
 |0,j,a,σ,h,hI=>by have:=bd j a σ hI;omega
 |m+1,j,a,σ,h,hI=>by
  simp only [A2z];obtain ⟨e,a1,σ1,h3,q⟩:=step j a σ hI;rw [h3];cases e with
  |normal=>exact A9U I B R bd step m (j+1) a1 σ1 (by omega) q
  |_=>exact ⟨_,_,_,rfl,q⟩
theorem B8U (I:Nat->TAct->Sto->Prop) (B:Nat) {c:XCode} (R:TEx->TAct->Sto->Prop) (h0:I 0 a σ) (hn:B<n) (bd:∀j a σ,I j a σ->j<=B)
  (step:∀j a σ,I j a σ->Tw an b C n (fun e a σ=>match e with|.normal=>I (j+1) a σ|e=>R e a σ) [] (B6 an b C n c a σ))
  (next:∀e a σ,R e a σ->T1 an b C n Q ks e a σ):Tw an b C n Q ks (B6 an b C n (.loop c) a σ):=by
 obtain ⟨e,a',σ',h1,h2⟩:=A9U I B R bd step n 0 a σ (by omega) h0;exact ⟨e,a',σ',h1,next _ _ _ h2⟩
theorem Tw.done {r:Option (TEx×TAct×Sto)} (h:Tw an b C n Q [] r):∃e a σ,r=some (e,a,σ)/\Q e a σ:=h
end
def A2Y (an:Ann) (b:Nat) (C:G5):List XOper->TAct->Sto->Option (TAct×Sto)
 |[],a,σ=>some (a,σ)
 |o::r,a,σ=>
  match P8 a o.guard with
  |none=>none
  |some false=>A2Y an b C r (a.put o.dst A6) σ
  |some true=>match o.op with
   |.call f args=>match W9 (args.map a.ev) with
    |some vs=>match C b f vs σ with
     |some (.ret v,σ')=>A2Y an b C r ((frzs a args).tick.put o.dst v) σ'
     |_=>none
    |none=>none
   |.callV x args=>match W9 (args.map a.ev) with
    |some vs=>match A1v (a.ev x) vs with
     |some (f,l')=>match C b f l' σ with
      |some (.ret v,σ')=>A2Y an b C r ((frzs a args).tick.put o.dst v) σ'
      |_=>none
     |none=>none
    |none=>none
   |op=>match Z5 (an.md o.dst) b a σ op with
    |some (v,a',σ')=>A2Y an b C r (a'.put o.dst v) σ'
    |none=>none
theorem B5A (an:Ann) (b:Nat) (C:G5):∀(ops:List XOper) (a:TAct) (σ:Sto) (l:List TRec) {a':TAct} {σ':Sto},A2Y an b C ops a σ=some (a',σ')->∃l',A01 an b C ops a σ l=some (a',σ',l')
 |[],a,σ,l,a',σ',h=>by simp only [A2Y] at h;cases h;exact ⟨_,rfl⟩
 |⟨dst,op,guard⟩::ops,a,σ,l,a',σ',h=>by
  have ih:=B5A an b C ops;rw [A2Y] at h;rw [A01];cases hg:P8 a guard with
  |none=>simp only [hg] at h;cases h
  |some c=>
   cases c with
   |false=>simp only [hg] at h ⊢;exact ih _ _ _ h
   |true=>
    simp only [hg] at h ⊢;cases op
    case call f args=>
     simp only at h ⊢;split at h
     ·rename_i vs hgv;rw [hgv];split at h
      ·rename_i v σ1 hc;simp only [hc];exact ih _ _ _ h
      ·cases h
     ·cases h
    case callV x args=>
     simp only at h ⊢;split at h
     ·rename_i vs hgv;rw [hgv];split at h
      ·rename_i f l' ht;simp only [ht];split at h
       ·rename_i v σ1 hc;simp only [hc];exact ih _ _ _ h
       ·cases h
      ·cases h
     ·cases h
    all_goals
     simp only at h ⊢;split at h
     ·rename_i v a1 σ1 hd;simp only [hd];exact ih _ _ _ h
     ·cases h
section
variable (an:Ann) (b:Nat) (C:G5) (n:Nat) (Q:TEx->TAct->Sto->Prop)
def TwE (ks:List Kt) (r:Option (TAct×Sto)):Prop:=∃a σ,r=some (a,σ)/\T1 an b C n Q ks .normal a σ
def TwD (ps:List (Nat×Nat)) (ks:List Kt) (r:Option (TAct×Sto×List TRec)):Prop:=∃a σ l,r=some (a,σ,l)/\A0v l ps=true/\T1 an b C n Q ks .normal a σ
end
section
variable {an:Ann} {b:Nat} {C:G5} {n:Nat} {a:TAct} {σ:Sto} {Q:TEx->TAct->Sto->Prop} {ks:List Kt}
theorem B8V:TwE an b C n Q ks (some (a,σ))↔T1 an b C n Q ks .normal a σ:=
 ⟨fun ⟨_,_,h,q⟩=>by cases h;exact q,fun q=>⟨a,σ,rfl,q⟩⟩
theorem B8W:TwE an b C n Q ks none↔False:=⟨fun ⟨_,_,h,_⟩=>(by cases h),fun h=>False.elim h⟩
theorem B8X {ps:List (Nat×Nat)} {l:List TRec}:TwD an b C n Q ps ks (some (a,σ,l))↔A0v l ps=true/\T1 an b C n Q ks .normal a σ:=
 ⟨fun ⟨_,_,_,h,q⟩=>by cases h;exact q,fun q=>⟨a,σ,l,rfl,q⟩⟩
theorem B8Y {ps:List (Nat×Nat)}:TwD an b C n Q ps ks none↔False:=⟨fun ⟨_,_,_,h,_⟩=>(by cases h),fun h=>False.elim h⟩
theorem B2S:∀(ops:List XOper) (a:TAct) (σ:Sto) (l:List TRec) {a':TAct} {σ':Sto} {l':List TRec},A01 an b C ops a σ l=some (a',σ',l')->A2Y an b C ops a σ=some (a',σ')
 |[],a,σ,l,a',σ',l',h=>by simp only [A01] at h;cases h;rfl
 |⟨dst,op,guard⟩::ops,a,σ,l,a',σ',l',h=>by
  have ih:=@B2S ops;rw [A01] at h;rw [A2Y];cases hg:P8 a guard with
  |none=>simp only [hg] at h;cases h
  |some c=>
   cases c with
   |false=>simp only [hg] at h ⊢;exact ih _ _ _ h
   |true=>
    simp only [hg] at h ⊢;cases op
    case call f args=>
     simp only at h ⊢;split at h
     ·rename_i vs hgv;rw [hgv];split at h
      ·rename_i v σ1 hc;simp only [hc];exact ih _ _ _ h
      ·cases h
     ·cases h
    case callV x args=>
     simp only at h ⊢;split at h
     ·rename_i vs hgv;rw [hgv];split at h
      ·rename_i f l' ht;simp only [ht];split at h
       ·rename_i v σ1 hc;simp only [hc];exact ih _ _ _ h
       ·cases h
      ·cases h
     ·cases h
    all_goals
     simp only at h ⊢;split at h
     ·rename_i v a1 σ1 hd;simp only [hd];exact ih _ _ _ h
     ·cases h
theorem B4x {ops:List XOper}:Tw an b C n Q ks (B6 an b C n (.regionD ops []) a σ)↔TwE an b C n Q ks (A2Y an b C ops a σ):=by
 simp only [B6,A0v];constructor
 ·rintro ⟨e,a2,σ2,h,q⟩;split at h
  ·rename_i a1 σ1 l hd;cases h;exact ⟨_,_,B2S _ _ _ _ hd,q⟩
  ·cases h
 ·rintro ⟨a1,σ1,h,q⟩;obtain ⟨l',hl⟩:=B5A an b C ops a σ [] h;rw [hl];exact ⟨_,_,_,rfl,q⟩
theorem B4y {ops:List XOper} {p:Nat×Nat} {ps:List (Nat×Nat)}:Tw an b C n Q ks (B6 an b C n (.regionD ops (p::ps)) a σ)↔TwD an b C n Q (p::ps) ks (A01 an b C ops a σ []):=by
 simp only [B6];constructor
 ·rintro ⟨e,a2,σ2,h,q⟩;split at h
  ·rename_i a1 σ1 l hd;split at h
   ·rename_i hp;cases h;exact ⟨_,_,_,hd,hp,q⟩
   ·cases h
  ·cases h
 ·rintro ⟨a1,σ1,l,h,hp,q⟩;rw [h];simp only [hp];exact ⟨_,_,_,rfl,q⟩
end
theorem B8Z (k:IntKind) (a b:Int):A3v .add (.int k a) (.int k b)=some (.int k (k.wrap (a+b))):=by cases k<;>rfl
theorem B90 (k:IntKind) (a b:Int):A3v .sub (.int k a) (.int k b)=some (.int k (k.wrap (a - b))):=by cases k<;>rfl
theorem B91 (k:IntKind) (a b:Int):A3v .mul (.int k a) (.int k b)=some (.int k (k.wrap (a*b))):=by cases k<;>rfl
theorem B92 (k:IntKind) (a b:Int):A3v .eql (.int k a) (.int k b)=some (.bool (decide (a=b))):=by rw [<-U3];cases k<;>rfl
theorem B93 (k:IntKind) (a b:Int):A3v .neq (.int k a) (.int k b)=some (.bool (!(decide (a=b)))):=by rw [<-U3];cases k<;>rfl
theorem B94 (k:IntKind) (a b:Int):A3v .lss (.int k a) (.int k b)=some (.bool (decide (a<b))):=by rw [<-G7];cases k<;>rfl
theorem B95 (k:IntKind) (a b:Int):A3v .gtr (.int k a) (.int k b)=some (.bool (decide (b<a))):=by rw [<-G7];cases k<;>rfl
theorem B96 (k:IntKind) (a b:Int):A3v .leq (.int k a) (.int k b)=some (.bool (decide (a<=b))):=by
 have h:A3v .leq (.int k a) (.int k b)=some (.bool (A3y a b)):=by cases k<;>rfl
 rw [h,A3y,G7];congr 2;by_cases h:a<=b<;>simp [h]<;>omega
theorem B97 (k:IntKind) (a b:Int):A3v .geq (.int k a) (.int k b)=some (.bool (decide (b<=a))):=by
 have h:A3v .geq (.int k a) (.int k b)=some (.bool (A3y b a)):=by cases k<;>rfl
 rw [h,A3y,G7];congr 2;by_cases h:b<=a<;>simp [h]<;>omega
theorem A96 (x y:List UInt8):N4 x y=decide (x=y):=by
 rw [Xe.beqBytes_eq]
 by_cases h:x=y
 ·subst h;simp
 ·simp [h]
theorem beqBytes_eq (x y:ByteArray):N4 x.data.toList y.data.toList=decide (x=y):=by
 rw [A96];congr 1;apply propext;constructor
 ·intro h;have:x.data=y.data:=Array.ext' h;cases x;cases y;simpa using this
 ·rintro rfl;rfl
theorem B6X (x y:ByteArray):A3v .eql (.str x) (.str y)=some (.bool (decide (x=y))):=by rw [<-beqBytes_eq];rfl
theorem B6Y (x y:ByteArray):A3v .neq (.str x) (.str y)=some (.bool (!(decide (x=y)))):=by rw [<-beqBytes_eq];rfl
theorem C80 (a b:Nat):Nat.ble a b=decide (a<=b):=D4 a b
theorem D2r (a b:Nat):Nat.blt a b=decide (a<b):=G6 a b
theorem C81 (a b:Nat):Nat.beq a b=decide (a=b):=D8 a b
theorem D7 (n:Int) (h0:-9223372036854775808<=n) (h1:n<=9223372036854775807):IntKind.i64.wrap n=n:=Xe.wrap_small n h0 h1
end
end Go.Xt
