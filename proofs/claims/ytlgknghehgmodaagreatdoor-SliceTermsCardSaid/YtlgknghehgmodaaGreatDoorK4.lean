/-
  A part of the proof: it is imported by YtlgknghehgmodaaGreatDoorTop. Nothing here is a claim of its own.
-/
import Derived.Test.YtlgknghehgmodaaGreatDoorK3
import Derived.SizedLaws
set_option linter.unusedVariables false
set_option linter.unusedSimpArgs false
set_option linter.unusedSectionVars false
section
namespace Go.Xt
open Go Go.Xe
section
variable {Pr:Nat→Prop} {μ μ':List Nat} {w w':Own} {a a':TAct} {σ σ':Sto} {ax ax':Xe.Act} {s s':AS}
theorem put_ne (d:Option Nat) (v:Value) (t:Nat) (h:d≠some t):(ax.put d v).ev (.tmp t)=ax.ev (.tmp t):=by
 cases d with
 |none=>rfl
 |some d=>exact Act.ev_put_ne ax v (fun e=>h (by rw [e]))
theorem call_kind {dst:Option Nat} (r:Rl Pr μ w a σ ax s) (k2:Rl Pr μ' w' a' σ' ax s') (mu:∃ν,μ'=μ++ν) (k5:∀i,i<s.next→(∀k,w (.obj k)≠some i)→(∀k c,w (.cell k c)≠some i)→s'.get i=s.get i):
  KindOk ⟨.call,dst,a,σ,σ'⟩ ⟨true,[],[],s,s'⟩ ⟨μ,w,a,σ,ax,s⟩ .call:=by
 refine ⟨rfl,k5,fun k i o o' hm h0 h1=> ?_⟩
 obtain ⟨i1,b1,p1,p2,p3⟩:=r.obj k o h0
 obtain ⟨i2,b2,q1,q2,q3⟩:=k2.obj k o' h1
 have hm:μ[k]? =some i:=hm
 rw [hm] at p1;cases p1
 obtain ⟨ν,rfl⟩:=mu
 rw [List.getElem?_append_left (List.getElem?_eq_some_iff.1 hm).1,hm] at q1;cases q1
 exact ⟨⟨b1,p2⟩,b2,q2⟩
theorem topsD_sound {C:TCallee} {X:Xe.Callee} (hC:CallOk C X) {an:Ann} {b:Nat}:∀(ops:List XOper) {Pr:Nat→Prop} {μ:List Nat} {w:Own} {a:TAct} {σ:Sto} {ax:Xe.Act} {s:AS} {lt lt':List TRec} {lr:List Rec} {a':TAct} {σ':Sto},
  topsD an b C ops a σ lt=some (a',σ',lt')→Rl Pr μ w a σ ax s→(∀i,Pr i→i<s.next)→∃ax' s' μ' w' tl rl,xopsD X ops ax s lr=some (ax',s',lr.reverse++rl)∧lt'=lt.reverse++tl∧Chn Pr ax s tl rl∧Rl Pr μ' w' a' σ' ax' s'∧After w w' μ μ' s s'
 |[],Pr,μ,w,a,σ,ax,s,lt,lt',lr,a',σ',h,r,hP=>by
  simp only [topsD] at h
  cases h
  exact ⟨ax,s,μ,w,[],[],by simp [xopsD],by simp,.nil ax s,r,After.refl _ _ _⟩
 |⟨dst,op,guard⟩::ops,Pr,μ,w,a,σ,ax,s,lt,lt',lr,a',σ',h,r,hP=>by
  have ih:=@topsD_sound C X hC an b ops
  have fin:∀{tr:TRec} {rc:Rec} {n:Snap} {ax1:Xe.Act} {s1:AS} {μ1:List Nat} {w1:Own} {a1:TAct} {σ1:Sto},n.ax=ax→n.s=s→Good Pr tr rc n ax1 s1→topsD an b C ops a1 σ1 (tr::lt)=some (a',σ',lt')→Rl Pr μ1 w1 a1 σ1 ax1 s1→After w w1 μ μ1 s s1→
    ∃ax' s' μ' w' tl rl,xopsD X ops ax1 s1 (rc::lr)=some (ax',s',lr.reverse++rl)∧lt'=lt.reverse++tl∧Chn Pr ax s tl rl∧Rl Pr μ' w' a' σ' ax' s'∧After w w' μ μ' s s':=by
   intro tr rc n ax1 s1 μ1 w1 a1 σ1 hn hs hg hd hr haf
   obtain ⟨ax',s',μ',w',tl,rl,q1,q2,q3,q4,q5⟩:=ih (lr:=rc::lr) hd hr (haf.hP hP)
   refine ⟨ax',s',μ',w',tr::tl,rc::rl,by rw [q1];simp,by rw [q2];simp,?_,q4,haf.trans q5⟩
   have:=Chn.cons hg q3
   rwa [hn,hs] at this
  rw [topsD] at h
  rw [xopsD]
  cases hg:wantedT a guard with
  |none=>simp only [hg] at h;cases h
  |some c=>
   have hw:=r.wanted hg
   cases c with
   |false=>
    simp only [hg] at h
    simp only [hw]
    obtain ⟨w1,r1,h1⟩:=r.putD dst (undef_rv _ _)
    exact fin (tr:=⟨.no,dst,a,σ,σ⟩) (n:=⟨μ,w,a,σ,ax,s⟩) rfl rfl ⟨r,fun _=>rfl,rfl,Nat.le_refl _,fun t ht=>put_ne dst _ t ht,rfl,rfl,rfl⟩ h r1 h1
   |true=>
    simp only [hg] at h
    simp only [hw]
    cases op
    case call f args=>
     simp only at h ⊢
     split at h
     ·rename_i vs hgv
      split at h
      ·rename_i v σ1 hc
       obtain ⟨w1,r1,hsub⟩:=r.frzs args
       obtain ⟨e',s',μ',w',k1,k2,k3,k4,k5⟩:=r1.call hC hP hc (gives_rel r1 rfl args (fun x hx=>hx) hgv)
       cases e' with
       |panic v'=>exact k4.elim
       |ret v'=>
        simp only [k1]
        obtain ⟨w2,r2,h2⟩:=k2.putD dst k4
        exact fin (n:=⟨μ,w1,frzs a args,σ,ax,s⟩) rfl rfl ⟨r1,fun _=>rfl,rfl,k3.le,fun t ht=>put_ne dst _ t ht,call_kind r1 k2 k3.mu k5⟩ h r2 ((k3.sub hsub).trans h2)
      ·cases h
     ·cases h
    case callV x args=>
     simp only at h ⊢
     split at h
     ·rename_i vs hgv
      split at h
      ·rename_i f l ht
       split at h
       ·rename_i v σ1 hc
        obtain ⟨w1,r1,hsub⟩:=r.frzs args
        have hx:pl (a.ev x)=true→RV s.get μ (Zo w1 Pr) (a.ev x) (ax.ev x):=fun h=>(r.plain h).mono (Mo.sub hsub)
        obtain ⟨l',t1,t2⟩:=target_rel hx (gives_rel r1 rfl args (fun x hx=>hx) hgv) ht
        obtain ⟨e',s',μ',w',k1,k2,k3,k4,k5⟩:=r1.call hC hP hc t2
        cases e' with
        |panic v'=>exact k4.elim
        |ret v'=>
         simp only [t1,k1]
         obtain ⟨w2,r2,h2⟩:=k2.putD dst k4
         exact fin (n:=⟨μ,w1,frzs a args,σ,ax,s⟩) rfl rfl ⟨r1,fun _=>rfl,rfl,k3.le,fun t ht=>put_ne dst _ t ht,call_kind r1 k2 k3.mu k5⟩ h r2 ((k3.sub hsub).trans h2)
       ·cases h
      ·cases h
     ·cases h
    all_goals
     simp only at h ⊢
     split at h
     ·rename_i v a1 σ1 hd
      obtain ⟨p,k1,μ1,w1,k2,k3⟩:=tdo_sound _ _ dst _ hd r hP
      simp only [k1]
      exact fin (n:=⟨μ,w,a,σ,ax,s⟩) rfl rfl ⟨r,fun _=>rfl,rfl,k3.le,fun t ht=>put_ne dst _ t ht,kind_prim k1 r.dm _ _ rfl rfl⟩ h k2 k3
     ·cases h
end
end Go.Xt
end
section
namespace Go.Xt
open Go Go.Xe
section
variable {Pr:Nat→Prop} {μ μ':List Nat} {w w':Own} {a a':TAct} {σ σ':Sto} {ax ax':Xe.Act} {s s':AS}
def BodyOk (t:TAct→Sto→Option (TEx×TAct×Sto)) (x:Xe.Act→AS→Option (Xe.Ex×Xe.Act×AS)):Prop:=
 ∀(Pr:Nat→Prop) (μ:List Nat) (w:Own) (a:TAct) (σ:Sto) (ax:Xe.Act) (s:AS) (e:TEx) (a':TAct) (σ':Sto),t a σ=some (e,a',σ')→Rl Pr μ w a σ ax s→(∀i,Pr i→i<s.next)→Res Pr μ w s e a' σ' (x ax s)
theorem tloop_sound {t:TAct→Sto→Option (TEx×TAct×Sto)} {x:Xe.Act→AS→Option (Xe.Ex×Xe.Act×AS)} (hb:BodyOk t x):∀n,BodyOk (tloop t n) (xloop x n)
 |0,Pr,μ,w,a,σ,ax,s,e,a',σ',h,r,hP=>by simp only [tloop] at h;cases h
 |n+1,Pr,μ,w,a,σ,ax,s,e,a',σ',h,r,hP=>by
  simp only [tloop] at h
  simp only [xloop]
  cases ht:t a σ with
  |none=>rw [ht] at h;cases h
  |some p=>
   obtain ⟨e1,a1,σ1⟩:=p
   rw [ht] at h
   obtain ⟨e',ax1,s1,μ1,w1,k1,k2,k3,k4⟩:=hb Pr μ w a σ ax s e1 a1 σ1 ht r hP
   rw [k1]
   cases e1 with
   |normal=>
    cases e'<;>first|(exact k4.elim)|skip
    exact (tloop_sound hb n Pr μ1 w1 a1 σ1 ax1 s1 e a' σ' h k2 (k3.hP hP)).after k3
   |exit k=>
    cases h
    cases e'<;>first|(exact k4.elim)|skip
    exact ⟨_,ax1,s1,μ1,w1,rfl,k2,k3,k4⟩
   |ret=>
    cases h
    cases e'<;>first|(exact k4.elim)|skip
    exact ⟨_,ax1,s1,μ1,w1,rfl,k2,k3,k4⟩
   |panic v=>
    cases h
    cases e'<;>first|(exact k4.elim)|skip
    exact ⟨_,ax1,s1,μ1,w1,rfl,k2,k3,k4⟩
theorem tcode_sound {C:TCallee} {X:Xe.Callee} (hC:CallOk C X) {an:Ann} {b n:Nat}:∀c:XCode,BodyOk (tcode an b C n c) (xcode X n c)
 |.skip,Pr,μ,w,a,σ,ax,s,e,a',σ',h,r,hP=>by
  simp only [tcode] at h;cases h
  exact ⟨.normal,ax,s,μ,w,rfl,r,After.refl _ _ _,trivial⟩
 |.exit id,Pr,μ,w,a,σ,ax,s,e,a',σ',h,r,hP=>by
  simp only [tcode] at h;cases h
  exact ⟨.exit id,ax,s,μ,w,rfl,r,After.refl _ _ _,rfl⟩
 |.ret,Pr,μ,w,a,σ,ax,s,e,a',σ',h,r,hP=>by
  simp only [tcode] at h;cases h
  exact ⟨.ret,ax,s,μ,w,rfl,r,After.refl _ _ _,trivial⟩
 |.region ops,Pr,μ,w,a,σ,ax,s,e,a',σ',h,r,hP=>by
  simp only [tcode] at h
  simp only [xcode]
  exact tops_sound hC ops h r hP
 |.regionD ops ps,Pr,μ,w,a,σ,ax,s,e,a',σ',h,r,hP=>by
  simp only [tcode] at h
  simp only [xcode]
  split at h
  ·rename_i a1 σ1 l hd
   split at h
   ·rename_i hp
    cases h
    obtain ⟨ax',s',μ',w',tl,rl,q1,q2,q3,q4,q5⟩:=topsD_sound hC ops (lr:=[]) hd r hP
    simp only [List.reverse_nil,List.nil_append] at q1 q2
    subst q2
    simp only [q1,pairs_ok q3 ps hp]
    exact ⟨.normal,ax',s',μ',w',rfl,q4,q5,trivial⟩
   ·cases h
  ·cases h
 |.seq x y,Pr,μ,w,a,σ,ax,s,e,a',σ',h,r,hP=>by
  have h1:=tcode_sound hC (an:=an) (b:=b) (n:=n) x
  have h2:=tcode_sound hC (an:=an) (b:=b) (n:=n) y
  simp only [tcode] at h
  simp only [xcode]
  cases ht:tcode an b C n x a σ with
  |none=>rw [ht] at h;cases h
  |some p=>
   obtain ⟨e1,a1,σ1⟩:=p
   rw [ht] at h
   obtain ⟨e',ax1,s1,μ1,w1,k1,k2,k3,k4⟩:=h1 Pr μ w a σ ax s e1 a1 σ1 ht r hP
   rw [k1]
   cases e1 with
   |normal=>
    cases e'<;>first|(exact k4.elim)|skip
    exact (h2 Pr μ1 w1 a1 σ1 ax1 s1 e a' σ' h k2 (k3.hP hP)).after k3
   |exit k=>
    cases h
    cases e'<;>first|(exact k4.elim)|skip
    exact ⟨_,ax1,s1,μ1,w1,rfl,k2,k3,k4⟩
   |ret=>
    cases h
    cases e'<;>first|(exact k4.elim)|skip
    exact ⟨_,ax1,s1,μ1,w1,rfl,k2,k3,k4⟩
   |panic v=>
    cases h
    cases e'<;>first|(exact k4.elim)|skip
    exact ⟨_,ax1,s1,μ1,w1,rfl,k2,k3,k4⟩
 |.cond c x y,Pr,μ,w,a,σ,ax,s,e,a',σ',h,r,hP=>by
  have h1:=tcode_sound hC (an:=an) (b:=b) (n:=n) x
  have h2:=tcode_sound hC (an:=an) (b:=b) (n:=n) y
  simp only [tcode] at h
  simp only [xcode]
  split at h
  ·rename_i hc
   have:=r.plainOf hc rfl
   revert this;generalize ax.ev c=z;intro this;cases this
   exact h1 Pr μ w a σ ax s e a' σ' h r hP
  ·rename_i hc
   have:=r.plainOf hc rfl
   revert this;generalize ax.ev c=z;intro this;cases this
   exact h2 Pr μ w a σ ax s e a' σ' h r hP
  ·cases h
 |.block id c,Pr,μ,w,a,σ,ax,s,e,a',σ',h,r,hP=>by
  have h1:=tcode_sound hC (an:=an) (b:=b) (n:=n) c
  simp only [tcode] at h
  simp only [xcode]
  cases ht:tcode an b C n c a σ with
  |none=>rw [ht] at h;cases h
  |some p=>
   obtain ⟨e1,a1,σ1⟩:=p
   rw [ht] at h
   obtain ⟨e',ax1,s1,μ1,w1,k1,k2,k3,k4⟩:=h1 Pr μ w a σ ax s e1 a1 σ1 ht r hP
   rw [k1]
   cases e1 with
   |normal=>
    cases h
    cases e'<;>first|(exact k4.elim)|skip
    exact ⟨_,ax1,s1,μ1,w1,rfl,k2,k3,k4⟩
   |exit k=>
    cases e'<;>first|(exact k4.elim)|skip
    have k4:_=k:=k4
    subst k4
    simp only at h ⊢
    split at h
    ·rename_i hb
     cases h
     simp only [hb]
     exact ⟨.normal,ax1,s1,μ1,w1,rfl,k2,k3,trivial⟩
    ·rename_i hb
     cases h
     simp only [hb]
     exact ⟨_,ax1,s1,μ1,w1,rfl,k2,k3,rfl⟩
   |ret=>
    cases h
    cases e'<;>first|(exact k4.elim)|skip
    exact ⟨_,ax1,s1,μ1,w1,rfl,k2,k3,k4⟩
   |panic v=>
    cases h
    cases e'<;>first|(exact k4.elim)|skip
    exact ⟨_,ax1,s1,μ1,w1,rfl,k2,k3,k4⟩
 |.loop c,Pr,μ,w,a,σ,ax,s,e,a',σ',h,r,hP=>by
  have h1:=tcode_sound hC (an:=an) (b:=b) (n:=n) c
  simp only [tcode] at h
  simp only [xcode]
  exact tloop_sound h1 n Pr μ w a σ ax s e a' σ' h r hP
def RMd (g:Hp) (μ:List Nat) (Z:Nat→Prop):TMode→Xe.Mode→Prop
 |.ret,.ret=>True
 |.panicking v,.panicking v'=>RV g μ Z v v'
 |.recovered,.recovered=>True
 |_,_=>False
theorem RMd.mono {g g':Hp} {Z Z':Nat→Prop} (mo:Mo g μ Z g' μ' Z'):∀{m:TMode} {m':Xe.Mode},RMd g μ Z m m'→RMd g' μ' Z' m m'
 |.ret,.ret,_=>trivial
 |.panicking _,.panicking _,h=>RV.mono mo h
 |.recovered,.recovered,_=>trivial
 |.ret,.panicking _,h=>h.elim
 |.ret,.recovered,h=>h.elim
 |.panicking _,.ret,h=>h.elim
 |.panicking _,.recovered,h=>h.elim
 |.recovered,.ret,h=>h.elim
 |.recovered,.panicking _,h=>h.elim
def ResR (Pr:Nat→Prop) (μ:List Nat) (w:Own) (s:AS) (e:TEx) (a:TAct) (σ:Sto) (m:TMode) (x:Option (Xe.Ex×Xe.Act×AS×Xe.Mode)):Prop:=
 ∃e' ax s' μ' w' m',x=some (e',ax,s',m')∧Rl Pr μ' w' a σ ax s'∧After w w' μ μ' s s'∧REx s'.get μ' (Zo w' Pr) e e'∧RMd s'.get μ' (Zo w' Pr) m m'
theorem ResR.after {w1:Own} {μ1:List Nat} {s1:AS} {e:TEx} {m:TMode} {x:Option (Xe.Ex×Xe.Act×AS×Xe.Mode)} (h:After w w1 μ μ1 s s1) (k:ResR Pr μ1 w1 s1 e a σ m x):ResR Pr μ w s e a σ m x:=by
 obtain ⟨e',ax,s',μ',w',m',k1,k2,k3,k4⟩:=k
 exact ⟨e',ax,s',μ',w',m',k1,k2,h.trans k3,k4⟩
theorem xopsR_other {X:Xe.Callee} {dst:Option Nat} {op:XOp} {guard:Option (Nat×Bool)} {ops:List XOper} {m:Xe.Mode} (hw:wantedX ax guard=true) (h:op≠.recover):xopsR X (⟨dst,op,guard⟩::ops) ax s m=(match xops X [⟨dst,op,guard⟩] ax s with
        |some (.normal,a,s)=>xopsR X ops a s m
        |some (e,a,s)=>some (e,a,s,m)
        |none=>none):=by
 rw [xopsR.eq_def]
 simp only [hw]
 cases op<;>first|rfl|exact absurd rfl h
theorem topsR_sound {C:TCallee} {X:Xe.Callee} (hC:CallOk C X) {an:Ann} {b:Nat}:∀(ops:List XOper) {Pr:Nat→Prop} {μ:List Nat} {w:Own} {a:TAct} {σ:Sto} {ax:Xe.Act} {s:AS} {m:TMode} {mx:Xe.Mode} {e:TEx} {a':TAct} {σ':Sto} {m':TMode},
  topsR an b C ops a σ m=some (e,a',σ',m')→Rl Pr μ w a σ ax s→(∀i,Pr i→i<s.next)→RMd s.get μ (Zo w Pr) m mx→ResR Pr μ w s e a' σ' m' (xopsR X ops ax s mx)
 |[],Pr,μ,w,a,σ,ax,s,m,mx,e,a',σ',m',h,r,hP,hm=>by
  simp only [topsR] at h
  cases h
  exact ⟨.normal,ax,s,μ,w,mx,rfl,r,After.refl _ _ _,trivial,hm⟩
 |⟨dst,op,guard⟩::ops,Pr,μ,w,a,σ,ax,s,m,mx,e,a',σ',m',h,r,hP,hm=>by
  have ih:=@topsR_sound C X hC an b ops
  rw [topsR.eq_def] at h
  cases hg:wantedT a guard with
  |none=>simp only [hg] at h;cases h
  |some c=>
   have hw:=r.wanted hg
   cases c with
   |false=>
    rw [xopsR.eq_def]
    simp only [hg] at h
    simp only [hw]
    obtain ⟨w1,r1,h1⟩:=r.putD dst (undef_rv _ _)
    exact (ih h r1 (h1.hP hP) (hm.mono (h1.mo r.dm))).after h1
   |true=>
    simp only [hg] at h
    have other:op≠.recover→(match tops an b C [⟨dst,op,guard⟩] a σ with
      |some (.normal,a,σ)=>topsR an b C ops a σ m
      |some (e,a,σ)=>some (e,a,σ,m)
      |none=>none)=some (e,a',σ',m')→ResR Pr μ w s e a' σ' m' (xopsR X (⟨dst,op,guard⟩::ops) ax s mx):=by
     intro hne h
     rw [xopsR_other hw hne]
     cases ht:tops an b C [⟨dst,op,guard⟩] a σ with
     |none=>rw [ht] at h;cases h
     |some p=>
      obtain ⟨e1,a1,σ1⟩:=p
      rw [ht] at h
      obtain ⟨e',ax1,s1,μ1,w1,k1,k2,k3,k4⟩:=tops_sound hC _ ht r hP
      rw [k1]
      have hm1:=hm.mono (k3.mo r.dm)
      cases e1 with
      |normal=>
       cases e'<;>first|(exact k4.elim)|skip
       exact (ih h k2 (k3.hP hP) hm1).after k3
      |exit k=>
       cases h
       cases e'<;>first|(exact k4.elim)|skip
       exact ⟨_,ax1,s1,μ1,w1,mx,rfl,k2,k3,k4,hm1⟩
      |ret=>
       cases h
       cases e'<;>first|(exact k4.elim)|skip
       exact ⟨_,ax1,s1,μ1,w1,mx,rfl,k2,k3,k4,hm1⟩
      |panic v=>
       cases h
       cases e'<;>first|(exact k4.elim)|skip
       exact ⟨_,ax1,s1,μ1,w1,mx,rfl,k2,k3,k4,hm1⟩
    cases op
    case recover=>
     rw [xopsR.eq_def]
     simp only [hw]
     cases m with
     |panicking v=>
      cases mx<;>first|(exact hm.elim)|skip
      simp only at h ⊢
      obtain ⟨w1,r1,h1⟩:=r.putD dst (show RV s.get μ (Zo w Pr) v _ from hm)
      exact (ih (mx:=.recovered) h r1 (h1.hP hP) trivial).after h1
     |ret=>
      cases mx<;>first|(exact hm.elim)|skip
      simp only at h ⊢
      obtain ⟨w1,r1,h1⟩:=r.putD dst (tv:=.nili) (v:=.nilIface) .nili
      exact (ih (mx:=.ret) h r1 (h1.hP hP) trivial).after h1
     |recovered=>
      cases mx<;>first|(exact hm.elim)|skip
      simp only at h ⊢
      obtain ⟨w1,r1,h1⟩:=r.putD dst (tv:=.nili) (v:=.nilIface) .nili
      exact (ih (mx:=.recovered) h r1 (h1.hP hP) trivial).after h1
    all_goals exact other (by simp) h
theorem tcodeR_sound {C:TCallee} {X:Xe.Callee} (hC:CallOk C X) {an:Ann} {b n:Nat}:∀(c:XCode) {Pr:Nat→Prop} {μ:List Nat} {w:Own} {a:TAct} {σ:Sto} {ax:Xe.Act} {s:AS} {m:TMode} {mx:Xe.Mode} {e:TEx} {a':TAct} {σ':Sto} {m':TMode},
  tcodeR an b C n c a σ m=some (e,a',σ',m')→Rl Pr μ w a σ ax s→(∀i,Pr i→i<s.next)→RMd s.get μ (Zo w Pr) m mx→ResR Pr μ w s e a' σ' m' (xcodeR X n c ax s mx):=by
 intro c
 have other:∀(c:XCode),(∀Pr μ w a σ ax s m mx e a' σ' m',(match tcode an b C n c a σ with|some (e,a,σ)=>some (e,a,σ,m)|none=>none)=some (e,a',σ',m')→Rl Pr μ w a σ ax s→(∀i,Pr i→i<s.next)→RMd s.get μ (Zo w Pr) m mx→
   ResR Pr μ w s e a' σ' m' (match xcode X n c ax s with|some (e,a,s)=>some (e,a,s,mx)|none=>none)):=by
  intro c Pr μ w a σ ax s m mx e a' σ' m' h r hP hm
  split at h
  ·rename_i e1 a1 σ1 ht
   cases h
   obtain ⟨e',ax1,s1,μ1,w1,k1,k2,k3,k4⟩:=tcode_sound hC c Pr μ w a σ ax s _ _ _ ht r hP
   rw [k1]
   exact ⟨e',ax1,s1,μ1,w1,mx,rfl,k2,k3,k4,hm.mono (k3.mo r.dm)⟩
  ·cases h
 induction c with
 |skip=>intro Pr μ w a σ ax s m mx e a' σ' m' h r hP hm;rw [tcodeR.eq_def] at h;rw [xcodeR.eq_def];simp only at h ⊢;exact other .skip _ _ _ _ _ _ _ _ _ _ _ _ _ h r hP hm
 |exit id=>intro Pr μ w a σ ax s m mx e a' σ' m' h r hP hm;rw [tcodeR.eq_def] at h;rw [xcodeR.eq_def];simp only at h ⊢;exact other (.exit id) _ _ _ _ _ _ _ _ _ _ _ _ _ h r hP hm
 |ret=>intro Pr μ w a σ ax s m mx e a' σ' m' h r hP hm;rw [tcodeR.eq_def] at h;rw [xcodeR.eq_def];simp only at h ⊢;exact other .ret _ _ _ _ _ _ _ _ _ _ _ _ _ h r hP hm
 |loop c ih=>intro Pr μ w a σ ax s m mx e a' σ' m' h r hP hm;rw [tcodeR.eq_def] at h;rw [xcodeR.eq_def];simp only at h ⊢;exact other (.loop c) _ _ _ _ _ _ _ _ _ _ _ _ _ h r hP hm
 |regionD ops ps=>intro Pr μ w a σ ax s m mx e a' σ' m' h r hP hm;rw [tcodeR.eq_def] at h;rw [xcodeR.eq_def];simp only at h ⊢;exact other (.regionD ops ps) _ _ _ _ _ _ _ _ _ _ _ _ _ h r hP hm
 |region ops=>
  intro Pr μ w a σ ax s m mx e a' σ' m' h r hP hm
  rw [tcodeR.eq_def] at h;rw [xcodeR.eq_def];simp only at h ⊢
  exact topsR_sound hC ops h r hP hm
 |seq x y ihx ihy=>
  intro Pr μ w a σ ax s m mx e a' σ' m' h r hP hm
  rw [tcodeR.eq_def] at h;rw [xcodeR.eq_def];simp only at h ⊢
  cases ht:tcodeR an b C n x a σ m with
  |none=>rw [ht] at h;cases h
  |some p=>
   obtain ⟨e1,a1,σ1,m1⟩:=p
   rw [ht] at h
   obtain ⟨e',ax1,s1,μ1,w1,mx1,k1,k2,k3,k4,k5⟩:=ihx ht r hP hm
   rw [k1]
   cases e1 with
   |normal=>
    cases e'<;>first|(exact k4.elim)|skip
    exact (ihy h k2 (k3.hP hP) k5).after k3
   |exit k=>
    cases h
    cases e'<;>first|(exact k4.elim)|skip
    exact ⟨_,ax1,s1,μ1,w1,mx1,rfl,k2,k3,k4,k5⟩
   |ret=>
    cases h
    cases e'<;>first|(exact k4.elim)|skip
    exact ⟨_,ax1,s1,μ1,w1,mx1,rfl,k2,k3,k4,k5⟩
   |panic v=>
    cases h
    cases e'<;>first|(exact k4.elim)|skip
    exact ⟨_,ax1,s1,μ1,w1,mx1,rfl,k2,k3,k4,k5⟩
 |cond c x y ihx ihy=>
  intro Pr μ w a σ ax s m mx e a' σ' m' h r hP hm
  rw [tcodeR.eq_def] at h;rw [xcodeR.eq_def];simp only at h ⊢
  split at h
  ·rename_i hc
   have:=r.plainOf hc rfl
   revert this;generalize ax.ev c=z;intro this;cases this
   exact ihx h r hP hm
  ·rename_i hc
   have:=r.plainOf hc rfl
   revert this;generalize ax.ev c=z;intro this;cases this
   exact ihy h r hP hm
  ·cases h
 |block id c ih=>
  intro Pr μ w a σ ax s m mx e a' σ' m' h r hP hm
  rw [tcodeR.eq_def] at h;rw [xcodeR.eq_def];simp only at h ⊢
  cases ht:tcodeR an b C n c a σ m with
  |none=>rw [ht] at h;cases h
  |some p=>
   obtain ⟨e1,a1,σ1,m1⟩:=p
   rw [ht] at h
   obtain ⟨e',ax1,s1,μ1,w1,mx1,k1,k2,k3,k4,k5⟩:=ih ht r hP hm
   rw [k1]
   cases e1 with
   |normal=>
    cases h
    cases e'<;>first|(exact k4.elim)|skip
    exact ⟨_,ax1,s1,μ1,w1,mx1,rfl,k2,k3,k4,k5⟩
   |exit k=>
    cases e'<;>first|(exact k4.elim)|skip
    have k4:_=k:=k4
    subst k4
    simp only at h ⊢
    split at h
    ·rename_i hb
     cases h
     simp only [hb]
     exact ⟨.normal,ax1,s1,μ1,w1,mx1,rfl,k2,k3,trivial,k5⟩
    ·rename_i hb
     cases h
     simp only [hb]
     exact ⟨_,ax1,s1,μ1,w1,mx1,rfl,k2,k3,rfl,k5⟩
   |ret=>
    cases h
    cases e'<;>first|(exact k4.elim)|skip
    exact ⟨_,ax1,s1,μ1,w1,mx1,rfl,k2,k3,k4,k5⟩
   |panic v=>
    cases h
    cases e'<;>first|(exact k4.elim)|skip
    exact ⟨_,ax1,s1,μ1,w1,mx1,rfl,k2,k3,k4,k5⟩
end
end Go.Xt
end
section
namespace Go.Xt
open Go Go.Xe
theorem belows_iff {k:Nat}:∀{l:List TV},below.belows k l=true↔∀v∈l,below k v=true
 |[]=>by simp [below.belows]
 |v::l=>by simp [below.belows,belows_iff (l:=l)]
theorem belowss_iff {k:Nat}:∀{l:List (List TV)},below.belowss k l=true↔∀c∈l,below.belows k c=true
 |[]=>by simp [below.belowss]
 |v::l=>by simp [below.belowss,belowss_iff (l:=l)]
mutual
theorem below0 (k:Nat):∀v:TV,below 0 v=true→below k v=true
 |.ptr i o,h=>by simp [below,bltNat] at h
 |.ref i _ _ _ _,h=>by simp [below,bltNat] at h
 |.map i,h=>by simp [below,bltNat] at h
 |.elt ch _,h=>by simp only [below] at h ⊢;exact belows0 k ch h
 |.sl _ chs,h=>by simp only [below] at h ⊢;exact belowss0 k chs h
 |.func _ x y,h=>by simp only [below,Bool.and_eq_true] at h ⊢;exact ⟨belows0 k x h.1,belows0 k y h.2⟩
 |.iface _ v,h=>by simp only [below] at h ⊢;exact below0 k v h
 |.agg l,h=>by simp only [below] at h ⊢;exact belows0 k l h
 |.tuple l,h=>by simp only [below] at h ⊢;exact belows0 k l h
 |.int _ _,_=>rfl
 |.bool _,_=>rfl
 |.str _,_=>rfl
 |.nilp,_=>rfl
 |.via _ _,_=>rfl
 |.vel _ _ _ _,_=>rfl
 |.bx _ _ _,_=>rfl
 |.vpt _ _ _,_=>rfl
 |.nilm,_=>rfl
 |.nilf,_=>rfl
 |.nili,_=>rfl
 |.dead,_=>rfl
theorem belows0 (k:Nat):∀l:List TV,below.belows 0 l=true→below.belows k l=true
 |[],_=>rfl
 |v::l,h=>by
  simp only [below.belows,Bool.and_eq_true] at h ⊢
  exact ⟨below0 k v h.1,belows0 k l h.2⟩
theorem belowss0 (k:Nat):∀l:List (List TV),below.belowss 0 l=true→below.belowss k l=true
 |[],_=>rfl
 |v::l,h=>by
  simp only [below.belowss,Bool.and_eq_true] at h ⊢
  exact ⟨belows0 k v h.1,belowss0 k l h.2⟩
end
theorem below_frz (k:Nat) (v:TV):below k (frz v)=below k v:=by
 cases v<;>first|rfl|skip
 rename_i m c;cases m<;>rfl
def belowO (k:Nat) (o:TObj):Bool:=
 match o.body with
 |.cells vs _=>below.belows k vs
 |.map es _=>es.all fun e=>below k e.1&&below k e.2.1
 |.iter _ _=>true
structure Inv (k:Nat) (σ:Sto):Prop where
 le:k≤σ.length
 obj:∀k' o,k'<k→σ.at k'=some o→belowO k o=true
section
variable {a a':TAct} {σ σ':Sto} {k b:Nat}
theorem Sto.at_set (σ:Sto) (i:Nat) (o:TObj) (j:Nat) (x:TObj) (h:Sto.at (σ.set i (some o)) j=some x):(j=i∧x=o)∨σ.at j=some x:=by
 unfold Sto.at at h ⊢
 rw [List.getElem?_set] at h
 by_cases e:i=j
 ·subst e
  rw [if_pos rfl] at h
  split at h
  ·rename_i y hy
   split at hy
   ·cases hy;cases h;exact .inl ⟨rfl,rfl⟩
   ·cases hy
  ·cases h
 ·rw [if_neg e] at h;exact .inr h
theorem Sto.at_app (σ:Sto) (o:TObj) (j:Nat) (x:TObj) (h:Sto.at (σ++[some o]) j=some x):j=σ.length∨σ.at j=some x:=by
 by_cases hj:j<σ.length
 ·right;unfold Sto.at at h ⊢;rwa [List.getElem?_append_left hj] at h
 ·left
  unfold Sto.at at h
  split at h
  ·rename_i y hy
   have:=(List.getElem?_eq_some_iff.1 hy).1
   simp at this;omega
  ·cases h
theorem Inv.set (h:Inv k σ) (i:Nat) (o:TObj) (ho:i<k→belowO k o=true):Inv k (σ.set i (some o)):=
 ⟨by simp;exact h.le,fun k' x hk e=>by
  rcases Sto.at_set σ i o k' x e with ⟨rfl,rfl⟩|e
  ·exact ho hk
  ·exact h.obj k' x hk e⟩
theorem Inv.app (h:Inv k σ) (o:TObj):Inv k (σ++[some o]):=
 ⟨by simp;have:=h.le;omega,fun k' x hk e=>by
  rcases Sto.at_app σ o k' x e with rfl|e
  ·have:=h.le;omega
  ·exact h.obj k' x hk e⟩
theorem belows_put {vs l:List TV} {o:Nat} (h:below.belows k vs=true) (hl:below.belows k l=true):below.belows k (putAt vs o l)=true:=by
 rw [belows_iff] at h hl ⊢
 intro v hv
 unfold putAt at hv
 rcases List.mem_append.1 hv with hv|hv
 ·rcases List.mem_append.1 hv with hv|hv
  ·exact h v (List.mem_of_mem_take hv)
  ·exact hl v hv
 ·exact h v (List.mem_of_mem_drop hv)
theorem belows_set {vs:List TV} {o:Nat} {v:TV} (h:below.belows k vs=true) (hl:below k v=true):below.belows k (vs.set o v)=true:=by
 rw [belows_iff] at h ⊢
 intro x hx
 rcases List.mem_or_eq_of_mem_set hx with hx|rfl
 ·exact h x hx
 ·exact hl
theorem belows_sub {vs l:List TV} (h:below.belows k vs=true) (hs:∀x∈l,x∈vs):below.belows k l=true:=by
 rw [belows_iff] at h ⊢
 exact fun x hx=>h x (hs x hx)
theorem belows_frz {l:List TV} (h:below.belows k l=true):below.belows k (l.map frz)=true:=by
 rw [belows_iff] at h ⊢
 intro x hx
 obtain ⟨y,hy,rfl⟩:=List.mem_map.1 hx
 rw [below_frz];exact h y hy
theorem base_below {i:Nat} {l:List TV} (h:baseOk b i l=true) (hk:i<k) (hb:k≤b):below.belows k l=true:=by
 unfold baseOk at h
 rw [bleNat,decide_eq_false (show ¬b≤i by omega)] at h
 exact belows0 k l h
theorem Inv.del (h:Inv k σ) (i:Nat):Inv k (σ.set i none):=
 ⟨by simp;exact h.le,fun k' x hk e=>h.obj k' x hk (by
  unfold Sto.at at e ⊢
  rw [List.getElem?_set] at e
  by_cases hi:i=k'
  ·rw [if_pos hi] at e;split at e
   ·rename_i y hy;split at hy<;>cases hy
   ·cases e
  ·rw [if_neg hi] at e;exact e)⟩
theorem plSet_inv (h:Inv k σ) {f:TV→TV} {p:Pl} (hf:∀i o v vs ver e,p=.cell i o→i<k→σ.at i=some ⟨ver,.cells vs e⟩→vs[o]? =some v→below k v=true→below k (f v)=true):Inv k (plSet a σ f p).2:=by
 cases p with
 |tmp t=>exact h
 |tcell t o s=>
  simp only [plSet]
  split
  ·split<;>exact h
  ·exact h
 |cell i o=>
  simp only [plSet]
  split
  ·rename_i ver vs e hat
   split
   ·rename_i v hv
    refine h.set _ _ fun hk=> ?_
    have:=h.obj i _ hk hat
    simp only [belowO] at this ⊢
    exact belows_set this (hf i o v vs ver e rfl hk hat hv (belows_iff.1 this v (List.mem_of_getElem? hv)))
   ·exact h
  ·exact h
theorem tdo_inv {md:Nat} {op:XOp} {v:TV} (h:tdo md b a σ op=some (v,a',σ')) (hb:k≤b) (hi:Inv k σ):Inv k σ':=by
 cases op<;>simp only [tdo,tVal,tNew] at h<;>try (first|(cases h;exact hi)|((repeat' split at h)<;>first|(cases h;exact hi)|(cases h;done)|(cases h;exact hi.app _)))
 case move x=>
  simp only [tMove] at h
  (repeat' split at h)<;>first|(cases h;exact hi)|(cases h;done)
 case load1 p=>
  revert h;generalize a.at p=q;intro h
  cases q<;>simp only [tLoad1] at h<;>((repeat' split at h)<;>first|(cases h;exact hi)|(cases h;done)|skip)
  ·rename_i i o _ ver vs e hat _ v0 hv0 _ _ _
   cases h
   refine hi.set _ _ fun hk=> ?_
   have:=hi.obj i _ hk hat
   simp only [belowO] at this ⊢
   exact belows_set this rfl
  ·rename_i i o _ ver vs e hat _ v0 hv0 _ _ _
   cases h
   refine hi.set _ _ fun hk=> ?_
   have:=hi.obj i _ hk hat
   simp only [belowO] at this ⊢
   exact belows_set this (by rw [below_frz];exact belows_iff.1 this v0 (List.mem_of_getElem? hv0))
 case loadN n p=>
  revert h;generalize a.at p=q;intro h
  cases q<;>simp only [tLoadN] at h<;>((repeat' split at h)<;>first|(cases h;exact hi)|(cases h;done)|skip)
  rename_i i o _ ver vs e hat _ _ _ _
  cases h
  refine hi.set _ _ fun hk=> ?_
  have:=hi.obj i _ hk hat
  simp only [belowO] at this ⊢
  exact belows_put this (belows_frz (belows_sub this fun x hx=>List.mem_of_mem_drop (List.mem_of_mem_take hx)))
 case store n p x=>
  revert h;generalize a.at p=q;intro h
  cases q<;>simp only [tStore] at h<;>((repeat' split at h)<;>first|(cases h;exact hi)|(cases h;done)|skip)
  ·rename_i i o _ ver vs e hat _ hc
   cases h
   simp only [Bool.and_eq_true] at hc
   refine hi.set _ _ fun hk=> ?_
   have:=hi.obj i _ hk hat
   simp only [belowO] at this ⊢
   exact belows_put this (base_below hc.2 hk hb)
  ·rename_i pp c j o _ hcc _ _ chs gv hp hgv _ ch hch _ hc
   cases h
   simp only [Bool.and_eq_true] at hc
   refine plSet_inv hi fun i o' v0 vs ver e hpp hk hat hv0 hbl=> ?_
   subst hpp
   simp only [plGet,hat,hv0] at hp
   obtain ⟨_,e',sz,rfl⟩:=ownChs_some hp
   simp only [reSl,below] at hbl ⊢
   rw [belowss_iff] at hbl ⊢
   intro x hx
   rcases List.mem_or_eq_of_mem_set hx with hx|rfl
   ·exact hbl x hx
   ·exact belows_put (hbl ch (List.mem_of_getElem? hch)) (base_below hc.2 hk hb)
 case slice size x lo hi' mx=>
  revert h;generalize a.ev x=q;intro h
  cases q<;>simp only [tSlice] at h<;>((repeat' split at h)<;>first|(cases h;exact hi)|(cases h;done)|skip)
  cases h
  exact plSet_inv hi fun i o' v0 vs ver e hpp hk hat hv0 hbl=>by rw [below_frz];exact hbl
 case indexAddr size x i=>
  split at h
  ·revert h;generalize a.ev x=q;intro h
   cases q<;>(try (rename_i m c;cases m))<;>simp only [tIndex] at h<;>(repeat' split at h)<;>first|(cases h;exact hi)|(cases h;done)
  ·cases h
 case mapUpdate kk m x v=>
  split at h
  ·rename_i r hr
   cases h
   simp only [tMapUpdate] at hr
   split at hr
   ·rename_i i x1 v1 hm gx gv
    split at hr
    ·rename_i ver es ck hat
     split at hr
     ·rename_i hbo
      split at hr
      ·cases hr
       refine hi.set _ _ fun hk=> ?_
       have h1:=hi.obj i _ hk hat
       have h2:=base_below hbo hk hb
       simp only [belowO,below.belows,Bool.and_true,Bool.and_eq_true] at h1 h2 ⊢
       rw [List.all_eq_true] at h1 ⊢
       intro y hy
       obtain ⟨j,hj⟩:=List.getElem?_of_mem hy
       rw [List.getElem?_modify] at hj
       cases hz:es[j]? with
       |none=>rw [hz] at hj;cases hj
       |some z=>
        rw [hz] at hj
        simp only [Option.map_eq_map,Option.map_some,Option.some.injEq] at hj
        have:=h1 z (List.mem_of_getElem? hz)
        subst hj
        split
        ·simp [h2.1,h2.2]
        ·exact this
      ·cases hr
       refine hi.set _ _ fun hk=> ?_
       have h1:=hi.obj i _ hk hat
       have h2:=base_below hbo hk hb
       simp only [belowO,below.belows,Bool.and_true,Bool.and_eq_true] at h1 h2 ⊢
       rw [List.all_append,h1]
       simp [h2.1,h2.2]
      ·cases hr
     ·cases hr
    ·cases hr
   ·cases hr
  ·cases h
 case append e size bytes x y=>
  split at h
  ·have hh:∀{v:TV} {a':TAct} {σ':Sto} {new:List (List TV)},tAppend a σ e size bytes x new=some (v,a',σ')→Inv k σ':=by
    intro v a' σ' new h
    unfold tAppend at h
    (repeat' split at h)<;>first|(cases h;exact hi)|(cases h;done)|(cases h;exact (hi.del _).app _)|(cases h;exact hi.app _)
   split at h
   ·unfold tAppNew at h
    split at h
    ·split at h
     ·cases h;exact hi.app _
     ·cases h
    ·exact hh h
   ·exact hh h
  ·cases h
 case appendZ e z bytes x n=>
  split at h
  ·split at h
   ·unfold tAppend at h
    (repeat' split at h)<;>first|(cases h;exact hi)|(cases h;done)|(cases h;exact (hi.del _).app _)|(cases h;exact hi.app _)
   ·cases h
  ·cases h
 case copy size x y=>
  split at h
  ·unfold tCopy at h
   split at h
   ·rename_i i o sz n c hx
    split at h
    ·rename_i ver vs e hat
     split at h
     ·rename_i hc
      simp only [Bool.and_eq_true] at hc
      split at h
      ·cases h;exact hi
      ·rename_i m hm
       cases h
       refine hi.set _ _ fun hk=> ?_
       have h1:=hi.obj i _ hk hat
       have h2:=base_below hc.2 hk hb
       simp only [belowO] at h1 ⊢
       rw [hm] at h2
       exact belows_put h1 h2
     ·cases h
    ·cases h
   ·cases h
  ·cases h
end
end Go.Xt
end
section
namespace Go.Xt
open Go Go.Xe
structure InvC (C:TCallee):Prop where
 call:∀{b f:Nat} {args:List TV} {σ:Sto} {e:TEnd} {σ':Sto} {k:Nat},C b f args σ=some (e,σ')→k≤b→Inv k σ→Inv k σ'
section
variable {C:TCallee} {an:Ann} {b n k:Nat}
theorem tops_inv (hC:InvC C) (hb:k≤b):∀(ops:List XOper) {a:TAct} {σ:Sto} {e:TEx} {a':TAct} {σ':Sto},tops an b C ops a σ=some (e,a',σ')→Inv k σ→Inv k σ'
 |[],a,σ,e,a',σ',h,hi=>by simp only [tops] at h;cases h;exact hi
 |⟨dst,op,guard⟩::ops,a,σ,e,a',σ',h,hi=>by
  have ih:=@tops_inv hC hb ops
  rw [tops] at h
  cases hg:wantedT a guard with
  |none=>simp only [hg] at h;cases h
  |some c=>
   cases c with
   |false=>simp only [hg] at h;exact ih h hi
   |true=>
    simp only [hg] at h
    cases op
    case call f args=>
     simp only at h
     split at h
     ·split at h
      ·rename_i hc;exact ih h (hC.call hc hb hi)
      ·rename_i hc;cases h;exact hC.call hc hb hi
      ·cases h
     ·cases h
    case callV x args=>
     simp only at h
     split at h
     ·split at h
      ·split at h
       ·rename_i hc;exact ih h (hC.call hc hb hi)
       ·rename_i hc;cases h;exact hC.call hc hb hi
       ·cases h
      ·cases h
     ·cases h
    case panic x=>
     simp only at h
     split at h
     ·cases h;exact hi
     ·cases h
    case defer x args=>
     simp only at h
     split at h
     ·split at h
      ·exact ih h hi
      ·cases h
     ·cases h
    all_goals
     simp only at h
     split at h
     ·rename_i hd;exact ih h (tdo_inv hd hb hi)
     ·cases h
theorem topsD_inv (hC:InvC C) (hb:k≤b):∀(ops:List XOper) {a:TAct} {σ:Sto} {l l':List TRec} {a':TAct} {σ':Sto},topsD an b C ops a σ l=some (a',σ',l')→Inv k σ→Inv k σ'
 |[],a,σ,l,l',a',σ',h,hi=>by simp only [topsD] at h;cases h;exact hi
 |⟨dst,op,guard⟩::ops,a,σ,l,l',a',σ',h,hi=>by
  have ih:=@topsD_inv hC hb ops
  rw [topsD] at h
  cases hg:wantedT a guard with
  |none=>simp only [hg] at h;cases h
  |some c=>
   cases c with
   |false=>simp only [hg] at h;exact ih h hi
   |true=>
    simp only [hg] at h
    cases op
    case call f args=>
     simp only at h
     split at h
     ·split at h
      ·rename_i hc;exact ih h (hC.call hc hb hi)
      ·cases h
     ·cases h
    case callV x args=>
     simp only at h
     split at h
     ·split at h
      ·split at h
       ·rename_i hc;exact ih h (hC.call hc hb hi)
       ·cases h
      ·cases h
     ·cases h
    all_goals
     simp only at h
     split at h
     ·rename_i hd;exact ih h (tdo_inv hd hb hi)
     ·cases h
theorem tloop_inv {t:TAct→Sto→Option (TEx×TAct×Sto)} (ht:∀a σ e a' σ',t a σ=some (e,a',σ')→Inv k σ→Inv k σ'):∀n a σ e a' σ',tloop t n a σ=some (e,a',σ')→Inv k σ→Inv k σ'
 |0,a,σ,e,a',σ',h,hi=>by simp only [tloop] at h;cases h
 |n+1,a,σ,e,a',σ',h,hi=>by
  simp only [tloop] at h
  split at h
  ·rename_i h1;exact tloop_inv ht n _ _ _ _ _ h (ht _ _ _ _ _ h1 hi)
  ·exact ht _ _ _ _ _ h hi
theorem tcode_inv (hC:InvC C) (hb:k≤b):∀(c:XCode) (a:TAct) (σ:Sto) (e:TEx) (a':TAct) (σ':Sto),tcode an b C n c a σ=some (e,a',σ')→Inv k σ→Inv k σ'
 |.skip,a,σ,e,a',σ',h,hi=>by simp only [tcode] at h;cases h;exact hi
 |.exit id,a,σ,e,a',σ',h,hi=>by simp only [tcode] at h;cases h;exact hi
 |.ret,a,σ,e,a',σ',h,hi=>by simp only [tcode] at h;cases h;exact hi
 |.region ops,a,σ,e,a',σ',h,hi=>by simp only [tcode] at h;exact tops_inv hC hb ops h hi
 |.regionD ops ps,a,σ,e,a',σ',h,hi=>by
  simp only [tcode] at h
  split at h
  ·rename_i hd
   split at h
   ·cases h;exact topsD_inv hC hb ops hd hi
   ·cases h
  ·cases h
 |.seq x y,a,σ,e,a',σ',h,hi=>by
  simp only [tcode] at h
  split at h
  ·rename_i h1;exact tcode_inv hC hb y _ _ _ _ _ h (tcode_inv hC hb x _ _ _ _ _ h1 hi)
  ·exact tcode_inv hC hb x _ _ _ _ _ h hi
 |.cond c x y,a,σ,e,a',σ',h,hi=>by
  simp only [tcode] at h
  split at h
  ·exact tcode_inv hC hb x _ _ _ _ _ h hi
  ·exact tcode_inv hC hb y _ _ _ _ _ h hi
  ·cases h
 |.block id c,a,σ,e,a',σ',h,hi=>by
  simp only [tcode] at h
  split at h
  ·rename_i h1
   have:=tcode_inv hC hb c _ _ _ _ _ h1 hi
   split at h<;>(cases h;exact this)
  ·exact tcode_inv hC hb c _ _ _ _ _ h hi
 |.loop c,a,σ,e,a',σ',h,hi=>by
  simp only [tcode] at h
  exact tloop_inv (fun a σ e a' σ' h hi=>tcode_inv hC hb c a σ e a' σ' h hi) n _ _ _ _ _ h hi
theorem topsR_inv (hC:InvC C) (hb:k≤b):∀(ops:List XOper) {a:TAct} {σ:Sto} {m:TMode} {e:TEx} {a':TAct} {σ':Sto} {m':TMode},topsR an b C ops a σ m=some (e,a',σ',m')→Inv k σ→Inv k σ'
 |[],a,σ,m,e,a',σ',m',h,hi=>by simp only [topsR] at h;cases h;exact hi
 |⟨dst,op,guard⟩::ops,a,σ,m,e,a',σ',m',h,hi=>by
  have ih:=@topsR_inv hC hb ops
  rw [topsR.eq_def] at h
  cases hg:wantedT a guard with
  |none=>simp only [hg] at h;cases h
  |some c=>
   cases c with
   |false=>simp only [hg] at h;exact ih h hi
   |true=>
    simp only [hg] at h
    cases op
    case recover=>
     simp only at h
     split at h
     ·exact ih h hi
     ·exact ih h hi
    all_goals
     simp only at h
     split at h
     ·rename_i h1;exact ih h (tops_inv hC hb _ h1 hi)
     ·rename_i h1;cases h;exact tops_inv hC hb _ h1 hi
     ·cases h
theorem tcodeR_inv (hC:InvC C) (hb:k≤b) (c:XCode):∀(a:TAct) (σ:Sto) (m:TMode) (e:TEx) (a':TAct) (σ':Sto) (m':TMode),tcodeR an b C n c a σ m=some (e,a',σ',m')→Inv k σ→Inv k σ':=by
 induction c with
 |region ops=>intro a σ m e a' σ' m' h hi;rw [tcodeR.eq_def] at h;simp only at h;exact topsR_inv hC hb ops h hi
 |seq x y ihx ihy=>
  intro a σ m e a' σ' m' h hi
  rw [tcodeR.eq_def] at h;simp only at h
  split at h
  ·rename_i h1;exact ihy _ _ _ _ _ _ _ h (ihx _ _ _ _ _ _ _ h1 hi)
  ·exact ihx _ _ _ _ _ _ _ h hi
 |cond c x y ihx ihy=>
  intro a σ m e a' σ' m' h hi
  rw [tcodeR.eq_def] at h;simp only at h
  split at h
  ·exact ihx _ _ _ _ _ _ _ h hi
  ·exact ihy _ _ _ _ _ _ _ h hi
  ·cases h
 |block id c ih=>
  intro a σ m e a' σ' m' h hi
  rw [tcodeR.eq_def] at h;simp only at h
  split at h
  ·rename_i h1
   have:=ih _ _ _ _ _ _ _ h1 hi
   split at h<;>(cases h;exact this)
  ·exact ih _ _ _ _ _ _ _ h hi
 |_=>
  intro a σ m e a' σ' m' h hi
  rw [tcodeR.eq_def] at h;simp only at h
  split at h
  ·rename_i h1;cases h;exact tcode_inv hC hb _ _ _ _ _ _ h1 hi
  ·cases h
theorem tdefers_inv (hC:InvC C) {F:FuncId→Option TFun} (hb:k≤b):∀(l:List TDfr) (σ:Sto) (m:TMode) (σ':Sto) (m':TMode),tdefers C F b n l σ m=some (σ',m')→Inv k σ→Inv k σ'
 |[],σ,m,σ',m',h,hi=>by simp only [tdefers] at h;cases h;exact hi
 |d::r,σ,m,σ',m',h,hi=>by
  simp only [tdefers] at h
  split at h
  ·split at h
   ·rename_i h1
    have:=tcodeR_inv hC hb _ _ _ _ _ _ _ _ h1 hi
    split at h
    ·exact tdefers_inv hC hb r _ _ _ _ h this
    ·exact tdefers_inv hC hb r _ _ _ _ h this
    ·cases h
   ·cases h
  ·cases h
theorem Inv.take {σ σ':Sto} (h:Inv k σ') (h0:Inv k σ):Inv k (σ'.take σ.length):=by
 refine ⟨by rw [List.length_take];have:=h.le;have:=h0.le;omega,fun k' o hk e=>h.obj k' o hk ?_⟩
 unfold Sto.at at e ⊢
 rw [List.getElem?_take] at e
 split at e
 ·rename_i y hy
  split at hy
  ·rw [hy];exact e
  ·cases hy
 ·cases e
theorem tleave_inv {keep:Bool} {σ σ' σ2:Sto} {v v':TV} (h:tleave keep σ.length σ' v=some (v',σ2)) (hi:Inv k σ') (h0:Inv k σ):Inv k σ2:=by
 unfold tleave at h
 split at h
 ·cases h;exact hi
 ·split at h
  ·cases h;exact hi.take h0
  ·cases h
theorem tfinish_inv {a:TAct} {fn:TFun} {σ σ' σ2:Sto} {m:TMode} {e:TEnd} (h:tfinish a fn σ.length σ' m=some (e,σ2)) (hi:Inv k σ') (h0:Inv k σ):Inv k σ2:=by
 unfold tfinish at h
 split at h
 ·split at h
  ·rename_i h1;cases h;exact tleave_inv h1 hi h0
  ·cases h
 ·split at h
  ·split at h
   ·split at h
    ·rename_i h1;cases h;exact tleave_inv h1 hi h0
    ·cases h
   ·cases h
  ·cases h
theorem encZT_below (k:Nat):∀zs:List Int,below.belows k (encZT zs)=true
 |[]=>rfl
 |z::zs=>by simp only [encZT,List.map_cons,below.belows,below,Bool.true_and];exact encZT_below k zs
theorem tEnd_inv {v:TV} {args:List TV} {σ σ':Sto} {e:TEnd} {k:Nat} (h:tEnd v args σ=some (e,σ')) (hi:Inv k σ):Inv k σ':=by
 unfold tEnd at h
 split at h
 ·unfold rowT at h
  split at h
  ·split at h
   ·cases h;exact hi
   ·rename_i hk
    split at h
    ·cases h
     refine hi.set _ _ fun hlt=> ?_
     have:=hi.obj _ _ hlt hk
     exact belows_put this (encZT_below _ _)
    ·cases h
   ·cases h
  ·cases h;exact hi
  ·cases h
 ·cases h;exact hi
 ·cases h
theorem tcall_inv {F:FuncId→Option TFun} {O:FuncId→List TV→Option TV}:∀n,InvC (tcall F O n)
 |0=>⟨fun h _ _=>by simp only [tcall] at h;cases h⟩
 |n+1=>⟨fun {b f args σ e σ' k} h hb hi=>by
  have ih:=@tcall_inv F O n
  simp only [tcall] at h
  split at h
  ·rename_i fn hf
   have hb2:k≤baseOf fn.keep b σ.length:=by
    unfold baseOf;split
    ·exact hb
    ·exact hi.le
   split at h
   ·cases h;exact hi
   split at h
   ·rename_i h1
    have i1:=tcode_inv ih hb2 _ _ _ _ _ _ h1 hi
    split at h
    ·rename_i h2;exact tfinish_inv h (tdefers_inv ih hb2 _ _ _ _ _ h2 i1) hi
    ·cases h
   ·rename_i h1
    have i1:=tcode_inv ih hb2 _ _ _ _ _ _ h1 hi
    split at h
    ·rename_i h2;exact tfinish_inv h (tdefers_inv ih hb2 _ _ _ _ _ h2 i1) hi
    ·cases h
   ·rename_i h1
    have i1:=tcode_inv ih hb2 _ _ _ _ _ _ h1 hi
    split at h
    ·rename_i h2;exact tfinish_inv h (tdefers_inv ih hb2 _ _ _ _ _ h2 i1) hi
    ·cases h
   ·cases h
  ·split at h
   ·exact tEnd_inv h hi
   ·cases h⟩
end
end Go.Xt
end
section
namespace Go.Xt
open Go Go.Xe
theorem belows_flat {k:Nat}:∀{chs:List (List TV)},below.belows k chs.flatten=below.belowss k chs
 |[]=>rfl
 |c::chs=>by
  have h:∀x y:List TV,below.belows k (x++y)=(below.belows k x&&below.belows k y):=by
   intro x y
   induction x with
   |nil=>simp [below.belows]
   |cons v x ih=>simp [below.belows,ih,Bool.and_assoc]
  rw [List.flatten_cons,h,belows_flat];rfl
section
variable {g:Hp} {μ:List Nat} {Z Z':Nat→Prop}
mutual
theorem RV.isBelow:∀{tv:TV} {v:Value},RV g μ Z tv v→Xt.below μ.length tv=true
 |_,_,.int k n=>rfl
 |_,_,.bool b=>rfl
 |_,_,.str s=>rfl
 |_,_,.nilp=>rfl
 |_,_,.ptr e=>by simp only [Xt.below,bltNat];exact decide_eq_true (List.getElem?_eq_some_iff.1 e).1
 |_,_,.elt a b c d=>by simp only [Xt.below];exact d.areBelow
 |_,_,.fz a b c d e f m k=>by simp only [Xt.below];rw [←belows_flat];exact k.areBelow
 |_,_,.fz0 b c=>rfl
 |_,_,.nl=>rfl
 |_,_,.ref e n=>by simp only [Xt.below,bltNat];exact decide_eq_true (List.getElem?_eq_some_iff.1 e).1
 |_,_,.nilm=>rfl
 |_,_,.map e=>by simp only [Xt.below,bltNat];exact decide_eq_true (List.getElem?_eq_some_iff.1 e).1
 |_,_,.nilf=>rfl
 |_,_,.func f a b=>by simp only [Xt.below,a.areBelow,b.areBelow,Bool.and_self]
 |_,_,.nili=>rfl
 |_,_,.iface t a=>by simp only [Xt.below];exact a.isBelow
 |_,_,.agg a=>by simp only [Xt.below];exact a.areBelow
 |_,_,.tuple a=>by simp only [Xt.below];exact a.areBelow
 |_,_,.dead v=>rfl
theorem RVs.areBelow:∀{l:List TV} {l':List Value},RVs g μ Z l l'→below.belows μ.length l=true
 |_,_,.nil=>rfl
 |_,_,.cons a b=>by simp only [below.belows,a.isBelow,b.areBelow,Bool.and_self]
end
mutual
theorem RV.cut {ν:List Nat} (hz:∀i,Z i→Z' i):∀{tv:TV} {v:Value},RV g (μ++ν) Z tv v→Xt.below μ.length tv=true→RV g μ Z' tv v
 |_,_,.int k n,_=>.int k n
 |_,_,.bool b,_=>.bool b
 |_,_,.str s,_=>.str s
 |_,_,.nilp,_=>.nilp
 |_,_,.ptr e,h=>by
  simp only [Xt.below,bltNat] at h
  rw [List.getElem?_append_left (of_decide_eq_true h)] at e
  exact .ptr e
 |_,_,.elt a b c d,h=>by simp only [Xt.below] at h;exact .elt (hz _ a) b c (d.cut hz h)
 |_,_,.fz a b c d e f m k,h=>by simp only [Xt.below] at h;rw [←belows_flat] at h;exact .fz (hz _ a) b c d e f m (k.cut hz h)
 |_,_,.fz0 b c,_=>.fz0 b c
 |_,_,.nl,_=>.nl
 |_,_,.ref e n,h=>by
  simp only [Xt.below,bltNat] at h
  rw [List.getElem?_append_left (of_decide_eq_true h)] at e
  exact .ref e n
 |_,_,.nilm,_=>.nilm
 |_,_,.map e,h=>by
  simp only [Xt.below,bltNat] at h
  rw [List.getElem?_append_left (of_decide_eq_true h)] at e
  exact .map e
 |_,_,.nilf,_=>.nilf
 |_,_,.func f a b,h=>by simp only [Xt.below,Bool.and_eq_true] at h;exact .func f (a.cut hz h.1) (b.cut hz h.2)
 |_,_,.nili,_=>.nili
 |_,_,.iface t a,h=>by simp only [Xt.below] at h;exact .iface t (a.cut hz h)
 |_,_,.agg a,h=>by simp only [Xt.below] at h;exact .agg (a.cut hz h)
 |_,_,.tuple a,h=>by simp only [Xt.below] at h;exact .tuple (a.cut hz h)
 |_,_,.dead v,_=>.dead v
theorem RVs.cut {ν:List Nat} (hz:∀i,Z i→Z' i):∀{l:List TV} {l':List Value},RVs g (μ++ν) Z l l'→below.belows μ.length l=true→RVs g μ Z' l l'
 |_,_,.nil,_=>.nil
 |_,_,.cons a b,h=>by simp only [below.belows,Bool.and_eq_true] at h;exact .cons (a.cut hz h.1) (b.cut hz h.2)
end
mutual
theorem RV.canon:∀{tv:TV} {v:Value},RV g μ Z tv v→RV g μ Z (Xt.canon tv) v
 |_,_,.int k n=>.int k n
 |_,_,.bool b=>.bool b
 |_,_,.str s=>.str s
 |_,_,.nilp=>.nilp
 |_,_,.ptr e=>.ptr e
 |_,_,.elt a b c d=>.elt a b c d
 |_,_,.fz a b c d e f m k=>.fz a b c d e f m k
 |_,_,.fz0 b c=>.fz0 b c
 |_,_,.nl=>.fz0 none 0
 |_,_,.ref e n=>.ref e n
 |_,_,.nilm=>.nilm
 |_,_,.map e=>.map e
 |_,_,.nilf=>.nilf
 |_,_,.func f a b=>.func f a b
 |_,_,.nili=>.nili
 |_,_,.iface t a=>.iface t a
 |_,_,.agg a=>.agg a.canon
 |_,_,.tuple a=>.tuple a.canon
 |_,_,.dead v=>.dead v
theorem RVs.canon:∀{l:List TV} {l':List Value},RVs g μ Z l l'→RVs g μ Z (canon.canons l) l'
 |_,_,.nil=>.nil
 |_,_,.cons a b=>.cons a.canon b.canon
end
theorem RO.isBelow {i:Nat} {tv:TV} {v:Value} (h:RO g μ Z i tv v):Xt.below μ.length tv=true:=by
 cases h with
 |mk a b c d e f k=>simp only [Xt.below];rw [←belows_flat];exact k.areBelow
theorem RO.cut {ν:List Nat} (hz:∀i,Z i→Z' i) {i:Nat} {tv:TV} {v:Value} (h:RO g (μ++ν) Z i tv v) (hb:Xt.below μ.length tv=true):RO g μ Z' i tv v:=by
 cases h with
 |mk a b c d e f k=>simp only [Xt.below] at hb;rw [←belows_flat] at hb;exact .mk a b c d e f (k.cut hz hb)
theorem RCs.areBelow {ow:Nat→Option Nat} {cs:List TV} {vs:List Value} (r:RCs g μ Z ow cs vs):below.belows μ.length cs=true:=by
 rw [belows_iff]
 intro v hv
 obtain ⟨j,hj⟩:=List.getElem?_of_mem hv
 obtain ⟨v',h1,h2⟩:=r.at hj
 revert h2
 cases ow j with
 |none=>exact RV.isBelow
 |some i=>exact RO.isBelow
end
section
variable {Pr:Nat→Prop} {μ μ':List Nat} {w w':Own} {a a':TAct} {σ σ':Sto} {ax ax':Xe.Act} {s s':AS}
theorem Rs.inv (r:Rs Pr μ w σ s):Inv σ.length σ:=by
 refine ⟨Nat.le_refl _,fun k o hk e=> ?_⟩
 obtain ⟨i,b,h1,h2,h3⟩:=r.obj k o e
 rw [←r.len]
 unfold belowO
 revert h3
 cases o.body<;>cases b<;>intro h3<;>simp only [RB] at h3<;>first|(exact h3.elim)|skip
 ·exact h3.2.2.areBelow
 ·rw [List.all_eq_true]
  intro x hx
  obtain ⟨j,hj⟩:=List.getElem?_of_mem hx
  rename_i es ck es' ck'
  have hlt:=(List.getElem?_eq_some_iff.1 hj).1
  have:es'[j]? =some es'[j]:=List.getElem?_eq_getElem (by rw [h3.2.1];exact hlt)
  obtain ⟨q1,q2,_⟩:=h3.2.2.1 j _ _ hj this
  simp only [q1.isBelow,q2.isBelow,Bool.and_self]
 ·rfl
def cutO (k:Nat) (w:Own):Own
 |.obj k'=>if k'<k then w (.obj k') else none
 |.cell k' c=>if k'<k then w (.cell k' c) else none
 |_=>none
theorem cutO_le (k:Nat) (w:Own) (p:Pc) (i:Nat) (h:cutO k w p=some i):w p=some i:=by
 cases p<;>simp only [cutO] at h<;>first|(cases h;done)|(split at h<;>first|exact h|cases h)
theorem cutO_only (k:Nat) (w:Own):OnlyS (cutO k w):=⟨fun _=>rfl,fun _ _=>rfl,fun _=>rfl⟩
theorem Rs.cutS {ν:List Nat} (r:Rs Pr (μ++ν) w σ s) (hi:Inv μ.length σ):Rs Pr μ (cutO μ.length w) (σ.take μ.length) s:=by
 have hsub:=cutO_le μ.length w
 have hz:∀i,Zo w Pr i→Zo (cutO μ.length w) Pr i:=fun i z=>z.sub hsub
 have hat:∀k o,Sto.at (σ.take μ.length) k=some o→k<μ.length∧σ.at k=some o:=fun k o e=>by
  unfold Sto.at at e ⊢
  rw [List.getElem?_take] at e
  by_cases h:k<μ.length
  ·rw [if_pos h] at e;exact ⟨h,e⟩
  ·rw [if_neg h] at e;simp at e
 refine ⟨r.dm,by rw [List.length_take];have:=hi.le;omega,fun p q i e f=>r.inj p q i (hsub p i e) (hsub q i f),fun p i e=>r.pr p i (hsub p i e),fun p i e=>r.live p i (hsub p i e),fun k=> ?_,fun k c hk=> ?_,fun k o e=> ?_,trivial⟩
 ·simp only [cutO]
  by_cases h:k<μ.length
  ·rw [if_pos h,r.wobj,List.getElem?_append_left h]
  ·rw [if_neg h,List.getElem?_eq_none (by omega)]
 ·rw [List.length_take] at hk
  have:=hi.le
  simp only [cutO];rw [if_neg (by omega)]
 ·obtain ⟨hk,e⟩:=hat k o e
  obtain ⟨i,b,h1,h2,h3⟩:=r.obj k o e
  rw [List.getElem?_append_left hk] at h1
  refine ⟨i,b,h1,h2,?_⟩
  have hb:=hi.obj k o hk e
  unfold belowO at hb
  revert h3 hb
  have hc:∀c,cutO μ.length w (.cell k c)=w (.cell k c):=fun c=>by simp only [cutO,if_pos hk]
  cases o.body<;>cases b<;>intro h3 hb<;>simp only [RB] at h3 ⊢<;>first|(exact h3.elim)|skip
  ·refine ⟨h3.1,h3.2.1,h3.2.2.len,fun j tv v q1 q2=> ?_,fun j hj=>(hc j).trans (h3.2.2.out j hj)⟩
   have q3:=h3.2.2.get j tv v q1 q2
   have q4:=belows_iff.1 hb tv (List.mem_of_getElem? q1)
   simp only [hc]
   revert q3
   cases w (.cell k j) with
   |none=>exact fun q3=>RV.cut hz q3 q4
   |some i=>exact fun q3=>RO.cut hz q3 q4
  ·refine ⟨h3.1,h3.2.1,fun j x y q1 q2=> ?_,fun c=>(hc c).trans (h3.2.2.2 c)⟩
   obtain ⟨p1,p2,p3⟩:=h3.2.2.1 j x y q1 q2
   have:=List.all_eq_true.1 hb x (List.mem_of_getElem? q1)
   simp only [Bool.and_eq_true] at this
   exact ⟨p1.cut hz this.1,p2.cut hz this.2,p3⟩
  ·exact ⟨h3.1,h3.2.1,fun c=>(hc c).trans (h3.2.2 c)⟩
theorem ofList_get {α:Type}:∀(l:List α) (k:Nat) (t:Tri α) (j:Nat),(Tri.ofList l k t).get j=if k≤j∧j<k+l.length then l[j - k]? else t.get j
 |[],k,t,j=>by
  simp only [Tri.ofList,List.length_nil,Nat.add_zero]
  rw [if_neg (by omega)]
 |x::l,k,t,j=>by
  rw [Tri.ofList,ofList_get l (k+1) (t.set k x) j,Tri.get_set]
  simp only [List.length_cons]
  by_cases h1:k=j
  ·subst h1
   rw [if_neg (by omega),if_pos rfl,if_pos (by omega)];simp
  ·by_cases h2:k+1≤j∧j<k+1+l.length
   ·rw [if_pos h2,if_pos (by omega),show j - k=(j - (k+1))+1 by omega];simp
   ·rw [if_neg h2,if_neg h1,if_neg (by omega)]
theorem Rs.enter (r:Rs Pr μ w σ s) (ho:OnlyS w) {args:List TV} {args':List Value} (ha:RVs s.get μ (Zo w Pr) args args'):Rl Pr μ w (enterT args) σ (enterX args') s:=by
 have hrv:∀t,RV s.get μ (Zo w Pr) ((enterT args).ev (.tmp t)) ((enterX args').ev (.tmp t)):=by
  intro t
  simp only [enterT,enterX,TAct.ev,Act.ev,ofList_get,ha.length]
  by_cases h:0≤t∧t<0+args.length
  ·rw [if_pos h,if_pos h]
   have hlt:t - 0<args.length:=by have:=h.2;rw [Nat.zero_add] at this;exact this
   obtain ⟨v',h1,h2⟩:=ha.get (List.getElem?_eq_getElem hlt)
   rw [List.getElem?_eq_getElem hlt,h1]
   exact h2
  ·rw [if_neg h,if_neg h,Tri.get_nil,Tri.get_nil]
   exact undef_rv _ _
 refine ⟨r,fun t=>.plain (hrv t) (ho.tmp t) (ho.tcell t),fun t=> ?_,trivial⟩
 have:=(hrv t).notown.2.2.1
 revert this
 generalize (enterT args).ev (.tmp t)=x
 intro this
 cases x<;>first|trivial|cases this
theorem Rs.out' (r:Rs Pr μ w σ s):Rs Pr μ (sto w) σ s:=r.sub (sto_le w) (fun _=>rfl) (fun _ _=>rfl)
theorem give_pl {v v':TV} (h:give v=some v') (hp:pl v=true):v'=v:=by
 cases v<;>simp only [give] at h<;>first|(cases h;rfl)|(cases h;done)|(simp [pl] at hp;done)|skip
 rename_i m c;cases m<;>simp only [give] at h<;>first|(cases h;rfl)|(simp [pl] at hp)
theorem tres_rel (r:Rl Pr μ w a σ ax s) {x:XRes} {tv tv':TV} (h:tres a σ x=some tv) (hg:give tv=some tv'):∃v,xres ax s x=some v∧RV s.get μ (Zo (sto w) Pr) tv' v:=by
 have hmo:=Mo.sub (g:=s.get) (μ:=μ) (Pr:=Pr) (sto_le w)
 have hz:∀{p:Pc} {i:Nat},w p=some i→(∀k,p≠.obj k)→(∀k c,p≠.cell k c)→Zo (sto w) Pr i:=fun {p i} e h1 h2=>⟨fun q f=>by
  have:=r.inj _ _ _ (sto_le w q i f) e
  subst this
  cases q<;>first|(cases f;done)|(exact h1 _ rfl)|(exact h2 _ _ rfl),r.pr _ _ e⟩
 cases x with
 |tmp t=>
  simp only [tres,Option.some.injEq] at h
  refine ⟨ax.ev (.tmp t),rfl,?_⟩
  subst h
  cases ho:isOwn (a.ev (.tmp t)) with
  |true=>
   obtain ⟨i,h1,h2⟩:=r.ownOf ho
   obtain ⟨g1,g2⟩:=give_frz hg
   rw [g1]
   exact RO.frz (h2.mono hmo rfl) (hz h1 (by simp) (by simp))
  |false=>
   obtain ⟨g1,g2⟩:=give_frz hg
   rw [frz_same ho] at g1
   exact (r.plainOf g1.symm g2).mono hmo
 |cell1 t=>
  simp only [tres] at h
  simp only [xres]
  split at h
  ·rename_i ser cs e hb
   obtain ⟨hbx,i,ver,vs,k1,k2,k3,k4⟩:=r.boxOf (boxAt_of hb)
   obtain ⟨v',q1,q2⟩:=k4.at h
   rw [k2]
   simp only [load_one k3 q1]
   refine ⟨v',rfl,?_⟩
   cases ho:isOwn tv with
   |true=>
    obtain ⟨j,q3,q4⟩:=q2.ownOf ho
    obtain ⟨g1,g2⟩:=give_frz hg
    rw [g1]
    exact RO.frz (q4.mono hmo rfl) (hz q3 (by simp) (by simp))
   |false=>
    obtain ⟨_,q3⟩:=q2.plainOf ho
    rw [give_pl hg q3.pl];exact q3.mono hmo
  ·rename_i k o hp
   split at h
   ·rename_i ver cs e hat
    split at h
    ·rename_i v0 hv0
     split at h
     ·cases h
     ·rename_i ho
      cases h
      have h1:=r.plainOf hp rfl
      revert h1;generalize ax.ev (.tmp t)=y;intro h1;cases h1
      rename_i i hm
      obtain ⟨i',vs,k1,k2,k3⟩:=r.objOf hat
      rw [hm] at k1;cases k1
      obtain ⟨v',q1,q2⟩:=k3.at hv0
      simp only [load_one k2 q1]
      obtain ⟨_,q3⟩:=q2.plainOf ho
      exact ⟨v',rfl,by rw [give_pl hg q3.pl];exact q3.mono hmo⟩
    ·cases h
   ·cases h
  ·cases h
 |cellN t n=>
  simp only [tres] at h
  simp only [xres]
  split at h
  ·rename_i ser cs e hb
   split at h
   ·rename_i hle
    rw [bleNat] at hle
    have hle:=of_decide_eq_true hle
    cases h
    obtain ⟨hbx,i,ver,vs,k1,k2,k3,k4⟩:=r.boxOf (boxAt_of hb)
    rw [k2]
    simp only [loadList_of k3 (o:=0) (n:=n) (by rw [k4.len];omega)]
    refine ⟨_,rfl,?_⟩
    simp only [give] at hg
    cases hg
    have:=frzRange (w':=sto w) (P:=fun o=>.tcell t o) (o:=0) (n:=n) k4 r.inj r.pr (by omega) (sto_le w) (fun j _ _=>rfl)
    rw [List.drop_zero] at this
    exact .agg this
   ·cases h
  ·rename_i k o hp
   split at h
   ·rename_i ver cs e hat
    split at h
    ·rename_i hb
     simp only [Bool.and_eq_true] at hb
     cases h
     obtain ⟨b1,b2⟩:=hb
     rw [bleNat] at b1
     have b1:=of_decide_eq_true b1
     have h1:=r.plainOf hp rfl
     revert h1;generalize ax.ev (.tmp t)=y;intro h1;cases h1
     rename_i i hm
     obtain ⟨i',vs,k1,k2,k3⟩:=r.objOf hat
     rw [hm] at k1;cases k1
     simp only [loadList_of k2 (o:=o) (n:=n) (by rw [k3.len];exact b1)]
     refine ⟨_,rfl,?_⟩
     simp only [give] at hg
     cases hg
     exact .agg ((k3.plain b1 (by simpa using b2)).mono hmo)
    ·cases h
   ·cases h
  ·cases h
theorem tresults_rel (r:Rl Pr μ w a σ ax s):∀(l:List XRes) {vs vs':List TV},tresults a σ l=some vs→gives vs=some vs'→∃l',xresults ax s l=some l'∧RVs s.get μ (Zo (sto w) Pr) vs' l'
 |[],vs,vs',h,hg=>by
  simp only [tresults] at h;cases h
  simp only [gives] at hg;cases hg
  exact ⟨[],rfl,.nil⟩
 |x::l,vs,vs',h,hg=>by
  simp only [tresults] at h
  split at h
  ·rename_i v vs1 h1 h2
   cases h
   simp only [gives] at hg
   split at hg
   ·rename_i v1 l1 g1 g2
    cases hg
    obtain ⟨v',q1,q2⟩:=tres_rel r h1 g1
    obtain ⟨l',q3,q4⟩:=tresults_rel r l h2 g2
    exact ⟨v'::l',by simp only [xresults,q1,q3],.cons q2 q4⟩
   ·cases hg
  ·cases h
theorem tres_some (r:Rl Pr μ w a σ ax s) {x:XRes} {tv:TV} (h:tres a σ x=some tv):∃v,xres ax s x=some v:=by
 cases x with
 |tmp t=>exact ⟨_,rfl⟩
 |cell1 t=>
  simp only [tres] at h
  simp only [xres]
  split at h
  ·rename_i ser cs e hb
   obtain ⟨hbx,i,ver,vs,k1,k2,k3,k4⟩:=r.boxOf (boxAt_of hb)
   obtain ⟨v',q1,q2⟩:=k4.at h
   rw [k2]
   simp only [load_one k3 q1]
   exact ⟨v',rfl⟩
  ·rename_i k o hp
   split at h
   ·rename_i ver cs e hat
    split at h
    ·rename_i v0 hv0
     have h1:=r.plainOf hp rfl
     revert h1;generalize ax.ev (.tmp t)=y;intro h1;cases h1
     rename_i i hm
     obtain ⟨i',vs,k1,k2,k3⟩:=r.objOf hat
     rw [hm] at k1;cases k1
     obtain ⟨v',q1,q2⟩:=k3.at hv0
     simp only [load_one k2 q1]
     exact ⟨v',rfl⟩
    ·cases h
   ·cases h
  ·cases h
 |cellN t n=>
  simp only [tres] at h
  simp only [xres]
  split at h
  ·rename_i ser cs e hb
   split at h
   ·rename_i hle
    rw [bleNat] at hle
    have hle:=of_decide_eq_true hle
    obtain ⟨hbx,i,ver,vs,k1,k2,k3,k4⟩:=r.boxOf (boxAt_of hb)
    rw [k2]
    simp only [loadList_of k3 (o:=0) (n:=n) (by rw [k4.len];omega)]
    exact ⟨_,rfl⟩
   ·cases h
  ·rename_i k o hp
   split at h
   ·rename_i ver cs e hat
    split at h
    ·rename_i hb
     simp only [Bool.and_eq_true] at hb
     obtain ⟨b1,b2⟩:=hb
     rw [bleNat] at b1
     have b1:=of_decide_eq_true b1
     have h1:=r.plainOf hp rfl
     revert h1;generalize ax.ev (.tmp t)=y;intro h1;cases h1
     rename_i i hm
     obtain ⟨i',vs,k1,k2,k3⟩:=r.objOf hat
     rw [hm] at k1;cases k1
     simp only [loadList_of k2 (o:=o) (n:=n) (by rw [k3.len];exact b1)]
     exact ⟨_,rfl⟩
    ·cases h
   ·cases h
  ·cases h
theorem tresults_some (r:Rl Pr μ w a σ ax s):∀(l:List XRes) {vs:List TV},tresults a σ l=some vs→∃l',xresults ax s l=some l'
 |[],vs,h=>⟨[],rfl⟩
 |x::l,vs,h=>by
  simp only [tresults] at h
  split at h
  ·rename_i v vs1 h1 h2
   obtain ⟨v',q1⟩:=tres_some r h1
   obtain ⟨l',q3⟩:=tresults_some r l h2
   exact ⟨v'::l',by simp only [xresults,q1,q3]⟩
  ·cases h
end
end Go.Xt
end
section
namespace Go.Xt
open Go Go.Xe
def cloneX (e sz:Nat) (z:List Value) (bytes:Nat):XFun:=
 ⟨8,[.tmp 2],.seq (.region [⟨some 2,.move (.const (.slice none 0 0)),none⟩]) (.seq (.seq (.region [⟨some 3,.move (.tmp 0),none⟩,⟨some 4,.eq .sliceNil false (.tmp 3) (.const (.slice none 0 0)),none⟩]) (.cond (.tmp 4) (.seq (.region [⟨some 2,.move (.const (.slice none 0 0)),none⟩]) .ret) .skip)) (.seq (.region [⟨some 5,.buildSlice e sz z 0 [],none⟩,⟨some 6,.move (.tmp 0),none⟩,⟨some 7,.append e sz bytes (.tmp 5) (.tmp 6),none⟩,⟨some 2,.move (.tmp 7),none⟩]) .ret))⟩
theorem cloneX_nil {Fx:FuncId→Option XFun} {Ox:FuncId→List Value→Option Value} {n f e sz bytes c:Nat} {z:List Value} {s:AS} (hF:Fx f=some (cloneX e sz z bytes)):xcall Fx Ox (n+1) f [.slice none 0 c] s=some (.ret (.slice none 0 0),s):=by
 simp [xcall,hF,cloneX,xcode,xops,wantedX,xprim,Xe.Act.ev,Xe.Act.put,enterX,Tri.ofList,Tri.get_set,Tri.get_nil,xeq,xdefers,xfinish,xresults,xres,packed,upd_nil]
theorem cloneX_some {Fx:FuncId→Option XFun} {Ox:FuncId→List Value→Option Value} {n f e sz bytes c:Nat} {a:Addr} {z:List Value} {s:AS} (hF:Fx f=some (cloneX e sz z bytes)):
  xcall Fx Ox (n+1) f [.slice (some a) 0 c] s=some (.ret (.slice (some ⟨s.next,0,none⟩) 0 0),s.upd [(s.next,some ⟨0,.cells [] e false⟩)] (s.next+1)):=by
 simp [xcall,hF,cloneX,xcode,xops,wantedX,xprim,Xe.Act.ev,Xe.Act.put,enterX,Tri.ofList,Tri.get_set,Tri.get_nil,xeq,xdefers,xfinish,xresults,xres,packed,upd_nil,rep,fillX,Xe.ones,srcCells,xappend]
structure Fits (F:FuncId→Option TFun) (O:FuncId→List TV→Option TV) (Fx:FuncId→Option XFun) (Ox:FuncId→List Value→Option Value):Prop where
 some:∀f tf,F f=some tf→Fx f=some tf.fn
 none:∀f,F f=none→Fx f=none
 cl:∀f tf,F f=.some tf→tf.clone=true→∃e sz z bytes,tf.fn=cloneX e sz z bytes
 orc:∀f args v,O f args=.some v→∀(g:Hp) (μ:List Nat) (Z:Nat→Prop) args',RVs g μ Z args args'→∃v',Ox f args'=.some v'∧RV g μ Z v v'
section
variable {Pr:Nat→Prop} {μ μ':List Nat} {w w':Own} {a a':TAct} {σ σ':Sto} {ax ax':Xe.Act} {s s':AS}
variable {F:FuncId→Option TFun} {O:FuncId→List TV→Option TV} {Fx:FuncId→Option XFun} {Ox:FuncId→List Value→Option Value}
theorem markOf_two (a b:Value) (l:List Value):markOf (.agg ⟨a::b::l⟩)=none:=by
 cases a<;>first|rfl|(rename_i x;cases x<;>rfl)
theorem markT_two (a b:TV) (l:List TV):markT (.agg (a::b::l))=none:=by
 cases a<;>first|rfl|(rename_i x;cases x<;>rfl)
theorem mark_rel {g:Hp} {Z:Nat→Prop} {v:TV} {v':Value} (h:RV g μ Z v v') (hd:isDeadT v=false):markOf v'=markT v:=by
 cases h<;>first|rfl|skip
 case agg l l' hl=>
  obtain ⟨l'⟩:=l'
  have hl:RVs g μ Z l l':=hl
  cases hl with
  |nil=>rfl
  |cons h1 h2=>
   cases h2 with
   |nil=>
    cases h1<;>first|rfl|(cases hd;done)|skip
    case bool b=>cases b<;>rfl
   |cons h3 h4=>rw [markOf_two,markT_two]
 case dead=>cases hd
theorem intsTV_some:∀{l:List TV} {zs:List Int},intsTV l=some zs→l=encZT zs
 |[],zs,h=>by simp only [intsTV] at h;cases h;rfl
 |v::l,zs,h=>by
  unfold intsTV at h
  split at h
  ·rename_i h1;cases h1
  ·rename_i z l2 h1
   cases h1
   split at h
   ·rename_i zs' hz
    cases h
    rw [intsTV_some hz];rfl
   ·cases h
  ·cases h
theorem intsV_enc:∀zs:List Int,intsV (encZ zs)=some zs
 |[]=>rfl
 |z::zs=>by simp only [encZ,List.map_cons,intsV];rw [show intsV (List.map (fun z=>Value.int .i64 z) zs)=some zs from intsV_enc zs]
theorem encZ_rvs {g:Hp} {Z:Nat→Prop}:∀zs:List Int,RVs g μ Z (encZT zs) (encZ zs)
 |[]=>.nil
 |z::zs=>.cons (.int _ z) (encZ_rvs zs)
theorem encZT_len (zs:List Int):(encZT zs).length=zs.length:=by simp [encZT]
theorem encZ_len' (zs:List Int):(encZ zs).length=zs.length:=by simp [encZ]
theorem compactZ_len':∀zs:List Int,(compactZ zs).length≤zs.length
 |[]=>Nat.le_refl _
 |x::l=>by
  have ih:=compactZ_len' l
  unfold compactZ
  split
  ·simp
  ·split
   ·simp only [List.length_cons] at ih ⊢;omega
   ·simp only [List.length_cons] at ih ⊢;omega
theorem rowH_len' (mk:Mk) (zs:List Int):(rowH mk zs).length=zs.length:=by
 cases mk with
 |sort=>simp [rowH,sortZ]
 |compact=>have:=compactZ_len' zs;simp [rowH];omega
theorem rowRet0_rel {g:Hp} {Z:Nat→Prop} (mk:Mk) {v:TV} {v':Value} (h:RV g μ Z v v'):RV g μ Z (rowRetT0 mk v) (rowRet0 mk v'):=by
 cases mk with
 |sort=>exact .tuple .nil
 |compact=>exact h
theorem cells_ints {g:Hp} {Z:Nat→Prop} {ow:Nat→Option Nat} {cs:List TV} {vs:List Value} (r:RCs g μ Z ow cs vs) {o n:Nat} {zs:List Int} (h:(cs.drop o).take n=encZT zs) (hle:o+n≤cs.length):(vs.drop o).take n=encZ zs:=by
 have hn:zs.length=n:=by
  have:=congrArg List.length h
  rw [encZT_len,List.length_take,List.length_drop] at this;omega
 apply List.ext_getElem?
 intro j
 by_cases hj:j<n
 ·have hz:j<zs.length:=by omega
  have e1:((cs.drop o).take n)[j]? =some (.int .i64 zs[j]):=by rw [h];simp [encZT,hz]
  rw [List.getElem?_take_of_lt hj,List.getElem?_drop] at e1
  have hv:o+j<vs.length:=by rw [r.len];omega
  rw [List.getElem?_take_of_lt hj,List.getElem?_drop,List.getElem?_eq_getElem hv]
  have hc:=r.get (o+j) _ _ e1 (List.getElem?_eq_getElem hv)
  have e2:(encZ zs)[j]? =some (.int .i64 zs[j]):=by simp [encZ,hz]
  rw [e2]
  revert hc
  generalize vs[o+j]=x
  cases ow (o+j) with
  |none=>intro hc;have hc:RV g μ Z (.int .i64 zs[j]) x:=hc;cases hc;rfl
  |some i=>intro hc;have hc:RO g μ Z i (.int .i64 zs[j]) x:=hc;cases hc
 ·rw [List.getElem?_eq_none (by simp;omega),List.getElem?_eq_none (by rw [encZ_len'];omega)]
theorem onlyS_relO {w:Own} {k o n:Nat} (h:OnlyS w):OnlyS (relO w k o n none):=⟨fun t=>h.tmp t,fun t c=>h.tcell t c,fun x=>h.hand x⟩
theorem tEnd_sound {v:TV} {v':Value} (q2:RV s.get μ (Zo w Pr) v v') {args:List TV} {args':List Value} {e:TEnd} (h:tEnd v args σ=.some (e,σ')) (r:Rs Pr μ w σ s) (ho:OnlyS w) (hP:∀i,Pr i→i<s.next) (ha:RVs s.get μ (Zo w Pr) args args'):
  ∃e' s' μ' w',oEnd v' args' s=.some (e',s')∧Rs Pr μ' w' σ' s'∧OnlyS w'∧After w w' μ μ' s s'∧REnd s'.get μ' (Zo w' Pr) e e':=by
 unfold tEnd at h
 split at h
 ·rename_i mk hm
  have hd:isDeadT v=false:=by
   unfold markT at hm
   split at hm<;>first|rfl|(cases hm;done)
  have hmk:=mark_rel q2 hd
  rw [hm] at hmk
  unfold oEnd
  rw [hmk]
  simp only
  unfold rowT at h
  split at h
  ·rename_i k o sz n c
   cases ha with
   |cons hv hnil=>
    cases hnil
    have hv0:=hv
    cases hv with
    |@ref _ _ _ _ _ i hmu hnc=>
     unfold rowX
     simp only
     split at h
     ·rename_i hn0
      cases h
      rw [hn0]
      exact ⟨_,s,μ,w,rfl,r,ho,After.refl _ _ _,rowRet0_rel mk hv0⟩
     ·rename_i ver cs ee hn0 hk
      rw [hn0]
      simp only
      split at h
      ·rename_i zs hcond hz
       cases h
       simp only [Bool.and_eq_true,bleNat,decide_eq_true_eq] at hcond
       obtain ⟨hle,hsm⟩:=hcond
       obtain ⟨i',b,o1,o2,o3⟩:=r.obj k _ hk
       rw [hmu] at o1;cases o1
       cases b with
       |cells vs e' ro=>
        obtain ⟨rfl,rfl,hc⟩:=o3
        have hle':o+n≤vs.length:=by rw [hc.len];exact hle
        have hpiece:=cells_ints hc (intsTV_some hz) hle
        have hzn:zs.length=n:=by
         have:=congrArg List.length (intsTV_some hz)
         rw [encZT_len,List.length_take,List.length_drop] at this;omega
        have hld:loadList s.get ⟨i,o,none⟩ n=.some (encZ zs):=by
         unfold loadList
         simp only [o2,bleNat,decide_eq_true hle',hpiece]
        have hst:=storeList_of (xs:=encZ (rowH mk zs)) o2 (by rw [encZ_len',rowH_len',hzn];exact hle')
        have r0:=r.enter ho (args:=[]) (args':=[]) .nil
        have r1:=r0.storeObj hmu o2 hc (l:=encZT (rowH mk zs)) (l':=encZ (rowH mk zs)) (o:=o) (encZ_rvs _) (by rw [encZT_len,rowH_len',hzn];exact hle)
        have hcz:=compactZ_len' zs
        refine ⟨.ret (rowRet mk ⟨i,o,none⟩ zs c),s.upd [(i,.some ⟨ver+1,.cells (setList vs o (encZ (rowH mk zs))) e' false⟩)] s.next,μ,_,?_,r1.toRs,onlyS_relO ho,after_set ((r.wobj k).trans hmu) _ (fun p j hp=>⟨p,relO_le w k o _ p j hp⟩),?_⟩
        ·simp only [hld,intsV_enc,bleNat,decide_eq_true hsm,hst]
        ·cases mk with
         |sort=>exact .tuple .nil
         |compact=>exact .ref hmu (by omega)
       |map es ck=>exact o3.elim
       |iter a b=>exact o3.elim
      ·cases h
     ·cases h
  ·rename_i m
   cases h
   cases ha with
   |cons hv hnil=>
    cases hnil
    have hv0:=hv
    unfold rowX
    cases hv with
    |fz a b c d e f g=>
     simp at d
     subst d
     exact ⟨_,s,μ,w,rfl,r,ho,After.refl _ _ _,rowRet0_rel mk hv0⟩
    |fz0 b c=>exact ⟨_,s,μ,w,rfl,r,ho,After.refl _ _ _,rowRet0_rel mk hv0⟩
    |nl=>exact ⟨_,s,μ,w,rfl,r,ho,After.refl _ _ _,rowRet0_rel mk hv0⟩
  ·cases h
 ·rename_i hm hd
  cases h
  have hmk:=mark_rel q2 hd
  rw [hm] at hmk
  unfold oEnd
  rw [hmk]
  exact ⟨.ret v',s,μ,w,rfl,r,ho,After.refl _ _ _,q2⟩
 ·cases h
theorem After.out (h:After w w' μ μ' s s'):After w (sto w') μ μ' s s':=
 ⟨h.le,h.keep,fun p i e hi=>h.own p i (sto_le w' p i e) hi,h.mu⟩
theorem RMd.settle {g:Hp} {Z:Nat→Prop} {m:TMode} {m':Xe.Mode} (h:RMd g μ Z m m'):RMd g μ Z m.settle m'.settle:=by
 cases m<;>cases m'<;>first|exact h.elim|exact h|trivial
theorem tdefers_sound {C:TCallee} {X:Xe.Callee} (hC:CallOk C X) (hF:Fits F O Fx Ox) {b n:Nat}:∀(l:List TDfr) {l':List Dfr} {μ:List Nat} {w:Own} {a:TAct} {σ:Sto} {s:AS} {m:TMode} {mx:Xe.Mode} {σ':Sto} {m':TMode},
  tdefers C F b n l σ m=some (σ',m')→Rl Pr μ w a σ ax s→(∀i,Pr i→i<s.next)→RDf s.get μ (Zo w Pr) l l'→RMd s.get μ (Zo w Pr) m mx→
  ∃s' μ' w' a' mx',xdefers X Fx n l' s mx=some (s',mx')∧Rl Pr μ' w' a' σ' ax s'∧(∀t,a'.ev (.tmp t)=a.ev (.tmp t))∧After w w' μ μ' s s'∧RMd s'.get μ' (Zo w' Pr) m' mx'
 |[],[],μ,w,a,σ,s,m,mx,σ',m',h,r,hP,hd,hm=>by
  simp only [tdefers] at h;cases h
  exact ⟨s,μ,w,a,mx,rfl,r,fun _=>rfl,After.refl _ _ _,hm⟩
 |[],_::_,μ,w,a,σ,s,m,mx,σ',m',h,r,hP,hd,hm=>hd.elim
 |_::_,[],μ,w,a,σ,s,m,mx,σ',m',h,r,hP,hd,hm=>hd.elim
 |d::l,d'::l',μ,w,a,σ,s,m,mx,σ',m',h,r,hP,⟨hd1,hd2,hd3⟩,hm=>by
  simp only [tdefers] at h
  simp only [xdefers]
  split at h
  ·rename_i fn hf
   rw [hd1,hF.some _ _ hf]
   split at h
   ·rename_i e1 a1 σ1 m1 h1
    have r0:=r.toRs.stoOf.enter (sto_only w) (args:=d.args) (args':=d'.args) (by rw [zo_sto];exact hd2)
    obtain ⟨e',ax1,s1,μ1,w1,mx1,k1,k2,k3,k4,k5⟩:=tcodeR_sound hC fn.fn.body h1 r0 (r.hP2 hP) (by rw [zo_sto];exact hm)
    simp only [k1]
    have go:∀{l0:List TV},a1.df=[]→(e1=.normal∨e1=.ret)→tresults a1 σ1 fn.fn.results=some l0→tdefers C F b n l σ1 m1.settle=some (σ',m')→
      ∃s' μ' w' a' mx',(match ax1.df,e',xresults ax1 s1 fn.fn.results with
       |[],.normal,some _=>xdefers X Fx n l' s1 mx1.settle
       |[],.ret,some _=>xdefers X Fx n l' s1 mx1.settle
       |_,_,_=>none)=some (s',mx')∧Rl Pr μ' w' a' σ' ax s'∧(∀t,a'.ev (.tmp t)=a.ev (.tmp t))∧After w w' μ μ' s s'∧RMd s'.get μ' (Zo w' Pr) m' mx':=by
     intro l0 q1 q2 q3 q4
     have hdf:ax1.df=[]:=by
      have:=k2.df
      rw [q1] at this
      revert this
      cases ax1.df with
      |nil=>intro _;rfl
      |cons=>intro h;exact h.elim
     obtain ⟨l1,p1⟩:=tresults_some k2 _ q3
     obtain ⟨b1,b2,b3,b4⟩:=r.back hP k2.toRs.out' (sto_only w1) k3.out
     have hm1:RMd s1.get μ1 (Zo (both w (sto w1)) Pr) m1.settle mx1.settle:=by
      rw [b3];exact (k5.mono (Mo.sub (sto_le w1))).settle
     obtain ⟨s',μ',w',a',mx',c1,c2,c3,c4,c5⟩:=tdefers_sound hC hF l q4 b1 (b2.hP hP) (hd3.mono (b2.mo r.dm)) hm1
     refine ⟨s',μ',w',a',mx',?_,c2,c3,b2.trans c4,c5⟩
     rw [hdf,p1]
     rcases q2 with rfl|rfl
     ·cases e'<;>first|exact k4.elim|exact c1
     ·cases e'<;>first|exact k4.elim|exact c1
    split at h
    ·rename_i q1 q3
     exact go q1 (.inl rfl) q3 h
    ·rename_i q1 q3
     exact go q1 (.inr rfl) q3 h
    ·cases h
   ·cases h
  ·cases h
theorem packed_rel {g:Hp} {Z:Nat→Prop} {l:List TV} {l':List Value} (h:RVs g μ Z l l'):RV g μ Z (packedT l) (packed l'):=by
 cases h with
 |nil=>exact .tuple .nil
 |cons a b=>
  cases b with
  |nil=>exact a
  |cons c d=>exact .tuple (.cons a (.cons c d))
theorem RVs.mapT {g:Hp} {μ:List Nat} {Z:Nat→Prop} {f:TV→TV} (h:∀v v',RV g μ Z v v'→RV g μ Z (f v) v'):∀{l:List TV} {l':List Value},RVs g μ Z l l'→RVs g μ Z (l.map f) l'
 |_,_,.nil=>.nil
 |_,_,.cons a b=>.cons (h _ _ a) (RVs.mapT h b)
theorem okSz_map {s:Nat} {f:TV→TV} {chs:List (List TV)} (h:okSz s chs=true):okSz s (chs.map fun ch=>ch.map f)=true:=by
 unfold okSz at h ⊢
 rw [List.all_eq_true] at h ⊢
 intro c hc
 obtain ⟨c0,h0,rfl⟩:=List.mem_map.1 hc
 rw [List.length_map];exact h c0 h0
theorem flat_map2 (f:TV→TV):∀chs:List (List TV),(chs.map fun ch=>ch.map f).flatten=chs.flatten.map f
 |[]=>rfl
 |c::l=>by simp only [List.map_cons,List.flatten_cons,List.map_append,flat_map2 f l]
theorem thaw_rel (r:Rl Pr μ w a σ ax s) {Z:Nat→Prop} {k:Nat} (hz:∀i,Zo w Pr i→Z i) (hn:∀j i,k≤j→μ[j]? =some i→Z i):∀n v v',RV s.get μ Z v v'→RV s.get μ Z (thaw σ k n v) v'
 |0,v,v',h=>by cases v<;>exact h
 |n+1,v,v',h=>by
  have ih:=thaw_rel r hz hn n
  cases h with
  |ref e hc=>
   rename_i j o sz m c i
   unfold thaw
   split
   ·rename_i ver vs ty hb ho
    split
    ·rename_i hck
     simp only [Bool.and_eq_true,Bool.or_eq_true,bleNat,bltNat,beqNat,decide_eq_true_eq] at hck hb
     obtain ⟨⟨q1,q2⟩,q3⟩:=hck
     obtain ⟨i',vs',p1,p2,p3⟩:=r.objOf ho
     rw [e] at p1;cases p1
     have hpl:=(p3.plain q1 (by simpa using q2)).mono (Mo.mk (fun _ _ e=>e) (fun i _ _ _ _ z hg=>⟨hz i z,hg⟩):Mo s.get μ (Zo w Pr) s.get μ Z)
     have hle:m*sz≤(vs.drop o).length:=by rw [List.length_drop];omega
     refine .fz (hn _ _ hb e) p2 (okSz_map (chop_ok _ _ _ hle)) (by rw [List.length_map,chop_len]) (fun _=>hc) (fun h=> ?_) (by rw [p3.len];exact q1) ?_
     ·rcases q3 with q|q
      ·omega
      ·exact q
     ·rw [flat_map2,chop_flat]
      exact hpl.mapT ih
    ·exact .ref e hc
   ·exact .ref e hc
  |agg h=>exact .agg (h.mapT ih)
  |tuple h=>exact .tuple (h.mapT ih)
  |int=>exact .int _ _
  |bool=>exact .bool _
  |str=>exact .str _
  |nilp=>exact .nilp
  |ptr e=>exact .ptr e
  |elt a b c d=>exact .elt a b c d
  |fz a b c d e f m k=>exact .fz a b c d e f m k
  |fz0 b c=>exact .fz0 b c
  |nl=>exact .nl
  |nilm=>exact .nilm
  |map e=>exact .map e
  |nilf=>exact .nilf
  |func f a b=>exact .func f a b
  |nili=>exact .nili
  |iface t a=>exact .iface t a
  |dead=>exact .dead _
theorem tleave_rel {ν:List Nat} (r:Rl Pr (μ++ν) w a σ ax s) (hi:Inv μ.length σ) {keep:Bool} {v v2:TV} {v':Value} {σ2:Sto} (h:tleave keep μ.length σ v=some (v2,σ2)) (hv:RV s.get (μ++ν) (Zo (sto w) Pr) v v'):
  ∃ν2 w2,Rs Pr (μ++ν2) w2 σ2 s∧OnlyS w2∧(∀p i,w2 p=some i→w p=some i)∧RV s.get (μ++ν2) (Zo w2 Pr) v2 v':=by
 unfold tleave at h
 split at h
 ·cases h
  exact ⟨ν,sto w,r.toRs.out',sto_only w,sto_le w,hv⟩
 ·split at h
  ·rename_i hb
   cases h
   have hz:∀i,Zo (sto w) Pr i→Zo (cutO μ.length w) Pr i:=fun i z=>by
    refine ⟨fun p e=>z.1 p ?_,z.2⟩
    cases p<;>first|(cases e;done)|skip
    ·simp only [cutO] at e;split at e
     ·exact e
     ·cases e
    ·simp only [cutO] at e;split at e
     ·exact e
     ·cases e
   have hnew:∀j i,μ.length≤j→(μ++ν)[j]? =some i→Zo (cutO μ.length w) Pr i:=fun j i hj e=>by
    have ho:w (.obj j)=some i:=(r.wobj j).trans e
    refine ⟨fun p hp=> ?_,r.pr _ _ ho⟩
    have:=r.inj _ _ _ (cutO_le _ _ _ _ hp) ho
    subst this
    simp only [cutO] at hp
    rw [if_neg (by omega)] at hp;cases hp
   refine ⟨[],cutO μ.length w,?_,cutO_only _ _,cutO_le _ _,?_⟩
   ·rw [List.append_nil];exact r.toRs.cutS hi
   ·rw [List.append_nil]
    have hv2:RV s.get (μ++ν) (Zo (cutO μ.length w) Pr) v v':=hv.mono (Mo.mk (fun _ _ e=>e) (fun i _ _ _ _ z hg=>⟨hz i z,hg⟩))
    exact RV.cut (fun i z=>z) (thaw_rel r (fun i z=>hz i (z.sub (sto_le w))) hnew 4 _ _ hv2.canon) hb
  ·cases h
theorem tfinish_rel {ν:List Nat} (r:Rl Pr (μ++ν) w a σ ax s) (hi:Inv μ.length σ) {fn:TFun} {m:TMode} {mx:Xe.Mode} {e:TEnd} {σ2:Sto} (h:tfinish a fn μ.length σ m=some (e,σ2)) (hm:RMd s.get (μ++ν) (Zo w Pr) m mx):
  ∃e' ν2 w2,xfinish ax fn.fn s mx=some (e',s)∧Rs Pr (μ++ν2) w2 σ2 s∧OnlyS w2∧(∀p i,w2 p=some i→w p=some i)∧REnd s.get (μ++ν2) (Zo w2 Pr) e e':=by
 have ret:∀{m0:Xe.Mode},(∀v,m0≠.panicking v)→(match tresults a σ fn.fn.results with
   |some l=>match gives l with
    |some l=>match tleave fn.keep μ.length σ (packedT l) with
     |some (v,σ)=>some (TEnd.ret v,σ)
     |none=>none
    |none=>none
   |none=>none)=some (e,σ2)→∃e' ν2 w2,xfinish ax fn.fn s m0=some (e',s)∧Rs Pr (μ++ν2) w2 σ2 s∧OnlyS w2∧(∀p i,w2 p=some i→w p=some i)∧REnd s.get (μ++ν2) (Zo w2 Pr) e e':=by
  intro m0 hm0 h
  split at h
  ·rename_i l h1
   split at h
   ·rename_i l2 h2
    split at h
    ·rename_i v σ3 h3
     cases h
     obtain ⟨l',q1,q2⟩:=tresults_rel r _ h1 h2
     obtain ⟨ν2,w2,p1,p2,p3,p4⟩:=tleave_rel r hi h3 (packed_rel q2)
     refine ⟨.ret (packed l'),ν2,w2,?_,p1,p2,p3,p4⟩
     unfold xfinish
     cases m0 with
     |panicking v=>exact absurd rfl (hm0 v)
     |ret=>simp only [q1]
     |recovered=>simp only [q1]
    ·cases h
   ·cases h
  ·cases h
 unfold tfinish at h
 cases m with
 |panicking v=>
  cases mx<;>first|exact hm.elim|skip
  rename_i v'
  simp only at h
  split at h
  ·rename_i v1 σ3 h3
   cases h
   have hv:RV s.get (μ++ν) (Zo w Pr) v v':=hm
   obtain ⟨ν2,w2,p1,p2,p3,p4⟩:=tleave_rel r hi h3 (hv.mono (Mo.sub (sto_le w)))
   exact ⟨.panic v',ν2,w2,rfl,p1,p2,p3,p4⟩
  ·cases h
 |ret=>
  cases mx<;>first|exact hm.elim|skip
  exact ret (fun v=>by simp) h
 |recovered=>
  cases mx<;>first|exact hm.elim|skip
  exact ret (fun v=>by simp) h
theorem tcall_sound (hF:Fits F O Fx Ox):∀n,CallOk (tcall F O n) (xcall Fx Ox n)
 |0=>⟨fun h=>by simp only [tcall] at h;cases h⟩
 |n+1=>⟨fun {b f args σ e σ'} h {Pr μ w s args'} r ho hP ha=>by
  have ih:=tcall_sound hF n
  have hinv:=@tcall_inv F O n
  simp only [tcall] at h
  simp only [xcall]
  split at h
  ·rename_i fn hf
   have r0:=r.enter ho ha
   split at h
   ·rename_i hpre
    cases h
    have hcl:fn.clone=true∧args=[.sl .fz []]:=by
     unfold preT at hpre
     split at hpre
     ·rename_i h1;exact ⟨h1,rfl⟩
     ·cases hpre
    obtain ⟨hc1,rfl⟩:=hcl
    obtain ⟨ty,sz,z,bytes,hfn⟩:=hF.cl _ _ hf hc1
    have hx:=hF.some _ _ hf
    rw [hfn] at hx
    obtain ⟨bb,c,rfl⟩:∃bb c,args'=[.slice bb 0 c]:=by
     cases ha with
     |cons h1 h2=>
      cases h2
      cases h1 with
      |fz z hg ok hn=>simp only [List.length_nil] at hn;subst hn;exact ⟨_,_,rfl⟩
      |fz0 b c=>exact ⟨b,c,rfl⟩
    cases bb with
    |none=>
     have:=cloneX_nil (Ox:=Ox) (n:=n) (c:=c) (s:=s) hx
     simp only [xcall] at this
     exact ⟨_,s,μ,w,this,r,ho,After.refl w μ s,.fz0 _ _⟩
    |some ad=>
     have:=cloneX_some (Ox:=Ox) (n:=n) (c:=c) (a:=ad) (s:=s) hx
     simp only [xcall] at this
     have r1:=r0.alloc ⟨0,.cells [] ty false⟩ (fun h=>Nat.lt_irrefl _ (hP _ h))
     refine ⟨_,_,μ,w,this,r1.toRs.sub (fun p i e=> ?_) (fun k=>rfl) (fun k c=>rfl),ho,⟨by rw [upd_next1];omega,fun i hi _=>by rw [heapNew,if_neg (by omega)],fun p i e _=>⟨p,e⟩,mu_self⟩,.fz0 _ _⟩
     cases p<;>first|exact e|(rename_i q;have:=ho.hand q;rw [this] at e;cases e)
   rw [hF.some _ _ hf]
   simp only
   have hlen:σ.length=μ.length:=r.len.symm
   have i0:Inv σ.length σ:=r.inv
   have fin:∀{e1:TEx} {a1:TAct} {σ1:Sto} {m0:TMode} {ex:Xe.Ex} {ax1:Xe.Act} {s1:AS} {μ1:List Nat} {w1:Own} {mx0:Xe.Mode},
     tcode fn.an (baseOf fn.keep b σ.length) (tcall F O n) n fn.fn.body (enterT args) σ=some (e1,a1,σ1)→Rl Pr μ1 w1 a1 σ1 ax1 s1→After w w1 μ μ1 s s1→RMd s1.get μ1 (Zo w1 Pr) m0 mx0→
     (match tdefers (tcall F O n) F (baseOf fn.keep b σ.length) n a1.df σ1 m0 with
      |some (σ2,m)=>tfinish a1 fn σ.length σ2 m
      |none=>none)=some (e,σ')→
     ∃e' s' μ' w',(match xdefers (xcall Fx Ox n) Fx n ax1.df s1 mx0 with
      |some (s,m)=>xfinish ax1 fn.fn s m
      |none=>none)=some (e',s')∧Rs Pr μ' w' σ' s'∧OnlyS w'∧After w w' μ μ' s s'∧REnd s'.get μ' (Zo w' Pr) e e':=by
    intro e1 a1 σ1 m0 ex ax1 s1 μ1 w1 mx0 hc r1 haf hm h
    split at h
    ·rename_i σ2 m2 hd
     obtain ⟨s2,μ2,w2,a2,mx2,c1,c2,c3,c4,c5⟩:=tdefers_sound ih hF _ hd r1 (haf.hP hP) r1.df hm
     have haf2:=haf.trans c4
     obtain ⟨ν,hν⟩:=haf2.mu
     subst hν
     have hft:tfinish a2 fn μ.length σ2 m2=some (e,σ'):=by
      rw [←hlen]
      have htr:∀l,tresults a2 σ2 l=tresults a1 σ2 l:=by
       intro l
       induction l with
       |nil=>rfl
       |cons x l ihl=>
        simp only [tresults,ihl]
        cases x<;>simp only [tres,c3]
      revert h
      unfold tfinish
      rw [htr]
      exact id
     have hbase:baseOf fn.keep b σ.length=baseOf fn.keep b σ.length:=rfl
     by_cases hk:fn.keep=true
     ·have h2:∃ν2,(μ++ν)=(μ++ν)++ν2:=⟨[],by simp⟩
      have hft':∀k,tfinish a2 fn k σ2 m2=some (e,σ'):=by
       intro k
       revert hft
       unfold tfinish tleave
       rw [hk]
       exact id
      have hlen2:σ2.length=(μ++ν).length:=c2.len.symm
      have r2:Rl Pr ((μ++ν)++[]) w2 a2 σ2 ax1 s2:=by rw [List.append_nil];exact c2
      obtain ⟨e',ν2,w3,f1,f2,f3,f4,f5⟩:=tfinish_rel (μ:=μ++ν) (ν:=[]) r2 (by rw [←hlen2];exact c2.toRs.inv) (hft' _) (by rw [List.append_nil];exact c5)
      refine ⟨e',s2,(μ++ν)++ν2,w3,?_,f2,f3,⟨haf2.le,haf2.keep,fun p i e hi=>haf2.own p i (f4 p i e) hi,ν++ν2,by rw [List.append_assoc]⟩,f5⟩
      simp only [c1];exact f1
     ·have hk:fn.keep=false:=by simpa using hk
      have hb2:baseOf fn.keep b σ.length=σ.length:=by rw [hk];rfl
      have i1:Inv μ.length σ2:=by
       rw [←hlen]
       refine tdefers_inv hinv ?_ _ _ _ _ _ hd (tcode_inv hinv ?_ _ _ _ _ _ _ hc i0)<;>rw [hb2]<;>exact Nat.le_refl _
      obtain ⟨e',ν2,w3,f1,f2,f3,f4,f5⟩:=tfinish_rel c2 i1 hft c5
      refine ⟨e',s2,μ++ν2,w3,?_,f2,f3,⟨haf2.le,haf2.keep,fun p i e hi=>haf2.own p i (f4 p i e) hi,ν2,rfl⟩,f5⟩
      simp only [c1];exact f1
    ·cases h
   split at h
   ·rename_i a1 σ1 hc
    obtain ⟨e',ax1,s1,μ1,w1,k1,k2,k3,k4⟩:=tcode_sound ih _ _ _ _ _ _ _ _ _ _ _ hc r0 hP
    rw [k1]
    cases e'<;>first|exact k4.elim|skip
    exact fin (ex:=.normal) (m0:=.ret) hc k2 k3 (mx0:=.ret) trivial h
   ·rename_i a1 σ1 hc
    obtain ⟨e',ax1,s1,μ1,w1,k1,k2,k3,k4⟩:=tcode_sound ih _ _ _ _ _ _ _ _ _ _ _ hc r0 hP
    rw [k1]
    cases e'<;>first|exact k4.elim|skip
    exact fin (ex:=.ret) (m0:=.ret) hc k2 k3 (mx0:=.ret) trivial h
   ·rename_i v a1 σ1 hc
    obtain ⟨e',ax1,s1,μ1,w1,k1,k2,k3,k4⟩:=tcode_sound ih _ _ _ _ _ _ _ _ _ _ _ hc r0 hP
    rw [k1]
    cases e'<;>first|exact k4.elim|skip
    rename_i v'
    exact fin (ex:=.panic v') (m0:=.panicking v) hc k2 k3 (mx0:=.panicking v') k4 h
   ·cases h
  ·rename_i hf
   rw [hF.none _ hf]
   simp only
   split at h
   ·rename_i v hv
    obtain ⟨v',q1,q2⟩:=hF.orc _ _ _ hv s.get μ (Zo w Pr) args' ha
    rw [q1]
    exact tEnd_sound q2 h r ho hP ha
   ·cases h⟩
end
end Go.Xt
end
section
namespace Go.Xt
open Go Go.Xe
inductive Sh (P:Program):TypeId→List TV→Prop
 |bool {t:TypeId} (b:Bool):P.underlying t=some .bool→Sh P t [.bool b]
 |int {t:TypeId} {k:IntKind} (n:Int):P.underlying t=some (.int k)→(Lit.int k n).wf=true→Sh P t [.int k n]
 |str {t:TypeId} (s:ByteArray):P.underlying t=some .string→s.size≤maxLen→Sh P t [.str s]
 |slice {t e:TypeId} (chs:List (List TV)):P.underlying t=some (.slice e)→chs.length≤maxLen→(∀c,c∈chs→Sh P e c)→Sh P t [.sl .fz chs]
 |struct {t:TypeId} {fs:Array Field} (cs:List TV):P.underlying t=some (.struct fs)→cs.length=P.cellsOf t→(∀(i:Nat) (f:Field),fs[i]? =some f→Sh P f.type ((cs.drop f.offset).take (P.cellsOf f.type)))→Sh P t cs
theorem list_of {α:Type} {n:Nat} {R:Nat→α→Prop} (h:∀i,i<n→∃x,R i x):∃l:List α,l.length=n∧∀i x,l[i]? =some x→R i x:=by
 induction n with
 |zero=>exact ⟨[],rfl,fun i x e=>by simp at e⟩
 |succ n ih=>
  obtain ⟨l,h1,h2⟩:=ih (fun i hi=>h i (by omega))
  obtain ⟨x,hx⟩:=h n (by omega)
  refine ⟨l++[x],by simp [h1],fun i y e=> ?_⟩
  by_cases hi:i<l.length
  ·rw [List.getElem?_append_left hi] at e;exact h2 i y e
  ·have:=(List.getElem?_eq_some_iff.1 e).1
   have hin:i=n:=by simp at this;omega
   subst hin
   rw [List.getElem?_append_right (by omega),h1] at e
   simp at e;subst e;exact hx
section
variable {g:Hp} {μ:List Nat} {Z:Nat→Prop}
theorem rows_rel {vs:List Value} {k:Nat}:∀(chs:List (List TV)) (o:Nat),(∀i c,chs[i]? =some c→RVs g μ Z c ((vs.drop (o+i*k)).take k)∧c.length=k)→RVs g μ Z chs.flatten ((vs.drop o).take (chs.length*k))
 |[],o,_=>by simp;exact .nil
 |c::chs,o,h=>by
  rw [List.flatten_cons,List.length_cons,Nat.succ_mul,Nat.add_comm,List.take_add,List.drop_drop]
  refine RVs.append ?_ (rows_rel chs (o+k) fun i c' e=> ?_)
  ·have:=(h 0 c rfl).1
   simpa using this
  ·have:=h (i+1) c' (by simpa using e)
   rwa [show o+(i+1)*k=o+k+i*k by rw [Nat.succ_mul];omega] at this
end
theorem tree_true {F:FuncId→Option TFun} {O:FuncId→List TV→Option TV} {Fx:FuncId→Option XFun} {Ox:FuncId→List Value→Option Value} (hF:Fits F O Fx Ox) {L:Lst} {args:List TV} {args':List Value} (ha:RVs (gL L) [] (fun _=>True) args args') {n f:Nat} {σ':Sto}
  (h:tcall F O n 0 f args []=some (.ret (.bool true),σ')):∃s',xcall Fx Ox n f args' ⟨gL L,.nil,L.length⟩=some (.ret (.bool true),s'):=by
 have hget:(AS.mk (gL L) .nil L.length).get=gL L:=by
  funext k
  simp only [AS.get,Tri.get_nil]
 have hz:Zo (fun _=>none) (fun _=>False)=fun _=>True:=by
  funext i
  exact propext ⟨fun _=>trivial,fun _=>⟨fun p e=>(by cases e),fun h=>h⟩⟩
 have rs:Rs (fun _=>False) [] (fun _=>none) [] ⟨gL L,.nil,L.length⟩:=by
  refine ⟨fun i hi=> ?_,rfl,fun p q i e=>(by cases e),fun p i e=>(by cases e),fun p i e=>(by cases e),fun k=>(by simp),fun k c _=>rfl,fun k o e=>(by simp [Sto.at] at e),trivial⟩
  rw [hget]
  unfold gL
  rw [List.getElem?_eq_none (by exact hi)];rfl
 obtain ⟨e',s',μ',w',h1,h2,h3,h4,h5⟩:=(tcall_sound hF n).call h rs ⟨fun _=>rfl,fun _ _=>rfl,fun _=>rfl⟩ (fun _ h=>h.elim) (args':=args') (by rw [hget,hz];exact ha)
 cases e' with
 |panic v=>exact h5.elim
 |ret v=>
  have h5:RV _ _ _ (.bool true) v:=h5
  cases h5
  exact ⟨s',h1⟩
end Go.Xt
end
section
namespace Go.Xt
open Go Go.Xe
def I64 (n:Int):Prop:=-9223372036854775808≤n∧n≤9223372036854775807
inductive OkT:PTyp→Prop
 |mk {k:Int} {l:List PTyp}:I64 k→l.length≤maxLen→(∀t∈l,OkT t)→OkT (.mk k l)
inductive OkE:PExpr→Prop
 |mk {k n:Int} {s:Str} {ns:List Str} {od:List Int} {l:List PExpr} {ln c:Int}:I64 k→I64 n→I64 ln→I64 c→s.size≤maxLen→ns.length≤maxLen→(∀x∈ns,x.size≤maxLen)→od.length≤maxLen→(∀x∈od,I64 x)→l.length≤maxLen→(∀e∈l,OkE e)→OkE (.mk k n s ns od l ln c)
theorem OkT.len {t:PTyp} (h:OkT t):t.list.length≤maxLen:=by cases h;assumption
theorem OkT.sub {t:PTyp} (h:OkT t):∀x∈t.list,OkT x:=by cases h;assumption
theorem OkE.kids {e:PExpr} (h:OkE e):e.kids.length≤maxLen:=by cases h;assumption
theorem OkE.sub {e:PExpr} (h:OkE e):∀x∈e.kids,OkE x:=by cases h;assumption
theorem OkE.names {e:PExpr} (h:OkE e):e.names.length≤maxLen:=by cases h;assumption
theorem OkE.odds {e:PExpr} (h:OkE e):e.odds.length≤maxLen:=by cases h;assumption
def IsSt (P:Program) (t:TypeId) (n:Nat) (fs:List (Nat×TypeId×Nat)):Prop:=
 ∃a:Array Field,P.underlying t=some (.struct a)∧P.cellsOf t=n∧a.toList.map (fun f=>(f.offset,f.type,P.cellsOf f.type))=fs
theorem Sh.st {P:Program} {t:TypeId} {n:Nat} {fs:List (Nat×TypeId×Nat)} (h:IsSt P t n fs) {l:List TV} (s:Sh P t l):l.length=n∧∀x∈fs,Sh P x.2.1 ((l.drop x.1).take x.2.2):=by
 obtain ⟨a,h1,h2,h3⟩:=h
 cases s with
 |bool _ h=>rw [h1] at h;cases h
 |int _ h=>rw [h1] at h;cases h
 |str _ h=>rw [h1] at h;cases h
 |slice _ h=>rw [h1] at h;cases h
 |struct _ h hl hf=>
  rw [h1] at h;cases h
  refine ⟨hl.trans h2,fun x hx=> ?_⟩
  rw [←h3] at hx
  obtain ⟨f,hf',rfl⟩:=List.mem_map.1 hx
  obtain ⟨i,hi⟩:=List.getElem?_of_mem hf'
  exact hf i f (by simpa using hi)
theorem Sh.intOf {P:Program} {t:TypeId} {k:IntKind} (h:P.underlying t=some (.int k)) {l:List TV} (s:Sh P t l):∃n,l=[.int k n]∧(Lit.int k n).wf=true:=by
 cases s with
 |bool _ h'=>rw [h] at h';cases h'
 |int n h' w=>rw [h] at h';cases h';exact ⟨n,rfl,w⟩
 |str _ h'=>rw [h] at h';cases h'
 |slice _ h'=>rw [h] at h';cases h'
 |struct _ h'=>rw [h] at h';cases h'
theorem Sh.sliceOf {P:Program} {t e:TypeId} (h:P.underlying t=some (.slice e)) {l:List TV} (s:Sh P t l):∃chs,l=[.sl .fz chs]∧chs.length≤maxLen∧∀c∈chs,Sh P e c:=by
 cases s with
 |bool b h'=>rw [h] at h';cases h'
 |int n h' w=>rw [h] at h';cases h'
 |str b h' hs=>rw [h] at h';cases h'
 |slice chs h' hl hc=>rw [h] at h';cases h';exact ⟨chs,rfl,hl,hc⟩
 |struct _ h'=>rw [h] at h';cases h'
theorem i64_wf {n:Int} (h:(Lit.int .i64 n).wf=true):I64 n:=by
 simp only [Lit.wf,Bool.and_eq_true,decide_eq_true_eq] at h
 have h1:IntKind.i64.min=-9223372036854775808:=by decide
 have h2:IntKind.i64.max=9223372036854775807:=by decide
 rw [h1,h2] at h
 exact h
theorem map_of {α β:Type} {f:α→β} {R:α→Prop}:∀(l:List β),(∀x∈l,∃y,x=f y∧R y)→∃m:List α,l=m.map f∧∀y∈m,R y
 |[],_=>⟨[],rfl,fun y h=>by cases h⟩
 |x::l,h=>by
  obtain ⟨y,rfl,hy⟩:=h x (by simp)
  obtain ⟨m,rfl,hm⟩:=map_of l (fun z hz=>h z (by simp [hz]))
  exact ⟨y::m,rfl,fun z hz=>by
   rcases List.mem_cons.1 hz with rfl|hz
   ·exact hy
   ·exact hm z hz⟩
structure ApiT (P:Program) where
 int:TypeId
 str:TypeId
 strs:TypeId
 ints:TypeId
 typ:TypeId
 typs:TypeId
 exp:TypeId
 exps:TypeId
 fld:TypeId
 flds:TypeId
 fn:TypeId
 fns:TypeId
 prog:TypeId
 hint:P.underlying int=some (.int .i64)
 hstr:P.underlying str=some .string
 hstrs:P.underlying strs=some (.slice str)
 hints:P.underlying ints=some (.slice int)
 htyp:IsSt P typ 2 [(0,int,1),(1,typs,1)]
 htyps:P.underlying typs=some (.slice typ)
 hexp:IsSt P exp 8 [(0,int,1),(1,int,1),(2,str,1),(3,strs,1),(4,ints,1),(5,exps,1),(6,int,1),(7,int,1)]
 hexps:P.underlying exps=some (.slice exp)
 hfld:IsSt P fld 5 [(0,str,1),(1,typ,2),(3,int,1),(4,int,1)]
 hflds:P.underlying flds=some (.slice fld)
 hfn:IsSt P fn 14 [(0,str,1),(1,flds,1),(2,typ,2),(4,exp,8),(12,int,1),(13,int,1)]
 hfns:P.underlying fns=some (.slice fn)
 hprog:IsSt P prog 10 [(0,flds,1),(1,fns,1),(2,exp,8)]
theorem len8 {α:Type} {l:List α} (h:l.length=8):∃a b c d e f g i,l=[a,b,c,d,e,f,g,i]:=by
 match l,h with|[a,b,c,d,e,f,g,i],_=>exact ⟨a,b,c,d,e,f,g,i,rfl⟩
theorem sz_head {chs:List (List TV)} {c:List TV} (h:c∈chs) {l:List TV} (m:Md) (hl:TV.sl m chs∈l):SizeOf.sizeOf c<SizeOf.sizeOf l:=by
 have h1:=List.sizeOf_lt_of_mem h
 have h2:=List.sizeOf_lt_of_mem hl
 simp at h2
 omega
section
variable {P:Program} (A:ApiT P)
end
end Go.Xt
end
section
namespace Go.Xt
open Go Go.Xe
inductive Kt where
 |seq (y:XCode)
 |blk (id:Nat)
section
variable (an:Ann) (b:Nat) (C:TCallee) (n:Nat) (Q:TEx→TAct→Sto→Prop)
def Cont:List Kt→TEx→TAct→Sto→Prop
 |[],e,a,σ=>Q e a σ
 |.seq y::ks,e,a,σ=>match e with
  |.normal=>∃e' a' σ',tcode an b C n y a σ=some (e',a',σ')∧Cont ks e' a' σ'
  |e=>Cont ks e a σ
 |.blk id::ks,e,a,σ=>match e with
  |.exit k=>match Nat.beq k id with
   |true=>Cont ks .normal a σ
   |false=>Cont ks (.exit k) a σ
  |e=>Cont ks e a σ
def Tw (ks:List Kt) (r:Option (TEx×TAct×Sto)):Prop:=∃e a σ,r=some (e,a,σ)∧Cont an b C n Q ks e a σ
def TwC (v:TV) (ks:List Kt) (x y:XCode) (a:TAct) (σ:Sto):Prop:=
 match v with
 |.bool true=>Tw an b C n Q ks (tcode an b C n x a σ)
 |.bool false=>Tw an b C n Q ks (tcode an b C n y a σ)
 |_=>False
end
section
variable {an:Ann} {b:Nat} {C:TCallee} {n:Nat} {a:TAct} {σ:Sto} {Q:TEx→TAct→Sto→Prop} {ks:List Kt}
theorem tw_some (e:TEx):Tw an b C n Q ks (some (e,a,σ))↔Cont an b C n Q ks e a σ:=
 ⟨fun ⟨_,_,_,h,q⟩=>by cases h;exact q,fun q=>⟨e,a,σ,rfl,q⟩⟩
theorem tw_none:Tw an b C n Q ks none↔False:=⟨fun ⟨_,_,_,h,_⟩=>(by cases h),fun h=>False.elim h⟩
theorem tw_nil (e:TEx):Cont an b C n Q [] e a σ↔Q e a σ:=Iff.rfl
theorem tw_k {y:XCode}:Cont an b C n Q (.seq y::ks) .normal a σ↔Tw an b C n Q ks (tcode an b C n y a σ):=Iff.rfl
theorem tw_k_exit {y:XCode} (id:Nat):Cont an b C n Q (.seq y::ks) (.exit id) a σ↔Cont an b C n Q ks (.exit id) a σ:=Iff.rfl
theorem tw_k_ret {y:XCode}:Cont an b C n Q (.seq y::ks) .ret a σ↔Cont an b C n Q ks .ret a σ:=Iff.rfl
theorem tw_k_panic {y:XCode} (v:TV):Cont an b C n Q (.seq y::ks) (.panic v) a σ↔Cont an b C n Q ks (.panic v) a σ:=Iff.rfl
theorem tw_b {id:Nat}:Cont an b C n Q (.blk id::ks) .normal a σ↔Cont an b C n Q ks .normal a σ:=Iff.rfl
theorem tw_b_ret {id:Nat}:Cont an b C n Q (.blk id::ks) .ret a σ↔Cont an b C n Q ks .ret a σ:=Iff.rfl
theorem tw_b_panic {id:Nat} (v:TV):Cont an b C n Q (.blk id::ks) (.panic v) a σ↔Cont an b C n Q ks (.panic v) a σ:=Iff.rfl
theorem tw_b_exit {id k:Nat}:Cont an b C n Q (.blk id::ks) (.exit k) a σ↔Cont an b C n Q ks (if k=id then .normal else .exit k) a σ:=by
 simp only [Cont]
 rw [beqNat]
 by_cases h:k=id<;>simp [h]
theorem tw_seq {x y:XCode}:Tw an b C n Q ks (tcode an b C n (.seq x y) a σ)↔Tw an b C n Q (.seq y::ks) (tcode an b C n x a σ):=by
 simp only [tcode]
 constructor
 ·rintro ⟨e,a2,σ2,h,q⟩
  split at h
  ·rename_i a1 σ1 h1;exact ⟨.normal,a1,σ1,h1,e,a2,σ2,h,q⟩
  ·rename_i r hr
   refine ⟨e,a2,σ2,h,?_⟩
   cases e with
   |normal=>exact absurd h (hr _ _)
   |_=>exact q
 ·rintro ⟨e,a1,σ1,h,q⟩
  rw [h]
  cases e with
  |normal=>exact q
  |_=>exact ⟨_,_,_,rfl,q⟩
theorem tw_block {id:Nat} {c:XCode}:Tw an b C n Q ks (tcode an b C n (.block id c) a σ)↔Tw an b C n Q (.blk id::ks) (tcode an b C n c a σ):=by
 simp only [tcode]
 constructor
 ·rintro ⟨e,a2,σ2,h,q⟩
  split at h
  ·rename_i k a1 σ1 h1
   refine ⟨.exit k,a1,σ1,h1,?_⟩
   simp only [Cont]
   split at h
   ·rename_i hb;rw [hb];cases h;exact q
   ·rename_i hb;rw [hb];cases h;exact q
  ·rename_i r hr
   refine ⟨e,a2,σ2,h,?_⟩
   cases e with
   |exit k=>exact absurd h (hr _ _ _)
   |_=>exact q
 ·rintro ⟨e,a1,σ1,h,q⟩
  rw [h]
  cases e with
  |exit k=>
   simp only [Cont] at q
   simp only
   split at q
   ·rename_i hb;rw [hb];exact ⟨_,_,_,rfl,q⟩
   ·rename_i hb;rw [hb];exact ⟨_,_,_,rfl,q⟩
  |_=>exact ⟨_,_,_,rfl,q⟩
theorem tw_cond {c:Operand} {x y:XCode}:Tw an b C n Q ks (tcode an b C n (.cond c x y) a σ)↔TwC an b C n Q (a.ev c) ks x y a σ:=by
 simp only [tcode]
 unfold TwC
 cases a.ev c<;>first|exact tw_none|skip
 rename_i t;cases t<;>exact Iff.rfl
theorem twc_true {x y:XCode}:TwC an b C n Q (.bool true) ks x y a σ↔Tw an b C n Q ks (tcode an b C n x a σ):=Iff.rfl
theorem twc_false {x y:XCode}:TwC an b C n Q (.bool false) ks x y a σ↔Tw an b C n Q ks (tcode an b C n y a σ):=Iff.rfl
theorem tw_skip:Tw an b C n Q ks (tcode an b C n .skip a σ)↔Cont an b C n Q ks .normal a σ:=tw_some _
theorem tw_exit {id:Nat}:Tw an b C n Q ks (tcode an b C n (.exit id) a σ)↔Cont an b C n Q ks (.exit id) a σ:=tw_some _
theorem tw_ret:Tw an b C n Q ks (tcode an b C n .ret a σ)↔Cont an b C n Q ks .ret a σ:=tw_some _
theorem tw_region {ops:List XOper}:Tw an b C n Q ks (tcode an b C n (.region ops) a σ)↔Tw an b C n Q ks (tops an b C ops a σ):=Iff.rfl
theorem tw_tloop (I:Nat→TAct→Sto→Prop) (len:Nat) {c:XCode} (R:TEx→TAct→Sto→Prop)
  (step:∀j a σ,j<len→I j a σ→Tw an b C n (fun e a σ=>match e with|.normal=>I (j+1) a σ|e=>R e a σ) [] (tcode an b C n c a σ))
  (stop:∀a σ,I len a σ→Tw an b C n (fun e a σ=>match e with|.normal=>False|e=>R e a σ) [] (tcode an b C n c a σ)):
  ∀(m j:Nat) (a:TAct) (σ:Sto),len<j+m→j≤len→I j a σ→∃e a' σ',tloop (tcode an b C n c) m a σ=some (e,a',σ')∧R e a' σ'
 |0,j,a,σ,h,h2,hI=>by omega
 |m+1,j,a,σ,h,h2,hI=>by
  simp only [tloop]
  by_cases hj:j<len
  ·obtain ⟨e,a1,σ1,h3,q⟩:=step j a σ hj hI
   rw [h3]
   cases e with
   |normal=>exact tw_tloop I len R step stop m (j+1) a1 σ1 (by omega) (by omega) q
   |_=>exact ⟨_,_,_,rfl,q⟩
  ·obtain rfl:j=len:=by omega
   obtain ⟨e,a1,σ1,h3,q⟩:=stop a σ hI
   rw [h3]
   cases e with
   |normal=>exact q.elim
   |_=>exact ⟨_,_,_,rfl,q⟩
theorem tw_loop (I:Nat→TAct→Sto→Prop) (len:Nat) {c:XCode} (R:TEx→TAct→Sto→Prop) (h0:I 0 a σ) (hn:len<n)
  (step:∀j a σ,j<len→I j a σ→Tw an b C n (fun e a σ=>match e with|.normal=>I (j+1) a σ|e=>R e a σ) [] (tcode an b C n c a σ))
  (stop:∀a σ,I len a σ→Tw an b C n (fun e a σ=>match e with|.normal=>False|e=>R e a σ) [] (tcode an b C n c a σ))
  (next:∀e a σ,R e a σ→Cont an b C n Q ks e a σ):Tw an b C n Q ks (tcode an b C n (.loop c) a σ):=by
 obtain ⟨e,a',σ',h1,h2⟩:=tw_tloop I len R step stop n 0 a σ (by omega) (Nat.zero_le _) h0
 exact ⟨e,a',σ',h1,next _ _ _ h2⟩
theorem Tw.done {r:Option (TEx×TAct×Sto)} (h:Tw an b C n Q [] r):∃e a σ,r=some (e,a,σ)∧Q e a σ:=h
end
def topsE (an:Ann) (b:Nat) (C:TCallee):List XOper→TAct→Sto→Option (TAct×Sto)
 |[],a,σ=>some (a,σ)
 |o::r,a,σ=>
  match wantedT a o.guard with
  |none=>none
  |some false=>topsE an b C r (a.put o.dst undT) σ
  |some true=>match o.op with
   |.call f args=>match gives (args.map a.ev) with
    |some vs=>match C b f vs σ with
     |some (.ret v,σ')=>topsE an b C r ((frzs a args).tick.put o.dst v) σ'
     |_=>none
    |none=>none
   |.callV x args=>match gives (args.map a.ev) with
    |some vs=>match targetT (a.ev x) vs with
     |some (f,l')=>match C b f l' σ with
      |some (.ret v,σ')=>topsE an b C r ((frzs a args).tick.put o.dst v) σ'
      |_=>none
     |none=>none
    |none=>none
   |op=>match tdo (an.md o.dst) b a σ op with
    |some (v,a',σ')=>topsE an b C r (a'.put o.dst v) σ'
    |none=>none
theorem topsD_E (an:Ann) (b:Nat) (C:TCallee):∀(ops:List XOper) (a:TAct) (σ:Sto) (l:List TRec) {a':TAct} {σ':Sto},topsE an b C ops a σ=some (a',σ')→∃l',topsD an b C ops a σ l=some (a',σ',l')
 |[],a,σ,l,a',σ',h=>by simp only [topsE] at h;cases h;exact ⟨_,rfl⟩
 |⟨dst,op,guard⟩::ops,a,σ,l,a',σ',h=>by
  have ih:=topsD_E an b C ops
  rw [topsE] at h
  rw [topsD]
  cases hg:wantedT a guard with
  |none=>simp only [hg] at h;cases h
  |some c=>
   cases c with
   |false=>simp only [hg] at h ⊢;exact ih _ _ _ h
   |true=>
    simp only [hg] at h ⊢
    cases op
    case call f args=>
     simp only at h ⊢
     split at h
     ·rename_i vs hgv
      rw [hgv]
      split at h
      ·rename_i v σ1 hc
       simp only [hc];exact ih _ _ _ h
      ·cases h
     ·cases h
    case callV x args=>
     simp only at h ⊢
     split at h
     ·rename_i vs hgv
      rw [hgv]
      split at h
      ·rename_i f l' ht
       simp only [ht]
       split at h
       ·rename_i v σ1 hc
        simp only [hc];exact ih _ _ _ h
       ·cases h
      ·cases h
     ·cases h
    all_goals
     simp only at h ⊢
     split at h
     ·rename_i v a1 σ1 hd
      simp only [hd];exact ih _ _ _ h
     ·cases h
section
variable (an:Ann) (b:Nat) (C:TCallee) (n:Nat) (Q:TEx→TAct→Sto→Prop)
def TwE (ks:List Kt) (r:Option (TAct×Sto)):Prop:=∃a σ,r=some (a,σ)∧Cont an b C n Q ks .normal a σ
def TwD (ps:List (Nat×Nat)) (ks:List Kt) (r:Option (TAct×Sto×List TRec)):Prop:=∃a σ l,r=some (a,σ,l)∧pairsOkT l ps=true∧Cont an b C n Q ks .normal a σ
end
section
variable {an:Ann} {b:Nat} {C:TCallee} {n:Nat} {a:TAct} {σ:Sto} {Q:TEx→TAct→Sto→Prop} {ks:List Kt}
theorem twE_some:TwE an b C n Q ks (some (a,σ))↔Cont an b C n Q ks .normal a σ:=
 ⟨fun ⟨_,_,h,q⟩=>by cases h;exact q,fun q=>⟨a,σ,rfl,q⟩⟩
theorem twE_none:TwE an b C n Q ks none↔False:=⟨fun ⟨_,_,h,_⟩=>(by cases h),fun h=>False.elim h⟩
theorem twD_some {ps:List (Nat×Nat)} {l:List TRec}:TwD an b C n Q ps ks (some (a,σ,l))↔pairsOkT l ps=true∧Cont an b C n Q ks .normal a σ:=
 ⟨fun ⟨_,_,_,h,q⟩=>by cases h;exact q,fun q=>⟨a,σ,l,rfl,q⟩⟩
theorem twD_none {ps:List (Nat×Nat)}:TwD an b C n Q ps ks none↔False:=⟨fun ⟨_,_,_,h,_⟩=>(by cases h),fun h=>False.elim h⟩
theorem topsD_E':∀(ops:List XOper) (a:TAct) (σ:Sto) (l:List TRec) {a':TAct} {σ':Sto} {l':List TRec},topsD an b C ops a σ l=some (a',σ',l')→topsE an b C ops a σ=some (a',σ')
 |[],a,σ,l,a',σ',l',h=>by simp only [topsD] at h;cases h;rfl
 |⟨dst,op,guard⟩::ops,a,σ,l,a',σ',l',h=>by
  have ih:=@topsD_E' ops
  rw [topsD] at h
  rw [topsE]
  cases hg:wantedT a guard with
  |none=>simp only [hg] at h;cases h
  |some c=>
   cases c with
   |false=>simp only [hg] at h ⊢;exact ih _ _ _ h
   |true=>
    simp only [hg] at h ⊢
    cases op
    case call f args=>
     simp only at h ⊢
     split at h
     ·rename_i vs hgv
      rw [hgv]
      split at h
      ·rename_i v σ1 hc
       simp only [hc];exact ih _ _ _ h
      ·cases h
     ·cases h
    case callV x args=>
     simp only at h ⊢
     split at h
     ·rename_i vs hgv
      rw [hgv]
      split at h
      ·rename_i f l' ht
       simp only [ht]
       split at h
       ·rename_i v σ1 hc
        simp only [hc];exact ih _ _ _ h
       ·cases h
      ·cases h
     ·cases h
    all_goals
     simp only at h ⊢
     split at h
     ·rename_i v a1 σ1 hd
      simp only [hd];exact ih _ _ _ h
     ·cases h
theorem tw_regionE {ops:List XOper}:Tw an b C n Q ks (tcode an b C n (.regionD ops []) a σ)↔TwE an b C n Q ks (topsE an b C ops a σ):=by
 simp only [tcode,pairsOkT]
 constructor
 ·rintro ⟨e,a2,σ2,h,q⟩
  split at h
  ·rename_i a1 σ1 l hd
   cases h
   exact ⟨_,_,topsD_E' _ _ _ _ hd,q⟩
  ·cases h
 ·rintro ⟨a1,σ1,h,q⟩
  obtain ⟨l',hl⟩:=topsD_E an b C ops a σ [] h
  rw [hl]
  exact ⟨_,_,_,rfl,q⟩
theorem tw_regionD {ops:List XOper} {p:Nat×Nat} {ps:List (Nat×Nat)}:Tw an b C n Q ks (tcode an b C n (.regionD ops (p::ps)) a σ)↔TwD an b C n Q (p::ps) ks (topsD an b C ops a σ []):=by
 simp only [tcode]
 constructor
 ·rintro ⟨e,a2,σ2,h,q⟩
  split at h
  ·rename_i a1 σ1 l hd
   split at h
   ·rename_i hp;cases h;exact ⟨_,_,_,hd,hp,q⟩
   ·cases h
  ·cases h
 ·rintro ⟨a1,σ1,l,h,hp,q⟩
  rw [h]
  simp only [hp]
  exact ⟨_,_,_,rfl,q⟩
end
theorem tbin_add (k:IntKind) (a b:Int):tbin .add (.int k a) (.int k b)=some (.int k (k.wrap (a+b))):=by cases k<;>rfl
theorem tbin_sub (k:IntKind) (a b:Int):tbin .sub (.int k a) (.int k b)=some (.int k (k.wrap (a - b))):=by cases k<;>rfl
theorem tbin_mul (k:IntKind) (a b:Int):tbin .mul (.int k a) (.int k b)=some (.int k (k.wrap (a*b))):=by cases k<;>rfl
theorem tbin_eql (k:IntKind) (a b:Int):tbin .eql (.int k a) (.int k b)=some (.bool (decide (a=b))):=by rw [←beqInt_eq];cases k<;>rfl
theorem tbin_neq (k:IntKind) (a b:Int):tbin .neq (.int k a) (.int k b)=some (.bool (!(decide (a=b)))):=by rw [←beqInt_eq];cases k<;>rfl
theorem tbin_lss (k:IntKind) (a b:Int):tbin .lss (.int k a) (.int k b)=some (.bool (decide (a<b))):=by rw [←ltInt_eq];cases k<;>rfl
theorem tbin_gtr (k:IntKind) (a b:Int):tbin .gtr (.int k a) (.int k b)=some (.bool (decide (b<a))):=by rw [←ltInt_eq];cases k<;>rfl
theorem tbin_leq (k:IntKind) (a b:Int):tbin .leq (.int k a) (.int k b)=some (.bool (decide (a≤b))):=by
 have h:tbin .leq (.int k a) (.int k b)=some (.bool (leInt a b)):=by cases k<;>rfl
 rw [h,leInt,ltInt_eq];congr 2;by_cases h:a≤b<;>simp [h]<;>omega
theorem tbin_geq (k:IntKind) (a b:Int):tbin .geq (.int k a) (.int k b)=some (.bool (decide (b≤a))):=by
 have h:tbin .geq (.int k a) (.int k b)=some (.bool (leInt b a)):=by cases k<;>rfl
 rw [h,leInt,ltInt_eq];congr 2;by_cases h:b≤a<;>simp [h]<;>omega
theorem beqBytes_spec (x y:List UInt8):beqBytes x y=decide (x=y):=by
 rw [Xe.beqBytes_eq]
 by_cases h:x=y
 ·subst h;simp
 ·simp [h]
theorem beqBytes_eq (x y:ByteArray):beqBytes x.data.toList y.data.toList=decide (x=y):=by
 rw [beqBytes_spec]
 congr 1
 apply propext
 constructor
 ·intro h
  have:x.data=y.data:=Array.ext' h
  cases x;cases y;simpa using this
 ·rintro rfl;rfl
theorem tbin_seql (x y:ByteArray):tbin .eql (.str x) (.str y)=some (.bool (decide (x=y))):=by rw [←beqBytes_eq];rfl
theorem tbin_sneq (x y:ByteArray):tbin .neq (.str x) (.str y)=some (.bool (!(decide (x=y)))):=by rw [←beqBytes_eq];rfl
theorem bleT (a b:Nat):Nat.ble a b=decide (a≤b):=bleNat a b
theorem bltT (a b:Nat):Nat.blt a b=decide (a<b):=bltNat a b
theorem beqT (a b:Nat):Nat.beq a b=decide (a=b):=beqNat a b
theorem wrap_in (n:Int) (h0:-9223372036854775808≤n) (h1:n≤9223372036854775807):IntKind.i64.wrap n=n:=Xe.wrap_small n h0 h1
end Go.Xt
end
section
namespace Go.Xe.YtlgknghehgmodaaGreatDoor
open Go Go.Xe Go.Xt
@[simp] def a1003:Ann:=fun d=>if d=4 then 1 else if d=14 then 1 else if d=16 then 2 else if d=19 then 2 else if d=23 then 1 else if d=30 then 1 else 0
def f1003:TFun:=⟨x1003,a1003,false,false⟩
@[simp] theorem f1003_an:f1003.an=a1003:=rfl
@[simp] theorem f1003_body:f1003.fn.body=x1003.body:=rfl
@[simp] theorem f1003_keep:f1003.keep=false:=rfl
@[simp] theorem f1003_res:f1003.fn.results=[.tmp 4]:=rfl
@[simp] def a15:Ann:=fun d=>if d=4 then 1 else if d=6 then 2 else if d=8 then 2 else 0
def f15:TFun:=⟨x15,a15,false,false⟩
@[simp] theorem f15_an:f15.an=a15:=rfl
@[simp] theorem f15_body:f15.fn.body=x15.body:=rfl
@[simp] theorem f15_keep:f15.keep=false:=rfl
@[simp] theorem f15_res:f15.fn.results=[.tmp 4]:=rfl
@[simp] def a1009:Ann:=fun d=>if d=2 then 1 else if d=4 then 2 else if d=5 then 1 else if d=9 then 1 else if d=15 then 1 else if d=20 then 1 else if d=24 then 2 else if d=27 then 2 else 0
def f1009:TFun:=⟨x1009,a1009,false,false⟩
@[simp] theorem f1009_an:f1009.an=a1009:=rfl
@[simp] theorem f1009_body:f1009.fn.body=x1009.body:=rfl
@[simp] theorem f1009_keep:f1009.keep=false:=rfl
@[simp] theorem f1009_res:f1009.fn.results=[.tmp 2]:=rfl
@[simp] def a1010:Ann:=fun d=>if d=3 then 1 else if d=5 then 2 else if d=6 then 1 else if d=10 then 1 else if d=16 then 1 else if d=19 then 2 else if d=22 then 1 else if d=25 then 2 else if d=26 then 1 else if d=34 then 2 else if d=39 then 2 else 0
def f1010:TFun:=⟨x1010,a1010,false,false⟩
@[simp] theorem f1010_an:f1010.an=a1010:=rfl
@[simp] theorem f1010_body:f1010.fn.body=x1010.body:=rfl
@[simp] theorem f1010_keep:f1010.keep=false:=rfl
@[simp] theorem f1010_res:f1010.fn.results=[.tmp 2]:=rfl
@[simp] def a1011:Ann:=fun d=>if d=4 then 1 else if d=7 then 2 else 0
def f1011:TFun:=⟨x1011,a1011,false,false⟩
@[simp] theorem f1011_an:f1011.an=a1011:=rfl
@[simp] theorem f1011_body:f1011.fn.body=x1011.body:=rfl
@[simp] theorem f1011_keep:f1011.keep=false:=rfl
@[simp] theorem f1011_res:f1011.fn.results=[.tmp 4]:=rfl
@[simp] def a1012:Ann:=fun d=>if d=5 then 1 else if d=6 then 1 else if d=9 then 2 else if d=13 then 2 else if d=18 then 2 else if d=19 then 2 else 0
def f1012:TFun:=⟨x1012,a1012,false,false⟩
@[simp] theorem f1012_an:f1012.an=a1012:=rfl
@[simp] theorem f1012_body:f1012.fn.body=x1012.body:=rfl
@[simp] theorem f1012_keep:f1012.keep=false:=rfl
@[simp] theorem f1012_res:f1012.fn.results=[.tmp 4]:=rfl
@[simp] def a1013:Ann:=fun d=>if d=5 then 1 else if d=7 then 2 else if d=9 then 2 else if d=11 then 1 else if d=13 then 2 else if d=15 then 2 else if d=18 then 1 else if d=20 then 2 else if d=22 then 2 else if d=25 then 1 else if d=33 then 1 else if d=35 then 2 else if d=37 then 2 else if d=41 then 1 else if d=50 then 2 else if d=55 then 2 else 0
def f1013:TFun:=⟨x1013,a1013,false,false⟩
@[simp] theorem f1013_an:f1013.an=a1013:=rfl
@[simp] theorem f1013_body:f1013.fn.body=x1013.body:=rfl
@[simp] theorem f1013_keep:f1013.keep=false:=rfl
@[simp] theorem f1013_res:f1013.fn.results=[.tmp 4]:=rfl
@[simp] def a1014:Ann:=fun d=>0
def f1014:TFun:=⟨x1014,a1014,false,false⟩
@[simp] theorem f1014_an:f1014.an=a1014:=rfl
@[simp] theorem f1014_body:f1014.fn.body=x1014.body:=rfl
@[simp] theorem f1014_keep:f1014.keep=false:=rfl
@[simp] theorem f1014_res:f1014.fn.results=[.cellN 2 8]:=rfl
@[simp] def a1015:Ann:=fun d=>if d=3 then 1 else if d=4 then 1 else if d=5 then 2 else if d=10 then 2 else if d=12 then 1 else if d=21 then 2 else if d=27 then 1 else if d=29 then 2 else if d=31 then 1 else if d=36 then 1 else if d=42 then 1 else if d=49 then 1 else if d=51 then 2 else if d=53 then 1 else if d=58 then 1 else if d=62 then 2 else if d=65 then 1 else if d=75 then 1 else if d=77 then 2 else if d=79 then 1 else if d=84 then 1 else if d=86 then 2 else if d=92 then 1 else if d=94 then 2 else if d=96 then 1 else if d=97 then 2 else if d=103 then 1 else if d=105 then 2 else if d=107 then 1 else if d=115 then 2 else if d=132 then 1 else 0
def f1015:TFun:=⟨x1015,a1015,false,false⟩
@[simp] theorem f1015_an:f1015.an=a1015:=rfl
@[simp] theorem f1015_body:f1015.fn.body=x1015.body:=rfl
@[simp] theorem f1015_keep:f1015.keep=false:=rfl
@[simp] theorem f1015_res:f1015.fn.results=[.cellN 2 8]:=rfl
@[simp] def a24:Ann:=fun d=>if d=1 then 1 else if d=6 then 1 else if d=7 then 1 else if d=8 then 2 else if d=14 then 2 else if d=20 then 2 else if d=22 then 2 else if d=27 then 1 else if d=28 then 2 else if d=29 then 2 else if d=32 then 2 else if d=39 then 2 else if d=40 then 2 else if d=42 then 1 else 0
def f24:TFun:=⟨x24,a24,false,false⟩
@[simp] theorem f24_an:f24.an=a24:=rfl
@[simp] theorem f24_body:f24.fn.body=x24.body:=rfl
@[simp] theorem f24_keep:f24.keep=false:=rfl
@[simp] theorem f24_res:f24.fn.results=[.tmp 6]:=rfl
@[simp] def a1031:Ann:=fun d=>if d=2 then 1 else if d=7 then 1 else if d=11 then 2 else if d=15 then 2 else if d=18 then 1 else if d=22 then 2 else 0
def f1031:TFun:=⟨x1031,a1031,false,false⟩
@[simp] theorem f1031_an:f1031.an=a1031:=rfl
@[simp] theorem f1031_body:f1031.fn.body=x1031.body:=rfl
@[simp] theorem f1031_keep:f1031.keep=false:=rfl
@[simp] theorem f1031_res:f1031.fn.results=[.tmp 2]:=rfl
@[simp] def a66:Ann:=fun d=>if d=4 then 1 else if d=5 then 2 else if d=6 then 2 else 0
def f66:TFun:=⟨x66,a66,false,false⟩
@[simp] theorem f66_an:f66.an=a66:=rfl
@[simp] theorem f66_body:f66.fn.body=x66.body:=rfl
@[simp] theorem f66_keep:f66.keep=false:=rfl
@[simp] theorem f66_res:f66.fn.results=[.tmp 4]:=rfl
@[simp] def a1033:Ann:=fun d=>if d=4 then 1 else if d=5 then 2 else if d=6 then 2 else 0
def f1033:TFun:=⟨x1033,a1033,false,false⟩
@[simp] theorem f1033_an:f1033.an=a1033:=rfl
@[simp] theorem f1033_body:f1033.fn.body=x1033.body:=rfl
@[simp] theorem f1033_keep:f1033.keep=false:=rfl
@[simp] theorem f1033_res:f1033.fn.results=[.tmp 4]:=rfl
@[simp] def a1034:Ann:=fun d=>if d=2 then 1 else 0
def f1034:TFun:=⟨x1034,a1034,false,false⟩
@[simp] theorem f1034_an:f1034.an=a1034:=rfl
@[simp] theorem f1034_body:f1034.fn.body=x1034.body:=rfl
@[simp] theorem f1034_keep:f1034.keep=false:=rfl
@[simp] theorem f1034_res:f1034.fn.results=[.tmp 2]:=rfl
@[simp] def a1035:Ann:=fun d=>if d=2 then 1 else if d=6 then 1 else if d=9 then 2 else if d=12 then 2 else if d=15 then 1 else if d=18 then 2 else 0
def f1035:TFun:=⟨x1035,a1035,false,false⟩
@[simp] theorem f1035_an:f1035.an=a1035:=rfl
@[simp] theorem f1035_body:f1035.fn.body=x1035.body:=rfl
@[simp] theorem f1035_keep:f1035.keep=false:=rfl
@[simp] theorem f1035_res:f1035.fn.results=[.tmp 2]:=rfl
@[simp] def a19:Ann:=fun d=>if d=2 then 1 else if d=3 then 3 else if d=6 then 2 else if d=8 then 2 else 0
def f19:TFun:=⟨x19,a19,true,false⟩
@[simp] theorem f19_an:f19.an=a19:=rfl
@[simp] theorem f19_body:f19.fn.body=x19.body:=rfl
@[simp] theorem f19_keep:f19.keep=true:=rfl
@[simp] theorem f19_res:f19.fn.results=[.tmp 2]:=rfl
@[simp] def a20:Ann:=fun d=>if d=2 then 1 else if d=3 then 1 else if d=4 then 1 else if d=5 then 1 else if d=6 then 1 else if d=7 then 1 else if d=9 then 2 else if d=11 then 2 else if d=13 then 2 else if d=15 then 2 else if d=20 then 2 else if d=22 then 2 else if d=36 then 2 else if d=40 then 2 else if d=45 then 2 else if d=47 then 2 else if d=48 then 2 else if d=51 then 2 else if d=55 then 2 else if d=57 then 1 else 0
def f20:TFun:=⟨x20,a20,false,false⟩
@[simp] theorem f20_an:f20.an=a20:=rfl
@[simp] theorem f20_body:f20.fn.body=x20.body:=rfl
@[simp] theorem f20_keep:f20.keep=false:=rfl
@[simp] theorem f20_res:f20.fn.results=[.tmp 2]:=rfl
@[simp] def a1038:Ann:=fun d=>if d=5 then 1 else if d=7 then 2 else if d=9 then 2 else if d=11 then 1 else if d=13 then 2 else if d=15 then 2 else if d=18 then 1 else if d=27 then 2 else if d=32 then 2 else 0
def f1038:TFun:=⟨x1038,a1038,false,false⟩
@[simp] theorem f1038_an:f1038.an=a1038:=rfl
@[simp] theorem f1038_body:f1038.fn.body=x1038.body:=rfl
@[simp] theorem f1038_keep:f1038.keep=false:=rfl
@[simp] theorem f1038_res:f1038.fn.results=[.tmp 4]:=rfl
@[simp] def a16:Ann:=fun d=>if d=5 then 1 else if d=11 then 2 else if d=15 then 2 else if d=20 then 2 else if d=24 then 2 else 0
def f16:TFun:=⟨x16,a16,false,false⟩
@[simp] theorem f16_an:f16.an=a16:=rfl
@[simp] theorem f16_body:f16.fn.body=x16.body:=rfl
@[simp] theorem f16_keep:f16.keep=false:=rfl
@[simp] theorem f16_res:f16.fn.results=[.tmp 4]:=rfl
@[simp] def a1040:Ann:=fun d=>if d=3 then 1 else if d=10 then 2 else if d=15 then 2 else if d=17 then 1 else if d=21 then 1 else if d=27 then 1 else 0
def f1040:TFun:=⟨x1040,a1040,false,false⟩
@[simp] theorem f1040_an:f1040.an=a1040:=rfl
@[simp] theorem f1040_body:f1040.fn.body=x1040.body:=rfl
@[simp] theorem f1040_keep:f1040.keep=false:=rfl
@[simp] theorem f1040_res:f1040.fn.results=[.cellN 2 8]:=rfl
@[simp] def a1041:Ann:=fun d=>if d=3 then 3 else if d=6 then 1 else if d=7 then 1 else if d=8 then 1 else if d=9 then 1 else if d=10 then 1 else if d=11 then 1 else if d=13 then 2 else if d=15 then 1 else if d=19 then 1 else if d=27 then 2 else if d=29 then 1 else if d=31 then 2 else if d=33 then 1 else if d=39 then 2 else if d=42 then 1 else if d=44 then 1 else if d=45 then 1 else if d=46 then 1 else if d=48 then 2 else if d=49 then 2 else if d=52 then 2 else if d=54 then 1 else if d=59 then 2 else if d=60 then 2 else if d=66 then 2 else if d=68 then 1 else if d=77 then 1 else if d=79 then 2 else if d=81 then 1 else if d=86 then 1 else if d=93 then 1 else if d=94 then 1 else if d=95 then 1 else if d=100 then 1 else if d=102 then 2 else if d=104 then 1 else if d=109 then 1 else if d=116 then 1 else if d=118 then 2 else if d=120 then 1 else if d=125 then 2 else if d=132 then 1 else if d=134 then 2 else if d=136 then 1 else if d=141 then 1 else if d=148 then 1 else if d=149 then 1 else if d=160 then 1 else 0
def f1041:TFun:=⟨x1041,a1041,false,false⟩
@[simp] theorem f1041_an:f1041.an=a1041:=rfl
@[simp] theorem f1041_body:f1041.fn.body=x1041.body:=rfl
@[simp] theorem f1041_keep:f1041.keep=false:=rfl
@[simp] theorem f1041_res:f1041.fn.results=[.cellN 2 8]:=rfl
@[simp] def a1042:Ann:=fun d=>if d=3 then 1 else if d=4 then 2 else if d=6 then 2 else if d=8 then 1 else if d=9 then 2 else if d=12 then 1 else if d=14 then 2 else if d=15 then 2 else if d=19 then 2 else if d=26 then 2 else if d=27 then 2 else 0
def f1042:TFun:=⟨x1042,a1042,false,false⟩
@[simp] theorem f1042_an:f1042.an=a1042:=rfl
@[simp] theorem f1042_body:f1042.fn.body=x1042.body:=rfl
@[simp] theorem f1042_keep:f1042.keep=false:=rfl
@[simp] theorem f1042_res:f1042.fn.results=[.tmp 2]:=rfl
@[simp] def a1043:Ann:=fun d=>if d=2 then 1 else if d=4 then 2 else 0
def f1043:TFun:=⟨x1043,a1043,false,false⟩
@[simp] theorem f1043_an:f1043.an=a1043:=rfl
@[simp] theorem f1043_body:f1043.fn.body=x1043.body:=rfl
@[simp] theorem f1043_keep:f1043.keep=false:=rfl
@[simp] theorem f1043_res:f1043.fn.results=[.tmp 2]:=rfl
@[simp] def a1044:Ann:=fun d=>if d=2 then 1 else if d=3 then 1 else if d=4 then 2 else if d=8 then 2 else 0
def f1044:TFun:=⟨x1044,a1044,false,false⟩
@[simp] theorem f1044_an:f1044.an=a1044:=rfl
@[simp] theorem f1044_body:f1044.fn.body=x1044.body:=rfl
@[simp] theorem f1044_keep:f1044.keep=false:=rfl
@[simp] theorem f1044_res:f1044.fn.results=[.tmp 2]:=rfl
@[simp] def a65:Ann:=fun d=>if d=5 then 1 else if d=7 then 2 else if d=9 then 2 else if d=11 then 1 else if d=13 then 2 else if d=15 then 2 else if d=18 then 1 else if d=20 then 2 else if d=22 then 2 else if d=25 then 1 else if d=33 then 1 else if d=35 then 2 else if d=37 then 2 else if d=41 then 1 else if d=50 then 2 else if d=55 then 2 else 0
def f65:TFun:=⟨x65,a65,false,false⟩
@[simp] theorem f65_an:f65.an=a65:=rfl
@[simp] theorem f65_body:f65.fn.body=x65.body:=rfl
@[simp] theorem f65_keep:f65.keep=false:=rfl
@[simp] theorem f65_res:f65.fn.results=[.tmp 4]:=rfl
@[simp] def a7:Ann:=fun d=>if d=4 then 1 else if d=5 then 1 else if d=6 then 1 else if d=7 then 2 else if d=11 then 2 else if d=17 then 2 else if d=18 then 2 else if d=20 then 2 else if d=21 then 2 else 0
def f7:TFun:=⟨x7,a7,false,false⟩
@[simp] theorem f7_an:f7.an=a7:=rfl
@[simp] theorem f7_body:f7.fn.body=x7.body:=rfl
@[simp] theorem f7_keep:f7.keep=false:=rfl
@[simp] theorem f7_res:f7.fn.results=[.tmp 4]:=rfl
@[simp] def a111:Ann:=fun d=>if d=4 then 1 else if d=5 then 1 else if d=8 then 1 else if d=10 then 1 else if d=11 then 2 else if d=15 then 2 else if d=17 then 1 else 0
def f111:TFun:=⟨x111,a111,false,false⟩
@[simp] theorem f111_an:f111.an=a111:=rfl
@[simp] theorem f111_body:f111.fn.body=x111.body:=rfl
@[simp] theorem f111_keep:f111.keep=false:=rfl
@[simp] theorem f111_res:f111.fn.results=[.tmp 4]:=rfl
@[simp] def a1073:Ann:=fun d=>if d=4 then 1 else if d=5 then 1 else if d=8 then 1 else if d=10 then 1 else if d=11 then 2 else if d=17 then 1 else 0
def f1073:TFun:=⟨x1073,a1073,false,false⟩
@[simp] theorem f1073_an:f1073.an=a1073:=rfl
@[simp] theorem f1073_body:f1073.fn.body=x1073.body:=rfl
@[simp] theorem f1073_keep:f1073.keep=false:=rfl
@[simp] theorem f1073_res:f1073.fn.results=[.tmp 4]:=rfl
@[simp] def a41:Ann:=fun d=>if d=6 then 1 else if d=7 then 1 else if d=9 then 1 else if d=10 then 1 else if d=12 then 2 else if d=14 then 1 else if d=15 then 2 else if d=17 then 2 else if d=21 then 2 else if d=22 then 2 else if d=24 then 1 else if d=26 then 2 else if d=28 then 3 else if d=31 then 2 else if d=32 then 1 else if d=35 then 2 else if d=38 then 1 else if d=41 then 2 else if d=43 then 1 else if d=45 then 1 else if d=48 then 1 else if d=49 then 2 else if d=51 then 1 else if d=52 then 1 else if d=59 then 2 else if d=61 then 2 else if d=62 then 1 else if d=64 then 1 else if d=66 then 2 else if d=67 then 2 else if d=70 then 2 else if d=72 then 1 else if d=74 then 2 else if d=75 then 2 else if d=81 then 2 else if d=82 then 2 else 0
def f41:TFun:=⟨x41,a41,true,false⟩
@[simp] theorem f41_an:f41.an=a41:=rfl
@[simp] theorem f41_body:f41.fn.body=x41.body:=rfl
@[simp] theorem f41_keep:f41.keep=true:=rfl
@[simp] theorem f41_res:f41.fn.results=[]:=rfl
@[simp] def a44:Ann:=fun d=>if d=4 then 1 else if d=5 then 1 else if d=7 then 1 else if d=8 then 2 else if d=12 then 2 else if d=14 then 2 else if d=16 then 1 else if d=17 then 2 else if d=21 then 2 else if d=24 then 2 else if d=28 then 2 else if d=30 then 1 else if d=31 then 1 else if d=34 then 1 else if d=38 then 2 else if d=41 then 2 else if d=43 then 1 else if d=44 then 1 else if d=47 then 1 else 0
def f44:TFun:=⟨x44,a44,false,false⟩
@[simp] theorem f44_an:f44.an=a44:=rfl
@[simp] theorem f44_body:f44.fn.body=x44.body:=rfl
@[simp] theorem f44_keep:f44.keep=false:=rfl
@[simp] theorem f44_res:f44.fn.results=[.tmp 4]:=rfl
@[simp] def a45:Ann:=fun d=>if d=2 then 1 else if d=3 then 1 else if d=5 then 2 else if d=7 then 1 else if d=9 then 2 else if d=11 then 1 else if d=13 then 2 else if d=16 then 1 else if d=18 then 2 else if d=21 then 1 else 0
def f45:TFun:=⟨x45,a45,false,false⟩
@[simp] theorem f45_an:f45.an=a45:=rfl
@[simp] theorem f45_body:f45.fn.body=x45.body:=rfl
@[simp] theorem f45_keep:f45.keep=false:=rfl
@[simp] theorem f45_res:f45.fn.results=[.tmp 2]:=rfl
@[simp] def a46:Ann:=fun d=>if d=7 then 1 else if d=8 then 2 else if d=9 then 2 else if d=11 then 2 else if d=13 then 2 else if d=14 then 2 else if d=17 then 2 else if d=18 then 2 else if d=20 then 2 else 0
def f46:TFun:=⟨x46,a46,false,false⟩
@[simp] theorem f46_an:f46.an=a46:=rfl
@[simp] theorem f46_body:f46.fn.body=x46.body:=rfl
@[simp] theorem f46_keep:f46.keep=false:=rfl
@[simp] theorem f46_res:f46.fn.results=[.tmp 6]:=rfl
@[simp] def a1080:Ann:=fun d=>if d=4 then 2 else 0
def f1080:TFun:=⟨x1080,a1080,false,false⟩
@[simp] theorem f1080_an:f1080.an=a1080:=rfl
@[simp] theorem f1080_body:f1080.fn.body=x1080.body:=rfl
@[simp] theorem f1080_keep:f1080.keep=false:=rfl
@[simp] theorem f1080_res:f1080.fn.results=[.cellN 2 3]:=rfl
@[simp] def a67:Ann:=fun d=>if d=2 then 1 else if d=5 then 3 else 0
def f67:TFun:=⟨x67,a67,true,true⟩
@[simp] theorem f67_an:f67.an=a67:=rfl
@[simp] theorem f67_body:f67.fn.body=x67.body:=rfl
@[simp] theorem f67_keep:f67.keep=true:=rfl
@[simp] theorem f67_res:f67.fn.results=[.tmp 2]:=rfl
@[simp] def a1082:Ann:=fun d=>if d=2 then 1 else if d=3 then 1 else if d=6 then 2 else if d=9 then 2 else 0
def f1082:TFun:=⟨x1082,a1082,false,false⟩
@[simp] theorem f1082_an:f1082.an=a1082:=rfl
@[simp] theorem f1082_body:f1082.fn.body=x1082.body:=rfl
@[simp] theorem f1082_keep:f1082.keep=false:=rfl
@[simp] theorem f1082_res:f1082.fn.results=[.tmp 2,.tmp 3]:=rfl
@[simp] def a1083:Ann:=fun d=>if d=3 then 1 else 0
def f1083:TFun:=⟨x1083,a1083,false,false⟩
@[simp] theorem f1083_an:f1083.an=a1083:=rfl
@[simp] theorem f1083_body:f1083.fn.body=x1083.body:=rfl
@[simp] theorem f1083_keep:f1083.keep=false:=rfl
@[simp] theorem f1083_res:f1083.fn.results=[.tmp 3]:=rfl
@[simp] def a1084:Ann:=fun d=>if d=4 then 1 else if d=6 then 2 else if d=8 then 2 else if d=10 then 1 else if d=12 then 2 else if d=14 then 2 else if d=17 then 1 else if d=19 then 2 else if d=21 then 2 else if d=24 then 1 else if d=31 then 1 else if d=33 then 2 else if d=35 then 2 else if d=38 then 1 else if d=40 then 2 else if d=42 then 2 else 0
def f1084:TFun:=⟨x1084,a1084,false,false⟩
@[simp] theorem f1084_an:f1084.an=a1084:=rfl
@[simp] theorem f1084_body:f1084.fn.body=x1084.body:=rfl
@[simp] theorem f1084_keep:f1084.keep=false:=rfl
@[simp] theorem f1084_res:f1084.fn.results=[.tmp 4]:=rfl
@[simp] def a109:Ann:=fun d=>if d=4 then 1 else 0
def f109:TFun:=⟨x109,a109,false,false⟩
@[simp] theorem f109_an:f109.an=a109:=rfl
@[simp] theorem f109_body:f109.fn.body=x109.body:=rfl
@[simp] theorem f109_keep:f109.keep=false:=rfl
@[simp] theorem f109_res:f109.fn.results=[.tmp 4]:=rfl
@[simp] def a110:Ann:=fun d=>if d=5 then 1 else if d=11 then 2 else if d=15 then 2 else if d=20 then 2 else if d=24 then 2 else 0
def f110:TFun:=⟨x110,a110,false,false⟩
@[simp] theorem f110_an:f110.an=a110:=rfl
@[simp] theorem f110_body:f110.fn.body=x110.body:=rfl
@[simp] theorem f110_keep:f110.keep=false:=rfl
@[simp] theorem f110_res:f110.fn.results=[.tmp 4]:=rfl
@[simp] def a25:Ann:=fun d=>if d=1 then 1 else if d=6 then 1 else if d=7 then 1 else if d=8 then 2 else if d=10 then 2 else if d=15 then 1 else if d=16 then 2 else if d=17 then 2 else if d=20 then 2 else if d=27 then 2 else if d=28 then 2 else if d=30 then 1 else 0
def f25:TFun:=⟨x25,a25,false,false⟩
@[simp] theorem f25_an:f25.an=a25:=rfl
@[simp] theorem f25_body:f25.fn.body=x25.body:=rfl
@[simp] theorem f25_keep:f25.keep=false:=rfl
@[simp] theorem f25_res:f25.fn.results=[.tmp 6]:=rfl
@[simp] def a1111:Ann:=fun d=>if d=2 then 1 else if d=3 then 1 else if d=6 then 2 else if d=8 then 1 else if d=12 then 1 else if d=18 then 1 else 0
def f1111:TFun:=⟨x1111,a1111,false,false⟩
@[simp] theorem f1111_an:f1111.an=a1111:=rfl
@[simp] theorem f1111_body:f1111.fn.body=x1111.body:=rfl
@[simp] theorem f1111_keep:f1111.keep=false:=rfl
@[simp] theorem f1111_res:f1111.fn.results=[.tmp 2]:=rfl
@[simp] def a106:Ann:=fun d=>if d=4 then 1 else 0
def f106:TFun:=⟨x106,a106,false,false⟩
@[simp] theorem f106_an:f106.an=a106:=rfl
@[simp] theorem f106_body:f106.fn.body=x106.body:=rfl
@[simp] theorem f106_keep:f106.keep=false:=rfl
@[simp] theorem f106_res:f106.fn.results=[.tmp 4]:=rfl
@[simp] def a107:Ann:=fun d=>if d=5 then 1 else if d=13 then 1 else if d=15 then 1 else if d=19 then 2 else if d=23 then 2 else 0
def f107:TFun:=⟨x107,a107,false,false⟩
@[simp] theorem f107_an:f107.an=a107:=rfl
@[simp] theorem f107_body:f107.fn.body=x107.body:=rfl
@[simp] theorem f107_keep:f107.keep=false:=rfl
@[simp] theorem f107_res:f107.fn.results=[.tmp 4]:=rfl
@[simp] def a108:Ann:=fun d=>if d=7 then 1 else if d=15 then 2 else if d=17 then 1 else if d=19 then 1 else if d=23 then 1 else if d=26 then 2 else 0
def f108:TFun:=⟨x108,a108,false,false⟩
@[simp] theorem f108_an:f108.an=a108:=rfl
@[simp] theorem f108_body:f108.fn.body=x108.body:=rfl
@[simp] theorem f108_keep:f108.keep=false:=rfl
@[simp] theorem f108_res:f108.fn.results=[.tmp 6]:=rfl
@[simp] def a159:Ann:=fun d=>if d=4 then 1 else if d=5 then 1 else if d=6 then 1 else if d=8 then 2 else if d=10 then 2 else if d=12 then 2 else if d=15 then 2 else if d=17 then 2 else if d=19 then 2 else if d=21 then 1 else if d=22 then 2 else if d=28 then 1 else if d=29 then 2 else if d=35 then 2 else if d=48 then 2 else if d=57 then 1 else 0
def f159:TFun:=⟨x159,a159,false,false⟩
@[simp] theorem f159_an:f159.an=a159:=rfl
@[simp] theorem f159_body:f159.fn.body=x159.body:=rfl
@[simp] theorem f159_keep:f159.keep=false:=rfl
@[simp] theorem f159_res:f159.fn.results=[.tmp 4]:=rfl
@[simp] def a158:Ann:=fun d=>if d=4 then 1 else if d=5 then 1 else if d=7 then 2 else if d=9 then 2 else if d=11 then 2 else if d=14 then 2 else if d=16 then 2 else if d=18 then 2 else if d=21 then 2 else if d=23 then 2 else if d=25 then 1 else 0
def f158:TFun:=⟨x158,a158,false,false⟩
@[simp] theorem f158_an:f158.an=a158:=rfl
@[simp] theorem f158_body:f158.fn.body=x158.body:=rfl
@[simp] theorem f158_keep:f158.keep=false:=rfl
@[simp] theorem f158_res:f158.fn.results=[.tmp 4]:=rfl
@[simp] def a182:Ann:=fun d=>if d=5 then 1 else if d=6 then 2 else if d=7 then 2 else if d=9 then 1 else if d=10 then 2 else if d=11 then 2 else 0
def f182:TFun:=⟨x182,a182,false,false⟩
@[simp] theorem f182_an:f182.an=a182:=rfl
@[simp] theorem f182_body:f182.fn.body=x182.body:=rfl
@[simp] theorem f182_keep:f182.keep=false:=rfl
@[simp] theorem f182_res:f182.fn.results=[.tmp 4]:=rfl
@[simp] def a165:Ann:=fun d=>if d=2 then 1 else if d=3 then 2 else if d=4 then 2 else 0
def f165:TFun:=⟨x165,a165,false,false⟩
@[simp] theorem f165_an:f165.an=a165:=rfl
@[simp] theorem f165_body:f165.fn.body=x165.body:=rfl
@[simp] theorem f165_keep:f165.keep=false:=rfl
@[simp] theorem f165_res:f165.fn.results=[.tmp 2]:=rfl
@[simp] def a180:Ann:=fun d=>if d=5 then 1 else if d=6 then 1 else if d=7 then 2 else if d=9 then 2 else if d=11 then 1 else if d=14 then 2 else if d=15 then 2 else if d=17 then 2 else if d=18 then 2 else 0
def f180:TFun:=⟨x180,a180,false,false⟩
@[simp] theorem f180_an:f180.an=a180:=rfl
@[simp] theorem f180_body:f180.fn.body=x180.body:=rfl
@[simp] theorem f180_keep:f180.keep=false:=rfl
@[simp] theorem f180_res:f180.fn.results=[.tmp 4]:=rfl
@[simp] def a181:Ann:=fun d=>if d=6 then 1 else if d=7 then 1 else if d=10 then 1 else if d=11 then 2 else if d=13 then 1 else if d=15 then 1 else if d=18 then 2 else if d=26 then 2 else if d=30 then 2 else if d=32 then 1 else 0
def f181:TFun:=⟨x181,a181,false,false⟩
@[simp] theorem f181_an:f181.an=a181:=rfl
@[simp] theorem f181_body:f181.fn.body=x181.body:=rfl
@[simp] theorem f181_keep:f181.keep=false:=rfl
@[simp] theorem f181_res:f181.fn.results=[.tmp 6]:=rfl
end Go.Xe.YtlgknghehgmodaaGreatDoor
end
section
namespace Go.Xt
open Go Go.Xe
attribute [simp] Function.comp_def small Xe.ones tops wantedT tdo TAct.ev TAct.at TAct.put TAct.tick taken isOwn frz frz1 frzs Tri.ofList Tri.get_set Tri.get_nil TV.cells onesT stok Ann.md ofV ofV.ofVs boxAt boxPut tLoad1 tLoadN tStore tMove tLen tVal tNew
 tIndex tSlice srcT tAppend tAppNew apm slOk bytesSrc Md.app plGet velAt plSet ownChs reSl give gives fillT putAt chop repT boundT optB hiB boundsT tLookup tMapUpdate targetT enterT tres tresults packedT tleave tfinish thaw canon canon.canons below below.belows
 below.belowss okSz tun teq teqs baseOk Pl.old baseOf Pl.offX isStr
 topsE topsD pairsOkT pairOkT freeT stays stayB sepT sepV kindOf twE_some twE_none twD_some twD_none tw_regionE tw_regionD
 tw_some tw_none tw_nil tw_k tw_k_exit tw_k_ret tw_k_panic tw_b tw_b_ret tw_b_panic tw_b_exit tw_seq tw_block tw_cond twc_true twc_false tw_skip tw_exit tw_ret tw_region
 tbin_add tbin_sub tbin_mul tbin_eql tbin_neq tbin_lss tbin_gtr tbin_leq tbin_geq tbin_seql tbin_sneq bleT bltT beqT
def Fin (fn:TFun) (k:Nat) (P:TEnd→Sto→Prop):TEx→TAct→Sto→Prop
 |.normal,a,σ=>a.df=[]∧∃e σ',tfinish a fn k σ .ret=some (e,σ')∧P e σ'
 |.ret,a,σ=>a.df=[]∧∃e σ',tfinish a fn k σ .ret=some (e,σ')∧P e σ'
 |.panic v,a,σ=>a.df=[]∧∃e σ',tfinish a fn k σ (.panicking v)=some (e,σ')∧P e σ'
 |.exit _,_,_=>False
theorem fin_normal (fn:TFun) (k:Nat) (P:TEnd→Sto→Prop) (a:TAct) (σ:Sto):Fin fn k P .normal a σ↔a.df=[]∧∃e σ',tfinish a fn k σ .ret=some (e,σ')∧P e σ':=Iff.rfl
theorem fin_ret (fn:TFun) (k:Nat) (P:TEnd→Sto→Prop) (a:TAct) (σ:Sto):Fin fn k P .ret a σ↔a.df=[]∧∃e σ',tfinish a fn k σ .ret=some (e,σ')∧P e σ':=Iff.rfl
theorem fin_panic (fn:TFun) (k:Nat) (P:TEnd→Sto→Prop) (v:TV) (a:TAct) (σ:Sto):Fin fn k P (.panic v) a σ↔a.df=[]∧∃e σ',tfinish a fn k σ (.panicking v)=some (e,σ')∧P e σ':=Iff.rfl
attribute [simp] fin_normal fin_ret fin_panic
@[simp] theorem ex2 {α β:Type} {x:α} {y:β} {P:α→β→Prop}:(∃e s,(x=e∧y=s)∧P e s)↔P x y:=
 ⟨fun ⟨_,_,⟨h1,h2⟩,h⟩=>by subst h1;subst h2;exact h,fun h=>⟨x,y,⟨rfl,rfl⟩,h⟩⟩
theorem tcall_of {F:FuncId→Option TFun} {O:FuncId→List TV→Option TV} {N b:Nat} {f:FuncId} {args:List TV} {σ:Sto} {fn:TFun} (hF:F f=some fn) {P:TEnd→Sto→Prop}
  (h:Tw fn.an (baseOf fn.keep b σ.length) (tcall F O N) N (Fin fn σ.length P) [] (tcode fn.an (baseOf fn.keep b σ.length) (tcall F O N) N fn.fn.body (enterT args) σ)) (hp:preT fn.clone args=false:=by rfl):
  ∃e σ',tcall F O (N+1) b f args σ=some (e,σ')∧P e σ':=by
 obtain ⟨e,a,σ1,h1,h2⟩:=h
 simp only [tcall,hF,hp]
 cases e with
 |normal=>obtain ⟨h3,e,σ',h4,h5⟩:=h2;refine ⟨e,σ',?_,h5⟩;rw [h1];simp only [h3,tdefers];exact h4
 |ret=>obtain ⟨h3,e,σ',h4,h5⟩:=h2;refine ⟨e,σ',?_,h5⟩;rw [h1];simp only [h3,tdefers];exact h4
 |panic v=>obtain ⟨h3,e,σ',h4,h5⟩:=h2;refine ⟨e,σ',?_,h5⟩;rw [h1];simp only [h3,tdefers];exact h4
 |exit id=>exact h2.elim
theorem tcall_pure {F:FuncId→Option TFun} {O:FuncId→List TV→Option TV} {N b:Nat} {f:FuncId} {args:List TV} {σ:Sto} {fn:TFun} (hF:F f=some fn) {v:TV}
  (h:Tw fn.an (baseOf fn.keep b σ.length) (tcall F O N) N (Fin fn σ.length fun e σ'=>e=.ret v∧σ'=σ) [] (tcode fn.an (baseOf fn.keep b σ.length) (tcall F O N) N fn.fn.body (enterT args) σ)) (hp:preT fn.clone args=false:=by rfl):
  tcall F O (N+1) b f args σ=some (.ret v,σ):=by
 obtain ⟨e,σ',h1,rfl,rfl⟩:=tcall_of hF h hp
 exact h1
theorem below_map {α:Type} (b:Nat) (f:α→List TV) (h:∀x,below.belows b (f x)=true):∀l:List α,below.belowss b (l.map f)=true
 |[]=>rfl
 |x::l=>by simp only [List.map_cons,below.belowss,h,below_map b f h l,Bool.and_self]
theorem below_encI (b:Nat) (s:Int):below.belows b (encI s)=true:=rfl
@[simp] theorem all_tt {α:Type} (l:List α):(l.all fun _=>true)=true:=List.all_eq_true.2 fun _ _=>rfl
@[simp] theorem any_ff {α:Type} (l:List α):(l.any fun _=>false)=false:=List.any_eq_false.2 fun _ _=>by simp
@[simp] theorem take_set_len (σ:Sto) (i:Nat) (x:Option TObj):List.take (List.length σ) (List.set σ i x)=List.set σ i x:=List.take_of_length_le (by simp)
@[simp] theorem take_app_len (σ τ:Sto):List.take (List.length σ) (σ++τ)=σ:=by simp
@[simp] theorem take_map_len {α β:Type} (f:α→β) (l:List α):List.take l.length (l.map f)=l.map f:=List.take_of_length_le (by simp)
theorem Sto.lt {σ:Sto} {k:Nat} {o:TObj} (h:σ.at k=some o):k<σ.length:=by
 unfold Sto.at at h
 split at h
 ·rename_i x hx;exact (List.getElem?_eq_some_iff.1 hx).1
 ·cases h
theorem at_ne {σ:Sto} {k j:Nat} {o:Option TObj} (h:k≠j):Sto.at (σ.set k o) j=σ.at j:=by simp only [Sto.at];rw [List.getElem?_set_ne h]
theorem Sto.set_same {σ:Sto} {k:Nat} {o:TObj} (h:σ.at k=some o):σ.set k (some o)=σ:=by
 have hk:=Sto.lt h
 unfold Sto.at at h
 split at h
 ·rename_i x hx
  cases h
  have:=(List.getElem?_eq_some_iff.1 hx).2
  rw [←this];simp
 ·cases h
inductive Bld (e s:Nat):List (List TV)→TV→Prop
 |nl:Bld e s [] (.sl .nl [])
 |own (l:List (List TV)):Bld e s l (.sl (.own e s) l)
theorem Bld.inv {e s:Nat} {l:List (List TV)} {v:TV} (h:Bld e s l v):(l=[]∧v=.sl .nl [])∨v=.sl (.own e s) l:=by
 cases h
 ·exact .inl ⟨rfl,rfl⟩
 ·exact .inr rfl
end Go.Xt
end
section
namespace Go.Xt
open Go Go.Xe
inductive PVal where
 |mk (kind n:Int) (list:List PVal)
namespace PVal
def kind:PVal→Int|.mk k _ _=>k
def n:PVal→Int|.mk _ n _=>n
def list:PVal→List PVal|.mk _ _ l=>l
end PVal
inductive PTerm where
 |mk (kind n m:Int) (val:PVal) (odds:List Int) (kids:List PTerm)
namespace PTerm
def kind:PTerm→Int|.mk k _ _ _ _ _=>k
def n:PTerm→Int|.mk _ n _ _ _ _=>n
def m:PTerm→Int|.mk _ _ m _ _ _=>m
def val:PTerm→PVal|.mk _ _ _ v _ _=>v
def odds:PTerm→List Int|.mk _ _ _ _ o _=>o
def kids:PTerm→List PTerm|.mk _ _ _ _ _ l=>l
end PTerm
mutual
def encV:PVal→List TV
 |.mk k n l=>[.int .i64 k,.int .i64 n,.sl .fz (encVs l)]
def encVs:List PVal→List (List TV)
 |[]=>[]
 |t::l=>encV t::encVs l
end
theorem encVs_eq:∀l,encVs l=l.map encV
 |[]=>rfl
 |t::l=>by simp only [encVs,List.map_cons,encVs_eq l]
theorem encV_def (t:PVal):encV t=[.int .i64 t.kind,.int .i64 t.n,.sl .fz (t.list.map encV)]:=by cases t;simp only [encV,encVs_eq,PVal.kind,PVal.n,PVal.list]
mutual
def encTm:PTerm→List TV
 |.mk k n m v o l=>.int .i64 k::.int .i64 n::.int .i64 m::(encV v++[.sl .fz (o.map encI),.sl .fz (encTms l)])
def encTms:List PTerm→List (List TV)
 |[]=>[]
 |t::l=>encTm t::encTms l
end
theorem encTms_eq:∀l,encTms l=l.map encTm
 |[]=>rfl
 |t::l=>by simp only [encTms,List.map_cons,encTms_eq l]
theorem encTm_mk (t:PTerm):encTm t=.int .i64 t.kind::.int .i64 t.n::.int .i64 t.m::(encV t.val++[.sl .fz (t.odds.map encI),.sl .fz (t.kids.map encTm)]):=by
 cases t;simp only [encTm,encTms_eq,PTerm.kind,PTerm.n,PTerm.m,PTerm.val,PTerm.odds,PTerm.kids]
theorem encTm_def (t:PTerm):encTm t=[.int .i64 t.kind,.int .i64 t.n,.int .i64 t.m,.int .i64 t.val.kind,.int .i64 t.val.n,.sl .fz (t.val.list.map encV),.sl .fz (t.odds.map encI),.sl .fz (t.kids.map encTm)]:=by
 rw [encTm_mk,encV_def];rfl
mutual
def szV:PVal→Nat
 |.mk _ _ l=>szVs l+4
def szVs:List PVal→Nat
 |[]=>0
 |t::l=>szV t+1+szVs l
end
mutual
def szTm:PTerm→Nat
 |.mk _ _ _ v o l=>szTms l+szV v+o.length+8
def szTms:List PTerm→Nat
 |[]=>0
 |t::l=>szTm t+1+szTms l
end
theorem szVs_len:∀l,l.length≤szVs l
 |[]=>Nat.le_refl _
 |t::l=>by simp only [szVs,List.length_cons];have:=szVs_len l;omega
theorem szVs_mem:∀(l:List PVal) (t:PVal),t∈l→szV t+1≤szVs l
 |[],t,h=>by cases h
 |x::l,t,h=>by
  simp only [szVs]
  rcases List.mem_cons.1 h with rfl|h
  ·omega
  ·have:=szVs_mem l t h;omega
theorem szTms_len:∀l,l.length≤szTms l
 |[]=>Nat.le_refl _
 |t::l=>by simp only [szTms,List.length_cons];have:=szTms_len l;omega
theorem szTms_mem:∀(l:List PTerm) (t:PTerm),t∈l→szTm t+1≤szTms l
 |[],t,h=>by cases h
 |x::l,t,h=>by
  simp only [szTms]
  rcases List.mem_cons.1 h with rfl|h
  ·omega
  ·have:=szTms_mem l t h;omega
theorem szV_def (t:PVal):szV t=szVs t.list+4:=by cases t;simp only [szV,PVal.list]
theorem szTm_def (t:PTerm):szTm t=szTms t.kids+szV t.val+t.odds.length+8:=by cases t;simp only [szTm,PTerm.kids,PTerm.val,PTerm.odds]
inductive OkV:PVal→Prop
 |mk {k n:Int} {l:List PVal}:I64 k→I64 n→l.length≤maxLen→(∀t∈l,OkV t)→OkV (.mk k n l)
theorem OkV.kind {t:PVal} (h:OkV t):I64 t.kind:=by cases h;assumption
theorem OkV.n {t:PVal} (h:OkV t):I64 t.n:=by cases h;assumption
theorem OkV.len {t:PVal} (h:OkV t):t.list.length≤maxLen:=by cases h;assumption
theorem OkV.sub {t:PVal} (h:OkV t):∀x∈t.list,OkV x:=by cases h;assumption
inductive OkTm:PTerm→Prop
 |mk {k n m:Int} {v:PVal} {o:List Int} {l:List PTerm}:I64 k→I64 n→I64 m→OkV v→o.length≤maxLen→(∀x∈o,I64 x)→l.length≤maxLen→(∀t∈l,OkTm t)→OkTm (.mk k n m v o l)
theorem OkTm.kind {t:PTerm} (h:OkTm t):I64 t.kind:=by cases h;assumption
theorem OkTm.n {t:PTerm} (h:OkTm t):I64 t.n:=by cases h;assumption
theorem OkTm.m {t:PTerm} (h:OkTm t):I64 t.m:=by cases h;assumption
theorem OkTm.val {t:PTerm} (h:OkTm t):OkV t.val:=by cases h;assumption
theorem OkTm.olen {t:PTerm} (h:OkTm t):t.odds.length≤maxLen:=by cases h;assumption
theorem OkTm.odds {t:PTerm} (h:OkTm t):∀x∈t.odds,I64 x:=by cases h;assumption
theorem OkTm.len {t:PTerm} (h:OkTm t):t.kids.length≤maxLen:=by cases h;assumption
theorem OkTm.sub {t:PTerm} (h:OkTm t):∀x∈t.kids,OkTm x:=by cases h;assumption
structure ApiC (P:Program) extends ApiT P where
 val:TypeId
 vals:TypeId
 term:TypeId
 terms:TypeId
 body:TypeId
 bodies:TypeId
 core:TypeId
 hval:IsSt P val 3 [(0,int,1),(1,int,1),(2,vals,1)]
 hvals:P.underlying vals=some (.slice val)
 hterm:IsSt P term 8 [(0,int,1),(1,int,1),(2,int,1),(3,val,3),(6,ints,1),(7,terms,1)]
 hterms:P.underlying terms=some (.slice term)
 hbody:IsSt P body 10 [(0,int,1),(1,int,1),(2,term,8)]
 hbodies:P.underlying bodies=some (.slice body)
 hcore:IsSt P core 13 [(0,typs,1),(1,bodies,1),(2,body,10),(12,int,1)]
theorem len3 {α:Type} {l:List α} (h:l.length=3):∃a b c,l=[a,b,c]:=by
 match l,h with|[a,b,c],_=>exact ⟨a,b,c,rfl⟩
section
variable {P:Program} (A:ApiC P)
theorem sh_val:∀(n:Nat) (l:List TV),SizeOf.sizeOf l<n→Sh P A.val l→∃t,l=encV t∧OkV t
 |0,l,hn,h=>by omega
 |n+1,l,hn,h=>by
  obtain ⟨h1,h2⟩:=h.st A.hval
  obtain ⟨a,b,c,rfl⟩:=len3 h1
  obtain ⟨k,q1,w1⟩:=(h2 (0,A.int,1) (by simp)).intOf A.hint
  obtain ⟨m,q2,w2⟩:=(h2 (1,A.int,1) (by simp)).intOf A.hint
  obtain ⟨chs,q3,q4,q5⟩:=(h2 (2,A.vals,1) (by simp)).sliceOf A.hvals
  simp at q1 q2 q3
  subst q1 q2 q3
  obtain ⟨l,rfl,hm⟩:=map_of (f:=encV) (R:=OkV) chs (fun c hc=>sh_val n c (by
   have:=sz_head (l:=[TV.int .i64 k,TV.int .i64 m,.sl .fz chs]) hc .fz (by simp)
   omega) (q5 c hc))
  exact ⟨.mk k m l,by rw [encV_def];rfl,.mk (i64_wf w1) (i64_wf w2) (by simpa using q4) hm⟩
theorem sh_term:∀(n:Nat) (l:List TV),SizeOf.sizeOf l<n→Sh P A.term l→∃t,l=encTm t∧OkTm t
 |0,l,hn,h=>by omega
 |n+1,l,hn,h=>by
  obtain ⟨h1,h2⟩:=h.st A.hterm
  obtain ⟨a0,a1,a2,a3,a4,a5,a6,a7,rfl⟩:=len8 h1
  obtain ⟨k0,p0,w0⟩:=(h2 (0,A.int,1) (by simp)).intOf A.hint
  obtain ⟨k1,p1,w1⟩:=(h2 (1,A.int,1) (by simp)).intOf A.hint
  obtain ⟨k2,p2,w2⟩:=(h2 (2,A.int,1) (by simp)).intOf A.hint
  obtain ⟨v,p3,w3⟩:=sh_val A _ _ (Nat.lt_succ_self _) (h2 (3,A.val,3) (by simp))
  obtain ⟨c4,p4,w4,x4⟩:=(h2 (6,A.ints,1) (by simp)).sliceOf A.hints
  obtain ⟨c5,p5,w5,x5⟩:=(h2 (7,A.terms,1) (by simp)).sliceOf A.hterms
  simp at p0 p1 p2 p3 p4 p5
  subst p0 p1 p2 p4 p5
  obtain ⟨m4,rfl,y4⟩:=map_of (f:=encI) (R:=I64) c4 (fun c hc=>by
   obtain ⟨n,e1,e2⟩:=(x4 c hc).intOf A.hint
   exact ⟨n,e1,i64_wf e2⟩)
  obtain ⟨m5,rfl,y5⟩:=map_of (f:=encTm) (R:=OkTm) c5 (fun c hc=>sh_term n c (by
   have:=sz_head hc (l:=[TV.int .i64 k0,.int .i64 k1,.int .i64 k2,a3,a4,a5,.sl .fz (m4.map encI),.sl .fz c5]) .fz (by simp)
   omega) (x5 c hc))
  refine ⟨.mk k0 k1 k2 v m4 m5,?_,.mk (i64_wf w0) (i64_wf w1) (i64_wf w2) w3 (by simpa using w4) y4 (by simpa using w5) y5⟩
  rw [encTm_mk]
  simp only [PTerm.kind,PTerm.n,PTerm.m,PTerm.val,PTerm.odds,PTerm.kids,←p3,List.cons_append,List.nil_append]
end
end Go.Xt
end
section
namespace Go.Xt
open Go Go.Xe
def all2 {α β:Type} (f:α→β→Bool):List α→List β→Bool
 |[],[]=>true
 |a::l,b::m=>f a b&&all2 f l m
 |_,_=>false
theorem all2_ne {α β:Type} {f:α→β→Bool}:∀{l:List α} {m:List β},l.length≠m.length→all2 f l m=false
 |[],[],h=>absurd rfl h
 |[],_::_,_=>rfl
 |_::_,[],_=>rfl
 |a::l,b::m,h=>by
  simp only [all2]
  rw [all2_ne (l:=l) (m:=m) (fun e=>h (by simp [e])),Bool.and_false]
theorem all2_step {α β:Type} {f:α→β→Bool} {l:List α} {m:List β} {k:Nat} (h:k<l.length) (h':k<m.length):all2 f (l.drop k) (m.drop k)=(f l[k] m[k]&&all2 f (l.drop (k+1)) (m.drop (k+1))):=by
 rw [List.drop_eq_getElem_cons h,List.drop_eq_getElem_cons h']
 rfl
theorem all2_end {α β:Type} {f:α→β→Bool} {l:List α} {m:List β} {k:Nat} (h:l.length≤k) (h':m.length≤k):all2 f (l.drop k) (m.drop k)=true:=by
 rw [List.drop_of_length_le h,List.drop_of_length_le h'];rfl
mutual
def sameV:PVal→PVal→Bool
 |.mk k n l,.mk k' n' l'=>decide (k=k')&&(decide (n=n')&&sameVs l l')
def sameVs:List PVal→List PVal→Bool
 |[],[]=>true
 |a::l,b::m=>sameV a b&&sameVs l m
 |_,_=>false
end
mutual
def sameTm:PTerm→PTerm→Bool
 |.mk k n m v o l,.mk k' n' m' v' o' l'=>decide (k=k')&&(decide (n=n')&&(decide (m=m')&&(sameV v v'&&(all2 (fun a b:Int=>decide (a=b)) o o'&&sameTms l l'))))
def sameTms:List PTerm→List PTerm→Bool
 |[],[]=>true
 |a::l,b::m=>sameTm a b&&sameTms l m
 |_,_=>false
end
theorem sameVs_eq:∀l m,sameVs l m=all2 sameV l m
 |[],[]=>rfl
 |[],_::_=>rfl
 |_::_,[]=>rfl
 |a::l,b::m=>by simp only [sameVs,all2,sameVs_eq l m]
theorem sameTms_eq:∀l m,sameTms l m=all2 sameTm l m
 |[],[]=>rfl
 |[],_::_=>rfl
 |_::_,[]=>rfl
 |a::l,b::m=>by simp only [sameTms,all2,sameTms_eq l m]
theorem sameV_def (a b:PVal):sameV a b=(decide (a.kind=b.kind)&&(decide (a.n=b.n)&&all2 sameV a.list b.list)):=by
 cases a;cases b;simp only [sameV,sameVs_eq,PVal.kind,PVal.n,PVal.list];rfl
theorem sameTm_def (a b:PTerm):sameTm a b=(decide (a.kind=b.kind)&&(decide (a.n=b.n)&&(decide (a.m=b.m)&&(sameV a.val b.val&&(all2 (fun a b:Int=>decide (a=b)) a.odds b.odds&&all2 sameTm a.kids b.kids))))):=by
 cases a;cases b;simp only [sameTm,sameTms_eq,PTerm.kind,PTerm.n,PTerm.m,PTerm.val,PTerm.odds,PTerm.kids];rfl
theorem all2_refl {α:Type} {f:α→α→Bool}:∀(l:List α),(∀a∈l,f a a=true)→all2 f l l=true
 |[],_=>rfl
 |a::l,h=>by
  simp only [all2]
  rw [h a (by simp),all2_refl l (fun b hb=>h b (by simp [hb]))];rfl
theorem sameV_refl:∀(n:Nat) (a:PVal),szV a≤n→sameV a a=true
 |0,a,h=>by rw [szV_def] at h;omega
 |n+1,a,h=>by
  rw [szV_def] at h
  rw [sameV_def,all2_refl a.list (fun b hb=>sameV_refl n b (by have:=szVs_mem _ _ hb;omega))]
  simp
theorem sameTm_refl:∀(n:Nat) (a:PTerm),szTm a≤n→sameTm a a=true
 |0,a,h=>by rw [szTm_def] at h;omega
 |n+1,a,h=>by
  rw [szTm_def] at h
  rw [sameTm_def,all2_refl a.kids (fun b hb=>sameTm_refl n b (by have:=szTms_mem _ _ hb;omega)),sameV_refl _ a.val (Nat.le_refl _),all2_refl a.odds (fun b _=>by simp)]
  simp
end Go.Xt
end
section
namespace Go.Xt
open Go Go.Xe
inductive QTyp where
 |mk (kind:Int) (nl:Bool) (list:List QTyp)
namespace QTyp
def kind:QTyp→Int|.mk k _ _=>k
def nl:QTyp→Bool|.mk _ b _=>b
def list:QTyp→List QTyp|.mk _ _ l=>l
end QTyp
inductive OkQ:QTyp→Prop
 |mk {k:Int} {b:Bool} {l:List QTyp}:I64 k→(b=true→l=[])→l.length≤maxLen→(∀t∈l,OkQ t)→OkQ (.mk k b l)
theorem OkQ.kind {t:QTyp} (h:OkQ t):I64 t.kind:=by cases h;assumption
theorem OkQ.nl {t:QTyp} (h:OkQ t):t.nl=true→t.list=[]:=by cases h;assumption
theorem OkQ.len {t:QTyp} (h:OkQ t):t.list.length≤maxLen:=by cases h;assumption
theorem OkQ.sub {t:QTyp} (h:OkQ t):∀x∈t.list,OkQ x:=by cases h;assumption
end Go.Xt
end
section
namespace Go.Xe.YtlgknghehgmodaaGreatDoor
open Go Go.Xe Go.Xt
variable {F:FuncId→Option TFun} {O:FuncId→List TV→Option TV}
theorem wrapJ {j n:Nat} (h:j<n) (hn:n≤maxLen):IntKind.i64.wrap ((j:Int)+1)=((j+1:Nat):Int):=by
 unfold maxLen at hn
 rw [wrap_in]<;>omega
end Go.Xe.YtlgknghehgmodaaGreatDoor
end
section
namespace Go.Xt
open Go Go.Xe
inductive Sm (B:Nat):List TV→Prop
 |mk {l:List TV}:(∀md chs,TV.sl md chs∈l→chs.length≤B)→(∀md chs c,TV.sl md chs∈l→c∈chs→Sm B c)→Sm B l
theorem Sm.len {B:Nat} {l:List TV} (h:Sm B l) {md:Md} {chs:List (List TV)} (hm:TV.sl md chs∈l):chs.length≤B:=by
 cases h with
 |mk h1 h2=>exact h1 md chs hm
theorem Sm.sub {B:Nat} {l:List TV} (h:Sm B l) {md:Md} {chs:List (List TV)} {c:List TV} (hm:TV.sl md chs∈l) (hc:c∈chs):Sm B c:=by
 cases h with
 |mk h1 h2=>exact h2 md chs c hm hc
theorem Sm.append {B:Nat} {l m:List TV} (h:Sm B l) (k:Sm B m):Sm B (l++m):=by
 refine .mk (fun md chs hm=> ?_) (fun md chs c hm hc=> ?_)
 ·rcases List.mem_append.1 hm with hm|hm
  ·exact h.len hm
  ·exact k.len hm
 ·rcases List.mem_append.1 hm with hm|hm
  ·exact h.sub hm hc
  ·exact k.sub hm hc
theorem sm_leaf {B:Nat} {v:TV} (h:∀md chs,v≠.sl md chs):Sm B [v]:=
 .mk (fun md chs hm=>absurd (List.mem_singleton.1 hm).symm (h md chs)) (fun md chs c hm hc=>absurd (List.mem_singleton.1 hm).symm (h md chs))
theorem sm_sl {B:Nat} {md:Md} {chs:List (List TV)} (h1:chs.length≤B) (h2:∀c,c∈chs→Sm B c):Sm B [.sl md chs]:=by
 refine .mk (fun md chs hm=> ?_) (fun md chs c hm hc=> ?_)
 ·cases List.mem_singleton.1 hm;exact h1
 ·cases List.mem_singleton.1 hm;exact h2 c hc
def bytesB (P:Program) (t:TypeId):Bool:=
 match P.underlying t with
 |some (.slice e)=>Nat.blt 0 (P.bytesOf e)
 |_=>true
theorem weights_all {H:Type} {P:Program} {e:TypeId} {n:Nat}:∀{l:List (DataW H)} {d:DataW H},d∈l→n∈d.weights P e→n∈DataW.weightsAll P e l
 |x::l,d,h,hn=>by
  simp only [DataW.weightsAll,List.mem_append]
  rcases List.mem_cons.1 h with rfl|h
  ·exact .inl hn
  ·exact .inr (weights_all h hn)
section
variable {g:Hp} {μ:List Nat} {Z:Nat→Prop} {B:Nat}
theorem fields_relS {P:Program} {cs:List Value}:∀(fs:List Field) (o e:Nat),tiles P o fs=some e→e≤cs.length→(∀(i:Nat) (f:Field),fs[i]? =some f→∃l,RVs g μ Z l ((cs.drop f.offset).take (P.cellsOf f.type))∧Sh P f.type l∧Sm B l)→
  ∃l,RVs g μ Z l ((cs.drop o).take (e - o))∧o≤e∧l.length=e - o∧(∀(i:Nat) (f:Field),fs[i]? =some f→o≤f.offset∧Sh P f.type ((l.drop (f.offset - o)).take (P.cellsOf f.type)))∧Sm B l
 |[],o,e,ht,he,h=>by
  simp only [tiles] at ht;cases ht
  exact ⟨[],by simp;exact .nil,Nat.le_refl _,by simp,fun i f e=>by simp at e,.mk (fun _ _ h=>by cases h) (fun _ _ _ h=>by cases h)⟩
 |f::fs,o,e,ht,he,h=>by
  simp only [tiles] at ht
  split at ht
  ·rename_i hb
   have ho:=beq_of hb
   obtain ⟨l0,k1,k2,k3⟩:=h 0 f rfl
   obtain ⟨l,q1,q2,q3,q4,q5⟩:=fields_relS fs (o+P.cellsOf f.type) e ht he (fun i f' hf=>h (i+1) f' (by simpa using hf))
   have hl0:l0.length=P.cellsOf f.type:=by
    rw [←k1.length,List.length_take,List.length_drop];omega
   have hsplit:(cs.drop o).take (e - o)=(cs.drop f.offset).take (P.cellsOf f.type)++(cs.drop (o+P.cellsOf f.type)).take (e - (o+P.cellsOf f.type)):=by
    rw [ho,show e - o=P.cellsOf f.type+(e - (o+P.cellsOf f.type)) by omega,List.take_add,List.drop_drop]
   refine ⟨l0++l,by rw [hsplit];exact k1.append q1,by omega,by rw [List.length_append,hl0,q3];omega,fun i f' hf=> ?_,k3.append q5⟩
   cases i with
   |zero=>
    simp at hf;subst hf
    refine ⟨by omega,?_⟩
    rw [ho,Nat.sub_self,List.drop_zero,List.take_append_of_le_length (by omega),List.take_of_length_le (by omega)]
    exact k2
   |succ i=>
    obtain ⟨p1,p2⟩:=q4 i f' (by simpa using hf)
    refine ⟨by omega,?_⟩
    have:f'.offset - o=P.cellsOf f.type+(f'.offset - (o+P.cellsOf f.type)):=by omega
    rw [this,←hl0,List.drop_append]
    rw [show l0.length+(f'.offset - (o+l0.length)) - l0.length=f'.offset - (o+l0.length) by omega]
    have hd0:l0.drop (l0.length+(f'.offset - (o+l0.length)))=[]:=List.drop_of_length_le (by omega)
    rw [hd0,List.nil_append,hl0]
    exact p2
  ·cases ht
theorem tree_small {P:Program} {T:List TypeId} (hT:T.all (Xe.plainT P T)=true) {H:Type} {t:TypeId} {cs:List Value} {d:DataW H} (hB:T.all (bytesB P)=true) (r:Rdx P g t cs d):T.contains t=true→(∀n∈d.weights P t,n≤B)→∃l,RVs g μ (fun _=>True) l cs∧Sh P t l∧Sm B l:=by
 induction r with
 |bool b ht=>exact fun _ _=>⟨[.bool b],.cons (.bool b) .nil,.bool b ht,sm_leaf (fun _ _ e=>by cases e)⟩
 |int n ht hw=>exact fun _ _=>⟨[.int _ n],.cons (.int _ n) .nil,.int n ht hw,sm_leaf (fun _ _ e=>by cases e)⟩
 |str s ht hs=>exact fun _ _=>⟨[.str s],.cons (.str s) .nil,.str s ht hs,sm_leaf (fun _ _ e=>by cases e)⟩
 |nil ht=>exact fun _ _=>⟨[.sl .fz []],.cons (.fz0 none 0) .nil,.slice [] ht (Nat.zero_le _) (fun c h=>by simp at h),sm_sl (Nat.zero_le _) (fun c h=>by simp at h)⟩
 |@slice t e id len cap ds sp C ht hl hc hm h1 h2 ih=>
  intro hc' hwt
  have hp:=List.all_eq_true.1 hT t (by simpa using hc')
  have hb:=List.all_eq_true.1 hB t (by simpa using hc')
  unfold Xe.plainT at hp
  unfold bytesB at hb
  rw [ht] at hp hb
  have hb:Nat.blt 0 (P.bytesOf e)=true:=hb
  rw [bltNat] at hb
  have hb:=of_decide_eq_true hb
  simp only [Bool.and_eq_true] at hp
  have hlenB:len≤B:=by
   have:=hwt ((ds.length+sp.length)*P.bytesOf e) (by simp [DataW.weights,ht])
   have h3:=Nat.le_mul_of_pos_right (ds.length+sp.length) hb
   omega
  have hex:∀i,i<len→∃c,RVs g μ (fun _=>True) c (C i)∧Sh P e c∧Sm B c:=fun i hi=>by
   have hlt:i<ds.length:=by omega
   exact ih i ds[i] (List.getElem?_eq_getElem hlt) hp.1 fun n hn=>hwt n (by
    simp only [DataW.weights,ht,List.mem_cons,List.mem_append]
    exact .inr (.inl (weights_all (List.getElem_mem hlt) hn)))
  obtain ⟨chs,k1,k2⟩:=list_of hex
  have hload:∀i,i<len→∃ver vs el ro,g id=some ⟨ver,.cells vs el ro⟩∧i*P.cellsOf e+P.cellsOf e≤vs.length∧(vs.drop (i*P.cellsOf e)).take (P.cellsOf e)=C i:=fun i hi=>by
   have hlt:i<ds.length:=by omega
   obtain ⟨i',o,ver,vs,el,ro,q0,q1,q2,q3⟩:=loadList_some (h1 i ds[i] (List.getElem?_eq_getElem hlt))
   cases q0
   exact ⟨ver,vs,el,ro,q1,q2,q3.symm⟩
  refine ⟨[.sl .fz chs],.cons ?_ .nil,.slice chs ht (by omega) (fun c hcm=> ?_),sm_sl (by omega) (fun c hcm=> ?_)⟩
  ·by_cases h0:len=0
   ·have:chs=[]:=List.eq_nil_of_length_eq_zero (by omega)
    subst this;subst h0
    exact .fz0 _ _
   ·obtain ⟨ver,vs,el,ro,q1,q2,q3⟩:=hload (len - 1) (by omega)
    have hlen:len*P.cellsOf e≤vs.length:=by
     have:(len - 1)*P.cellsOf e+P.cellsOf e=len*P.cellsOf e:=by rw [←Nat.succ_mul];congr 1;omega
     omega
    refine .fz (s:=P.cellsOf e) trivial q1 ?_ k1 (fun _=>hc) (fun h=>by unfold capU at h;unfold maxLen at hm;omega) (by omega) ?_
    ·refine List.all_eq_true.2 fun c hcm=> ?_
     obtain ⟨i,hi⟩:=List.getElem?_of_mem hcm
     have hil:i<len:=by have:=(List.getElem?_eq_some_iff.1 hi).1;omega
     have:=(k2 i c hi).1.length
     obtain ⟨_,vs',_,_,p1,p2,p3⟩:=hload i hil
     rw [beqNat]
     refine decide_eq_true ?_
     rw [←this,←p3,List.length_take,List.length_drop];omega
    ·rw [←k1]
     refine rows_rel chs 0 fun i c hi=> ?_
     have hil:i<len:=by have:=(List.getElem?_eq_some_iff.1 hi).1;omega
     obtain ⟨_,vs',_,_,p1,p2,p3⟩:=hload i hil
     rw [q1] at p1;cases p1
     have hr:=(k2 i c hi).1
     rw [Nat.zero_add,p3]
     refine ⟨hr,?_⟩
     rw [←hr.length,←p3,List.length_take,List.length_drop];omega
  ·obtain ⟨i,hi⟩:=List.getElem?_of_mem hcm
   exact (k2 i c hi).2.1
  ·obtain ⟨i,hi⟩:=List.getElem?_of_mem hcm
   exact (k2 i c hi).2.2
 |@struct t fs cs ds ht hl hn h2 ih=>
  intro hc' hwt
  have hp:=List.all_eq_true.1 hT t (by simpa using hc')
  unfold Xe.plainT at hp
  rw [ht] at hp
  simp only [Bool.and_eq_true,List.all_eq_true] at hp
  have htl:tiles P 0 fs.toList=some (P.cellsOf t):=by
   have h2:=hp.2
   split at h2
   ·rename_i m hm;rw [beqNat] at h2;rw [hm,of_decide_eq_true h2]
   ·cases h2
  obtain ⟨l,k1,_,k3,k4,k5⟩:=fields_relS (B:=B) (g:=g) (μ:=μ) (Z:=fun _=>True) (P:=P) (cs:=cs) fs.toList 0 (P.cellsOf t) htl (by omega) (fun i f hf=>by
   have hi:i<ds.length:=by have:=(List.getElem?_eq_some_iff.1 hf).1;simp at this;omega
   exact ih i f ds[i] (by simpa using hf) (List.getElem?_eq_getElem hi) (hp.1 f (List.mem_of_getElem? hf)) fun n hn=>hwt n (by
    simp only [DataW.weights,ht]
    exact DataW.weights_mem_each (by rw [List.getElem?_map,hf];rfl) (List.getElem?_eq_getElem hi) n hn))
  rw [List.drop_zero,Nat.sub_zero,List.take_of_length_le (by omega)] at k1
  refine ⟨l,k1,.struct l ht (by omega) (fun i f hf=> ?_),k5⟩
  have:=(k4 i f (by simpa using hf)).2
  rwa [Nat.sub_zero] at this
end
end Go.Xt
end
section
namespace Go.Xe.YtlgknghehgmodaaGreatDoor
open Go Go.Xe Go.Xt
variable {F:FuncId→Option TFun} {O:FuncId→List TV→Option TV}
mutual
def cntT:PTerm→Nat
 |.mk _ _ _ _ _ ks=>cntTs ks+1
def cntTs:List PTerm→Nat
 |[]=>0
 |t::l=>cntT t+cntTs l
end
theorem cntT_def (t:PTerm):cntT t=cntTs t.kids+1:=by cases t;simp only [cntT,PTerm.kids]
theorem cntTs_drop {l:List PTerm} {j:Nat} (hj:j<l.length):cntTs (l.drop j)=cntT l[j]+cntTs (l.drop (j+1)):=by
 rw [List.drop_eq_getElem_cons hj];rfl
theorem cntTs_mem:∀(l:List PTerm) (t:PTerm),t∈l→cntT t≤cntTs l
 |[],t,h=>by cases h
 |x::l,t,h=>by
  simp only [cntTs]
  rcases List.mem_cons.1 h with rfl|h
  ·omega
  ·have:=cntTs_mem l t h;omega
theorem sm_odds {B:Nat} {t:PTerm} (h:Sm B (encTm t)):t.odds.length≤B:=by
 rw [encTm_def] at h
 simpa using h.len (md:=.fz) (chs:=t.odds.map encI) (by simp)
theorem sm_kid {B:Nat} {t k:PTerm} (h:Sm B (encTm t)) (hk:k∈t.kids):Sm B (encTm k):=by
 rw [encTm_def] at h
 exact h.sub (md:=.fz) (chs:=t.kids.map encTm) (by simp) (List.mem_map.2 ⟨k,hk,rfl⟩)
end Go.Xe.YtlgknghehgmodaaGreatDoor
end
section
namespace Go.Xe.YtlgknghehgmodaaGreatDoor
open Go Go.Xe Go.Xt
variable {F:FuncId→Option TFun} {O:FuncId→List TV→Option TV}
inductive BldI:List Int→TV→Prop
 |nl:BldI [] (.sl .nl [])
 |own (l:List Int):BldI l (.sl (.own 3 1) (l.map encI))
theorem okSz_ints (l:List Int):okSz 1 (l.map encI)=true:=by simp [okSz,encI]
theorem below_ints (b:Nat) (l:List Int):below.belowss b (l.map encI)=true:=below_map b encI (below_encI b) l
attribute [simp] okSz_ints below_ints
end Go.Xe.YtlgknghehgmodaaGreatDoor
end
section
namespace Go.Xe.YtlgknghehgmodaaGreatDoor
open Go Go.Xe Go.Xt
variable {F:FuncId→Option TFun} {O:FuncId→List TV→Option TV}
inductive IntsV (σ:Sto):TV→List Int→Prop
 |nl:IntsV σ (.sl .nl []) []
 |fz (l:List Int):IntsV σ (.sl .fz (l.map encI)) l
 |ref {k ver e c:Nat} (l tl:List Int):σ.at k=some ⟨ver,.cells (encZT (l++tl)) e⟩→IntsV σ (.ref k 0 1 l.length c) l
theorem encZT_len (l:List Int):(encZT l).length=l.length:=by simp [encZT]
theorem encZT_get {l:List Int} (tl:List Int) {j:Nat} (hj:j<l.length):(encZT (l++tl))[j]? =some (.int .i64 l[j]):=by
 unfold encZT
 rw [List.getElem?_map,List.getElem?_append_left hj,List.getElem?_eq_getElem hj];rfl
theorem encZT_append (l m:List Int):encZT (l++m)=encZT l++encZT m:=by simp [encZT]
theorem flat_encI (l:List Int):(l.map encI).flatten=encZT l:=by
 induction l with
 |nil=>rfl
 |cons x l ih=>rw [List.map_cons,List.flatten_cons,ih];rfl
theorem chop_encZT:∀(l tl:List Int),chop 1 l.length (encZT (l++tl))=l.map encI
 |[],tl=>rfl
 |x::l,tl=>by
  have ih:=chop_encZT l tl
  simp only [List.length_cons,chop,List.map_cons,←ih]
  rfl
theorem owned_encZT (l:List Int):(encZT l).any isOwn=false:=by simp [encZT]
theorem take_encZT (l tl:List Int):(encZT (l++tl)).take l.length=encZT l:=by
 rw [encZT_append];simp [encZT]
theorem ints_t (h16:F 39=some f16) (N:Nat) (va:TV) (l:List Int) (b:Nat) (σ:Sto) (hv:IntsV σ va l) (hl:l.length≤maxLen) (hN:l.length<N):
  tcall F O (N+1) b 39 [va,.sl .fz (l.map encI)] σ=some (.ret (.bool true),σ):=by
 refine tcall_pure h16 ?_
 rcases hv with _|_|⟨_,tl,hk⟩
 ·simp [x16]
  refine tw_loop (I:=fun j a σ'=>a.df=[]∧σ'=σ∧a.tm.get 0=some (.sl .nl [])∧a.tm.get 5=some (.int .i64 0)) 0 (R:=fun ex a σ'=>ex=.exit 0∧a.df=[]∧σ'=σ) ?_ ?_ ?_ ?_ ?_
  ·simp
  ·simpa using hN
  ·intro j a σ' hj;omega
  ·rintro ⟨tm,df,clk⟩ σ' ⟨rfl,rfl,h0,h5⟩
   simp [h0,h5]
  ·rintro ex ⟨tm,df,clk⟩ σ' ⟨rfl,rfl,rfl⟩
   simp
 ·obtain ⟨va,hva⟩:∃va,va=TV.sl .fz (l.map encI):=⟨_,rfl⟩
  rw [←hva]
  obtain ⟨I,hI⟩:∃I:Nat→TAct→Sto→Prop,I=(fun j a σ'=>a.df=[]∧σ'=σ∧a.tm.get 0=some va∧a.tm.get 1=some (.sl .fz (l.map encI))∧a.tm.get 5=some (.int .i64 j)):=⟨_,rfl⟩
  obtain ⟨R,hR⟩:∃R:TEx→TAct→Sto→Prop,R=(fun ex a σ'=>ex=.exit 0∧a.df=[]∧σ'=σ):=⟨_,rfl⟩
  simp [x16,hva]
  refine tw_loop I l.length R ?_ hN ?_ ?_ ?_
  ·rw [hI]
   exact ⟨rfl,rfl,by simp [hva],by simp,by simp⟩
  ·rw [hI]
   rintro j ⟨tm,df,clk⟩ σ' hj ⟨rfl,rfl,h0,h1,h5⟩
   rw [←hI]
   have hw:=wrapJ hj hl
   rw [hva] at h0
   skip
   simp [h0,h1,h5,hj,hw,encI]
   rw [hI]
   exact ⟨rfl,rfl,by simp [h0,hva],by simp [h1],by simp⟩
  ·rw [hI]
   rintro ⟨tm,df,clk⟩ σ' ⟨rfl,rfl,h0,h1,h5⟩
   rw [hva] at h0
   simp [h0,h1,h5]
   rw [hR]
   exact ⟨rfl,rfl,rfl⟩
  ·rw [hR]
   rintro ex ⟨tm,df,clk⟩ σ' ⟨rfl,rfl,rfl⟩
   simp
 ·rename_i k ver e c
  obtain ⟨va,hva⟩:∃va,va=TV.ref k 0 1 l.length c:=⟨_,rfl⟩
  rw [←hva]
  obtain ⟨I,hI⟩:∃I:Nat→TAct→Sto→Prop,I=(fun j a σ'=>a.df=[]∧σ'=σ∧a.tm.get 0=some va∧a.tm.get 1=some (.sl .fz (l.map encI))∧a.tm.get 5=some (.int .i64 j)):=⟨_,rfl⟩
  obtain ⟨R,hR⟩:∃R:TEx→TAct→Sto→Prop,R=(fun ex a σ'=>ex=.exit 0∧a.df=[]∧σ'=σ):=⟨_,rfl⟩
  simp [x16,hva]
  refine tw_loop I l.length R ?_ hN ?_ ?_ ?_
  ·rw [hI]
   exact ⟨rfl,rfl,by simp [hva],by simp,by simp⟩
  ·rw [hI]
   rintro j ⟨tm,df,clk⟩ σ' hj ⟨rfl,rfl,h0,h1,h5⟩
   rw [←hI]
   have hw:=wrapJ hj hl
   rw [hva] at h0
   (have hgj:=encZT_get tl hj;generalize encZT (l++tl)=cs at hk hgj)
   simp [h0,h1,h5,hj,hw,encI,hk,hgj]
   rw [hI]
   exact ⟨rfl,rfl,by simp [h0,hva],by simp [h1],by simp⟩
  ·rw [hI]
   rintro ⟨tm,df,clk⟩ σ' ⟨rfl,rfl,h0,h1,h5⟩
   rw [hva] at h0
   simp [h0,h1,h5]
   rw [hR]
   exact ⟨rfl,rfl,rfl⟩
  ·rw [hR]
   rintro ex ⟨tm,df,clk⟩ σ' ⟨rfl,rfl,rfl⟩
   simp
theorem mem_drop {l:List Int} {j:Nat} (hj:j<l.length) (x:Int):decide (x∈l.drop j)=(decide (x=l[j])||decide (x∈l.drop (j+1))):=by
 rw [List.drop_eq_getElem_cons hj]
 simp only [List.mem_cons,Bool.decide_or]
theorem index_t (h111:F 72=some f111) (N:Nat) (va:TV) (l:List Int) (x:Int) (b:Nat) (σ:Sto) (hv:IntsV σ va l) (hl:l.length≤maxLen) (hN:l.length<N):
  ∃r:Int,tcall F O (N+1) b 72 [va,.int .i64 x] σ=some (.ret (.int .i64 r),σ)∧decide (0≤r)=decide (x∈l):=by
 suffices hh:∃e' σ',tcall F O (N+1) b 72 [va,.int .i64 x] σ=some (e',σ')∧∃r:Int,e'=.ret (.int .i64 r)∧σ'=σ∧decide (0≤r)=decide (x∈l) by
  obtain ⟨e',σ',q1,r,rfl,rfl,q2⟩:=hh
  exact ⟨r,q1,q2⟩
 refine tcall_of h111 ?_
 rcases hv with _|_|⟨_,tl,hk⟩
 ·simp [x111]
  refine tw_loop (I:=fun j a σ'=>a.df=[]∧σ'=σ∧a.tm.get 7=some (.int .i64 0)∧a.tm.get 8=some (.int .i64 0)) 0 (R:=fun ex a σ'=>ex=.exit 0∧a.df=[]∧σ'=σ) ?_ ?_ ?_ ?_ ?_
  ·simp
  ·simpa using hN
  ·intro j a σ' hj;omega
  ·rintro ⟨tm,df,clk⟩ σ' ⟨rfl,rfl,h0,h5⟩
   simp [h0,h5]
  ·rintro ex ⟨tm,df,clk⟩ σ' ⟨rfl,rfl,rfl⟩
   simp
 ·obtain ⟨va,hva⟩:∃va,va=TV.sl .fz (l.map encI):=⟨_,rfl⟩
  rw [←hva]
  simp [x111,hva]
  obtain ⟨I,hI⟩:∃I:Nat→TAct→Sto→Prop,I=(fun j a σ'=>a.df=[]∧σ'=σ∧decide (x∈l.drop j)=decide (x∈l)∧a.tm.get 0=some va∧a.tm.get 1=some (.int .i64 x)∧a.tm.get 7=some (.int .i64 (l.length:Int))∧a.tm.get 8=some (.int .i64 j)):=⟨_,rfl⟩
  obtain ⟨R,hR⟩:∃R:TEx→TAct→Sto→Prop,R=(fun ex a σ'=>a.df=[]∧σ'=σ∧(ex=.exit 0∧decide (x∈l)=false∨ex=.ret∧decide (x∈l)=true∧∃r:Int,0≤r∧a.tm.get 4=some (.int .i64 r))):=⟨_,rfl⟩
  refine tw_loop I l.length R ?_ hN ?_ ?_ ?_
  ·rw [hI]
   exact ⟨rfl,rfl,by rw [List.drop_zero],by simp [hva],by simp,by simp,by simp⟩
  ·rw [hI]
   rintro j ⟨tm,df,clk⟩ σ' hj ⟨rfl,rfl,hd,h0,h1,h7,h8⟩
   rw [←hI]
   have hw:=wrapJ hj hl
   rw [mem_drop hj] at hd
   rw [hva] at h0
   skip
   by_cases hx:x=l[j]
   ·simp [h0,h1,h7,h8,hj,hw,hx,encI]
    rw [hR]
    rw [decide_eq_true hx,Bool.true_or] at hd
    exact ⟨rfl,rfl,.inr ⟨rfl,hd.symm,(j:Int),by omega,by simp⟩⟩
   ·simp [h0,h1,h7,h8,hj,hw,hx,encI]
    rw [hI]
    rw [decide_eq_false hx,Bool.false_or] at hd
    exact ⟨rfl,rfl,hd,by simp [h0,hva],by simp [h1],by simp [h7],by simp⟩
  ·rw [hI]
   rintro ⟨tm,df,clk⟩ σ' ⟨rfl,rfl,hd,h0,h1,h7,h8⟩
   rw [List.drop_of_length_le (Nat.le_refl _)] at hd
   rw [hva] at h0
   simp [h0,h1,h7,h8]
   rw [hR]
   exact ⟨rfl,rfl,.inl ⟨rfl,by rw [←hd];simp⟩⟩
  ·rw [hR]
   rintro ex ⟨tm,df,clk⟩ σ' ⟨rfl,rfl,⟨rfl,h⟩|⟨rfl,h,r,hr,h4⟩⟩
   ·simp [h]
    exact of_decide_eq_false h
   ·simp [h,h4,hr]
    exact of_decide_eq_true h
 ·rename_i k ver e c
  obtain ⟨va,hva⟩:∃va,va=TV.ref k 0 1 l.length c:=⟨_,rfl⟩
  rw [←hva]
  simp [x111,hva]
  obtain ⟨I,hI⟩:∃I:Nat→TAct→Sto→Prop,I=(fun j a σ'=>a.df=[]∧σ'=σ∧decide (x∈l.drop j)=decide (x∈l)∧a.tm.get 0=some va∧a.tm.get 1=some (.int .i64 x)∧a.tm.get 7=some (.int .i64 (l.length:Int))∧a.tm.get 8=some (.int .i64 j)):=⟨_,rfl⟩
  obtain ⟨R,hR⟩:∃R:TEx→TAct→Sto→Prop,R=(fun ex a σ'=>a.df=[]∧σ'=σ∧(ex=.exit 0∧decide (x∈l)=false∨ex=.ret∧decide (x∈l)=true∧∃r:Int,0≤r∧a.tm.get 4=some (.int .i64 r))):=⟨_,rfl⟩
  refine tw_loop I l.length R ?_ hN ?_ ?_ ?_
  ·rw [hI]
   exact ⟨rfl,rfl,by rw [List.drop_zero],by simp [hva],by simp,by simp,by simp⟩
  ·rw [hI]
   rintro j ⟨tm,df,clk⟩ σ' hj ⟨rfl,rfl,hd,h0,h1,h7,h8⟩
   rw [←hI]
   have hw:=wrapJ hj hl
   rw [mem_drop hj] at hd
   rw [hva] at h0
   (have hgj:=encZT_get tl hj;generalize encZT (l++tl)=cs at hk hgj)
   by_cases hx:x=l[j]
   ·simp [h0,h1,h7,h8,hj,hw,hx,encI,hk,hgj]
    rw [hR]
    rw [decide_eq_true hx,Bool.true_or] at hd
    exact ⟨rfl,rfl,.inr ⟨rfl,hd.symm,(j:Int),by omega,by simp⟩⟩
   ·simp [h0,h1,h7,h8,hj,hw,hx,encI,hk,hgj]
    rw [hI]
    rw [decide_eq_false hx,Bool.false_or] at hd
    exact ⟨rfl,rfl,hd,by simp [h0,hva],by simp [h1],by simp [h7],by simp⟩
  ·rw [hI]
   rintro ⟨tm,df,clk⟩ σ' ⟨rfl,rfl,hd,h0,h1,h7,h8⟩
   rw [List.drop_of_length_le (Nat.le_refl _)] at hd
   rw [hva] at h0
   simp [h0,h1,h7,h8]
   rw [hR]
   exact ⟨rfl,rfl,.inl ⟨rfl,by rw [←hd];simp⟩⟩
  ·rw [hR]
   rintro ex ⟨tm,df,clk⟩ σ' ⟨rfl,rfl,⟨rfl,h⟩|⟨rfl,h,r,hr,h4⟩⟩
   ·simp [h]
    exact of_decide_eq_false h
   ·simp [h,h4,hr]
    exact of_decide_eq_true h
theorem contains_t (h66:F 32=some f66) (h111:F 72=some f111) (N:Nat) (va:TV) (l:List Int) (x:Int) (b:Nat) (σ:Sto) (hv:IntsV σ va l) (hl:l.length≤maxLen) (hN:l.length<N):
  tcall F O (N+2) b 32 [va,.int .i64 x] σ=some (.ret (.bool (decide (x∈l))),σ):=by
 obtain ⟨r,hq,hr⟩:=index_t (O:=O) h111 N va l x σ.length σ hv hl hN
 refine tcall_pure h66 ?_
 have hr':(0≤r)=(x∈l):=propext ⟨fun h=>of_decide_eq_true (hr▸decide_eq_true h),fun h=>of_decide_eq_true (hr.trans (decide_eq_true h))⟩
 rcases hv with _|_|⟨_,tl,hk⟩<;>simp [x66,hq,hr]
end Go.Xe.YtlgknghehgmodaaGreatDoor
end
section
namespace Go.Xe.YtlgknghehgmodaaGreatDoor
open Go Go.Xe Go.Xt
variable {F:FuncId→Option TFun} {O:FuncId→List TV→Option TV}
theorem at_app {σ τ:Sto} {k:Nat} (h:k<σ.length):Sto.at (σ++τ) k=σ.at k:=by
 simp only [Sto.at];rw [List.getElem?_append_left h]
theorem at_new (σ:Sto) (o:TObj):Sto.at (σ++[some o]) σ.length=some o:=by simp [Sto.at]
theorem cloneN_t (h67:F 81=some f67) (N b:Nat) (σ:Sto):tcall F O (N+1) b 81 [.sl .nl []] σ=some (.ret (.sl .nl []),σ):=by
 refine tcall_pure h67 ?_
 simp [x67]
theorem clone0_t (h67:F 81=some f67) (N b:Nat) (σ:Sto):tcall F O (N+1) b 81 [.sl .fz []] σ=some (.ret (.sl .fz []),σ):=by
 simp only [tcall,h67];rfl
theorem clone_t (h67:F 81=some f67) (N b:Nat) (va:TV) (l:List Int) (σ:Sto) (hv:IntsV σ va l) (hne:l≠[]) (hl:l.length≤1073741824):
  tcall F O (N+1) b 81 [va] σ=some (.ret (.ref (σ.length+1) 0 1 l.length (capU+1)),σ++[some ⟨0,.cells [] 3⟩]++[some ⟨0,.cells (encZT l) 3⟩]):=by
 suffices hh:∃e' σ',tcall F O (N+1) b 81 [va] σ=some (e',σ')∧e'=.ret (.ref (σ.length+1) 0 1 l.length (capU+1))∧σ'=σ++[some ⟨0,.cells [] 3⟩]++[some ⟨0,.cells (encZT l) 3⟩] by
  obtain ⟨e',σ',q1,rfl,rfl⟩:=hh
  exact q1
 have hp:preT f67.clone [va]=false:=by
  rcases hv with _|_|_
  ·rfl
  ·cases l with
   |nil=>exact absurd rfl hne
   |cons x l=>rfl
  ·rfl
 refine tcall_of h67 ?_ hp
 have hnew:=at_new σ ⟨0,.cells [] 3⟩
 rcases hv with _|_|⟨_,tl,hk⟩
 ·exact absurd rfl hne
 ·cases l with
  |nil=>exact absurd rfl hne
  |cons x l=>
   have hfl:=flat_encI l
   simp at hl
   simp [x67,encI,hnew,hl]
   simp [encZT] at hfl ⊢
   exact hfl
 ·rename_i k ver e c
  have hkl:=Sto.lt hk
  have hap:Sto.at (σ++[some ⟨0,.cells [] 3⟩]) k=_:=(at_app hkl).trans hk
  have hch:=chop_encZT l tl
  have hle:l.length≤(encZT (l++tl)).length:=by rw [encZT_len];simp
  have hnow:((encZT (l++tl)).take l.length).any isOwn=false:=by rw [take_encZT];exact owned_encZT l
  have hfl:=flat_encI l
  generalize encZT (l++tl)=cs at hk hap hch hle hnow
  cases l with
  |nil=>exact absurd rfl hne
  |cons x l=>
   simp at hl hch hle
   simp only [List.length_cons] at hnow
   simp [x67,hk,hnew,hap,hch,hl,hle,hnow,encI]
   simp [encZT,encI] at hfl ⊢
   exact hfl
end Go.Xe.YtlgknghehgmodaaGreatDoor
end
section
namespace Go.Xe.YtlgknghehgmodaaGreatDoor
open Go Go.Xe Go.Xt
variable {F:FuncId→Option TFun} {O:FuncId→List TV→Option TV}
def lp41:XCode:=.block 3 (.loop (.seq (.region [⟨some 63,.bin .lss (.tmp 62) (.tmp 61),none⟩]) (.seq (.cond (.tmp 63) .skip (.exit 3)) (.seq (.block 4 (.seq (.region [⟨some 64,.move (.tmp 62),none⟩,⟨some 10,.move (.tmp 64),none⟩]) (.seq (.region [⟨some 65,.addr 1 (.tmp 3),none⟩,⟨some 66,.load1 (.tmp 65),none⟩,⟨some 67,.move (.tmp 10),none⟩,⟨some 68,.bin .add (.tmp 66) (.tmp 67),none⟩,⟨some 69,.addr 1 (.tmp 3),none⟩,⟨some 70,.load1 (.tmp 69),none⟩,⟨some 71,.bin .geq (.tmp 68) (.tmp 70),none⟩]) (.cond (.tmp 71) (.region [⟨some 72,.move (.tmp 9),none⟩,⟨some 73,.addr 1 (.tmp 3),none⟩,⟨some 74,.load1 (.tmp 73),none⟩,⟨some 75,.move (.tmp 10),none⟩,⟨some 76,.bin .add (.tmp 74) (.tmp 75),none⟩,⟨some 77,.buildSlice 3 1 [(.int .i64 0)] 1 [(0,1,(.tmp 76))],none⟩,⟨some 78,.append 3 1 8 (.tmp 72) (.tmp 77),none⟩,⟨some 9,.move (.tmp 78),none⟩]) .skip)))) (.region [⟨some 79,.bin .add (.tmp 62) (.const (.int .i64 1)),none⟩,⟨some 62,.move (.tmp 79),none⟩])))))
def in41:XCode:=.seq (.region [⟨some 49,.move (.tmp 6),none⟩,⟨some 50,.bin .gtr (.tmp 49) (.const (.int .i64 0)),none⟩,⟨some 51,.move (.tmp 50),none⟩,⟨some 52,.move (.tmp 7),(some (51,true))⟩,⟨some 53,.addr 7 (.tmp 3),(some (51,true))⟩,⟨some 54,.load1 (.tmp 53),(some (51,true))⟩,⟨some 55,.lenSlice (.tmp 54),(some (51,true))⟩,⟨some 56,.bin .sub (.tmp 55) (.const (.int .i64 1)),(some (51,true))⟩,⟨some 57,.bin .eql (.tmp 52) (.tmp 56),(some (51,true))⟩,⟨some 58,.pick (.tmp 51) (.tmp 57) (.const (.bool false)),none⟩]) (.cond (.tmp 58) (.seq (.region [⟨some 59,.move (.tmp 1),none⟩,⟨some 60,.call 81 [(.tmp 59)],none⟩,⟨some 9,.move (.tmp 60),none⟩]) (.seq (.region [⟨some 61,.move (.tmp 6),none⟩,⟨some 62,.move (.const (.int .i64 0)),none⟩]) lp41)) .skip)
def kd41:XCode:=.seq (.region [⟨some 45,.move (.tmp 43),none⟩,⟨some 46,.indexAddr 8 (.tmp 41) (.tmp 43),none⟩,⟨some 47,.loadN 8 (.tmp 46),none⟩,⟨some 8,.alloc 28 [(.int .i64 0),(.int .i64 0),(.int .i64 0),(.int .i64 0),(.int .i64 0),(.slice none 0 0),(.slice none 0 0),(.slice none 0 0)],none⟩,⟨some 7,.move (.tmp 45),none⟩,⟨none,.store 8 (.tmp 8) (.tmp 47),none⟩]) (.seq (.region [⟨some 48,.move (.tmp 1),none⟩,⟨some 9,.move (.tmp 48),none⟩]) (.seq in41 (.region [⟨some 80,.loadN 8 (.tmp 8),none⟩,⟨some 81,.move (.tmp 9),none⟩,⟨some 82,.move (.tmp 2),none⟩,⟨some 83,.call 74 [(.tmp 80),(.tmp 81),(.tmp 82)],none⟩])))
def mn41:XCode:=.seq (.region [⟨some 30,.addr 0 (.tmp 3),none⟩,⟨some 31,.load1 (.tmp 30),none⟩]) (.block 0 (.seq (.region [⟨some 33,.bin .eql (.tmp 31) (.const (.int .i64 7)),none⟩,⟨some 32,.move (.tmp 33),none⟩]) (.cond (.tmp 32) (.region [⟨some 34,.addr 2 (.tmp 3),none⟩,⟨some 35,.load1 (.tmp 34),none⟩,⟨some 36,.maxI [(.tmp 35),(.const (.int .i64 0))],none⟩,⟨some 37,.minI [(.tmp 36),(.const (.int .i64 4))],none⟩,⟨some 6,.move (.tmp 37),none⟩]) (.seq (.region [⟨some 39,.bin .eql (.tmp 31) (.const (.int .i64 9)),none⟩,⟨some 38,.move (.tmp 39),none⟩]) (.cond (.tmp 38) (.region [⟨some 6,.move (.const (.int .i64 2)),none⟩]) .skip)))))
def hd41:XCode:=.seq (.region [⟨some 11,.addr 0 (.tmp 3),none⟩,⟨some 12,.load1 (.tmp 11),none⟩,⟨some 13,.bin .eql (.tmp 12) (.const (.int .i64 2)),none⟩,⟨some 14,.move (.tmp 13),none⟩,⟨some 15,.move (.tmp 1),(some (14,true))⟩,⟨some 16,.addr 1 (.tmp 3),(some (14,true))⟩,⟨some 17,.load1 (.tmp 16),(some (14,true))⟩,⟨some 18,.call 32 [(.tmp 15),(.tmp 17)],(some (14,true))⟩,⟨some 19,.un .not (.tmp 18),(some (14,true))⟩,⟨some 20,.pick (.tmp 14) (.tmp 19) (.const (.bool false)),none⟩]) (.cond (.tmp 20) (.regionD [⟨some 21,.move (.tmp 2),none⟩,⟨some 22,.move (.tmp 2),none⟩,⟨some 23,.nilCheck (.tmp 22),none⟩,⟨some 24,.load1 (.tmp 23),none⟩,⟨some 25,.addr 1 (.tmp 3),none⟩,⟨some 26,.load1 (.tmp 25),none⟩,⟨some 27,.buildSlice 3 1 [(.int .i64 0)] 1 [(0,1,(.tmp 26))],none⟩,⟨some 28,.append 3 1 8 (.tmp 24) (.tmp 27),none⟩,⟨some 29,.nilCheck (.tmp 21),none⟩,⟨none,.store 1 (.tmp 29) (.tmp 28),none⟩] [(3,6)]) .skip)
theorem x41_cut:x41=⟨85,[],.seq (.region [⟨some 3,.box 28 (.tmp 0),none⟩]) (.seq hd41 (.seq (.region [⟨some 6,.move (.const (.int .i64 0)),none⟩]) (.seq mn41 (.seq (.region [⟨some 40,.addr 7 (.tmp 3),none⟩,⟨some 41,.load1 (.tmp 40),none⟩,⟨some 42,.lenSlice (.tmp 41),none⟩,⟨some 43,.move (.const (.int .i64 0)),none⟩]) (.block 1 (.loop (.seq (.region [⟨some 44,.bin .lss (.tmp 43) (.tmp 42),none⟩]) (.seq (.cond (.tmp 44) .skip (.exit 1)) (.seq (.block 2 kd41) (.region [⟨some 84,.bin .add (.tmp 43) (.const (.int .i64 1)),none⟩,⟨some 43,.move (.tmp 84),none⟩]))))))))))⟩:=rfl
theorem tw_bind {an:Ann} {b:Nat} {C:TCallee} {n:Nat} {Q0 Q:TEx→TAct→Sto→Prop} {ks:List Kt} {r:Option (TEx×TAct×Sto)} (h:Tw an b C n Q0 [] r) (k:∀e a σ,Q0 e a σ→Cont an b C n Q ks e a σ):Tw an b C n Q ks r:=by
 obtain ⟨e,a,σ,h1,h2⟩:=h
 exact ⟨e,a,σ,h1,k _ _ _ h2⟩
def manyI (t:PTerm):Int:=if t.kind=7 then min (max t.m 0) 4 else if t.kind=9 then 2 else 0
theorem manyI_lo (t:PTerm):0≤manyI t∧manyI t≤4:=by unfold manyI;split<;>(try split)<;>omega
def slotsB (n:Int):Nat→List Int
 |0=>[]
 |k+1=>slotsB n k++(if n+(k:Int)≤9223372036854775807 then [n+(k:Int)] else [])
theorem slotsB_len (n:Int):∀k,(slotsB n k).length≤k
 |0=>Nat.le_refl _
 |k+1=>by
  have:=slotsB_len n k
  simp only [slotsB,List.length_append]
  split<;>simp<;>omega
def innerB (bd:List Int) (t:PTerm):List Int:=bd++slotsB t.n (manyI t).toNat
def lastB (bd bd':List Int):List PTerm→List Int
 |[]=>bd'
 |_::_=>bd
mutual
def freeC (bd:List Int):PTerm→List Int
 |.mk k n m v o ks=>(if k=2∧n∉bd then [n] else [])++freeCs bd (innerB bd (.mk k n m v o ks)) ks
def freeCs (bd bd':List Int):List PTerm→List Int
 |[]=>[]
 |t::l=>freeC (lastB bd bd' l) t++freeCs bd bd' l
end
theorem freeC_def (bd:List Int) (t:PTerm):freeC bd t=(if t.kind=2∧t.n∉bd then [t.n] else [])++freeCs bd (innerB bd t) t.kids:=by
 cases t;simp only [freeC,PTerm.kind,PTerm.n,PTerm.kids];rfl
theorem freeCs_drop {bd bd':List Int} {l:List PTerm} {j:Nat} (hj:j<l.length):freeCs bd bd' (l.drop j)=freeC (if j+1=l.length then bd' else bd) l[j]++freeCs bd bd' (l.drop (j+1)):=by
 rw [List.drop_eq_getElem_cons hj]
 simp only [freeCs]
 congr 2
 by_cases h:j+1=l.length
 ·rw [if_pos h,List.drop_of_length_le (by omega)];rfl
 ·rw [if_neg h,List.drop_eq_getElem_cons (by omega)];rfl
mutual
theorem freeC_len (bd:List Int):∀t,(freeC bd t).length≤cntT t
 |.mk k n m v o ks=>by
  have:=freeCs_len bd (innerB bd (.mk k n m v o ks)) ks
  simp only [freeC,cntT,List.length_append]
  split<;>simp<;>omega
theorem freeCs_len (bd bd':List Int):∀l,(freeCs bd bd' l).length≤cntTs l
 |[]=>Nat.le_refl _
 |t::l=>by
  have:=freeC_len (lastB bd bd' l) t
  have:=freeCs_len bd bd' l
  simp only [freeCs,cntTs,List.length_append];omega
end
inductive OutV (σ:Sto):TV→List Int→Prop
 |nl:OutV σ (.sl .nl []) []
 |ref {k ver:Nat} (l:List Int):l≠[]→σ.at k=some ⟨ver,.cells (encZT l) 3⟩→OutV σ (.ref k 0 1 l.length (capU+1)) l
def OutS (σ:Sto) (po:Nat) (l:List Int):Prop:=∃ver ov,σ.at po=some ⟨ver,.cells [ov] 25⟩∧OutV σ ov l
def rowOf (σ:Sto) (po:Nat):Option Nat:=
 match σ.at po with
 |some ⟨_,.cells [.ref k _ _ _ _] _⟩=>some k
 |_=>none
structure Frm (σ σ':Sto) (po:Nat):Prop where
 len:σ.length≤σ'.length
 same:∀k,k<σ.length→k≠po→rowOf σ po≠some k→σ'.at k=σ.at k
 row:∀k,rowOf σ' po=some k→rowOf σ po=some k∨σ.length≤k
theorem Frm.refl (σ:Sto) (po:Nat):Frm σ σ po:=⟨Nat.le_refl _,fun _ _ _ _=>rfl,fun k h=>.inl h⟩
theorem Frm.trans {σ σ1 σ2:Sto} {po:Nat} (a:Frm σ σ1 po) (b:Frm σ1 σ2 po):Frm σ σ2 po:=by
 refine ⟨Nat.le_trans a.len b.len,fun k hk hp hr=> ?_,fun k h=> ?_⟩
 ·rw [b.same k (Nat.lt_of_lt_of_le hk a.len) hp,a.same k hk hp hr]
  intro h
  rcases a.row k h with h|h
  ·exact hr h
  ·omega
 ·rcases b.row k h with h|h
  ·exact a.row k h
  ·exact .inr (Nat.le_trans a.len h)
structure Grn (σ σ':Sto):Prop where
 len:σ.length≤σ'.length
 same:∀k,k<σ.length→σ'.at k=σ.at k
theorem Grn.refl (σ:Sto):Grn σ σ:=⟨Nat.le_refl _,fun _ _=>rfl⟩
theorem Grn.trans {σ σ1 σ2:Sto} (a:Grn σ σ1) (b:Grn σ1 σ2):Grn σ σ2:=⟨Nat.le_trans a.len b.len,fun k hk=>by rw [b.same k (Nat.lt_of_lt_of_le hk a.len),a.same k hk]⟩
theorem Grn.app (σ τ:Sto):Grn σ (σ++τ):=⟨by simp,fun k hk=>at_app hk⟩
theorem Grn.frm {σ σ':Sto} {po:Nat} (g:Grn σ σ') (hp:po<σ.length):Frm σ σ' po:=by
 refine ⟨g.len,fun k hk _ _=>g.same k hk,fun k h=>.inl ?_⟩
 unfold rowOf at h ⊢
 rwa [g.same po hp] at h
theorem OutS.lt {σ:Sto} {po:Nat} {l:List Int} (h:OutS σ po l):po<σ.length:=by
 obtain ⟨ver,ov,h1,_⟩:=h;exact Sto.lt h1
theorem OutS.grn {σ σ':Sto} {po:Nat} {l:List Int} (h:OutS σ po l) (g:Grn σ σ'):OutS σ' po l:=by
 obtain ⟨ver,ov,h1,h2⟩:=h
 refine ⟨ver,ov,by rw [g.same po (Sto.lt h1)];exact h1,?_⟩
 cases h2 with
 |nl=>exact .nl
 |ref l hne hk=>exact .ref l hne (by rw [g.same _ (Sto.lt hk)];exact hk)
structure BdV (σ:Sto) (po:Nat) (v:TV) (l:List Int):Prop where
 ints:IntsV σ v l
 ne:v=.sl .nl []∨l≠[]
 sep:∀k o s n c,v=.ref k o s n c→k≠po∧rowOf σ po≠some k
 give:give v=some v
 own:isOwn v=false
theorem BdV.frm {σ σ':Sto} {po:Nat} {v:TV} {l:List Int} (h:BdV σ po v l) (f:Frm σ σ' po):BdV σ' po v l:=by
 refine ⟨?_,h.ne,fun k o s n c e=> ?_,h.give,h.own⟩
 ·cases h.ints with
  |nl=>exact .nl
  |fz l=>exact .fz l
  |ref l tl hk=>
   obtain ⟨h1,h2⟩:=h.sep _ _ _ _ _ rfl
   exact .ref l tl (by rw [f.same _ (Sto.lt hk) h1 h2];exact hk)
 ·obtain ⟨h1,h2⟩:=h.sep _ _ _ _ _ e
  refine ⟨h1,fun hr=> ?_⟩
  rcases f.row _ hr with hr|hr
  ·exact h2 hr
  ·subst e
   cases h.ints with
   |ref l tl hk=>have:=Sto.lt hk;omega
theorem nl_bdv (σ:Sto) (po:Nat):BdV σ po (.sl .nl []) []:=⟨.nl,.inl rfl,fun _ _ _ _ _ h=>(by cases h),rfl,rfl⟩
theorem BdV.lt {σ:Sto} {po:Nat} {v:TV} {l:List Int} (h:BdV σ po v l) {k o s n c:Nat} (e:v=.ref k o s n c):k<σ.length:=by
 subst e
 cases h.ints with
 |ref l tl hk=>exact Sto.lt hk
end Go.Xe.YtlgknghehgmodaaGreatDoor
end
section
namespace Go.Xe.YtlgknghehgmodaaGreatDoor
open Go Go.Xe Go.Xt
variable {F:FuncId→Option TFun} {O:FuncId→List TV→Option TV}
theorem min_t {C:TCallee} {N b:Nat} (e:PTerm) (a:TAct) (σ:Sto) (v1 v2:TV) (hdf:a.df=[]) (h1:a.tm.get 1=some v1) (h2:a.tm.get 2=some v2) (h3:a.tm.get 3=some (.bx 0 (encTm e) 28)) (h6:a.tm.get 6=some (.int .i64 0)):
  Tw a41 b C N (fun ex a' σ'=>ex=.normal∧σ'=σ∧a'.df=[]∧a'.tm.get 1=some v1∧a'.tm.get 2=some v2∧a'.tm.get 3=some (.bx 0 (encTm e) 28)∧a'.tm.get 6=some (.int .i64 (manyI e))) [] (tcode a41 b C N mn41 a σ):=by
 obtain ⟨tm,df,clk⟩:=a
 simp only at hdf h1 h2 h3 h6
 subst hdf
 have h3':=h3
 rw [encTm_def] at h3
 unfold manyI
 by_cases k7:e.kind=7
 ·rw [if_pos k7]
  by_cases m0:e.m<0
  ·have e1:min (max e.m 0) 4=0:=by omega
   simp [mn41,h3,k7,m0,h1,h2,encTm_def,e1,intsT,ltInt_eq]
  ·have hm0:¬(e.m<0):=m0
   by_cases m4:4<e.m
   ·have e1:min (max e.m 0) 4=4:=by omega
    simp [mn41,h3,k7,m0,m4,h1,h2,encTm_def,e1,intsT,ltInt_eq]
   ·have e1:min (max e.m 0) 4=e.m:=by omega
    simp [mn41,h3,k7,m0,m4,h1,h2,encTm_def,e1,intsT,ltInt_eq]
 ·rw [if_neg k7]
  by_cases k9:e.kind=9
  ·simp [mn41,h3,k9,h1,h2,encTm_def]
  ·simp [mn41,h3,k7,k9,h1,h2,encTm_def,h6]
theorem out_put {σ Y:Sto} {po ver':Nat} {l:List Int} (hp:po<σ.length) (hY:Y.length=σ.length) (hs:∀j,j<σ.length→j≠po→rowOf σ po≠some j→Y.at j=σ.at j) (hne:l≠[]):
  OutS ((Y++[some (⟨0,.cells (encZT l) 3⟩:TObj)]).set po (some (⟨ver',.cells [.ref σ.length 0 1 l.length (capU+1)] 25⟩:TObj))) po l∧
  Frm σ ((Y++[some (⟨0,.cells (encZT l) 3⟩:TObj)]).set po (some (⟨ver',.cells [.ref σ.length 0 1 l.length (capU+1)] 25⟩:TObj))) po:=by
 have hat:Sto.at ((Y++[some (⟨0,.cells (encZT l) 3⟩:TObj)]).set po (some (⟨ver',.cells [.ref σ.length 0 1 l.length (capU+1)] 25⟩:TObj))) po=some ⟨ver',.cells [.ref σ.length 0 1 l.length (capU+1)] 25⟩:=by
  have:po<(Y++[some (⟨0,.cells (encZT l) 3⟩:TObj)]).length:=by simp;omega
  simp only [Sto.at]
  rw [List.getElem?_set_self this]
 refine ⟨⟨_,_,hat,.ref (ver:=0) l hne ?_⟩,⟨by simp;omega,fun k hk hkp hr=> ?_,fun k h=> ?_⟩⟩
 ·rw [at_ne (by omega),←hY];exact at_new Y _
 ·rw [at_ne (by omega),at_app (by omega)];exact hs k hk hkp hr
 ·unfold rowOf at h
  rw [hat] at h
  cases h
  exact .inr (Nat.le_refl _)
theorem hd_t {N b:Nat} (h66:F 32=some f66) (h111:F 72=some f111) (e:PTerm) (a:TAct) (σ:Sto) (po:Nat) (ol:List Int) (bv:TV) (bd:List Int) (hb:BdV σ po bv bd) (ho:OutS σ po ol) (hbp:b≤po) (hbl:bd.length<N) (hbm:bd.length≤maxLen) (hol:ol.length≤100000)
  (hdf:a.df=[]) (h1:a.tm.get 1=some bv) (h2:a.tm.get 2=some (.ptr po 0)) (h3:a.tm.get 3=some (.bx 0 (encTm e) 28)):
  Tw a41 b (tcall F O (N+2)) (N+2) (fun ex a' σ'=>ex=.normal∧OutS σ' po (ol++(if e.kind=2∧e.n∉bd then [e.n] else []))∧Frm σ σ' po∧a'.df=[]∧a'.tm.get 1=some bv∧a'.tm.get 2=some (.ptr po 0)∧a'.tm.get 3=some (.bx 0 (encTm e) 28)) [] (tcode a41 b (tcall F O (N+2)) (N+2) hd41 a σ):=by
 obtain ⟨tm,df,clk⟩:=a
 simp only at hdf h1 h2 h3
 subst hdf
 have h3':=h3
 rw [encTm_def] at h3
 have hints:=hb.ints
 have hg:=hb.give
 have hown:=hb.own
 by_cases k2:e.kind=2
 case neg=>
  rw [if_neg (fun h=>k2 h.1),List.append_nil]
  simp [hd41,h3,k2,h1,h2,encTm_def,ho,Frm.refl,undT]
 have hc:=contains_t (O:=O) h66 h111 N bv bd e.n b σ hb.ints hbm hbl
 by_cases hm:e.n∈bd
 ·rw [if_neg (fun h=>h.2 hm),List.append_nil]
  rw [decide_eq_true hm] at hc
  rcases hints with _|_|_
  skip
  all_goals simp [hd41,h3,k2,h1,h2,encTm_def,ho,Frm.refl,undT,hc]
 ·rw [if_pos ⟨k2,hm⟩]
  rw [decide_eq_false hm] at hc
  obtain ⟨ver,ov,hpo,hov⟩:=ho
  have hpl:=Sto.lt hpo
  rcases hov with _|⟨_,hne,hk⟩
  ·have hapo:Sto.at (σ++[some ⟨0,.cells [.int .i64 e.n] 3⟩]) po=_:=(at_app hpl).trans hpo
   obtain ⟨q1,q2⟩:=out_put (Y:=σ) (ver':=ver+1) (l:=[e.n]) hpl rfl (fun _ _ _ _=>rfl) (by simp)
   have ez:encZT [e.n]=[.int .i64 e.n]:=rfl
   rw [ez] at q1 q2
   simp only [List.length_cons,List.length_nil,Nat.zero_add] at q1 q2
   rcases hints with _|_|_
   skip
   all_goals simp [hd41,h3,k2,h1,h2,encTm_def,undT,hc,hpo,hapo,hbp,q1,q2]
  ·rename_i k vk
   have hkp:k≠po:=by
    rintro rfl
    rw [hpo] at hk
    simp at hk
   have hY:∀j,j<σ.length→j≠po→rowOf σ po≠some j→Sto.at (σ.set k none) j=σ.at j:=fun j h1 h2 h3=>at_ne (fun e=>h3 (by subst e;unfold rowOf;rw [hpo]))
   obtain ⟨q1,q2⟩:=out_put (Y:=σ.set k none) (ver':=ver+1) (l:=ol++[e.n]) hpl (by simp) hY (by simp)
   have hapo:Sto.at (σ.set k none++[some (⟨0,.cells (encZT (ol++[e.n])) 3⟩:TObj)]) po=_:=((at_app (by simpa using hpl)).trans (at_ne hkp)).trans hpo
   have ez:encZT (ol++[e.n])=encZT ol++[.int .i64 e.n]:=by rw [encZT_append];rfl
   have hcl:(encZT ol).length=ol.length:=encZT_len ol
   have hct:(encZT ol).take ol.length=encZT ol:=List.take_of_length_le (by omega)
   have hca:=owned_encZT ol
   have hol2:ol.length+1≤1073741824:=by omega
   rw [ez] at q1 q2 hapo
   simp only [List.length_append,List.length_cons,List.length_nil,Nat.zero_add] at q1 q2
   generalize encZT ol=cs at*
   rcases hints with _|_|_
   all_goals simp [hd41,h3,k2,h1,h2,encTm_def,undT,hc,hpo,hapo,hbp,q1,q2,hk,hcl,hct,hca,hol2]
end Go.Xe.YtlgknghehgmodaaGreatDoor
end
section
namespace Go.Xe.YtlgknghehgmodaaGreatDoor
open Go Go.Xe Go.Xt
variable {F:FuncId→Option TFun} {O:FuncId→List TV→Option TV}
inductive BV (lo:Nat) (σ:Sto):TV→List Int→Prop
 |nl:BV lo σ (.sl .nl []) []
 |own (l:List Int):l≠[]→BV lo σ (.sl (.own 3 1) (l.map encI)) l
 |ref {k ver:Nat} (l:List Int):lo≤k→l≠[]→σ.at k=some ⟨ver,.cells (encZT l) 3⟩→BV lo σ (.ref k 0 1 l.length (capU+1)) l
theorem Grn.setapp {σ0 σ:Sto} {k:Nat} (g:Grn σ0 σ) (hk:σ0.length≤k) (τ:Sto):Grn σ0 (σ.set k none++τ):=by
 refine ⟨by simp;exact Nat.le_trans g.len (Nat.le_add_right _ _),fun j hj=> ?_⟩
 rw [at_app (by simpa using Nat.lt_of_lt_of_le hj g.len),at_ne (by omega)]
 exact g.same j hj
theorem lp_t {C:TCallee} {N b:Nat} (e:PTerm) (he:OkTm e) (k:Nat) (hk:k≤4) (hN:5≤N) (a:TAct) (σ0 σ:Sto) (v0 v1 v2 v8 v41 v42 v43 v6:TV) (bd:List Int) (hg:Grn σ0 σ) (hbv:BV σ0.length σ v0 bd) (hbl:bd.length≤100000) (hdf:a.df=[])
  (h1:a.tm.get 1=some v1) (h2:a.tm.get 2=some v2) (h3:a.tm.get 3=some (.bx 0 (encTm e) 28)) (h6:a.tm.get 6=some v6) (h8:a.tm.get 8=some v8) (h41:a.tm.get 41=some v41) (h42:a.tm.get 42=some v42) (h43:a.tm.get 43=some v43)
  (h9:a.tm.get 9=some v0) (h61:a.tm.get 61=some (.int .i64 (k:Int))) (h62:a.tm.get 62=some (.int .i64 0)):
  Tw a41 b C N (fun ex a' σ'=>ex=.normal∧a'.df=[]∧Grn σ0 σ'∧(∃v,BV σ0.length σ' v (bd++slotsB e.n k)∧a'.tm.get 9=some v)∧a'.tm.get 1=some v1∧a'.tm.get 2=some v2∧a'.tm.get 3=some (.bx 0 (encTm e) 28)∧a'.tm.get 6=some v6∧a'.tm.get 8=some v8∧a'.tm.get 41=some v41∧a'.tm.get 42=some v42∧a'.tm.get 43=some v43) [] (tcode a41 b C N lp41 a σ):=by
 obtain ⟨tm,df,clk⟩:=a
 simp only at hdf h1 h2 h3 h6 h8 h41 h42 h43 h9 h61 h62
 subst hdf
 simp [lp41]
 obtain ⟨I,hI⟩:∃I:Nat→TAct→Sto→Prop,I=(fun j a' σ'=>a'.df=[]∧Grn σ0 σ'∧(∃v,BV σ0.length σ' v (bd++slotsB e.n j)∧a'.tm.get 9=some v)∧a'.tm.get 1=some v1∧a'.tm.get 2=some v2∧a'.tm.get 3=some (.bx 0 (encTm e) 28)∧a'.tm.get 6=some v6∧a'.tm.get 8=some v8∧a'.tm.get 41=some v41∧a'.tm.get 42=some v42∧a'.tm.get 43=some v43∧a'.tm.get 61=some (.int .i64 (k:Int))∧a'.tm.get 62=some (.int .i64 (j:Int))):=⟨_,rfl⟩
 obtain ⟨R,hR⟩:∃R:TEx→TAct→Sto→Prop,R=(fun ex a' σ'=>ex=.exit 3∧a'.df=[]∧Grn σ0 σ'∧(∃v,BV σ0.length σ' v (bd++slotsB e.n k)∧a'.tm.get 9=some v)∧a'.tm.get 1=some v1∧a'.tm.get 2=some v2∧a'.tm.get 3=some (.bx 0 (encTm e) 28)∧a'.tm.get 6=some v6∧a'.tm.get 8=some v8∧a'.tm.get 41=some v41∧a'.tm.get 42=some v42∧a'.tm.get 43=some v43):=⟨_,rfl⟩
 refine tw_loop I k R ?_ (by omega) ?_ ?_ ?_
 ·rw [hI]
  exact ⟨rfl,hg,⟨v0,by simpa [slotsB] using hbv,h9⟩,h1,h2,h3,h6,h8,h41,h42,h43,h61,by simpa using h62⟩
 ·rw [hI]
  rintro j ⟨tm,df,clk⟩ σ' hj ⟨rfl,hg,⟨v,hbv,h9⟩,h1,h2,h3,h6,h8,h41,h42,h43,h61,h62⟩
  rw [←hI]
  have hw1:IntKind.i64.wrap ((j:Int)+1)=((j+1:Nat):Int):=by rw [wrap_in]<;>omega
  have h3':=h3
  have hn:=he.n
  unfold I64 at hn
  have hsl:=slotsB_len e.n j
  rw [encTm_def] at h3
  by_cases hov:e.n+(j:Int)≤9223372036854775807
  case neg=>
   have hw:¬e.n≤IntKind.i64.wrap (e.n+(j:Int)):=by rw [IntKind.wrap_i64];omega
   have hs:slotsB e.n (j+1)=slotsB e.n j:=by simp only [slotsB];rw [if_neg hov,List.append_nil]
   simp [h1,h2,h3,h6,h8,h9,h41,h42,h43,h61,h62,hj,hw1,hw]
   rw [hI]
   exact ⟨rfl,hg,⟨v,by rw [hs];exact hbv,by simp [h9]⟩,by simp [h1],by simp [h2],by simp [h3'],by simp [h6],by simp [h8],by simp [h41],by simp [h42],by simp [h43],by simp [h61],by simp⟩
  have hw:IntKind.i64.wrap (e.n+(j:Int))=e.n+(j:Int):=by rw [wrap_in]<;>omega
  have hle:e.n≤e.n+(j:Int):=by omega
  have hs:slotsB e.n (j+1)=slotsB e.n j++[e.n+(j:Int)]:=by simp only [slotsB];rw [if_pos hov]
  have hlen:(bd++slotsB e.n j).length≤100004:=by simp only [List.length_append];omega
  generalize hL:bd++slotsB e.n j=L at hbv hlen
  have hs':bd++slotsB e.n (j+1)=L++[e.n+(j:Int)]:=by rw [hs,←List.append_assoc,hL]
  generalize hx:e.n+(j:Int)=x at hw hle hs'
  rcases hbv with _|⟨_,hne⟩|⟨_,hlo,hne,hat⟩
  ·simp [h1,h2,h3,h6,h8,h9,h41,h42,h43,h61,h62,hj,hw1,hw,hle,hx]
   rw [hI]
   exact ⟨rfl,hg,⟨_,by rw [hs'];exact .own _ (by simp),by simp [encI]⟩,by simp [h1],by simp [h2],by simp [h3'],by simp [h6],by simp [h8],by simp [h41],by simp [h42],by simp [h43],by simp [h61],by simp⟩
  ·have hl2:L.length+1≤1073741824:=by omega
   simp [h1,h2,h3,h6,h8,h9,h41,h42,h43,h61,h62,hj,hw1,hw,hle,hx,hl2,encI]
   rw [hI]
   exact ⟨rfl,hg,⟨_,by rw [hs'];exact .own _ (by simp),by simp [encI]⟩,by simp [h1],by simp [h2],by simp [h3'],by simp [h6],by simp [h8],by simp [h41],by simp [h42],by simp [h43],by simp [h61],by simp⟩
  ·rename_i kk vk
   have hl2:L.length+1≤1073741824:=by omega
   have hcl:(encZT L).length=L.length:=encZT_len L
   have hct:(encZT L).take L.length=encZT L:=List.take_of_length_le (by omega)
   have hca:=owned_encZT L
   have hez:encZT (L++[x])=encZT L++[.int .i64 x]:=by rw [encZT_append];rfl
   have hgs:=hg.setapp hlo [some ⟨0,.cells (encZT (L++[x])) 3⟩]
   have hnw:Sto.at (σ'.set kk none++[some (⟨0,.cells (encZT (L++[x])) 3⟩:TObj)]) σ'.length=some ⟨0,.cells (encZT (L++[x])) 3⟩:=by
    have:=at_new (σ'.set kk none) ⟨0,.cells (encZT (L++[x])) 3⟩
    rwa [List.length_set] at this
   have hbv':BV σ0.length (σ'.set kk none++[some (⟨0,.cells (encZT (L++[x])) 3⟩:TObj)]) (.ref σ'.length 0 1 (L++[x]).length (capU+1)) (L++[x]):=.ref _ hg.len (by simp) hnw
   rw [hez] at hgs hbv'
   simp only [List.length_append,List.length_cons,List.length_nil,Nat.zero_add] at hbv'
   generalize encZT L=cs at*
   simp [h1,h2,h3,h6,h8,h9,h41,h42,h43,h61,h62,hj,hw1,hw,hle,hx,hl2,hat,hcl,hct,hca]
   rw [hI]
   exact ⟨rfl,hgs,⟨_,by rw [hs'];exact hbv',by simp⟩,by simp [h1],by simp [h2],by simp [h3'],by simp [h6],by simp [h8],by simp [h41],by simp [h42],by simp [h43],by simp [h61],by simp⟩
 ·rw [hI]
  rintro ⟨tm,df,clk⟩ σ' ⟨rfl,hg,hbv,h1,h2,h3,h6,h8,h41,h42,h43,h61,h62⟩
  simp [h61,h62]
  rw [hR]
  obtain ⟨v,hbv,h9⟩:=hbv
  exact ⟨rfl,rfl,hg,⟨v,hbv,by simp [h9]⟩,by simp [h1],by simp [h2],by simp [h3],by simp [h6],by simp [h8],by simp [h41],by simp [h42],by simp [h43]⟩
 ·rw [hR]
  rintro ex ⟨tm,df,clk⟩ σ' ⟨rfl,rfl,hg,hbv,h1,h2,h3,h6,h8,h41,h42,h43⟩
  simp
  exact ⟨hg,hbv,h1,h2,h3,h6,h8,h41,h42,h43⟩
end Go.Xe.YtlgknghehgmodaaGreatDoor
end
section
namespace Go.Xe.YtlgknghehgmodaaGreatDoor
open Go Go.Xe Go.Xt
variable {F:FuncId→Option TFun} {O:FuncId→List TV→Option TV}
theorem OutS.row_lt {σ:Sto} {po k:Nat} {l:List Int} (h:OutS σ po l) (e:rowOf σ po=some k):k<σ.length:=by
 obtain ⟨ver,ov,h1,h2⟩:=h
 unfold rowOf at e
 rw [h1] at e
 cases h2 with
 |nl=>cases e
 |ref l hne hk=>cases e;exact Sto.lt hk
theorem BV.bdv {σ0 σ:Sto} {po:Nat} {v:TV} {l ol:List Int} (h:BV σ0.length σ v l) (ho:OutS σ0 po ol) (g:Grn σ0 σ):BdV σ po (frz v) l:=by
 cases h with
 |nl=>exact nl_bdv σ po
 |own l hne=>exact ⟨.fz l,.inr hne,fun _ _ _ _ _ h=>(by cases h),rfl,rfl⟩
 |ref l hlo hne hk=>
  refine ⟨.ref l [] (by rw [List.append_nil];exact hk),.inr hne,fun k o s n c e=> ?_,rfl,rfl⟩
  cases e
  have hp:=ho.lt
  refine ⟨by omega,fun hr=> ?_⟩
  have hr2:rowOf σ0 po=rowOf σ po:=by unfold rowOf;rw [g.same po hp]
  have:=ho.row_lt (hr2.trans hr)
  omega
theorem kd_t {N b:Nat} (h67:F 81=some f67) (e:PTerm) (he:OkTm e) (hN:5≤N) (a:TAct) (σ:Sto) (po:Nat) (ol:List Int) (bv:TV) (bd:List Int) (hb:BdV σ po bv bd) (ho:OutS σ po ol) (hbl:bd.length≤100000) (j:Nat) (hj:j<e.kids.length)
  (ih:∀(v:TV) (bd':List Int) (σ':Sto),BdV σ' po v bd'→OutS σ' po ol→bd'.length≤bd.length+4→
   ∃σ'',tcall F O (N+1) b 74 [.agg (encTm e.kids[j]),v,.ptr po 0] σ'=some (.ret (.tuple []),σ'')∧OutS σ'' po (ol++freeC bd' e.kids[j])∧Frm σ' σ'' po)
  (hdf:a.df=[]) (h1:a.tm.get 1=some bv) (h2:a.tm.get 2=some (.ptr po 0)) (h3:a.tm.get 3=some (.bx 0 (encTm e) 28)) (h6:a.tm.get 6=some (.int .i64 (manyI e)))
  (h41:a.tm.get 41=some (.sl .fz (e.kids.map encTm))) (h42:a.tm.get 42=some (.int .i64 (e.kids.length:Int))) (h43:a.tm.get 43=some (.int .i64 (j:Int))):
  Tw a41 b (tcall F O (N+1)) (N+1) (fun ex a' σ'=>ex=.normal∧a'.df=[]∧OutS σ' po (ol++freeC (if j+1=e.kids.length then innerB bd e else bd) e.kids[j])∧Frm σ σ' po∧a'.tm.get 1=some bv∧a'.tm.get 2=some (.ptr po 0)∧a'.tm.get 3=some (.bx 0 (encTm e) 28)∧a'.tm.get 6=some (.int .i64 (manyI e))∧
   a'.tm.get 41=some (.sl .fz (e.kids.map encTm))∧a'.tm.get 42=some (.int .i64 (e.kids.length:Int))∧a'.tm.get 43=some (.int .i64 (j:Int))) [] (tcode a41 b (tcall F O (N+1)) (N+1) kd41 a σ):=by
 obtain ⟨tm,df,clk⟩:=a
 simp only at hdf h1 h2 h3 h6 h41 h42 h43
 subst hdf
 have hlen:=he.len
 unfold maxLen at hlen
 have hw1:IntKind.i64.wrap ((e.kids.length:Int) - 1)=(e.kids.length:Int) - 1:=by rw [wrap_in]<;>omega
 have hml:=manyI_lo e
 have hown:=hb.own
 have hgiv:=hb.give
 have h3':=h3
 rw [encTm_def] at h3
 generalize hkid:e.kids[j]=kid at ih
 have hkd:encTm kid=[.int .i64 kid.kind,.int .i64 kid.n,.int .i64 kid.m,.int .i64 kid.val.kind,.int .i64 kid.val.n,.sl .fz (kid.val.list.map encV),.sl .fz (kid.odds.map encI),.sl .fz (kid.kids.map encTm)]:=encTm_def kid
 by_cases hlast:j+1=e.kids.length
 case neg=>
  rw [if_neg hlast]
  obtain ⟨σ'',hc,hO,hF⟩:=ih bv bd σ hb ho (by omega)
  have hne:¬(j:Int)=(e.kids.length:Int) - 1:=by omega
  rw [hkd] at hc
  by_cases hm:0<manyI e
  ·have hints:=hb.ints
   rcases hints with _|_|_
   all_goals simp [kd41,in41,h1,h2,h3,h6,h41,h42,h43,hj,hkid,hkd,hm,hw1,hne,hc,undT,hO,hF,encTm_def e]
  ·have hints:=hb.ints
   rcases hints with _|_|_
   all_goals simp [kd41,in41,h1,h2,h3,h6,h41,h42,h43,hj,hkid,hkd,hm,hw1,hne,hc,undT,hO,hF,encTm_def e]
 ·rw [if_pos hlast]
  by_cases hm:0<manyI e
  case neg=>
   have e0:innerB bd e=bd:=by
    unfold innerB
    rw [show (manyI e).toNat=0 by omega]
    simp [slotsB]
   rw [e0]
   obtain ⟨σ'',hc,hO,hF⟩:=ih bv bd σ hb ho (by omega)
   rw [hkd] at hc
   have hints:=hb.ints
   rcases hints with _|_|_
   all_goals simp [kd41,in41,h1,h2,h3,h6,h41,h42,h43,hj,hkid,hkd,hm,hw1,hc,undT,hO,hF,encTm_def e]
  have hjl:((j:Int)=(e.kids.length:Int) - 1)=True:=eq_true (by omega)
  obtain ⟨mk,hmk⟩:∃mk:Nat,manyI e=(mk:Int):=⟨(manyI e).toNat,by omega⟩
  have hin:innerB bd e=bd++slotsB e.n mk:=by unfold innerB;rw [hmk,Int.toNat_natCast]
  rw [hin]
  rw [hmk] at h6 hm hml ⊢
  have hm':0<mk:=by omega
  have hsl:=slotsB_len e.n mk
  have hbl2:(bd++slotsB e.n mk).length≤bd.length+4:=by rw [List.length_append];omega
  have fin:∀(a':TAct) (σ'':Sto) (s8:Nat),a'.df=[]→Grn σ σ''→(∃v,BV σ.length σ'' v (bd++slotsB e.n mk)∧a'.tm.get 9=some v)→a'.tm.get 1=some bv→a'.tm.get 2=some (.ptr po 0)→a'.tm.get 3=some (.bx 0 (encTm e) 28)→a'.tm.get 6=some (.int .i64 (mk:Int))→a'.tm.get 8=some (.bx s8 (encTm kid) 28)→
    a'.tm.get 41=some (.sl .fz (e.kids.map encTm))→a'.tm.get 42=some (.int .i64 (e.kids.length:Int))→a'.tm.get 43=some (.int .i64 (j:Int))→
    Tw a41 b (tcall F O (N+1)) (N+1) (fun ex a' σ'=>ex=.normal∧a'.df=[]∧OutS σ' po (ol++freeC (bd++slotsB e.n mk) kid)∧Frm σ σ' po∧a'.tm.get 1=some bv∧a'.tm.get 2=some (.ptr po 0)∧a'.tm.get 3=some (.bx 0 (encTm e) 28)∧a'.tm.get 6=some (.int .i64 (mk:Int))∧
     a'.tm.get 41=some (.sl .fz (e.kids.map encTm))∧a'.tm.get 42=some (.int .i64 (e.kids.length:Int))∧a'.tm.get 43=some (.int .i64 (j:Int))) [] (tcode a41 b (tcall F O (N+1)) (N+1) (.region [⟨(some 80),.loadN 8 (.tmp 8),none⟩,⟨(some 81),.move (.tmp 9),none⟩,⟨(some 82),.move (.tmp 2),none⟩,⟨(some 83),.call 74 [(.tmp 80),(.tmp 81),(.tmp 82)],none⟩]) a' σ''):=by
   rintro ⟨tm,df,clk⟩ σ'' s8 rfl hg ⟨v,hbv,h9⟩ h1 h2 h3 h6 h8 h41 h42 h43
   simp only at h9 h1 h2 h3 h6 h8 h41 h42 h43
   obtain ⟨σ3,hc,hO,hF⟩:=ih (frz v) _ σ'' (hbv.bdv ho hg) (ho.grn hg) hbl2
   have hF2:=(hg.frm ho.lt).trans hF
   rw [hkd] at hc h8
   generalize bd++slotsB e.n mk=L at hbv hc hO
   rcases hbv with _|_|_
   all_goals simp [h1,h2,h3,h6,h8,h9,h41,h42,h43,hkd]
   all_goals simp only [frz] at hc
   all_goals simp [hc,hO,hF2,h1,h2,h3,h6,h41,h42,h43]
  by_cases hbn:bd=[]
  ·have hv:bv=.sl .nl []:=by
    rcases hb.ne with h|h
    ·exact h
    ·exact absurd hbn h
   have hcl:=cloneN_t (O:=O) h67 N b σ
   subst hv
   simp [kd41,in41,h1,h2,h3,h6,h41,h42,h43,hj,hkid,hkd,hm,hm',hw1,hjl,hcl,undT]
   apply tw_bind
   ·apply lp_t (N:=N+1) (σ0:=σ) e he mk (by omega) (by omega)
    ·exact Grn.refl σ
    ·show BV σ.length σ (.sl .nl []) bd
     rw [hbn];exact .nl
    ·exact hbl
    ·rfl
    ·simp [h1];rfl
    ·simp [h2];rfl
    ·simp [encTm_def e,h3]
    ·simp [h6];rfl
    ·simp;rfl
    ·simp [h41];rfl
    ·simp [h42];rfl
    ·simp [h43];rfl
    ·simp
    ·simp
    ·simp
   ·rintro ex a' σ' ⟨rfl,q0,q1,q2,q3,q4,q5,q6,q7,q8,q9,q10⟩
    exact fin a' σ' _ q0 q1 q2 q3 q4 q5 q6 (by rw [hkd];exact q7) q8 q9 q10
  ·have hcl:=clone_t (O:=O) h67 N b bv bd σ hb.ints hbn (by omega)
   have hgr:Grn σ (σ++[some (⟨0,.cells [] 3⟩:TObj)]++[some ⟨0,.cells (encZT bd) 3⟩]):=(Grn.app σ _).trans (Grn.app _ _)
   have hbv:BV σ.length (σ++[some (⟨0,.cells [] 3⟩:TObj)]++[some ⟨0,.cells (encZT bd) 3⟩]) (.ref (σ.length+1) 0 1 bd.length (capU+1)) bd:=by
    refine .ref bd (by omega) hbn ?_ (ver:=0)
    have:=at_new (σ++[some (⟨0,.cells [] 3⟩:TObj)]) ⟨0,.cells (encZT bd) 3⟩
    rwa [List.length_append] at this
   generalize σ++[some (⟨0,.cells [] 3⟩:TObj)]++[some ⟨0,.cells (encZT bd) 3⟩]=σ1 at hcl hgr hbv
   have hints:=hb.ints
   rcases hints with _|_|_
   ·exact absurd rfl hbn
   all_goals simp [kd41,in41,h1,h2,h3,h6,h41,h42,h43,hj,hkid,hkd,hm,hm',hw1,hjl,hcl,undT]
   ·apply tw_bind
    ·apply lp_t (N:=N+1) (σ0:=σ) e he mk (by omega) (by omega)
     ·exact hgr
     ·exact hbv
     ·exact hbl
     ·rfl
     ·simp [h1];rfl
     ·simp [h2];rfl
     ·simp [encTm_def e,h3]
     ·simp [h6];rfl
     ·simp;rfl
     ·simp [h41];rfl
     ·simp [h42];rfl
     ·simp [h43];rfl
     ·simp
     ·simp
     ·simp
    ·rintro ex a' σ' ⟨rfl,q0,q1,q2,q3,q4,q5,q6,q7,q8,q9,q10⟩
     exact fin a' σ' _ q0 q1 q2 q3 q4 q5 q6 (by rw [hkd];exact q7) q8 q9 q10
   ·apply tw_bind
    ·apply lp_t (N:=N+1) (σ0:=σ) e he mk (by omega) (by omega)
     ·exact hgr
     ·exact hbv
     ·exact hbl
     ·rfl
     ·simp [h1];rfl
     ·simp [h2];rfl
     ·simp [encTm_def e,h3]
     ·simp [h6];rfl
     ·simp;rfl
     ·simp [h41];rfl
     ·simp [h42];rfl
     ·simp [h43];rfl
     ·simp
     ·simp
     ·simp
    ·rintro ex a' σ' ⟨rfl,q0,q1,q2,q3,q4,q5,q6,q7,q8,q9,q10⟩
     exact fin a' σ' _ q0 q1 q2 q3 q4 q5 q6 (by rw [hkd];exact q7) q8 q9 q10
end Go.Xe.YtlgknghehgmodaaGreatDoor
end
section
namespace Go.Xe.YtlgknghehgmodaaGreatDoor
open Go Go.Xe Go.Xt
variable {F:FuncId→Option TFun} {O:FuncId→List TV→Option TV}
theorem free41_t (h41:F 74=some f41) (h66:F 32=some f66) (h67:F 81=some f67) (h111:F 72=some f111):∀(M N:Nat) (e:PTerm) (b:Nat) (σ:Sto) (po:Nat) (ol:List Int) (bv:TV) (bd:List Int),szTm e≤M→M+100010≤N→OkTm e→BdV σ po bv bd→OutS σ po ol→b≤po→
  bd.length+4*cntT e≤100000→ol.length+cntT e≤100000→
  ∃σ',tcall F O N b 74 [.agg (encTm e),bv,.ptr po 0] σ=some (.ret (.tuple []),σ')∧OutS σ' po (ol++freeC bd e)∧Frm σ σ' po
 |0,N,e,b,σ,po,ol,bv,bd,h,_,_,_,_,_,_,_=>by rw [szTm_def] at h;omega
 |M+1,N,e,b,σ,po,ol,bv,bd,h,hN,he,hb,ho,hbp,hbl,hol=>by
  have ih:=free41_t h41 h66 h67 h111 M
  have hk:=szTms_len e.kids
  have hs:=szTm_def e
  have hcd:=cntT_def e
  have hfd:=freeC_def bd e
  obtain ⟨N,rfl⟩:∃n,N=n+3:=⟨N - 3,by omega⟩
  suffices hh:∃e' σ',tcall F O (N+2+1) b 74 [.agg (encTm e),bv,.ptr po 0] σ=some (e',σ')∧e'=.ret (.tuple [])∧OutS σ' po (ol++freeC bd e)∧Frm σ σ' po by
   obtain ⟨e',σ',q1,rfl,q2⟩:=hh
   exact ⟨σ',q1,q2⟩
  refine tcall_of h41 ?_
  simp [x41_cut,encTm_def e]
  apply tw_bind
  ·apply hd_t (N:=N) h66 h111 e _ σ po ol bv bd hb ho hbp
   ·omega
   ·unfold maxLen;omega
   ·omega
   ·rfl
   ·simp
   ·simp
   ·simp [encTm_def e]
  rintro ex ⟨tm,df,clk⟩ σ1 ⟨rfl,ho1,hf1,hdf,h1,h2,h3⟩
  simp only at hdf h1 h2 h3
  subst hdf
  simp
  apply tw_bind
  ·apply min_t e
   ·rfl
   ·simp [h1];rfl
   ·simp [h2];rfl
   ·simp [h3]
   ·simp
  rintro ex ⟨tm,df,clk⟩ σ2 ⟨rfl,rfl,hdf,h1,h2,h3,h6⟩
  simp only at hdf h1 h2 h3 h6
  subst hdf
  have h3e:=h3
  rw [encTm_def] at h3e
  simp [h3e]
  generalize hL1:ol++(if e.kind=2∧e.n∉bd then [e.n] else [])=L1 at ho1
  have hl1:L1.length≤ol.length+1:=by rw [←hL1];split<;>simp
  have htot:ol++freeC bd e=L1++freeCs bd (innerB bd e) e.kids:=by rw [hfd,←List.append_assoc,hL1]
  rw [htot]
  have hinl:(innerB bd e).length≤bd.length+4:=by
   have:=slotsB_len e.n (manyI e).toNat
   have:=manyI_lo e
   unfold innerB;rw [List.length_append];omega
  obtain ⟨I,hI⟩:∃I:Nat→TAct→Sto→Prop,I=(fun j a' σ'=>a'.df=[]∧(∃L,OutS σ' po L∧L++freeCs bd (innerB bd e) (e.kids.drop j)=L1++freeCs bd (innerB bd e) e.kids∧L.length+cntTs (e.kids.drop j)≤100000)∧Frm σ σ' po∧a'.tm.get 1=some bv∧a'.tm.get 2=some (.ptr po 0)∧a'.tm.get 3=some (.bx 0 (encTm e) 28)∧a'.tm.get 6=some (.int .i64 (manyI e))∧
   a'.tm.get 41=some (.sl .fz (e.kids.map encTm))∧a'.tm.get 42=some (.int .i64 (e.kids.length:Int))∧a'.tm.get 43=some (.int .i64 (j:Int))):=⟨_,rfl⟩
  obtain ⟨R,hR⟩:∃R:TEx→TAct→Sto→Prop,R=(fun ex a' σ'=>ex=.exit 1∧a'.df=[]∧OutS σ' po (L1++freeCs bd (innerB bd e) e.kids)∧Frm σ σ' po):=⟨_,rfl⟩
  refine tw_loop I e.kids.length R ?_ (by omega) ?_ ?_ ?_
  ·rw [hI]
   exact ⟨rfl,⟨L1,ho1,by rw [List.drop_zero],by rw [List.drop_zero];omega⟩,hf1,by simp [h1],by simp [h2],by simp [h3],by simp [h6],by simp,by simp,by simp⟩
  ·rw [hI]
   rintro j ⟨tm,df,clk⟩ σ' hj ⟨rfl,⟨L,hO,hLL,hln⟩,hF,h1,h2,h3,h6,h41,h42,h43⟩
   rw [←hI]
   have hw:=wrapJ hj he.len
   rw [freeCs_drop hj,←List.append_assoc] at hLL
   have hmem:=List.getElem_mem hj
   have hszk:=szTms_mem _ _ hmem
   have hck:=cntTs_mem _ _ hmem
   rw [cntTs_drop hj] at hln
   simp [h42,h43,hj]
   apply tw_bind
   ·apply kd_t (N:=N+1) h67 e he (by omega) _ σ' po L bv bd (hb.frm hF) hO (by omega) j hj
    ·intro v bd' σ3 hb3 ho3 hl3
     exact ih (N+2) e.kids[j] b σ3 po L v bd' (by omega) (by omega) (he.sub _ hmem) hb3 ho3 hbp (by omega) (by omega)
    ·rfl
    ·simp [h1]
    ·simp [h2]
    ·simp [h3]
    ·simp [h6]
    ·simp [h41]
    ·simp [h42]
    ·simp [h43]
   rintro ex ⟨tm,df,clk⟩ σ4 ⟨rfl,hdf,hO4,hF4,h1,h2,h3,h6,h41,h42,h43⟩
   simp only at hdf h1 h2 h3 h6 h41 h42 h43
   subst hdf
   simp [h43,hw]
   rw [hI]
   have hfl:(freeC (if j+1=e.kids.length then innerB bd e else bd) e.kids[j]).length≤cntT e.kids[j]:=freeC_len _ _
   exact ⟨rfl,⟨_,hO4,hLL,by rw [List.length_append];omega⟩,hF.trans hF4,by simp [h1],by simp [h2],by simp [h3],by simp [h6],by simp [h41],by simp [h42],by simp⟩
  ·rw [hI]
   rintro ⟨tm,df,clk⟩ σ' ⟨rfl,⟨L,hO,hLL,hln⟩,hF,h1,h2,h3,h6,h41,h42,h43⟩
   rw [List.drop_of_length_le (Nat.le_refl _)] at hLL
   simp only [freeCs,List.append_nil] at hLL
   subst hLL
   simp [h42,h43]
   rw [hR]
   exact ⟨rfl,rfl,hO,hF⟩
  ·rw [hR]
   rintro ex ⟨tm,df,clk⟩ σ' ⟨rfl,rfl,hO,hF⟩
   simp
   exact ⟨hO,hF⟩
end Go.Xe.YtlgknghehgmodaaGreatDoor
end
section
namespace Go.Xe.YtlgknghehgmodaaGreatDoor
open Go Go.Xe Go.Xt
variable {F:FuncId→Option TFun} {O:FuncId→List TV→Option TV}
theorem intsTV_enc:∀l:List Int,intsTV (encZT l)=some l
 |[]=>rfl
 |x::l=>by
  have:=intsTV_enc l
  unfold encZT at this
  simp only [encZT,List.map_cons,intsTV,this]
theorem putAt_all {vs l:List TV} (h:l.length=vs.length):putAt vs 0 l=l:=by
 unfold putAt
 simp [h]
theorem row_t {k ver e c:Nat} {σ:Sto} (mk:Mk) (l:List Int) (hne:l≠[]) (hl:l.length≤1073741824) (hk:σ.at k=some ⟨ver,.cells (encZT l) e⟩):
  rowT mk [.ref k 0 1 l.length c] σ=some (.ret (rowRetT mk k 0 1 l c),σ.set k (some ⟨ver+1,.cells (encZT (rowH mk l)) e⟩)):=by
 have h0:¬l.length=0:=fun e=>hne (List.length_eq_zero_iff.1 e)
 have hlen:(encZT l).length=l.length:=encZT_len l
 have ht:(encZT l).take l.length=encZT l:=List.take_of_length_le (by omega)
 have hp:putAt (encZT l) 0 (encZT (rowH mk l))=encZT (rowH mk l):=putAt_all (by rw [encZT_len,encZT_len,rowH_len])
 have hi:=intsTV_enc l
 unfold rowT
 simp only [beqT,bleT,decide_eq_false h0,hk,List.drop_zero,ht,hi,Nat.zero_add,hlen,decide_eq_true (Nat.le_refl _),decide_eq_true hl,Bool.and_self,hp]
theorem compact_split (l:List Int):∃tl,rowH .compact l=compactZ l++tl:=⟨_,rfl⟩
structure RowO (F:FuncId→Option TFun) (O:FuncId→List TV→Option TV):Prop where
 f42:F 75=none
 f43:F 76=none
 o42:∀args,O 75 args=some (.agg [])
 o43:∀args,O 76 args=some (.agg [.bool true])
theorem sort_t (R:RowO F O) {k ver e c:Nat} {σ:Sto} (N b:Nat) (l:List Int) (hne:l≠[]) (hl:l.length≤1073741824) (hk:σ.at k=some ⟨ver,.cells (encZT l) e⟩):
  tcall F O (N+1) b 75 [.ref k 0 1 l.length c] σ=some (.ret (.tuple []),σ.set k (some ⟨ver+1,.cells (encZT (sortZ l)) e⟩)):=by
 simp only [tcall,R.f42,R.o42,tEnd,markT]
 exact row_t .sort l hne hl hk
theorem sort_nil_t (R:RowO F O) (σ:Sto) (N b:Nat):tcall F O (N+1) b 75 [.sl .nl []] σ=some (.ret (.tuple []),σ):=by
 simp only [tcall,R.f42,R.o42,tEnd,markT];rfl
theorem compact_t (R:RowO F O) {k ver e c:Nat} {σ:Sto} (N b:Nat) (l:List Int) (hne:l≠[]) (hl:l.length≤1073741824) (hk:σ.at k=some ⟨ver,.cells (encZT l) e⟩):
  tcall F O (N+1) b 76 [.ref k 0 1 l.length c] σ=some (.ret (.ref k 0 1 (compactZ l).length c),σ.set k (some ⟨ver+1,.cells (encZT (rowH .compact l)) e⟩)):=by
 simp only [tcall,R.f43,R.o43,tEnd,markT]
 exact row_t .compact l hne hl hk
theorem compact_nil_t (R:RowO F O) (σ:Sto) (N b:Nat):tcall F O (N+1) b 76 [.sl .nl []] σ=some (.ret (.sl .nl []),σ):=by
 simp only [tcall,R.f43,R.o43,tEnd,markT];rfl
theorem sortZ_len (l:List Int):(sortZ l).length=l.length:=by unfold sortZ;simp
theorem free19_t (h19:F 36=some f19) (h41:F 74=some f41) (h66:F 32=some f66) (h67:F 81=some f67) (h111:F 72=some f111) (R:RowO F O) (N:Nat) (e:PTerm) (b:Nat) (σ:Sto) (hN:szTm e+100010≤N) (he:OkTm e) (hc:cntT e≤3000) (hbσ:b≤σ.length):
  ∃v σ',tcall F O (N+1) b 36 [.agg (encTm e)] σ=some (.ret v,σ')∧IntsV σ' v (compactZ (sortZ (freeC [] e)))∧give v=some v∧Grn σ σ':=by
 suffices hh:∃e' σ',tcall F O (N+1) b 36 [.agg (encTm e)] σ=some (e',σ')∧∃v,e'=.ret v∧IntsV σ' v (compactZ (sortZ (freeC [] e)))∧give v=some v∧Grn σ σ' by
  obtain ⟨e',σ',q1,v,rfl,q2⟩:=hh
  exact ⟨v,σ',q1,q2⟩
 refine tcall_of h19 ?_
 obtain ⟨σ0,hσ0⟩:∃σ0,σ0=σ++[some (⟨0,.cells [.sl .nl []] 25⟩:TObj)]:=⟨_,rfl⟩
 have hpo:σ0.at σ.length=some ⟨0,.cells [.sl .nl []] 25⟩:=by rw [hσ0];exact at_new _ _
 have hg0:Grn σ σ0:=by rw [hσ0];exact Grn.app _ _
 obtain ⟨M,rfl⟩:∃M,N=M+1:=⟨N - 1,by omega⟩
 obtain ⟨σ1,hc1,⟨ver,ov,hp1,hov⟩,hF⟩:=free41_t (O:=O) h41 h66 h67 h111 (szTm e) (M+1) e b σ0 σ.length [] (.sl .nl []) [] (Nat.le_refl _) hN he (nl_bdv _ _) ⟨0,_,hpo,.nl⟩ hbσ (by simp;omega) (by simp;omega)
 rw [List.nil_append] at hov
 have hlen:=freeC_len [] e
 generalize freeC [] e=l at hov hlen ⊢
 have hg1:Grn σ σ1:=by
  refine ⟨Nat.le_trans hg0.len hF.len,fun k hk=> ?_⟩
  rw [hF.same k (Nat.lt_of_lt_of_le hk hg0.len) (by omega) ?_,hg0.same k hk]
  unfold rowOf
  rw [hpo]
  intro h;cases h
 have hge:∀k,rowOf σ1 σ.length=some k→σ.length≤k:=fun k hr=>by
  rcases hF.row k hr with h|h
  ·unfold rowOf at h;rw [hpo] at h;cases h
  ·exact Nat.le_trans hg0.len h
 rw [encTm_def e] at hc1
 rcases hov with _|⟨_,hne,hk⟩
 ·have h1:=sort_nil_t R σ1 M b
  have h2:=compact_nil_t R σ1 M b
  simp [x19,encTm_def e,←hσ0,hc1,hp1,h1,h2]
  have e0:compactZ (sortZ [])=[]:=by
   have:sortZ []=[]:=List.length_eq_zero_iff.1 (sortZ_len [])
   rw [this];unfold compactZ;rfl
  rw [e0]
  exact ⟨.nl,hg1⟩
 ·rename_i k vk
  have hkp:k≠σ.length:=by
   rintro rfl
   rw [hp1] at hk
   simp at hk
  have hkl:=hge k (by unfold rowOf;rw [hp1])
  have hl2:l.length≤1073741824:=by omega
  have h1:=sort_t (c:=capU+1) R M b l hne hl2 hk
  have hs0:sortZ l≠[]:=fun e=>hne (List.length_eq_zero_iff.1 (by rw [←sortZ_len,e];rfl))
  have hk2:Sto.at (σ1.set k (some ⟨vk+1,.cells (encZT (sortZ l)) 3⟩)) k=some ⟨vk+1,.cells (encZT (sortZ l)) 3⟩:=by
   simp only [Sto.at];rw [List.getElem?_set_self (Sto.lt hk)]
  have h2:=compact_t (c:=capU+1) R M b (sortZ l) hs0 (by rw [sortZ_len];exact hl2) hk2
  rw [sortZ_len] at h2
  have hp2:Sto.at (σ1.set k (some ⟨vk+1,.cells (encZT (sortZ l)) 3⟩)) σ.length=_:=(at_ne hkp).trans hp1
  obtain ⟨tl,htl⟩:=compact_split (sortZ l)
  rw [htl] at h2
  simp [x19,encTm_def e,←hσ0,hc1,hp1,h1,h2,hp2]
  refine ⟨.ref _ tl ?_ (ver:=vk+1+1) (e:=3),⟨by simpa using hg1.len,fun j hj=> ?_⟩⟩
  ·simp only [Sto.at];rw [List.getElem?_set_self (Sto.lt hk)]
  ·rw [at_ne (by omega)];exact hg1.same j hj
end Go.Xe.YtlgknghehgmodaaGreatDoor
end
section
namespace Go.Xe.YtlgknghehgmodaaGreatDoor
open Go Go.Xe Go.Xt
variable {F:FuncId→Option TFun} {O:FuncId→List TV→Option TV}
theorem binds_t (h45:F 78=some f45) (N:Nat) (t:PTerm) (b:Nat) (σ:Sto):tcall F O (N+1) b 78 [.agg (encTm t)] σ=some (.ret (.int .i64 (manyI t)),σ):=by
 refine tcall_pure h45 ?_
 unfold manyI
 by_cases k9:t.kind=9
 ·rw [if_neg (by omega),if_pos k9];simp [x45,undT,encTm_def,k9]
 by_cases k7:t.kind=7
 case neg=>rw [if_neg k7,if_neg k9];simp [x45,undT,encTm_def,k9,k7]
 rw [if_pos k7]
 by_cases h1:t.m<0
 ·rw [show min (max t.m 0) 4=0 by omega];simp [x45,undT,encTm_def,k7,h1]
 by_cases h2:4<t.m
 ·rw [show min (max t.m 0) 4=4 by omega];simp [x45,undT,encTm_def,k7,h1,h2]
 ·rw [show min (max t.m 0) 4=t.m by omega];simp [x45,undT,encTm_def,k7,h1,h2]
theorem slots_stop {n:Int} {j:Nat} (h:9223372036854775807<n+(j:Int)):∀k,j≤k→slotsB n k=slotsB n j
 |0,hk=>by rw [show j=0 by omega]
 |k+1,hk=>by
  by_cases hj:j=k+1
  ·rw [hj]
  ·have:=slots_stop h k (by omega)
   simp only [slotsB]
   rw [if_neg (by omega),List.append_nil,this]
theorem slots_mono {n s:Int} {j k:Nat} (h:s∈slotsB n j) (hk:j≤k):s∈slotsB n k:=by
 induction k with
 |zero=>rw [show j=0 by omega] at h;exact h
 |succ k ih=>
  by_cases hj:j=k+1
  ·rw [hj] at h;exact h
  ·simp only [slotsB,List.mem_append]
   exact .inl (ih (by omega))
theorem among_t (h46:F 79=some f46) (N:Nat) (s n:Int) (hn:I64 n) (k:Nat) (hk:k≤4) (hN:5≤N) (b:Nat) (σ:Sto):
  tcall F O (N+1) b 79 [.int .i64 s,.int .i64 n,.int .i64 (k:Int)] σ=some (.ret (.bool (decide (s∈slotsB n k))),σ):=by
 refine tcall_pure h46 ?_
 simp [x46]
 obtain ⟨I,hI⟩:∃I:Nat→TAct→Sto→Prop,I=(fun j a σ'=>a.df=[]∧σ'=σ∧s∉slotsB n j∧a.tm.get 0=some (.int .i64 s)∧a.tm.get 1=some (.int .i64 n)∧a.tm.get 2=some (.int .i64 (k:Int))∧a.tm.get 7=some (.int .i64 (j:Int))):=⟨_,rfl⟩
 obtain ⟨R,hR⟩:∃R:TEx→TAct→Sto→Prop,R=(fun ex a σ'=>a.df=[]∧σ'=σ∧(ex=.exit 0∧s∉slotsB n k∨ex=.ret∧a.tm.get 6=some (.bool (decide (s∈slotsB n k))))):=⟨_,rfl⟩
 refine tw_loop I k R ?_ (by omega) ?_ ?_ ?_
 ·rw [hI]
  exact ⟨rfl,rfl,by simp [slotsB],by simp,by simp,by simp,by simp⟩
 ·rw [hI]
  rintro j ⟨tm,df,clk⟩ σ' hj ⟨rfl,rfl,hd,h0,h1,h2,h7⟩
  rw [←hI]
  have hw:=wrapJ (n:=4) (j:=j) (by omega) (by unfold maxLen;omega)
  have hw2:IntKind.i64.wrap (9223372036854775807 - (j:Int))=9223372036854775807 - (j:Int):=by rw [wrap_in]<;>omega
  unfold I64 at hn
  by_cases ho:9223372036854775807 - (j:Int)<n
  ·simp [h0,h1,h2,h7,hj,hw2,ho]
   rw [hR]
   have e1:=slots_stop (n:=n) (j:=j) (by omega) k (by omega)
   exact ⟨rfl,rfl,.inr ⟨rfl,by rw [e1,decide_eq_false hd];simp⟩⟩
  have hw3:IntKind.i64.wrap (n+(j:Int))=n+(j:Int):=by rw [wrap_in]<;>omega
  have e2:slotsB n (j+1)=slotsB n j++[n+(j:Int)]:=by simp only [slotsB];rw [if_pos (by omega)]
  by_cases he:n+(j:Int)=s
  ·have heq:(n+(j:Int)=s)=True:=eq_true he
   simp [h0,h1,h2,h7,hj,hw2,ho,hw3,heq]
   rw [hR]
   have hm:s∈slotsB n k:=slots_mono (j:=j+1) (by rw [e2];simp [he]) (by omega)
   exact ⟨rfl,rfl,.inr ⟨rfl,by rw [decide_eq_true hm];simp⟩⟩
  ·simp [h0,h1,h2,h7,hj,hw2,ho,hw3,he,hw]
   rw [hI]
   refine ⟨rfl,rfl,?_,by simp [h0],by simp [h1],by simp [h2],by simp⟩
   rw [e2]
   simp only [List.mem_append,List.mem_singleton]
   rintro (h|h)
   ·exact hd h
   ·exact he h.symm
 ·rw [hI]
  rintro ⟨tm,df,clk⟩ σ' ⟨rfl,rfl,hd,h0,h1,h2,h7⟩
  simp [h2,h7]
  rw [hR]
  exact ⟨rfl,rfl,.inl ⟨rfl,hd⟩⟩
 ·rw [hR]
  rintro ex ⟨tm,df,clk⟩ σ' ⟨rfl,rfl,⟨rfl,h⟩|⟨rfl,h⟩⟩
  ·simp [h]
  ·simp [h]
theorem belowss_snoc (b:Nat) (l:List Int) (n:Int):below.belowss b (l.map encI++[[.int .i64 n]])=true:=by
 have:=below_ints b (l++[n])
 rwa [List.map_append] at this
def putI (n:Int):List Int→List Int
 |[]=>[n]
 |x::l=>if n≤x then (if n<x then n::x::l else x::l) else x::putI n l
theorem putI_len (n:Int):∀l,(putI n l).length≤l.length+1
 |[]=>Nat.le_refl _
 |x::l=>by
  have:=putI_len n l
  simp only [putI]
  split
  ·split<;>simp
  ·simp;omega
def putR (d:Bool) (n:Int) (l:List Int):List Int:=match d with|true=>l|false=>putI n l
theorem put_t (h44:F 77=some f44) (N:Nat) (va:TV) (l:List Int) (n:Int) (b:Nat) (σ:Sto) (hv:va=.sl .fz (l.map encI)) (hl:l.length≤1000000) (hN:l.length<N):
  tcall F O (N+1) b 77 [va,.int .i64 n] σ=some (.ret (.sl .fz ((putI n l).map encI)),σ):=by
 refine tcall_pure h44 ?_
 have hva:=hv
 simp [x44,hva]
 obtain ⟨I,hI⟩:∃I:Nat→TAct→Sto→Prop,I=(fun j a σ'=>a.df=[]∧σ'=σ∧(∃(L:List Int) (v:TV) (d:Bool),BldI L v∧L.length≤j+1∧(d=false→L.length≤j)∧L++putR d n (l.drop j)=putI n l∧a.tm.get 5=some v∧a.tm.get 6=some (.bool d))∧a.tm.get 0=some va∧a.tm.get 1=some (.int .i64 n)∧a.tm.get 7=some (.int .i64 (j:Int))):=⟨_,rfl⟩
 obtain ⟨R,hR⟩:∃R:TEx→TAct→Sto→Prop,R=(fun ex a σ'=>ex=.exit 0∧a.df=[]∧σ'=σ∧(∃(L:List Int) (v:TV) (d:Bool),BldI L v∧L.length≤l.length+1∧L++putR d n []=putI n l∧a.tm.get 5=some v∧a.tm.get 6=some (.bool d))∧a.tm.get 1=some (.int .i64 n)):=⟨_,rfl⟩
 refine tw_loop I l.length R ?_ hN ?_ ?_ ?_
 ·rw [hI]
  exact ⟨rfl,rfl,⟨[],_,false,.nl,by simp,fun _=>by simp,rfl,by simp,by simp⟩,by simp [hva],by simp,by simp⟩
 ·rw [hI]
  rintro j ⟨tm,df,clk⟩ σ' hj ⟨rfl,rfl,⟨L,v,d,hB,hLl,hLf,hLL,h5,h6⟩,h0,h1,h7⟩
  rw [←hI]
  have hw:=wrapJ hj (by unfold maxLen;omega:l.length≤maxLen)
  rw [List.drop_eq_getElem_cons hj] at hLL
  have hva2:=hva
  rw [hva] at h0
  skip
  have hl1:L.length+1≤1073741824:=by omega
  have hl2:L.length+1+1≤1073741824:=by omega
  cases d with
  |true=>
   have hLL:(L++[l[j]])++putR true n (l.drop (j+1))=putI n l:=by rw [←hLL];simp only [putR];rw [List.append_assoc];rfl
   rcases hB with _|_
   ·simp [h0,h1,h5,h6,h7,hj,hw,undT,encI]
    rw [hI]
    exact ⟨rfl,rfl,⟨_,_,true,.own _,by simp only [List.length_append,List.length_cons,List.length_nil] at*;omega,fun h=>(by cases h),hLL,by simp [encI],by simp [h6]⟩,by simp [h0,hva],by simp [h1],by simp⟩
   ·simp [h0,h1,h5,h6,h7,hj,hw,undT,encI,hl1]
    rw [hI]
    exact ⟨rfl,rfl,⟨_,_,true,.own _,by simp only [List.length_append,List.length_cons,List.length_nil] at*;omega,fun h=>(by cases h),hLL,by simp [encI],by simp [h6]⟩,by simp [h0,hva],by simp [h1],by simp⟩
  |false=>
   simp only [putR,putI] at hLL
   by_cases hle:n≤l[j]
   ·rw [if_pos hle] at hLL
    by_cases hlt:n<l[j]
    ·rw [if_pos hlt] at hLL
     have hLL:(L++[n]++[l[j]])++putR true n (l.drop (j+1))=putI n l:=by rw [←hLL];simp only [putR];rw [List.append_assoc,List.append_assoc];rfl
     have hl0:L.length≤j:=hLf rfl
     rcases hB with _|_
     ·simp [h0,h1,h5,h6,h7,hj,hw,undT,encI,hle,hlt]
      rw [hI]
      exact ⟨rfl,rfl,⟨_,_,true,.own _,by simp only [List.length_append,List.length_cons,List.length_nil] at*;omega,fun h=>(by cases h),hLL,by simp [encI],by simp⟩,by simp [h0,hva],by simp [h1],by simp⟩
     ·simp [h0,h1,h5,h6,h7,hj,hw,undT,encI,hle,hlt,hl1,hl2]
      rw [hI]
      exact ⟨rfl,rfl,⟨_,_,true,.own _,by simp only [List.length_append,List.length_cons,List.length_nil] at*;omega,fun h=>(by cases h),hLL,by simp [encI],by simp⟩,by simp [h0,hva],by simp [h1],by simp⟩
    ·rw [if_neg hlt] at hLL
     have hLL:(L++[l[j]])++putR true n (l.drop (j+1))=putI n l:=by rw [←hLL];simp only [putR];rw [List.append_assoc];rfl
     rcases hB with _|_
     ·simp [h0,h1,h5,h6,h7,hj,hw,undT,encI,hle,hlt]
      rw [hI]
      exact ⟨rfl,rfl,⟨_,_,true,.own _,by simp only [List.length_append,List.length_cons,List.length_nil] at*;omega,fun h=>(by cases h),hLL,by simp [encI],by simp⟩,by simp [h0,hva],by simp [h1],by simp⟩
     ·simp [h0,h1,h5,h6,h7,hj,hw,undT,encI,hle,hlt,hl1]
      rw [hI]
      exact ⟨rfl,rfl,⟨_,_,true,.own _,by simp only [List.length_append,List.length_cons,List.length_nil] at*;omega,fun h=>(by cases h),hLL,by simp [encI],by simp⟩,by simp [h0,hva],by simp [h1],by simp⟩
   ·rw [if_neg hle] at hLL
    have hLL:(L++[l[j]])++putR false n (l.drop (j+1))=putI n l:=by rw [←hLL];simp only [putR];rw [List.append_assoc];rfl
    rcases hB with _|_
    ·simp [h0,h1,h5,h6,h7,hj,hw,undT,encI,hle]
     rw [hI]
     exact ⟨rfl,rfl,⟨_,_,false,.own _,by simp only [List.length_append,List.length_cons,List.length_nil] at*;omega,fun _=>by have:=hLf rfl;simp only [List.length_append,List.length_cons,List.length_nil] at*;omega,hLL,by simp [encI],by simp [h6]⟩,by simp [h0,hva],by simp [h1],by simp⟩
    ·simp [h0,h1,h5,h6,h7,hj,hw,undT,encI,hle,hl1]
     rw [hI]
     exact ⟨rfl,rfl,⟨_,_,false,.own _,by simp only [List.length_append,List.length_cons,List.length_nil] at*;omega,fun _=>by have:=hLf rfl;simp only [List.length_append,List.length_cons,List.length_nil] at*;omega,hLL,by simp [encI],by simp [h6]⟩,by simp [h0,hva],by simp [h1],by simp⟩
 ·rw [hI]
  rintro ⟨tm,df,clk⟩ σ' ⟨rfl,rfl,⟨L,v,d,hB,hLl,hLf,hLL,h5,h6⟩,h0,h1,h7⟩
  rw [List.drop_of_length_le (Nat.le_refl _)] at hLL
  rw [hva] at h0
  simp [h0,h1,h7]
  rw [hR]
  exact ⟨rfl,rfl,rfl,⟨L,v,d,hB,hLl,hLL,by simp [h5],by simp [h6]⟩,by simp [h1]⟩
 ·rw [hR]
  rintro ex ⟨tm,df,clk⟩ σ' ⟨rfl,rfl,rfl,⟨L,v,d,hB,hLl,hLL,h5,h6⟩,h1⟩
  have hl1:L.length+1≤1073741824:=by omega
  cases d with
  |true=>
   simp only [putR,List.append_nil] at hLL
   rw [←hLL]
   rcases hB with _|_
   ·simp [h5,h6]
   ·simp [h5,h6]
  |false=>
   simp only [putR,putI] at hLL
   rw [←hLL]
   rcases hB with _|_
   ·simp [h1,h5,h6,encI]
   ·simp [h1,h5,h6,encI,hl1,belowss_snoc]
end Go.Xe.YtlgknghehgmodaaGreatDoor
end
section
namespace Go.Xe.YtlgknghehgmodaaGreatDoor
open Go Go.Xe Go.Xt
variable {F:FuncId→Option TFun} {O:FuncId→List TV→Option TV}
theorem putN_t (h44:F 77=some f44) (N:Nat) (n:Int) (b:Nat) (σ:Sto) (hN:0<N):
  tcall F O (N+1) b 77 [.sl .nl [],.int .i64 n] σ=some (.ret (.sl .fz ([n].map encI)),σ):=by
 refine tcall_pure h44 ?_
 simp [x44]
 refine tw_loop (I:=fun j a σ'=>a.df=[]∧σ'=σ∧a.tm.get 0=some (.sl .nl [])∧a.tm.get 1=some (.int .i64 n)∧a.tm.get 5=some (.sl .nl [])∧a.tm.get 6=some (.bool false)∧a.tm.get 7=some (.int .i64 0)) 0
  (R:=fun ex a σ'=>ex=.exit 0∧a.df=[]∧σ'=σ∧a.tm.get 1=some (.int .i64 n)∧a.tm.get 5=some (.sl .nl [])∧a.tm.get 6=some (.bool false)) ?_ hN ?_ ?_ ?_
 ·simp
 ·intro j a σ' hj;omega
 ·rintro ⟨tm,df,clk⟩ σ' ⟨rfl,rfl,h0,h1,h5,h6,h7⟩
  simp [h0,h1,h5,h6,h7]
 ·rintro ex ⟨tm,df,clk⟩ σ' ⟨rfl,rfl,rfl,h1,h5,h6⟩
  simp [h1,h5,h6,encI]
inductive FzV:TV→List Int→Prop
 |nl:FzV (.sl .nl []) []
 |fz (l:List Int):FzV (.sl .fz (l.map encI)) l
theorem putV_t (h44:F 77=some f44) (N:Nat) (va:TV) (l:List Int) (n:Int) (b:Nat) (σ:Sto) (hv:FzV va l) (hl:l.length≤1000000) (hN:l.length<N):
  tcall F O (N+1) b 77 [va,.int .i64 n] σ=some (.ret (.sl .fz ((putI n l).map encI)),σ):=by
 cases hv with
 |nl=>exact putN_t h44 N n b σ (by omega)
 |fz l=>exact put_t h44 N _ l n b σ rfl hl hN
def addF (n:Int) (kk:Nat):List Int→List Int→List Int
 |out,[]=>out
 |out,s::l=>addF n kk (if s∈slotsB n kk then out else putI s out) l
def lastK (kk:Nat):List PTerm→Nat
 |[]=>kk
 |_::_=>0
mutual
def refF:PTerm→List Int
 |.mk k n m v o ks=>refFs n (manyI (.mk k n m v o ks)).toNat (if k=2 then [n] else []) ks
def refFs (n:Int) (kk:Nat) (out:List Int):List PTerm→List Int
 |[]=>out
 |t::l=>refFs n kk (addF n (lastK kk l) out (refF t)) l
end
theorem refF_def (t:PTerm):refF t=refFs t.n (manyI t).toNat (if t.kind=2 then [t.n] else []) t.kids:=by cases t;simp only [refF,PTerm.kind,PTerm.n,PTerm.kids];rfl
theorem refFs_drop {n:Int} {kk:Nat} {out:List Int} {l:List PTerm} {j:Nat} (hj:j<l.length):refFs n kk out (l.drop j)=refFs n kk (addF n (if j+1=l.length then kk else 0) out (refF l[j])) (l.drop (j+1)):=by
 rw [List.drop_eq_getElem_cons hj]
 simp only [refFs]
 congr 2
 by_cases h:j+1=l.length
 ·rw [if_pos h,List.drop_of_length_le (by omega)];rfl
 ·rw [if_neg h,List.drop_eq_getElem_cons (by omega)];rfl
theorem addF_drop {n:Int} {kk:Nat} {out l:List Int} {j:Nat} (hj:j<l.length):addF n kk out (l.drop j)=addF n kk (if l[j]∈slotsB n kk then out else putI l[j] out) (l.drop (j+1)):=by
 rw [List.drop_eq_getElem_cons hj];rfl
theorem addF_len (n:Int) (kk:Nat):∀(l out:List Int),(addF n kk out l).length≤out.length+l.length
 |[],out=>Nat.le_refl _
 |s::l,out=>by
  simp only [addF,List.length_cons]
  have:=addF_len n kk l (if s∈slotsB n kk then out else putI s out)
  have h2:=putI_len s out
  split at this<;>rename_i h
  ·rw [if_pos h];omega
  ·rw [if_neg h];omega
mutual
theorem refF_len:∀t,(refF t).length≤cntT t
 |.mk k n m v o ks=>by
  have:=refFs_len n (manyI (.mk k n m v o ks)).toNat (if k=2 then [n] else []) ks
  simp only [refF,cntT]
  have h2:(if k=2 then [n] else []).length≤1:=by split<;>simp
  omega
theorem refFs_len (n:Int) (kk:Nat) (out:List Int):∀l,(refFs n kk out l).length≤out.length+cntTs l
 |[]=>Nat.le_refl _
 |t::l=>by
  simp only [refFs,cntTs]
  have h1:=refF_len t
  have h2:=addF_len n (lastK kk l) (refF t) out
  have h3:=refFs_len n kk (addF n (lastK kk l) out (refF t)) l
  omega
end
end Go.Xe.YtlgknghehgmodaaGreatDoor
end
section
namespace Go.Xe.YtlgknghehgmodaaGreatDoor
open Go Go.Xe Go.Xt
variable {F:FuncId→Option TFun} {O:FuncId→List TV→Option TV}
def in20:XCode:=.block 2 (.loop (.seq (.seq (.region [⟨some 36,.move (.tmp 7),none⟩,⟨some 37,.move (.tmp 6),none⟩,⟨some 38,.lenSlice (.tmp 37),none⟩,⟨some 39,.bin .lss (.tmp 36) (.tmp 38),none⟩]) (.cond (.tmp 39) .skip (.exit 2))) (.seq (.block 3 (.seq (.regionD [⟨some 42,.move (.tmp 6),none⟩,⟨some 43,.move (.tmp 7),none⟩,⟨some 44,.indexAddr 1 (.tmp 42) (.tmp 43),none⟩,⟨some 45,.load1 (.tmp 44),none⟩,⟨some 46,.addr 1 (.tmp 1),none⟩,⟨some 47,.load1 (.tmp 46),none⟩,⟨some 48,.move (.tmp 5),none⟩,⟨some 49,.call 79 [(.tmp 45),(.tmp 47),(.tmp 48)],none⟩,⟨some 50,.un .not (.tmp 49),none⟩] []) (.cond (.tmp 50) (.region [⟨some 51,.move (.tmp 3),none⟩,⟨some 52,.move (.tmp 6),none⟩,⟨some 53,.move (.tmp 7),none⟩,⟨some 54,.indexAddr 1 (.tmp 52) (.tmp 53),none⟩,⟨some 55,.load1 (.tmp 54),none⟩,⟨some 56,.call 77 [(.tmp 51),(.tmp 55)],none⟩,⟨some 3,.move (.tmp 56),none⟩]) .skip))) (.region [⟨some 40,.move (.tmp 7),none⟩,⟨some 41,.bin .add (.tmp 40) (.const (.int .i64 1)),none⟩,⟨some 7,.move (.tmp 41),none⟩]))))
def kd20:XCode:=.seq (.region [⟨some 5,.move (.const (.int .i64 0)),none⟩]) (.seq (.seq (.region [⟨some 22,.move (.tmp 4),none⟩,⟨some 23,.addr 7 (.tmp 1),none⟩,⟨some 24,.load1 (.tmp 23),none⟩,⟨some 25,.lenSlice (.tmp 24),none⟩,⟨some 26,.bin .sub (.tmp 25) (.const (.int .i64 1)),none⟩,⟨some 27,.bin .eql (.tmp 22) (.tmp 26),none⟩]) (.cond (.tmp 27) (.region [⟨some 28,.loadN 8 (.tmp 1),none⟩,⟨some 29,.call 78 [(.tmp 28)],none⟩,⟨some 5,.move (.tmp 29),none⟩]) .skip)) (.seq (.region [⟨some 30,.addr 7 (.tmp 1),none⟩,⟨some 31,.load1 (.tmp 30),none⟩,⟨some 32,.move (.tmp 4),none⟩,⟨some 33,.indexAddr 8 (.tmp 31) (.tmp 32),none⟩,⟨some 34,.loadN 8 (.tmp 33),none⟩,⟨some 35,.call 37 [(.tmp 34)],none⟩,⟨some 6,.move (.tmp 35),none⟩]) (.seq (.region [⟨some 7,.move (.const (.int .i64 0)),none⟩]) in20)))
theorem x20_cut:x20=⟨58,[.tmp 2],.seq (.region [⟨some 1,.box 28 (.tmp 0),none⟩,⟨some 2,.move (.const (.slice none 0 0)),none⟩]) (.seq (.region [⟨some 3,.move (.const (.slice none 0 0)),none⟩]) (.seq (.seq (.region [⟨some 8,.addr 0 (.tmp 1),none⟩,⟨some 9,.load1 (.tmp 8),none⟩,⟨some 10,.bin .eql (.tmp 9) (.const (.int .i64 2)),none⟩]) (.cond (.tmp 10) (.region [⟨some 11,.move (.tmp 3),none⟩,⟨some 12,.addr 1 (.tmp 1),none⟩,⟨some 13,.load1 (.tmp 12),none⟩,⟨some 14,.call 77 [(.tmp 11),(.tmp 13)],none⟩,⟨some 3,.move (.tmp 14),none⟩]) .skip)) (.seq (.seq (.region [⟨some 4,.move (.const (.int .i64 0)),none⟩]) (.block 0 (.loop (.seq (.seq (.region [⟨some 15,.move (.tmp 4),none⟩,⟨some 16,.addr 7 (.tmp 1),none⟩,⟨some 17,.load1 (.tmp 16),none⟩,⟨some 18,.lenSlice (.tmp 17),none⟩,⟨some 19,.bin .lss (.tmp 15) (.tmp 18),none⟩]) (.cond (.tmp 19) .skip (.exit 0))) (.seq (.block 1 kd20) (.region [⟨some 20,.move (.tmp 4),none⟩,⟨some 21,.bin .add (.tmp 20) (.const (.int .i64 1)),none⟩,⟨some 4,.move (.tmp 21),none⟩])))))) (.seq (.region [⟨some 57,.move (.tmp 3),none⟩,⟨some 2,.move (.tmp 57),none⟩]) .ret))))⟩:=rfl
theorem in20_t {N b:Nat} (h44:F 77=some f44) (h46:F 79=some f46) (e:PTerm) (he:OkTm e) (kk:Nat) (hkk:kk≤4) (hN:20000≤N) (a:TAct) (σ:Sto) (v0:TV) (out0 L:List Int) (hv:FzV v0 out0) (hl:out0.length+L.length≤10000) (v4:TV)
  (hdf:a.df=[]) (h1:a.tm.get 1=some (.bx 0 (encTm e) 28)) (h3:a.tm.get 3=some v0) (h4:a.tm.get 4=some v4) (h5:a.tm.get 5=some (.int .i64 (kk:Int))) (h6:a.tm.get 6=some (.sl .fz (L.map encI))) (h7:a.tm.get 7=some (.int .i64 0)):
  Tw a20 b (tcall F O (N+1)) (N+1) (fun ex a' σ'=>ex=.normal∧a'.df=[]∧σ'=σ∧(∃v,FzV v (addF e.n kk out0 L)∧a'.tm.get 3=some v)∧a'.tm.get 1=some (.bx 0 (encTm e) 28)∧a'.tm.get 4=some v4) [] (tcode a20 b (tcall F O (N+1)) (N+1) in20 a σ):=by
 obtain ⟨tm,df,clk⟩:=a
 simp only at hdf h1 h3 h4 h5 h6 h7
 subst hdf
 simp [in20]
 obtain ⟨I,hI⟩:∃I:Nat→TAct→Sto→Prop,I=(fun j a' σ'=>a'.df=[]∧σ'=σ∧(∃v out,FzV v out∧addF e.n kk out (L.drop j)=addF e.n kk out0 L∧out.length≤out0.length+j∧a'.tm.get 3=some v)∧a'.tm.get 1=some (.bx 0 (encTm e) 28)∧a'.tm.get 4=some v4∧a'.tm.get 5=some (.int .i64 (kk:Int))∧a'.tm.get 6=some (.sl .fz (L.map encI))∧a'.tm.get 7=some (.int .i64 (j:Int))):=⟨_,rfl⟩
 obtain ⟨R,hR⟩:∃R:TEx→TAct→Sto→Prop,R=(fun ex a' σ'=>ex=.exit 2∧a'.df=[]∧σ'=σ∧(∃v,FzV v (addF e.n kk out0 L)∧a'.tm.get 3=some v)∧a'.tm.get 1=some (.bx 0 (encTm e) 28)∧a'.tm.get 4=some v4):=⟨_,rfl⟩
 refine tw_loop I L.length R ?_ (by omega) ?_ ?_ ?_
 ·rw [hI]
  exact ⟨rfl,rfl,⟨v0,out0,hv,by rw [List.drop_zero],by omega,h3⟩,h1,h4,h5,h6,by simpa using h7⟩
 ·rw [hI]
  rintro j ⟨tm,df,clk⟩ σ' hj ⟨rfl,rfl,⟨v,out,hv,hA,hlo,h3⟩,h1,h4,h5,h6,h7⟩
  rw [←hI]
  have hw:=wrapJ hj (by unfold maxLen;omega)
  rw [addF_drop hj] at hA
  have hcm:=among_t (O:=O) h46 N L[j] e.n he.n kk hkk (by omega) b σ'
  have hpt:=putV_t (O:=O) h44 N v out L[j] b σ' hv (by omega) (by omega)
  have hpl:=putI_len L[j] out
  have h1':=h1
  rw [encTm_def] at h1
  have hej:(L.map encI)[j]? =some [.int .i64 L[j]]:=by rw [List.getElem?_map,List.getElem?_eq_getElem hj];rfl
  by_cases hm:L[j]∈slotsB e.n kk
  ·rw [decide_eq_true hm] at hcm
   rw [if_pos hm] at hA
   simp [h1,h3,h4,h5,h6,h7,hj,hw,hcm,encI]
   rw [hI]
   exact ⟨rfl,rfl,⟨v,out,hv,hA,by omega,by simp [h3]⟩,by simp [h1'],by simp [h4],by simp [h5],by simp [h6],by simp⟩
  ·rw [decide_eq_false hm] at hcm
   rw [if_neg hm] at hA
   rcases hv with _|_
   all_goals simp [h1,h3,h4,h5,h6,h7,hj,hw,hcm,hpt,encI]
   all_goals rw [hI]
   all_goals exact ⟨rfl,rfl,⟨_,_,.fz _,hA,by omega,by simp⟩,by simp [h1'],by simp [h4],by simp [h5],by simp [h6],by simp⟩
 ·rw [hI]
  rintro ⟨tm,df,clk⟩ σ' ⟨rfl,rfl,⟨v,out,hv,hA,hlo,h3⟩,h1,h4,h5,h6,h7⟩
  rw [List.drop_of_length_le (Nat.le_refl _)] at hA
  simp [h6,h7]
  rw [hR]
  have hA:out=addF e.n kk out0 L:=hA
  exact ⟨rfl,rfl,rfl,⟨v,by rw [←hA];exact hv,by simp [h3]⟩,by simp [h1],by simp [h4]⟩
 ·rw [hR]
  rintro ex ⟨tm,df,clk⟩ σ' ⟨rfl,rfl,rfl,hv,h1,h4⟩
  simp
  exact ⟨hv,h1,h4⟩
end Go.Xe.YtlgknghehgmodaaGreatDoor
end
section
namespace Go.Xe.YtlgknghehgmodaaGreatDoor
open Go Go.Xe Go.Xt
variable {F:FuncId→Option TFun} {O:FuncId→List TV→Option TV}
theorem free20_t (h20:F 37=some f20) (h44:F 77=some f44) (h45:F 78=some f45) (h46:F 79=some f46):∀(M N:Nat) (e:PTerm) (b:Nat) (σ:Sto),szTm e≤M→M+20010≤N→OkTm e→cntT e≤3000→
  tcall F O N b 37 [.agg (encTm e)] σ=some (.ret (.sl .fz ((refF e).map encI)),σ)
 |0,N,e,b,σ,h,_,_,_=>by rw [szTm_def] at h;omega
 |M+1,N,e,b,σ,h,hN,he,hc=>by
  have ih:=free20_t h20 h44 h45 h46 M
  have hk:=szTms_len e.kids
  have hs:=szTm_def e
  have hcd:=cntT_def e
  have hrd:=refF_def e
  obtain ⟨N,rfl⟩:∃n,N=n+2:=⟨N - 2,by omega⟩
  have hml:=manyI_lo e
  obtain ⟨mk,hmk⟩:∃mk:Nat,manyI e=(mk:Int):=⟨(manyI e).toNat,by omega⟩
  rw [hmk,Int.toNat_natCast] at hrd
  have hbi:=binds_t (O:=O) h45 N e σ.length σ
  rw [hmk,encTm_def e] at hbi
  refine tcall_pure h20 ?_
  have hput:=putN_t (O:=O) h44 N e.n σ.length σ (by omega)
  have hlen:=he.len
  unfold maxLen at hlen
  have hw1:IntKind.i64.wrap ((e.kids.length:Int) - 1)=(e.kids.length:Int) - 1:=by rw [wrap_in]<;>omega
  obtain ⟨I,hI⟩:∃I:Nat→TAct→Sto→Prop,I=(fun j a' σ'=>a'.df=[]∧σ'=σ∧(∃v out,FzV v out∧refFs e.n mk out (e.kids.drop j)=refF e∧out.length+cntTs (e.kids.drop j)≤3000∧a'.tm.get 3=some v)∧a'.tm.get 1=some (.bx 0 (encTm e) 28)∧a'.tm.get 4=some (.int .i64 (j:Int))):=⟨_,rfl⟩
  obtain ⟨R,hR⟩:∃R:TEx→TAct→Sto→Prop,R=(fun ex a' σ'=>ex=.exit 0∧a'.df=[]∧σ'=σ∧(∃v,FzV v (refF e)∧a'.tm.get 3=some v)):=⟨_,rfl⟩
  have step:∀j a σ',j<e.kids.length→I j a σ'→Tw a20 σ.length (tcall F O (N+1)) (N+1) (fun ex a σ=>match ex with|.normal=>I (j+1) a σ|e=>R e a σ) [] (tcode a20 σ.length (tcall F O (N+1)) (N+1) (.seq (.seq (.region [
  ⟨(some 15),.move (.tmp 4),none⟩,
  ⟨(some 16),.addr 7 (.tmp 1),none⟩,
  ⟨(some 17),.load1 (.tmp 16),none⟩,
  ⟨(some 18),.lenSlice (.tmp 17),none⟩,
  ⟨(some 19),.bin .lss (.tmp 15) (.tmp 18),none⟩]) (.cond (.tmp 19) .skip (.exit 0))) (.seq (.block 1 kd20) (.region [
  ⟨(some 20),.move (.tmp 4),none⟩,
  ⟨(some 21),.bin .add (.tmp 20) (.const (Go.Value.int Go.IntKind.i64 1)),none⟩,
  ⟨(some 4),.move (.tmp 21),none⟩]))) a σ'):=by
   rw [hI]
   rintro j ⟨tm,df,clk⟩ σ' hj ⟨rfl,rfl,⟨v,out,hv,hA,hlo,h3⟩,h1,h4⟩
   rw [←hI]
   have hw:=wrapJ hj he.len
   have hmem:=List.getElem_mem hj
   have hszk:=szTms_mem _ _ hmem
   have hck:=cntTs_mem _ _ hmem
   have hcc:=ih (N+1) e.kids[j] σ'.length σ' (by omega) (by omega) (he.sub _ hmem) (by omega)
   rw [refFs_drop hj] at hA
   rw [cntTs_drop hj] at hlo
   have hrl:=refF_len e.kids[j]
   have h1':=h1
   rw [encTm_def] at h1 hcc
   have hfin:∀(kk:Nat) (a:TAct),kk≤4→kk=(if j+1=e.kids.length then mk else 0)→a.df=[]→a.tm.get 1=some (.bx 0 (encTm e) 28)→a.tm.get 3=some v→a.tm.get 4=some (.int .i64 (j:Int))→a.tm.get 5=some (.int .i64 (kk:Int))→a.tm.get 6=some (.sl .fz ((refF e.kids[j]).map encI))→a.tm.get 7=some (.int .i64 0)→
     Tw a20 σ'.length (tcall F O (N+1)) (N+1) (fun ex a σ=>match ex with|.normal=>I (j+1) a σ|e=>R e a σ) [.blk 1,.seq (.region [
  ⟨(some 20),.move (.tmp 4),none⟩,
  ⟨(some 21),.bin .add (.tmp 20) (.const (Go.Value.int Go.IntKind.i64 1)),none⟩,
  ⟨(some 4),.move (.tmp 21),none⟩])] (tcode a20 σ'.length (tcall F O (N+1)) (N+1) in20 a σ'):=by
    intro kk a hk4 hke q0 q1 q3 q4 q5 q6 q7
    apply tw_bind
    ·exact in20_t h44 h46 e he kk hk4 (by omega) a σ' v out (refF e.kids[j]) hv (by omega) _ q0 q1 q3 q4 q5 q6 q7
    rintro ex ⟨tm,df,clk⟩ σ2 ⟨rfl,hdf,rfl,⟨v2,hv2,h3⟩,h1,h4⟩
    simp only at hdf h1 h3 h4
    subst hdf
    simp [h4,hw]
    rw [hI]
    have hal:=addF_len e.n kk (refF e.kids[j]) out
    exact ⟨rfl,rfl,⟨v2,_,hv2,by rw [hke];exact hA,by omega,by simp [h3]⟩,by simp [h1],by simp⟩
   by_cases hlast:j+1=e.kids.length
   ·have hjl:((j:Int)=(e.kids.length:Int) - 1)=True:=eq_true (by omega)
    simp [h1,h3,h4,hj,kd20,hw1,hjl,hbi,hcc,encTm_def e.kids[j]]
    apply hfin mk _ (by omega) (by rw [if_pos hlast]) rfl
    ·simp [encTm_def e,h1]
    ·simp [h3]
    ·simp [h4]
    ·simp
    ·simp
    ·simp
   ·have hjl:((j:Int)=(e.kids.length:Int) - 1)=False:=eq_false (by omega)
    simp [h1,h3,h4,hj,kd20,hw1,hjl,hcc,encTm_def e.kids[j]]
    apply hfin 0 _ (by omega) (by rw [if_neg hlast]) rfl
    ·simp [encTm_def e,h1]
    ·simp [h3]
    ·simp [h4]
    ·simp
    ·simp
    ·simp
  have stop:∀a σ',I e.kids.length a σ'→Tw a20 σ.length (tcall F O (N+1)) (N+1) (fun ex a σ=>match ex with|.normal=>False|e=>R e a σ) [] (tcode a20 σ.length (tcall F O (N+1)) (N+1) (.seq (.seq (.region [
  ⟨(some 15),.move (.tmp 4),none⟩,
  ⟨(some 16),.addr 7 (.tmp 1),none⟩,
  ⟨(some 17),.load1 (.tmp 16),none⟩,
  ⟨(some 18),.lenSlice (.tmp 17),none⟩,
  ⟨(some 19),.bin .lss (.tmp 15) (.tmp 18),none⟩]) (.cond (.tmp 19) .skip (.exit 0))) (.seq (.block 1 kd20) (.region [
  ⟨(some 20),.move (.tmp 4),none⟩,
  ⟨(some 21),.bin .add (.tmp 20) (.const (Go.Value.int Go.IntKind.i64 1)),none⟩,
  ⟨(some 4),.move (.tmp 21),none⟩]))) a σ'):=by
   rw [hI]
   rintro ⟨tm,df,clk⟩ σ' ⟨rfl,rfl,⟨v,out,hv,hA,hlo,h3⟩,h1,h4⟩
   rw [List.drop_of_length_le (Nat.le_refl _)] at hA
   have hA:out=refF e:=hA
   rw [encTm_def] at h1
   simp [h1,h4]
   rw [hR]
   exact ⟨rfl,rfl,rfl,v,by rw [←hA];exact hv,by simp [h3]⟩
  have next:∀ex a σ',R ex a σ'→ex=.exit 0∧a.df=[]∧σ'=σ∧∃v,FzV v (refF e)∧a.tm.get 3=some v:=by
   rw [hR]
   intro ex a σ' h;exact h
  by_cases k2:e.kind=2
  ·rw [if_pos k2] at hrd
   simp [x20_cut,encTm_def e,k2,hput]
   refine tw_loop I e.kids.length R ?_ (by omega) step stop ?_
   ·rw [hI]
    exact ⟨rfl,rfl,⟨_,[e.n],.fz _,by rw [List.drop_zero,hrd],by rw [List.drop_zero];simp;omega,by simp⟩,by simp [encTm_def e,k2],by simp⟩
   ·intro ex a σ' h
    obtain ⟨rfl,hdf,rfl,v,hv,h3⟩:=next ex a σ' h
    obtain ⟨tm,df,clk⟩:=a
    simp only at hdf h3
    subst hdf
    generalize refF e=L at hv
    rcases hv with _|_
    ·simp [h3]
    ·simp [h3]
  ·rw [if_neg k2] at hrd
   simp [x20_cut,encTm_def e,k2]
   refine tw_loop I e.kids.length R ?_ (by omega) step stop ?_
   ·rw [hI]
    exact ⟨rfl,rfl,⟨_,[],.nl,by rw [List.drop_zero,hrd],by rw [List.drop_zero];simp;omega,by simp⟩,by simp [encTm_def e],by simp⟩
   ·intro ex a σ' h
    obtain ⟨rfl,hdf,rfl,v,hv,h3⟩:=next ex a σ' h
    obtain ⟨tm,df,clk⟩:=a
    simp only at hdf h3
    subst hdf
    generalize refF e=L at hv
    rcases hv with _|_
    ·simp [h3]
    ·simp [h3]
end Go.Xe.YtlgknghehgmodaaGreatDoor
end
section
namespace Go.Xe.YtlgknghehgmodaaGreatDoor
open Go Go.Xe Go.Xt
abbrev Inc (l:List Int):Prop:=List.Pairwise (· < ·) l
theorem inc_ext:∀(l m:List Int),Inc l→Inc m→(∀x,x∈l↔x∈m)→l=m
 |[],[],_,_,_=>rfl
 |[],b::m,_,_,h=>absurd ((h b).2 (by simp)) (by simp)
 |a::l,[],_,_,h=>absurd ((h a).1 (by simp)) (by simp)
 |a::l,b::m,hl,hm,h=>by
  obtain ⟨hl1,hl2⟩:=List.pairwise_cons.1 hl
  obtain ⟨hm1,hm2⟩:=List.pairwise_cons.1 hm
  have hab:a=b:=by
   rcases List.mem_cons.1 ((h a).1 (by simp)) with e|e
   ·exact e
   ·rcases List.mem_cons.1 ((h b).2 (by simp)) with e'|e'
    ·exact e'.symm
    ·have:=hm1 a e
     have:=hl1 b e'
     omega
  subst hab
  rw [inc_ext l m hl2 hm2 fun x=>⟨fun hx=> ?_,fun hx=> ?_⟩]
  ·rcases List.mem_cons.1 ((h x).1 (by simp [hx])) with e|e
   ·have:=hl1 x hx;omega
   ·exact e
  ·rcases List.mem_cons.1 ((h x).2 (by simp [hx])) with e|e
   ·have:=hm1 x hx;omega
   ·exact e
theorem putI_mem (n x:Int):∀l,x∈putI n l↔x=n∨x∈l
 |[]=>by simp [putI]
 |a::l=>by
  have ih:=putI_mem n x l
  simp only [putI]
  split
  ·split
   ·simp
   ·have:n=a:=by omega
    subst this
    simp
  ·simp only [List.mem_cons,ih]
   constructor
   ·rintro (h|h|h)
    ·exact .inr (.inl h)
    ·exact .inl h
    ·exact .inr (.inr h)
   ·rintro (h|h|h)
    ·exact .inr (.inl h)
    ·exact .inl h
    ·exact .inr (.inr h)
theorem putI_inc (n:Int):∀l,Inc l→Inc (putI n l)
 |[],_=>by simp [putI]
 |a::l,h=>by
  obtain ⟨h1,h2⟩:=List.pairwise_cons.1 h
  have ih:=putI_inc n l h2
  simp only [putI]
  split
  ·split
   ·rename_i _ hlt
    refine List.pairwise_cons.2 ⟨fun x hx=> ?_,h⟩
    rcases List.mem_cons.1 hx with rfl|hx
    ·exact hlt
    ·have:=h1 x hx;omega
   ·exact h
  ·refine List.pairwise_cons.2 ⟨fun x hx=> ?_,ih⟩
   rcases (putI_mem n x l).1 hx with rfl|hx
   ·omega
   ·exact h1 x hx
theorem addF_inc (n:Int) (kk:Nat):∀l out,Inc out→Inc (addF n kk out l)
 |[],out,h=>h
 |s::l,out,h=>by
  simp only [addF]
  refine addF_inc n kk l _ ?_
  split
  ·exact h
  ·exact putI_inc s out h
theorem addF_mem (n:Int) (kk:Nat) (x:Int):∀l out,x∈addF n kk out l↔x∈out∨(x∈l∧x∉slotsB n kk)
 |[],out=>by simp [addF]
 |s::l,out=>by
  simp only [addF]
  rw [addF_mem n kk x l]
  by_cases h:s∈slotsB n kk
  ·rw [if_pos h]
   constructor
   ·rintro (h1|⟨h1,h2⟩)
    ·exact .inl h1
    ·exact .inr ⟨by simp [h1],h2⟩
   ·rintro (h1|⟨h1,h2⟩)
    ·exact .inl h1
    ·rcases List.mem_cons.1 h1 with rfl|h1
     ·exact absurd h h2
     ·exact .inr ⟨h1,h2⟩
  ·rw [if_neg h,putI_mem]
   constructor
   ·rintro ((rfl|h1)|⟨h1,h2⟩)
    ·exact .inr ⟨by simp,h⟩
    ·exact .inl h1
    ·exact .inr ⟨by simp [h1],h2⟩
   ·rintro (h1|⟨h1,h2⟩)
    ·exact .inl (.inr h1)
    ·rcases List.mem_cons.1 h1 with rfl|h1
     ·exact .inl (.inl rfl)
     ·exact .inr ⟨h1,h2⟩
theorem refFs_inc (n:Int) (kk:Nat):∀l out,Inc out→Inc (refFs n kk out l)
 |[],out,h=>h
 |t::l,out,h=>by
  simp only [refFs]
  exact refFs_inc n kk l _ (addF_inc n _ _ _ h)
theorem refF_inc (t:PTerm):Inc (refF t):=by
 rw [refF_def]
 refine refFs_inc _ _ _ _ ?_
 split<;>simp
def memK (S:List Int) (x:Int):List PTerm→Prop
 |[]=>False
 |t::l=>(x∈refF t∧(l=[]→x∉S))∨memK S x l
theorem refFs_mem (n:Int) (kk:Nat) (x:Int):∀l out,x∈refFs n kk out l↔x∈out∨memK (slotsB n kk) x l
 |[],out=>by simp [refFs,memK]
 |t::l,out=>by
  simp only [refFs,memK]
  rw [refFs_mem n kk x l,addF_mem]
  cases l with
  |nil=>
   simp only [lastK,true_implies,or_assoc]
  |cons y l=>
   have:slotsB n 0=[]:=rfl
   simp only [lastK,this,List.not_mem_nil,not_false_eq_true,and_true,reduceCtorEq,false_implies,or_assoc]
theorem not_mem_append {x:Int} {l m:List Int}:x∉l++m↔x∉l∧x∉m:=by simp
mutual
theorem freeC_mem (x:Int):∀(t:PTerm) (bd:List Int),x∈freeC bd t↔x∈refF t∧x∉bd
 |.mk k n m v o ks,bd=>by
  have ih:=freeCs_mem x ks bd (slotsB n (manyI (.mk k n m v o ks)).toNat)
  simp only [freeC,refF,List.mem_append]
  have e:innerB bd (.mk k n m v o ks)=bd++slotsB n (manyI (.mk k n m v o ks)).toNat:=rfl
  rw [e,ih,refFs_mem]
  by_cases hk:k=2
  ·rw [if_pos hk]
   by_cases hb:n∈bd
   ·rw [if_neg (fun h=>h.2 hb)]
    constructor
    ·rintro (h|⟨h1,h2⟩)
     ·cases h
     ·exact ⟨.inr h1,h2⟩
    ·rintro ⟨h1|h1,h2⟩
     ·simp at h1;subst h1;exact absurd hb h2
     ·exact .inr ⟨h1,h2⟩
   ·rw [if_pos ⟨hk,hb⟩]
    constructor
    ·rintro (h|⟨h1,h2⟩)
     ·simp at h;subst h;exact ⟨.inl (by simp),hb⟩
     ·exact ⟨.inr h1,h2⟩
    ·rintro ⟨h1|h1,h2⟩
     ·exact .inl h1
     ·exact .inr ⟨h1,h2⟩
  ·rw [if_neg hk,if_neg (fun h=>hk h.1)]
   simp
theorem freeCs_mem (x:Int):∀(l:List PTerm) (bd S:List Int),x∈freeCs bd (bd++S) l↔memK S x l∧x∉bd
 |[],bd,S=>by simp [freeCs,memK]
 |t::l,bd,S=>by
  simp only [freeCs,memK,List.mem_append]
  rw [freeC_mem x t,freeCs_mem x l]
  cases l with
  |nil=>
   simp only [lastB,memK,not_mem_append,true_implies,false_and,or_false]
   exact ⟨fun ⟨h1,h2,h3⟩=>⟨⟨h1,h3⟩,h2⟩,fun ⟨⟨h1,h3⟩,h2⟩=>⟨h1,h2,h3⟩⟩
  |cons y l=>
   simp only [lastB,reduceCtorEq,false_implies,and_true]
   constructor
   ·rintro (⟨h1,h2⟩|⟨h1,h2⟩)
    ·exact ⟨.inl h1,h2⟩
    ·exact ⟨.inr h1,h2⟩
   ·rintro ⟨h1|h1,h2⟩
    ·exact .inl ⟨h1,h2⟩
    ·exact .inr ⟨h1,h2⟩
end
theorem compactZ_mem (x:Int):∀l,x∈compactZ l↔x∈l
 |[]=>by unfold compactZ;rfl
 |[a]=>by unfold compactZ;rfl
 |a::b::l=>by
  have ih:=compactZ_mem x (b::l)
  rw [compactZ]
  split
  ·rename_i h
   subst h
   rw [ih];simp
  ·simp only [List.mem_cons] at ih ⊢
   rw [ih]
theorem compactZ_inc:∀l,List.Pairwise (fun x y:Int=>x≤y) l→Inc (compactZ l)
 |[],_=>by unfold compactZ;simp
 |[a],_=>by unfold compactZ;simp
 |a::b::l,h=>by
  obtain ⟨h1,h2⟩:=List.pairwise_cons.1 h
  have ih:=compactZ_inc (b::l) h2
  rw [compactZ]
  split
  ·exact ih
  ·rename_i hab
   refine List.pairwise_cons.2 ⟨fun x hx=> ?_,ih⟩
   have hx:=(compactZ_mem x (b::l)).1 hx
   have hb:=h1 b (by simp)
   rcases List.mem_cons.1 hx with rfl|hx
   ·omega
   ·have:=(List.pairwise_cons.1 h2).1 x hx
    omega
theorem sortZ_mem (x:Int) (l:List Int):x∈sortZ l↔x∈l:=by unfold sortZ;simp
theorem sortZ_sorted (l:List Int):List.Pairwise (fun x y:Int=>x≤y) (sortZ l):=by
 unfold sortZ
 have:=List.pairwise_mergeSort (le:=fun x y:Int=>decide (x≤y)) (fun a b c h1 h2=>by simp at*;omega) (fun a b=>by simp;omega) l
 refine this.imp ?_
 intro a b h;simpa using h
theorem free_law (t:PTerm):compactZ (sortZ (freeC [] t))=refF t:=by
 refine inc_ext _ _ (compactZ_inc _ (sortZ_sorted _)) (refF_inc t) fun x=> ?_
 rw [compactZ_mem,sortZ_mem,freeC_mem]
 simp
end Go.Xe.YtlgknghehgmodaaGreatDoor
end
section
namespace Go.Xe.YtlgknghehgmodaaGreatDoor
open Go Go.Xe Go.Xt
variable {F:FuncId→Option TFun} {O:FuncId→List TV→Option TV}
theorem eqTerms (hF:F 114=some f108) (G N:Nat) (S:PTerm→PTerm→Bool) (b:Nat) (σ:Sto) (l m:List PTerm) (hl:l.length≤maxLen) (hm:m.length≤maxLen) (hn:l.length<N)
  (hc:∀x∈l,∀y∈m,∀b,tcall F O N b G [.agg (encTm x),.agg (encTm y)] σ=some (.ret (.bool (S x y)),σ)):
  tcall F O (N+1) b 114 [.sl .fz (l.map encTm),.sl .fz (m.map encTm),.func G [] []] σ=some (.ret (.bool (all2 S l m)),σ):=by
 refine tcall_pure hF ?_
 by_cases hlm:(l.length:Int)=(m.length:Int)
 case neg=>
  have hne:l.length≠m.length:=by omega
  simp [x108,hlm,hne,all2_ne hne]
 have hlm':l.length=m.length:=by omega
 simp [x108,hlm']
 obtain ⟨I,hI⟩:∃I:Nat→TAct→Sto→Prop,I=(fun j a σ'=>a.df=[]∧σ'=σ∧all2 S (l.drop j) (m.drop j)=all2 S l m∧a.tm.get 1=some (.sl .fz (m.map encTm))∧a.tm.get 2=some (.func G [] [])∧a.tm.get 15=some (.sl .fz (l.map encTm))∧a.tm.get 16=some (.int .i64 (m.length:Int))∧a.tm.get 17=some (.int .i64 j)):=⟨_,rfl⟩
 obtain ⟨R,hR⟩:∃R:TEx→TAct→Sto→Prop,R=(fun ex a σ'=>a.df=[]∧σ'=σ∧(ex=.exit 0∧all2 S l m=true∨ex=.ret∧all2 S l m=false∧a.tm.get 6=some (.bool false))):=⟨_,rfl⟩
 refine tw_loop I m.length R ?_ ?_ ?_ ?_ ?_
 ·rw [hI]
  simp
 ·omega
 ·rw [hI]
  rintro j ⟨tm,df,clk⟩ σ' hj ⟨rfl,rfl,hd,h1,h2,h15,h16,h17⟩
  rw [←hI]
  have hjl:j<l.length:=by omega
  have hw:=wrapJ hj hm
  rw [all2_step hjl hj] at hd
  have hcc:=hc l[j] (List.getElem_mem hjl) m[j] (List.getElem_mem hj) σ'.length
  rw [encTm_def,encTm_def] at hcc
  cases hs:S l[j] m[j] with
  |true=>
   rw [hs] at hd hcc
   simp [h1,h2,h15,h16,h17,hj,hjl,hcc,hw,encTm_def]
   rw [hI]
   simpa [h1,h2,h15,h16] using hd
  |false=>
   rw [hs] at hd hcc
   simp [h1,h2,h15,h16,h17,hj,hjl,hcc,hw,encTm_def]
   rw [hR]
   simpa using hd.symm
 ·rw [hI]
  rintro ⟨tm,df,clk⟩ σ' ⟨rfl,rfl,hd,h1,h2,h15,h16,h17⟩
  rw [all2_end (by omega) (by omega)] at hd
  simp [h1,h2,h15,h16,h17]
  rw [hR]
  exact ⟨rfl,rfl,.inl ⟨rfl,hd.symm⟩⟩
 ·rw [hR]
  rintro ex ⟨tm,df,clk⟩ σ' ⟨rfl,rfl,⟨rfl,h⟩|⟨rfl,h,h6⟩⟩
  ·simp [h]
  ·simp [h,h6]
end Go.Xe.YtlgknghehgmodaaGreatDoor
end
section
namespace Go.Xe.YtlgknghehgmodaaGreatDoor
open Go Go.Xe Go.Xt
variable {F:FuncId→Option TFun} {O:FuncId→List TV→Option TV}
def sameI (a b:Int):Bool:=decide (a=b)
theorem ints110_t (hF:F 86=some f110) (N:Nat) (b:Nat) (σ:Sto) (l m:List Int) (hl:l.length≤maxLen) (hm:m.length≤maxLen) (hn:l.length<N):
  tcall F O (N+1) b 86 [.sl .fz (l.map encI),.sl .fz (m.map encI)] σ=some (.ret (.bool (all2 sameI l m)),σ):=by
 refine tcall_pure hF ?_
 by_cases hlm:(l.length:Int)=(m.length:Int)
 case neg=>
  have hne:l.length≠m.length:=by omega
  simp [x110,hlm,hne,all2_ne hne]
 have hlm':l.length=m.length:=by omega
 simp [x110,hlm']
 obtain ⟨I,hI⟩:∃I:Nat→TAct→Sto→Prop,I=(fun j a σ'=>a.df=[]∧σ'=σ∧all2 sameI (l.drop j) (m.drop j)=all2 sameI l m∧a.tm.get 0=some (.sl .fz (l.map encI))∧a.tm.get 1=some (.sl .fz (m.map encI))∧a.tm.get 5=some (.int .i64 j)):=⟨_,rfl⟩
 obtain ⟨R,hR⟩:∃R:TEx→TAct→Sto→Prop,R=(fun ex a σ'=>a.df=[]∧σ'=σ∧(ex=.exit 0∧all2 sameI l m=true∨ex=.ret∧all2 sameI l m=false∧a.tm.get 4=some (.bool false))):=⟨_,rfl⟩
 refine tw_loop I m.length R ?_ ?_ ?_ ?_ ?_
 ·rw [hI]
  simp
 ·omega
 ·rw [hI]
  rintro j ⟨tm,df,clk⟩ σ' hj ⟨rfl,rfl,hd,h0,h1,h5⟩
  rw [←hI]
  have hjl:j<l.length:=by omega
  have hw:=wrapJ hj hm
  have e1:(l.map encI)[j]? =some [.int .i64 l[j]]:=by simp [hjl,encI]
  have e2:(m.map encI)[j]? =some [.int .i64 m[j]]:=by simp [hj,encI]
  rw [all2_step hjl hj] at hd
  by_cases hs:l[j]=m[j]
  ·have hs':sameI l[j] m[j]=true:=by simp [sameI,hs]
   rw [hs',Bool.true_and] at hd
   simp [h0,h1,h5,hj,hjl,hlm',hw,e1,e2,hs,encI]
   rw [hI]
   simpa [h0,h1] using hd
  ·have hs':sameI l[j] m[j]=false:=by simp [sameI,hs]
   rw [hs',Bool.false_and] at hd
   simp [h0,h1,h5,hj,hjl,hlm',hw,e1,e2,hs,encI]
   rw [hR]
   simpa using hd.symm
 ·rw [hI]
  rintro ⟨tm,df,clk⟩ σ' ⟨rfl,rfl,hd,h0,h1,h5⟩
  rw [all2_end (by omega) (by omega)] at hd
  simp [h0,h1,h5,hlm']
  rw [hR]
  exact ⟨rfl,rfl,.inl ⟨rfl,hd.symm⟩⟩
 ·rw [hR]
  rintro ex ⟨tm,df,clk⟩ σ' ⟨rfl,rfl,⟨rfl,h⟩|⟨rfl,h,h6⟩⟩
  ·simp [h]
  ·simp [h,h6]
theorem eqInts_t (hF:F 113=some f107) (N:Nat) (b:Nat) (σ:Sto) (l m:List Int) (hl:l.length≤maxLen) (hm:m.length≤maxLen) (hn:l.length<N):
  tcall F O (N+1) b 113 [.sl .fz (l.map encI),.sl .fz (m.map encI)] σ=some (.ret (.bool (all2 sameI l m)),σ):=by
 refine tcall_pure hF ?_
 by_cases hlm:(l.length:Int)=(m.length:Int)
 case neg=>
  have hne:l.length≠m.length:=by omega
  simp [x107,hlm,hne,all2_ne hne]
 have hlm':l.length=m.length:=by omega
 simp [x107,hlm']
 obtain ⟨I,hI⟩:∃I:Nat→TAct→Sto→Prop,I=(fun j a σ'=>a.df=[]∧σ'=σ∧all2 sameI (l.drop j) (m.drop j)=all2 sameI l m∧a.tm.get 0=some (.sl .fz (l.map encI))∧a.tm.get 1=some (.sl .fz (m.map encI))∧a.tm.get 13=some (.int .i64 j)∧a.tm.get 11=some (.sl .fz (l.map encI))∧a.tm.get 12=some (.int .i64 (m.length:Int))):=⟨_,rfl⟩
 obtain ⟨R,hR⟩:∃R:TEx→TAct→Sto→Prop,R=(fun ex a σ'=>a.df=[]∧σ'=σ∧(ex=.exit 0∧all2 sameI l m=true∨ex=.ret∧all2 sameI l m=false∧a.tm.get 4=some (.bool false))):=⟨_,rfl⟩
 refine tw_loop I m.length R ?_ ?_ ?_ ?_ ?_
 ·rw [hI]
  simp
 ·omega
 ·rw [hI]
  rintro j ⟨tm,df,clk⟩ σ' hj ⟨rfl,rfl,hd,h0,h1,h5,h11,h12⟩
  rw [←hI]
  have hjl:j<l.length:=by omega
  have hw:=wrapJ hj hm
  have e1:(l.map encI)[j]? =some [.int .i64 l[j]]:=by simp [hjl,encI]
  have e2:(m.map encI)[j]? =some [.int .i64 m[j]]:=by simp [hj,encI]
  rw [all2_step hjl hj] at hd
  by_cases hs:l[j]=m[j]
  ·have hs':sameI l[j] m[j]=true:=by simp [sameI,hs]
   rw [hs',Bool.true_and] at hd
   simp [h0,h1,h5,hj,hjl,hlm',hw,e1,e2,hs,encI,h11,h12]
   rw [hI]
   simpa [h0,h1,h11,h12] using hd
  ·have hs':sameI l[j] m[j]=false:=by simp [sameI,hs]
   rw [hs',Bool.false_and] at hd
   simp [h0,h1,h5,hj,hjl,hlm',hw,e1,e2,hs,encI,h11,h12]
   rw [hR]
   simpa using hd.symm
 ·rw [hI]
  rintro ⟨tm,df,clk⟩ σ' ⟨rfl,rfl,hd,h0,h1,h5,h11,h12⟩
  rw [all2_end (by omega) (by omega)] at hd
  simp [h0,h1,h5,hlm',h11,h12]
  rw [hR]
  exact ⟨rfl,rfl,.inl ⟨rfl,hd.symm⟩⟩
 ·rw [hR]
  rintro ex ⟨tm,df,clk⟩ σ' ⟨rfl,rfl,⟨rfl,h⟩|⟨rfl,h,h6⟩⟩
  ·simp [h]
  ·simp [h,h6]
theorem nan_t (hF:F 201=some f165) (N b:Nat) (σ:Sto) (x:Int):tcall F O (N+1) b 201 [.int .i64 x] σ=some (.ret (.bool false),σ):=by
 refine tcall_pure hF ?_
 simp [x165]
def cmpI (x y:Int):Int:=if x<y then -1 else if y<x then 1 else 0
theorem cmpI_zero (x y:Int):decide (cmpI x y=0)=decide (x=y):=by
 unfold cmpI
 by_cases h:x<y
 ·have:x≠y:=by omega
  simp [h,this]
 ·by_cases h2:y<x
  ·have:x≠y:=by omega
   simp [h,h2,this]
  ·have:x=y:=by omega
   simp [this]
theorem cmp_t (hF:F 202=some f180) (h165:F 201=some f165) (N b:Nat) (σ:Sto) (x y:Int):tcall F O (N+2) b 202 [.int .i64 x,.int .i64 y] σ=some (.ret (.int .i64 (cmpI x y)),σ):=by
 have hx:=nan_t (O:=O) h165 N σ.length σ x
 have hy:=nan_t (O:=O) h165 N σ.length σ y
 refine tcall_pure hF ?_
 unfold cmpI
 by_cases h:x<y
 ·simp [x180,hx,hy,h]
 ·by_cases h2:y<x
  ·simp [x180,hx,hy,h,h2]
  ·simp [x180,hx,hy,h,h2]
theorem order_t (hF:F 163=some f182) (N b:Nat) (σ:Sto) (x y:Int):tcall F O (N+1) b 163 [.int .i64 x,.int .i64 y] σ=some (.ret (.int .i64 (cmpI x y)),σ):=by
 refine tcall_pure hF ?_
 unfold cmpI
 by_cases h:x<y
 ·simp [x182,h]
 ·by_cases h2:y<x
  ·simp [x182,h,h2]
  ·simp [x182,h,h2]
end Go.Xe.YtlgknghehgmodaaGreatDoor
end
section
namespace Go.Xe.YtlgknghehgmodaaGreatDoor
open Go Go.Xe Go.Xt
variable {F:FuncId→Option TFun} {O:FuncId→List TV→Option TV}
theorem cmpFunc (hF:F 203=some f181) (G N:Nat) (S:PVal→PVal→Bool) (b:Nat) (σ:Sto) (l m:List PVal) (hl:l.length≤maxLen) (hm:m.length≤maxLen) (hn:l.length<N)
  (hc:∀x∈l,∀y∈m,∀b,∃r:Int,tcall F O N b G [.agg (encV x),.agg (encV y)] σ=some (.ret (.int .i64 r),σ)∧decide (r=0)=S x y):
  ∃r:Int,tcall F O (N+1) b 203 [.sl .fz (l.map encV),.sl .fz (m.map encV),.func G [] []] σ=some (.ret (.int .i64 r),σ)∧decide (r=0)=all2 S l m:=by
 suffices hh:∃e' σ',tcall F O (N+1) b 203 [.sl .fz (l.map encV),.sl .fz (m.map encV),.func G [] []] σ=some (e',σ')∧∃r:Int,e'=.ret (.int .i64 r)∧σ'=σ∧decide (r=0)=all2 S l m by
  obtain ⟨e',σ',h1,r,rfl,rfl,h2⟩:=hh
  exact ⟨r,h1,h2⟩
 refine tcall_of hF ?_
 simp [x181]
 obtain ⟨I,hI⟩:∃I:Nat→TAct→Sto→Prop,I=(fun j a σ'=>a.df=[]∧σ'=σ∧all2 S (l.drop j) (m.drop j)=all2 S l m∧a.tm.get 0=some (.sl .fz (l.map encV))∧a.tm.get 1=some (.sl .fz (m.map encV))∧a.tm.get 2=some (.func G [] [])∧a.tm.get 11=some (.sl .fz (l.map encV))∧a.tm.get 12=some (.int .i64 (l.length:Int))∧a.tm.get 13=some (.int .i64 j)):=⟨_,rfl⟩
 obtain ⟨R,hR⟩:∃R:TEx→TAct→Sto→Prop,R=(fun ex a σ'=>a.df=[]∧σ'=σ∧(ex=.exit 0∧all2 S (l.drop l.length) (m.drop l.length)=all2 S l m∧a.tm.get 0=some (.sl .fz (l.map encV))∧a.tm.get 1=some (.sl .fz (m.map encV))∨ex=.ret∧∃r:Int,decide (r=0)=all2 S l m∧a.tm.get 6=some (.int .i64 r))):=⟨_,rfl⟩
 refine tw_loop I l.length R ?_ ?_ ?_ ?_ ?_
 ·rw [hI]
  simp
 ·omega
 ·rw [hI]
  rintro j ⟨tm,df,clk⟩ σ' hj ⟨rfl,rfl,hd,h0,h1,h2,h11,h12,h13⟩
  rw [←hI]
  have hw:=wrapJ hj hl
  by_cases hjm:(m.length:Int)≤(j:Int)
  ·have hne:all2 S (l.drop j) (m.drop j)=false:=all2_ne (by rw [List.length_drop,List.length_drop];omega)
   rw [hne] at hd
   have hjm':m.length≤j:=by omega
   simp [h0,h1,h2,h11,h12,h13,hj,hjm,hjm',encV_def]
   rw [hR]
   exact ⟨rfl,rfl,.inr ⟨rfl,1,by simpa using hd,by simp⟩⟩
  ·have hjm2:j<m.length:=by omega
   have hjm':¬m.length≤j:=by omega
   rw [all2_step hj hjm2] at hd
   obtain ⟨r,hcc,hr⟩:=hc l[j] (List.getElem_mem hj) m[j] (List.getElem_mem hjm2) σ'.length
   rw [encV_def,encV_def] at hcc
   by_cases h0r:r=0
   ·have hs:S l[j] m[j]=true:=by rw [←hr];simp [h0r]
    rw [hs,Bool.true_and] at hd
    simp [h0,h1,h2,h11,h12,h13,hj,hjm,hjm',hjm2,hcc,h0r,hw,encV_def]
    rw [hI]
    simpa [h0,h1,h2,h11,h12] using hd
   ·have hs:S l[j] m[j]=false:=by rw [←hr];simp [h0r]
    rw [hs,Bool.false_and] at hd
    simp [h0,h1,h2,h11,h12,h13,hj,hjm,hjm',hjm2,hcc,h0r,hw,encV_def]
    rw [hR]
    exact ⟨rfl,rfl,.inr ⟨rfl,r,by rw [←hd];simp [h0r],by simp⟩⟩
 ·rw [hI]
  rintro ⟨tm,df,clk⟩ σ' ⟨rfl,rfl,hd,h0,h1,h2,h11,h12,h13⟩
  simp [h0,h1,h2,h11,h12,h13]
  rw [hR]
  exact ⟨rfl,rfl,.inl ⟨rfl,hd,by simp [h0],by simp [h1]⟩⟩
 ·rw [hR]
  rintro ex ⟨tm,df,clk⟩ σ' ⟨rfl,rfl,⟨rfl,hd,h0,h1⟩|⟨rfl,r,hd,h6⟩⟩
  ·by_cases hlt:(l.length:Int)<(m.length:Int)
   ·have hne:all2 S (l.drop l.length) (m.drop l.length)=false:=all2_ne (by rw [List.length_drop,List.length_drop];omega)
    rw [hne] at hd
    have hlt':l.length<m.length:=by omega
    simp [h0,h1,hlt,hlt',←hd]
   ·have hlt':¬l.length<m.length:=by omega
    rw [all2_end (Nat.le_refl _) (by omega)] at hd
    simp [h0,h1,hlt,hlt',←hd]
  ·simp [h6,hd]
theorem compare_t (h158:F 162=some f158) (h180:F 202=some f180) (h165:F 201=some f165) (h181:F 203=some f181):∀(N:Nat) (a c:PVal) (b:Nat) (σ:Sto),szV a≤N→OkV a→OkV c→
  ∃r:Int,tcall F O N b 162 [.agg (encV a),.agg (encV c)] σ=some (.ret (.int .i64 r),σ)∧decide (r=0)=sameV a c
 |0,a,c,b,σ,h,_,_=>by rw [szV_def] at h;omega
 |1,a,c,b,σ,h,_,_=>by rw [szV_def] at h;omega
 |2,a,c,b,σ,h,_,_=>by rw [szV_def] at h;omega
 |N+3,a,c,b,σ,h,ha,hc=>by
  have hs:=szV_def a
  have hk:=szVs_len a.list
  obtain ⟨r,hq,hr⟩:=cmpFunc (O:=O) h181 162 (N+1) sameV σ.length σ a.list c.list ha.len hc.len (by omega) (fun x hx y hy b=>compare_t h158 h180 h165 h181 (N+1) x y b σ (by have:=szVs_mem _ _ hx;omega) (ha.sub x hx) (hc.sub y hy))
  have h1:=cmp_t (O:=O) h180 h165 N σ.length σ a.kind c.kind
  have h2:=cmp_t (O:=O) h180 h165 N σ.length σ a.n c.n
  have z1:=cmpI_zero a.kind c.kind
  have z2:=cmpI_zero a.n c.n
  suffices hh:∃e' σ',tcall F O (N+3) b 162 [.agg (encV a),.agg (encV c)] σ=some (e',σ')∧∃r:Int,e'=.ret (.int .i64 r)∧σ'=σ∧decide (r=0)=sameV a c by
   obtain ⟨e',σ',q1,r',rfl,rfl,q2⟩:=hh
   exact ⟨r',q1,q2⟩
  refine tcall_of h158 ?_
  generalize cmpI a.kind c.kind=r1 at h1 z1
  generalize cmpI a.n c.n=r2 at h2 z2
  by_cases e1:r1=0
  case neg=>
   simp [x158,encV_def,sameV_def,h1,e1,←z1]
  by_cases e2:r2=0
  case neg=>
   simp [x158,encV_def,sameV_def,h1,h2,e1,e2,←z1,←z2]
  simp [x158,encV_def,sameV_def,h1,h2,e1,e2,←z1,←z2,hq,hr]
theorem refCompare_t (h159:F 115=some f159) (h182:F 163=some f182):∀(N:Nat) (a c:PVal) (b:Nat) (σ:Sto),szV a≤N→OkV a→OkV c→
  ∃r:Int,tcall F O N b 115 [.agg (encV a),.agg (encV c)] σ=some (.ret (.int .i64 r),σ)∧decide (r=0)=sameV a c
 |0,a,c,b,σ,h,_,_=>by rw [szV_def] at h;omega
 |1,a,c,b,σ,h,_,_=>by rw [szV_def] at h;omega
 |N+2,a,c,b,σ,h,ha,hc=>by
  have ih:=refCompare_t h159 h182 (N+1)
  have hs:=szV_def a
  have hk:=szVs_len a.list
  have h1:=order_t (O:=O) h182 N σ.length σ a.kind c.kind
  have h2:=order_t (O:=O) h182 N σ.length σ a.n c.n
  have h3:=order_t (O:=O) h182 N σ.length σ (a.list.length:Int) (c.list.length:Int)
  have z1:=cmpI_zero a.kind c.kind
  have z2:=cmpI_zero a.n c.n
  have z3:=cmpI_zero (a.list.length:Int) (c.list.length:Int)
  suffices hh:∃e' σ',tcall F O (N+2) b 115 [.agg (encV a),.agg (encV c)] σ=some (e',σ')∧∃r:Int,e'=.ret (.int .i64 r)∧σ'=σ∧decide (r=0)=sameV a c by
   obtain ⟨e',σ',q1,r',rfl,rfl,q2⟩:=hh
   exact ⟨r',q1,q2⟩
  refine tcall_of h159 ?_
  generalize cmpI a.kind c.kind=r1 at h1 z1
  generalize cmpI a.n c.n=r2 at h2 z2
  generalize cmpI (a.list.length:Int) (c.list.length:Int)=r3 at h3 z3
  have hdef:=sameV_def a c
  rw [←z1,←z2] at hdef
  by_cases e1:r1=0
  case neg=>
   have hS:sameV a c=false:=by rw [hdef];simp [e1]
   simp [x159,encV_def,h1,e1]
   obtain ⟨I,hI⟩:∃I:Nat→TAct→Sto→Prop,I=(fun j a' σ'=>a'.df=[]∧σ'=σ∧∃v:Int,(v=0→sameV a c=all2 sameV (a.list.drop j) (c.list.drop j))∧(v≠0→sameV a c=false)∧a'.tm.get 2=some (.bx 0 (encV a) 24)∧a'.tm.get 3=some (.bx 2 (encV c) 24)∧a'.tm.get 5=some (.int .i64 v)∧a'.tm.get 6=some (.int .i64 j)):=⟨_,rfl⟩
   obtain ⟨R,hR⟩:∃R:TEx→TAct→Sto→Prop,R=(fun ex a' σ'=>ex=.exit 0∧a'.df=[]∧σ'=σ∧∃v:Int,(v=0→sameV a c=decide (a.list.length=c.list.length))∧(v≠0→sameV a c=false)∧a'.tm.get 2=some (.bx 0 (encV a) 24)∧a'.tm.get 3=some (.bx 2 (encV c) 24)∧a'.tm.get 5=some (.int .i64 v)):=⟨_,rfl⟩
   refine tw_loop I (min a.list.length c.list.length) R ?_ ?_ ?_ ?_ ?_
   ·rw [hI]
    exact ⟨rfl,rfl,r1,fun h=>absurd h e1,fun _=>hS,by simp [encV_def],by simp [encV_def],by simp,by simp⟩
   ·omega
   ·rw [hI]
    rintro j ⟨tm,df,clk⟩ σ' hj ⟨rfl,rfl,v,hv0,hv1,g2,g3,g5,g6⟩
    rw [←hI]
    rw [encV_def] at g2 g3
    by_cases e0:v=0
    ·have hja:j<a.list.length:=by omega
     have hjc:j<c.list.length:=by omega
     have hw:=wrapJ hja ha.len
     obtain ⟨r,hcc,hr⟩:=ih a.list[j] c.list[j] σ'.length σ' (by have:=szVs_mem _ _ (List.getElem_mem hja);omega) (ha.sub _ (List.getElem_mem hja)) (hc.sub _ (List.getElem_mem hjc))
     rw [encV_def,encV_def c.list[j]] at hcc
     have hd:=hv0 e0
     rw [all2_step hja hjc,←hr] at hd
     subst e0
     simp [g2,g3,g5,g6,hja,hjc,hcc,hw,encV_def]
     rw [hI]
     refine ⟨rfl,rfl,r,fun h=>by rw [hd];simp [h],fun h=>by rw [hd];simp [h],by simp [g2,encV_def],by simp [g3,encV_def],by simp,by simp⟩
    ·simp [g2,g3,g5,g6,e0]
     rw [hR]
     exact ⟨rfl,rfl,rfl,v,fun h=>absurd h e0,hv1,by simp [g2,encV_def],by simp [g3,encV_def],by simp [g5]⟩
   ·rw [hI]
    rintro ⟨tm,df,clk⟩ σ' ⟨rfl,rfl,v,hv0,hv1,g2,g3,g5,g6⟩
    rw [encV_def] at g2 g3
    have hend:v=0→sameV a c=decide (a.list.length=c.list.length):=fun h=>by
     rw [hv0 h]
     by_cases hlen:a.list.length=c.list.length
     ·rw [all2_end (by omega) (by omega)];simp [hlen]
     ·rw [all2_ne (by rw [List.length_drop,List.length_drop];omega)];simp [hlen]
    by_cases e0:v=0
    ·subst e0
     by_cases hja:((min a.list.length c.list.length:Nat):Int)<(a.list.length:Int)
     ·have hjc:¬((min a.list.length c.list.length:Nat):Int)<(c.list.length:Int):=by omega
      generalize min a.list.length c.list.length=mn at g6 hja hjc
      simp [g2,g3,g5,g6,hja,hjc]
      rw [hR]
      exact ⟨rfl,rfl,rfl,0,hend,hv1,by simp [g2,encV_def],by simp [g3,encV_def],by simp [g5]⟩
     ·generalize min a.list.length c.list.length=mn at g6 hja
      simp [g2,g3,g5,g6,hja]
      rw [hR]
      exact ⟨rfl,rfl,rfl,0,hend,hv1,by simp [g2,encV_def],by simp [g3,encV_def],by simp [g5]⟩
    ·simp [g2,g3,g5,g6,e0]
     rw [hR]
     exact ⟨rfl,rfl,rfl,v,hend,hv1,by simp [g2,encV_def],by simp [g3,encV_def],by simp [g5]⟩
   ·rw [hR]
    rintro ex ⟨tm,df,clk⟩ σ' ⟨rfl,rfl,rfl,v,hv0,hv1,g2,g3,g5⟩
    rw [encV_def] at g2 g3
    by_cases e0:v=0
    ·subst e0
     have hd:=hv0 rfl
     have z3':decide (r3=0)=decide (a.list.length=c.list.length):=by rw [z3];simp [Int.ofNat_inj]
     simp [g2,g3,g5,h3,hd]
     exact decide_eq_decide.1 z3'
    ·simp [g2,g3,g5,e0,hv1 e0]
  by_cases e2:r2=0
  case neg=>
   have hS:sameV a c=false:=by rw [hdef];simp [e2]
   simp [x159,encV_def,h1,h2,e1,e2]
   obtain ⟨I,hI⟩:∃I:Nat→TAct→Sto→Prop,I=(fun j a' σ'=>a'.df=[]∧σ'=σ∧∃v:Int,(v=0→sameV a c=all2 sameV (a.list.drop j) (c.list.drop j))∧(v≠0→sameV a c=false)∧a'.tm.get 2=some (.bx 0 (encV a) 24)∧a'.tm.get 3=some (.bx 2 (encV c) 24)∧a'.tm.get 5=some (.int .i64 v)∧a'.tm.get 6=some (.int .i64 j)):=⟨_,rfl⟩
   obtain ⟨R,hR⟩:∃R:TEx→TAct→Sto→Prop,R=(fun ex a' σ'=>ex=.exit 0∧a'.df=[]∧σ'=σ∧∃v:Int,(v=0→sameV a c=decide (a.list.length=c.list.length))∧(v≠0→sameV a c=false)∧a'.tm.get 2=some (.bx 0 (encV a) 24)∧a'.tm.get 3=some (.bx 2 (encV c) 24)∧a'.tm.get 5=some (.int .i64 v)):=⟨_,rfl⟩
   refine tw_loop I (min a.list.length c.list.length) R ?_ ?_ ?_ ?_ ?_
   ·rw [hI]
    exact ⟨rfl,rfl,r2,fun h=>absurd h e2,fun _=>hS,by simp [encV_def],by simp [encV_def],by simp,by simp⟩
   ·omega
   ·rw [hI]
    rintro j ⟨tm,df,clk⟩ σ' hj ⟨rfl,rfl,v,hv0,hv1,g2,g3,g5,g6⟩
    rw [←hI]
    rw [encV_def] at g2 g3
    by_cases e0:v=0
    ·have hja:j<a.list.length:=by omega
     have hjc:j<c.list.length:=by omega
     have hw:=wrapJ hja ha.len
     obtain ⟨r,hcc,hr⟩:=ih a.list[j] c.list[j] σ'.length σ' (by have:=szVs_mem _ _ (List.getElem_mem hja);omega) (ha.sub _ (List.getElem_mem hja)) (hc.sub _ (List.getElem_mem hjc))
     rw [encV_def,encV_def c.list[j]] at hcc
     have hd:=hv0 e0
     rw [all2_step hja hjc,←hr] at hd
     subst e0
     simp [g2,g3,g5,g6,hja,hjc,hcc,hw,encV_def]
     rw [hI]
     refine ⟨rfl,rfl,r,fun h=>by rw [hd];simp [h],fun h=>by rw [hd];simp [h],by simp [g2,encV_def],by simp [g3,encV_def],by simp,by simp⟩
    ·simp [g2,g3,g5,g6,e0]
     rw [hR]
     exact ⟨rfl,rfl,rfl,v,fun h=>absurd h e0,hv1,by simp [g2,encV_def],by simp [g3,encV_def],by simp [g5]⟩
   ·rw [hI]
    rintro ⟨tm,df,clk⟩ σ' ⟨rfl,rfl,v,hv0,hv1,g2,g3,g5,g6⟩
    rw [encV_def] at g2 g3
    have hend:v=0→sameV a c=decide (a.list.length=c.list.length):=fun h=>by
     rw [hv0 h]
     by_cases hlen:a.list.length=c.list.length
     ·rw [all2_end (by omega) (by omega)];simp [hlen]
     ·rw [all2_ne (by rw [List.length_drop,List.length_drop];omega)];simp [hlen]
    by_cases e0:v=0
    ·subst e0
     by_cases hja:((min a.list.length c.list.length:Nat):Int)<(a.list.length:Int)
     ·have hjc:¬((min a.list.length c.list.length:Nat):Int)<(c.list.length:Int):=by omega
      generalize min a.list.length c.list.length=mn at g6 hja hjc
      simp [g2,g3,g5,g6,hja,hjc]
      rw [hR]
      exact ⟨rfl,rfl,rfl,0,hend,hv1,by simp [g2,encV_def],by simp [g3,encV_def],by simp [g5]⟩
     ·generalize min a.list.length c.list.length=mn at g6 hja
      simp [g2,g3,g5,g6,hja]
      rw [hR]
      exact ⟨rfl,rfl,rfl,0,hend,hv1,by simp [g2,encV_def],by simp [g3,encV_def],by simp [g5]⟩
    ·simp [g2,g3,g5,g6,e0]
     rw [hR]
     exact ⟨rfl,rfl,rfl,v,hend,hv1,by simp [g2,encV_def],by simp [g3,encV_def],by simp [g5]⟩
   ·rw [hR]
    rintro ex ⟨tm,df,clk⟩ σ' ⟨rfl,rfl,rfl,v,hv0,hv1,g2,g3,g5⟩
    rw [encV_def] at g2 g3
    by_cases e0:v=0
    ·subst e0
     have hd:=hv0 rfl
     have z3':decide (r3=0)=decide (a.list.length=c.list.length):=by rw [z3];simp [Int.ofNat_inj]
     simp [g2,g3,g5,h3,hd]
     exact decide_eq_decide.1 z3'
    ·simp [g2,g3,g5,e0,hv1 e0]
  have hS:sameV a c=all2 sameV a.list c.list:=by rw [hdef];simp [e1,e2]
  simp [x159,encV_def,h1,h2,e1,e2]
  obtain ⟨I,hI⟩:∃I:Nat→TAct→Sto→Prop,I=(fun j a' σ'=>a'.df=[]∧σ'=σ∧∃v:Int,(v=0→sameV a c=all2 sameV (a.list.drop j) (c.list.drop j))∧(v≠0→sameV a c=false)∧a'.tm.get 2=some (.bx 0 (encV a) 24)∧a'.tm.get 3=some (.bx 2 (encV c) 24)∧a'.tm.get 5=some (.int .i64 v)∧a'.tm.get 6=some (.int .i64 j)):=⟨_,rfl⟩
  obtain ⟨R,hR⟩:∃R:TEx→TAct→Sto→Prop,R=(fun ex a' σ'=>ex=.exit 0∧a'.df=[]∧σ'=σ∧∃v:Int,(v=0→sameV a c=decide (a.list.length=c.list.length))∧(v≠0→sameV a c=false)∧a'.tm.get 2=some (.bx 0 (encV a) 24)∧a'.tm.get 3=some (.bx 2 (encV c) 24)∧a'.tm.get 5=some (.int .i64 v)):=⟨_,rfl⟩
  refine tw_loop I (min a.list.length c.list.length) R ?_ ?_ ?_ ?_ ?_
  ·rw [hI]
   exact ⟨rfl,rfl,0,fun _=>hS,fun h=>absurd rfl h,by simp [encV_def],by simp [encV_def],by simp,by simp⟩
  ·omega
  ·rw [hI]
   rintro j ⟨tm,df,clk⟩ σ' hj ⟨rfl,rfl,v,hv0,hv1,g2,g3,g5,g6⟩
   rw [←hI]
   rw [encV_def] at g2 g3
   by_cases e0:v=0
   ·have hja:j<a.list.length:=by omega
    have hjc:j<c.list.length:=by omega
    have hw:=wrapJ hja ha.len
    obtain ⟨r,hcc,hr⟩:=ih a.list[j] c.list[j] σ'.length σ' (by have:=szVs_mem _ _ (List.getElem_mem hja);omega) (ha.sub _ (List.getElem_mem hja)) (hc.sub _ (List.getElem_mem hjc))
    rw [encV_def,encV_def c.list[j]] at hcc
    have hd:=hv0 e0
    rw [all2_step hja hjc,←hr] at hd
    subst e0
    simp [g2,g3,g5,g6,hja,hjc,hcc,hw,encV_def]
    rw [hI]
    refine ⟨rfl,rfl,r,fun h=>by rw [hd];simp [h],fun h=>by rw [hd];simp [h],by simp [g2,encV_def],by simp [g3,encV_def],by simp,by simp⟩
   ·simp [g2,g3,g5,g6,e0]
    rw [hR]
    exact ⟨rfl,rfl,rfl,v,fun h=>absurd h e0,hv1,by simp [g2,encV_def],by simp [g3,encV_def],by simp [g5]⟩
  ·rw [hI]
   rintro ⟨tm,df,clk⟩ σ' ⟨rfl,rfl,v,hv0,hv1,g2,g3,g5,g6⟩
   rw [encV_def] at g2 g3
   have hend:v=0→sameV a c=decide (a.list.length=c.list.length):=fun h=>by
    rw [hv0 h]
    by_cases hlen:a.list.length=c.list.length
    ·rw [all2_end (by omega) (by omega)];simp [hlen]
    ·rw [all2_ne (by rw [List.length_drop,List.length_drop];omega)];simp [hlen]
   by_cases e0:v=0
   ·subst e0
    by_cases hja:((min a.list.length c.list.length:Nat):Int)<(a.list.length:Int)
    ·have hjc:¬((min a.list.length c.list.length:Nat):Int)<(c.list.length:Int):=by omega
     generalize min a.list.length c.list.length=mn at g6 hja hjc
     simp [g2,g3,g5,g6,hja,hjc]
     rw [hR]
     exact ⟨rfl,rfl,rfl,0,hend,hv1,by simp [g2,encV_def],by simp [g3,encV_def],by simp [g5]⟩
    ·generalize min a.list.length c.list.length=mn at g6 hja
     simp [g2,g3,g5,g6,hja]
     rw [hR]
     exact ⟨rfl,rfl,rfl,0,hend,hv1,by simp [g2,encV_def],by simp [g3,encV_def],by simp [g5]⟩
   ·simp [g2,g3,g5,g6,e0]
    rw [hR]
    exact ⟨rfl,rfl,rfl,v,hend,hv1,by simp [g2,encV_def],by simp [g3,encV_def],by simp [g5]⟩
  ·rw [hR]
   rintro ex ⟨tm,df,clk⟩ σ' ⟨rfl,rfl,rfl,v,hv0,hv1,g2,g3,g5⟩
   rw [encV_def] at g2 g3
   by_cases e0:v=0
   ·subst e0
    have hd:=hv0 rfl
    have z3':decide (r3=0)=decide (a.list.length=c.list.length):=by rw [z3];simp [Int.ofNat_inj]
    simp [g2,g3,g5,h3,hd]
    exact decide_eq_decide.1 z3'
   ·simp [g2,g3,g5,e0,hv1 e0]
theorem same_t (h106:F 112=some f106) (h158:F 162=some f158) (h180:F 202=some f180) (h165:F 201=some f165) (h181:F 203=some f181) (N:Nat) (a c:PVal) (b:Nat) (σ:Sto) (h:szV a≤N) (ha:OkV a) (hc:OkV c):
  tcall F O (N+1) b 112 [.agg (encV a),.agg (encV c)] σ=some (.ret (.bool (sameV a c)),σ):=by
 obtain ⟨r,hq,hr⟩:=compare_t (O:=O) h158 h180 h165 h181 N a c σ.length σ h ha hc
 rw [encV_def,encV_def c] at hq
 refine tcall_pure h106 ?_
 simp [x106,encV_def,hq,←hr]
theorem refSame_t (h109:F 85=some f109) (h159:F 115=some f159) (h182:F 163=some f182) (N:Nat) (a c:PVal) (b:Nat) (σ:Sto) (h:szV a≤N) (ha:OkV a) (hc:OkV c):
  tcall F O (N+1) b 85 [.agg (encV a),.agg (encV c)] σ=some (.ret (.bool (sameV a c)),σ):=by
 obtain ⟨r,hq,hr⟩:=refCompare_t (O:=O) h159 h182 N a c σ.length σ h ha hc
 rw [encV_def,encV_def c] at hq
 refine tcall_pure h109 ?_
 simp [x109,encV_def,hq,←hr]
end Go.Xe.YtlgknghehgmodaaGreatDoor
end
section
namespace Go.Xe.YtlgknghehgmodaaGreatDoor
open Go Go.Xe Go.Xt
variable {F:FuncId→Option TFun} {O:FuncId→List TV→Option TV}
structure VFits (F:FuncId→Option TFun):Prop where
 h106:F 112=some f106
 h158:F 162=some f158
 h180:F 202=some f180
 h165:F 201=some f165
 h181:F 203=some f181
 h107:F 113=some f107
 h109:F 85=some f109
 h159:F 115=some f159
 h182:F 163=some f182
 h110:F 86=some f110
theorem sameTm_def' (a b:PTerm):sameTm a b=(decide (a.kind=b.kind)&&(decide (a.n=b.n)&&(decide (a.m=b.m)&&(sameV a.val b.val&&(all2 sameI a.odds b.odds&&all2 sameTm a.kids b.kids))))):=sameTm_def a b
theorem refSameTerm_t (V:VFits F) (h65:F 45=some f65):∀(N:Nat) (a c:PTerm) (b:Nat) (σ:Sto),szTm a≤N→OkTm a→OkTm c→
  tcall F O N b 45 [.agg (encTm a),.agg (encTm c)] σ=some (.ret (.bool (sameTm a c)),σ)
 |0,a,c,b,σ,h,_,_=>by rw [szTm_def] at h;omega
 |1,a,c,b,σ,h,_,_=>by rw [szTm_def] at h;omega
 |N+2,a,c,b,σ,h,ha,hc=>by
  have ih:=refSameTerm_t V h65 (N+1)
  have hs:=szTm_def a
  have hk:=szTms_len a.kids
  have hV:=refSame_t (O:=O) V.h109 V.h159 V.h182 N a.val c.val σ.length σ (by omega) ha.val hc.val
  have hI:=ints110_t (O:=O) V.h110 N σ.length σ a.odds c.odds ha.olen hc.olen (by omega)
  rw [encV_def,encV_def c.val] at hV
  refine tcall_pure h65 ?_
  by_cases hk:a.kind=c.kind
  case neg=>simp [x65,encTm_def,sameTm_def',hk]
  by_cases hn:a.n=c.n
  case neg=>simp [x65,encTm_def,sameTm_def',hk,hn]
  by_cases hm:a.m=c.m
  case neg=>simp [x65,encTm_def,sameTm_def',hk,hn,hm]
  cases hv:sameV a.val c.val with
  |false=>
   rw [hv] at hV
   simp [x65,encTm_def,sameTm_def',hk,hn,hm,hV,hv]
  |true=>
   rw [hv] at hV
   cases hi:all2 sameI a.odds c.odds with
   |false=>
    rw [hi] at hI
    simp [x65,encTm_def,sameTm_def',hk,hn,hm,hV,hv,hI,hi]
   |true=>
    rw [hi] at hI
    by_cases hlm:(a.kids.length:Int)=(c.kids.length:Int)
    case neg=>
     have hne:a.kids.length≠c.kids.length:=by omega
     simp [x65,encTm_def,sameTm_def',hk,hn,hm,hV,hv,hI,hi,hlm,hne,all2_ne hne]
    have hlm':a.kids.length=c.kids.length:=by omega
    simp [x65,encTm_def,sameTm_def',hk,hn,hm,hV,hv,hI,hi,hlm']
    obtain ⟨I,hI⟩:∃I:Nat→TAct→Sto→Prop,I=(fun j a' σ'=>a'.df=[]∧σ'=σ∧all2 sameTm (a.kids.drop j) (c.kids.drop j)=all2 sameTm a.kids c.kids∧a'.tm.get 2=some (.bx 0 (encTm a) 28)∧a'.tm.get 3=some (.bx 2 (encTm c) 28)∧a'.tm.get 5=some (.int .i64 j)):=⟨_,rfl⟩
    obtain ⟨R,hR⟩:∃R:TEx→TAct→Sto→Prop,R=(fun ex a' σ'=>a'.df=[]∧σ'=σ∧(ex=.exit 0∧all2 sameTm a.kids c.kids=true∨ex=.ret∧all2 sameTm a.kids c.kids=false∧a'.tm.get 4=some (.bool false))):=⟨_,rfl⟩
    refine tw_loop I c.kids.length R ?_ ?_ ?_ ?_ ?_
    ·rw [hI]
     simp [encTm_def,hk,hn,hm]
    ·omega
    ·rw [hI]
     rintro j ⟨tm,df,clk⟩ σ' hj ⟨rfl,rfl,hd,h2,h3,h5⟩
     rw [←hI]
     have hjl:j<a.kids.length:=by omega
     have hw:=wrapJ hj hc.len
     rw [all2_step hjl hj] at hd
     have hcc:=ih a.kids[j] c.kids[j] σ'.length σ' (by have:=szTms_mem _ _ (List.getElem_mem hjl);omega) (ha.sub _ (List.getElem_mem hjl)) (hc.sub _ (List.getElem_mem hj))
     rw [encTm_def,encTm_def c.kids[j]] at hcc
     rw [encTm_def] at h2 h3
     cases hs:sameTm a.kids[j] c.kids[j] with
     |true=>
      rw [hs] at hd hcc
      simp [h2,h3,h5,hj,hjl,hlm',hcc,hw,encTm_def]
      rw [hI]
      simpa [h2,h3,encTm_def] using hd
     |false=>
      rw [hs] at hd hcc
      simp [h2,h3,h5,hj,hjl,hlm',hcc,hw,encTm_def]
      rw [hR]
      simpa using hd.symm
    ·rw [hI]
     rintro ⟨tm,df,clk⟩ σ' ⟨rfl,rfl,hd,h2,h3,h5⟩
     rw [all2_end (by omega) (by omega)] at hd
     rw [encTm_def] at h2 h3
     simp [h2,h3,h5,hlm']
     rw [hR]
     exact ⟨rfl,rfl,.inl ⟨rfl,hd.symm⟩⟩
    ·rw [hR]
     rintro ex ⟨tm,df,clk⟩ σ' ⟨rfl,rfl,⟨rfl,h⟩|⟨rfl,h,h6⟩⟩
     ·simp [h]
     ·simp [h,h6]
end Go.Xe.YtlgknghehgmodaaGreatDoor
end
section
namespace Go.Xe.YtlgknghehgmodaaGreatDoor
open Go Go.Xe Go.Xt
variable {F:FuncId→Option TFun} {O:FuncId→List TV→Option TV}
theorem any_step {α:Type} {S:α→Bool} {l:List α} {j:Nat} (h:j<l.length):(l.drop j).any S=(S l[j]||(l.drop (j+1)).any S):=by
 rw [List.drop_eq_getElem_cons h,List.any_cons]
theorem anyTm_i (hF:F 73=some f1073) (G:FuncId) (cap:List TV) (N:Nat) (S:PTerm→Bool) (b:Nat) (σ:Sto) (l:List PTerm) (hl:l.length≤maxLen) (hn:l.length<N)
  (hc:∀x∈l,∀b,tcall F O N b G (.agg (encTm x)::cap) σ=some (.ret (.bool (S x)),σ)):
  ∃r:Int,tcall F O (N+1) b 73 [.sl .fz (l.map encTm),.func G [] cap] σ=some (.ret (.int .i64 r),σ)∧decide (0≤r)=l.any S:=by
 suffices hh:∃e' σ',tcall F O (N+1) b 73 [.sl .fz (l.map encTm),.func G [] cap] σ=some (e',σ')∧∃r:Int,e'=.ret (.int .i64 r)∧σ'=σ∧decide (0≤r)=l.any S by
  obtain ⟨e',σ',q1,r,rfl,rfl,q2⟩:=hh
  exact ⟨r,q1,q2⟩
 refine tcall_of hF ?_
 simp [x1073]
 obtain ⟨I,hI⟩:∃I:Nat→TAct→Sto→Prop,I=(fun j a σ'=>a.df=[]∧σ'=σ∧(l.drop j).any S=l.any S∧a.tm.get 0=some (.sl .fz (l.map encTm))∧a.tm.get 1=some (.func G [] cap)∧a.tm.get 7=some (.int .i64 (l.length:Int))∧a.tm.get 8=some (.int .i64 j)):=⟨_,rfl⟩
 obtain ⟨R,hR⟩:∃R:TEx→TAct→Sto→Prop,R=(fun ex a σ'=>a.df=[]∧σ'=σ∧(ex=.exit 0∧l.any S=false∨ex=.ret∧l.any S=true∧∃r:Int,0≤r∧a.tm.get 4=some (.int .i64 r))):=⟨_,rfl⟩
 refine tw_loop I l.length R ?_ ?_ ?_ ?_ ?_
 ·rw [hI]
  simp
 ·omega
 ·rw [hI]
  rintro j ⟨tm,df,clk⟩ σ' hj ⟨rfl,rfl,hd,h0,h1,h7,h8⟩
  rw [←hI]
  have hw:=wrapJ hj hl
  rw [any_step hj] at hd
  have hcc:=hc l[j] (List.getElem_mem hj) σ'.length
  rw [encTm_def] at hcc
  cases hs:S l[j] with
  |true=>
   rw [hs] at hd hcc
   simp [h0,h1,h7,h8,hj,hcc,hw,encTm_def]
   rw [hR]
   exact ⟨rfl,rfl,.inr ⟨rfl,by simpa using hd.symm,j,by omega,by simp⟩⟩
  |false=>
   rw [hs] at hd hcc
   simp [h0,h1,h7,h8,hj,hcc,hw,encTm_def]
   rw [hI]
   simpa [h0,h1,h7] using hd
 ·rw [hI]
  rintro ⟨tm,df,clk⟩ σ' ⟨rfl,rfl,hd,h0,h1,h7,h8⟩
  rw [List.drop_of_length_le (Nat.le_refl _)] at hd
  simp [h0,h1,h7,h8]
  rw [hR]
  exact ⟨rfl,rfl,.inl ⟨rfl,hd.symm⟩⟩
 ·rw [hR]
  rintro ex ⟨tm,df,clk⟩ σ' ⟨rfl,rfl,⟨rfl,h⟩|⟨rfl,h,r,hr,h4⟩⟩
  ·simp [h]
  ·simp [h,h4,hr]
theorem anyTm (hF:F 33=some f1033) (hI:F 73=some f1073) (G:FuncId) (cap:List TV) (N:Nat) (S:PTerm→Bool) (b:Nat) (σ:Sto) (l:List PTerm) (hl:l.length≤maxLen) (hn:l.length<N)
  (hc:∀x∈l,∀b,tcall F O N b G (.agg (encTm x)::cap) σ=some (.ret (.bool (S x)),σ)):
  tcall F O (N+2) b 33 [.sl .fz (l.map encTm),.func G [] cap] σ=some (.ret (.bool (l.any S)),σ):=by
 obtain ⟨r,hq,hr⟩:=anyTm_i (O:=O) hI G cap N S σ.length σ l hl hn hc
 refine tcall_pure hF ?_
 simp [x1033,hq,←hr]
def evenB:List Int→Bool
 |[a,b]=>decide (a=b)&&decide (0<a)
 |_=>false
theorem evenB_ne {o:List Int} (h:o.length≠2):evenB o=false:=by
 match o,h with
 |[],_=>rfl
 |[_],_=>rfl
 |[_,_],h=>exact absurd rfl h
 |_::_::_::_,_=>rfl
theorem even31_t (hF:F 31=some f1031) (N:Nat) (e:PTerm) (b:Nat) (σ:Sto):tcall F O (N+1) b 31 [.agg (encTm e)] σ=some (.ret (.bool (evenB e.odds)),σ):=by
 refine tcall_pure hF ?_
 by_cases h2:e.odds.length=2
 case neg=>
  have h2':¬(e.odds.length:Int)=2:=by omega
  simp [x1031,encTm_def,h2,h2',evenB_ne h2]
 obtain ⟨k,n,m,v,o,ks⟩:=e
 simp only [PTerm.odds] at h2
 obtain ⟨x,y,rfl⟩:∃x y,o=[x,y]:=by
  match o,h2 with|[x,y],_=>exact ⟨x,y,rfl⟩
 by_cases hxy:x=y
 ·by_cases hp:0<x
  ·simp [x1031,encTm_def,PTerm.odds,encI,evenB,hxy,hp]
  ·simp [x1031,encTm_def,PTerm.odds,encI,evenB,hxy,hp]
 ·simp [x1031,encTm_def,PTerm.odds,encI,evenB,hxy]
theorem even35_t (hF:F 35=some f1035) (N:Nat) (o:List Int) (b:Nat) (σ:Sto):tcall F O (N+1) b 35 [.sl .fz (o.map encI)] σ=some (.ret (.bool (evenB o)),σ):=by
 refine tcall_pure hF ?_
 by_cases h2:o.length=2
 case neg=>
  have h2':¬(o.length:Int)=2:=by omega
  simp [x1035,h2,h2',evenB_ne h2]
 obtain ⟨x,y,rfl⟩:∃x y,o=[x,y]:=by
  match o,h2 with|[x,y],_=>exact ⟨x,y,rfl⟩
 by_cases hxy:x=y
 ·by_cases hp:0<x
  ·simp [x1035,encI,evenB,hxy,hp]
  ·simp [x1035,encI,evenB,hxy,hp]
 ·simp [x1035,encI,evenB,hxy]
mutual
def sureT:PTerm→Bool
 |.mk k n _ _ o ks=>if k=3∨k=10∨k=4 then false else if k=5 then decide (ks.length=0) else if k=11∧evenB o=false then false else if k=6∧n∈([1,2,3,4,5,13,9]:List Int) then false else sureTs ks
def sureTs:List PTerm→Bool
 |[]=>true
 |t::l=>sureT t&&sureTs l
end
theorem sureTs_any:∀l,(!(l.any fun k=> !sureT k))=sureTs l
 |[]=>rfl
 |t::l=>by rw [List.any_cons,Bool.not_or,Bool.not_not,sureTs_any l];rfl
theorem sureT_def (t:PTerm):sureT t=if t.kind=3∨t.kind=10∨t.kind=4 then false else if t.kind=5 then decide (t.kids.length=0) else if t.kind=11∧evenB t.odds=false then false else if t.kind=6∧t.n∈([1,2,3,4,5,13,9]:List Int) then false else sureTs t.kids:=by
 cases t;simp only [sureT,PTerm.kind,PTerm.n,PTerm.odds,PTerm.kids];rfl
theorem sureTs_drop {l:List PTerm} {j:Nat} (hj:j<l.length):sureTs (l.drop j)=(sureT l[j]&&sureTs (l.drop (j+1))):=by
 rw [List.drop_eq_getElem_cons hj];rfl
structure UFits (F:FuncId→Option TFun):Prop where
 h9:F 9=some f1009
 h31:F 31=some f1031
 h32:F 32=some f66
 h72:F 72=some f111
 h33:F 33=some f1033
 h73:F 73=some f1073
 h34:F 34=some f1034
theorem ops_list:(([1,2,3,4,5,13,9]:List Int).map encI)=[[.int .i64 1],[.int .i64 2],[.int .i64 3],[.int .i64 4],[.int .i64 5],[.int .i64 13],[.int .i64 9]]:=rfl
theorem sure9_t (U:UFits F):∀(M N:Nat) (e:PTerm) (b:Nat) (σ:Sto),szTm e≤M→4*M+20≤N→OkTm e→tcall F O N b 9 [.agg (encTm e)] σ=some (.ret (.bool (sureT e)),σ)
 |0,N,e,b,σ,h,_,_=>by rw [szTm_def] at h;omega
 |M+1,N,e,b,σ,h,hN,he=>by
  have ih:=sure9_t U M
  have hs:=szTm_def e
  have hk:=szTms_len e.kids
  obtain ⟨N,rfl⟩:∃n,N=n+4:=⟨N - 4,by omega⟩
  refine tcall_pure U.h9 ?_
  have hkl:=he.len
  have hln:e.kids.length<N+1:=by omega
  have hev:=even31_t (O:=O) U.h31 (N+2) e σ.length σ
  have hcon:=contains_t (O:=O) U.h32 U.h72 (N+1) (.sl .fz (([1,2,3,4,5,13,9]:List Int).map encI)) [1,2,3,4,5,13,9] e.n σ.length σ (.fz _) (by decide) (by simp;omega)
  rw [ops_list] at hcon
  have h34:∀x∈e.kids,∀b,tcall F O (N+1) b 34 (.agg (encTm x)::[]) σ=some (.ret (.bool (!sureT x)),σ):=fun x hx b=>by
   have:=szTms_mem _ _ hx
   have hq:=ih N x σ.length σ (by omega) (by omega) (he.sub x hx)
   refine tcall_pure U.h34 ?_
   rw [encTm_def] at hq
   simp [x1034,encTm_def,hq]
  have hany:=anyTm (O:=O) U.h33 U.h73 34 [] (N+1) (fun x=> !sureT x) σ.length σ e.kids hkl hln h34
  rw [sureT_def]
  have hsa:=sureTs_any e.kids
  rw [encTm_def] at hev
  by_cases k3:e.kind=3
  ·simp [x1009,encTm_def,k3]
  by_cases k10:e.kind=10
  ·simp [x1009,encTm_def,k10]
  by_cases k4:e.kind=4
  ·simp [x1009,encTm_def,k4]
  by_cases k5:e.kind=5
  ·simp [x1009,encTm_def,k5]
  by_cases k11:e.kind=11
  ·cases hb:evenB e.odds with
   |false=>
    rw [hb,k11] at hev
    simp [x1009,encTm_def,k11,hev]
   |true=>
    rw [hb,k11] at hev
    simp [x1009,encTm_def,k11,hev,hany,hsa]
  by_cases k6:e.kind=6
  ·by_cases hm:e.n∈([1,2,3,4,5,13,9]:List Int)
   ·rw [decide_eq_true hm] at hcon
    rw [if_neg (by simp [k6]),if_neg (by simp [k6]),if_neg (by simp [k6]),if_pos ⟨k6,hm⟩]
    simp [x1009,encTm_def,k6,encI,hcon]
   ·rw [decide_eq_false hm] at hcon
    rw [if_neg (by simp [k6]),if_neg (by simp [k6]),if_neg (by simp [k6]),if_neg (fun h=>hm h.2)]
    simp [x1009,encTm_def,k6,encI,hcon,hany,hsa]
  simp [x1009,encTm_def,k3,k10,k4,k5,k11,k6,hany,hsa]
end Go.Xe.YtlgknghehgmodaaGreatDoor
end
section
namespace Go.Xe.YtlgknghehgmodaaGreatDoor
open Go Go.Xe Go.Xt
variable {F:FuncId→Option TFun} {O:FuncId→List TV→Option TV}
theorem sure10_t (h10:F 10=some f1010) (h35:F 35=some f1035):∀(N:Nat) (e:PTerm) (b:Nat) (σ:Sto),szTm e≤N→OkTm e→tcall F O N b 10 [.agg (encTm e)] σ=some (.ret (.bool (sureT e)),σ)
 |0,e,b,σ,h,_=>by rw [szTm_def] at h;omega
 |N+1,e,b,σ,h,he=>by
  have ih:=sure10_t h10 h35 N
  have hs:=szTm_def e
  have hk:=szTms_len e.kids
  obtain ⟨N,rfl⟩:∃n,N=n+1:=⟨N - 1,by omega⟩
  refine tcall_pure h10 ?_
  have hev:=even35_t (O:=O) h35 N e.odds σ.length σ
  rw [sureT_def]
  by_cases k3:e.kind=3
  ·simp [x1010,encTm_def,k3]
  by_cases k10:e.kind=10
  ·simp [x1010,encTm_def,k10]
  by_cases k4:e.kind=4
  ·simp [x1010,encTm_def,k4]
  by_cases k5:e.kind=5
  ·by_cases hl:e.kids.length=0
   ·have e0:e.kids=[]:=List.eq_nil_of_length_eq_zero hl
    rw [if_neg (by simp [k5]),if_pos k5,decide_eq_true hl]
    simp [x1010,encTm_def,k5,e0]
    refine tw_loop (fun j a σ'=>j=0∧a.df=[]∧σ'=σ∧a.tm.get 1=some (.bx 0 (encTm e) 28)∧a.tm.get 3=some (.int .i64 0)) 0 (fun ex a σ'=>ex=.exit 2∧a.df=[]∧σ'=σ) ?_ ?_ ?_ ?_ ?_
    ·exact ⟨rfl,rfl,rfl,by simp [encTm_def,k5,e0],by simp⟩
    ·omega
    ·intro j a σ' hj;omega
    ·rintro ⟨tm,df,clk⟩ σ' ⟨_,rfl,rfl,h1,h3⟩
     rw [encTm_def] at h1
     simp [h1,h3,e0]
    ·rintro ex ⟨tm,df,clk⟩ σ' ⟨rfl,rfl,rfl⟩
     simp
   ·have hl2:0<e.kids.length:=by omega
    have hl3:e.kids≠[]:=fun h=>hl (by simp [h])
    simp [x1010,encTm_def,k5,hl,hl2,hl3]
  by_cases k11:e.kind=11
  ·cases hb:evenB e.odds with
   |false=>
    rw [hb] at hev
    simp [x1010,encTm_def,k11,hev]
   |true=>
    rw [hb] at hev
    rw [if_neg (by simp [k11]),if_neg (by simp [k11]),if_neg (by simp),if_neg (by simp [k11])]
    simp [x1010,encTm_def,k11,hev]
    obtain ⟨I,hI⟩:∃I:Nat→TAct→Sto→Prop,I=(fun j a σ'=>a.df=[]∧σ'=σ∧sureTs (e.kids.drop j)=sureTs e.kids∧a.tm.get 1=some (.bx 0 (encTm e) 28)∧a.tm.get 3=some (.int .i64 j)):=⟨_,rfl⟩
    obtain ⟨R,hR⟩:∃R:TEx→TAct→Sto→Prop,R=(fun ex a σ'=>a.df=[]∧σ'=σ∧(ex=.exit 2∧sureTs e.kids=true∨ex=.ret∧sureTs e.kids=false∧a.tm.get 2=some (.bool false))):=⟨_,rfl⟩
    refine tw_loop I e.kids.length R ?_ ?_ ?_ ?_ ?_
    ·rw [hI]
     exact ⟨rfl,rfl,by simp,by simp [encTm_def,k11],by simp⟩
    ·omega
    ·rw [hI]
     rintro j ⟨tm,df,clk⟩ σ' hj ⟨rfl,rfl,ha,h1,h3⟩
     rw [←hI]
     have hw:=wrapJ hj he.len
     rw [sureTs_drop hj] at ha
     have hcc:=ih e.kids[j] σ'.length σ' (by have:=szTms_mem _ _ (List.getElem_mem hj);omega) (he.sub _ (List.getElem_mem hj))
     have h1':=h1
     rw [encTm_def] at hcc h1
     cases hs:sureT e.kids[j] with
     |true=>
      rw [hs] at ha hcc
      simp [h1,h3,hj,hcc,hw,encTm_def]
      rw [hI]
      exact ⟨rfl,rfl,by simpa using ha,by simp [h1'],by simp⟩
     |false=>
      rw [hs] at ha hcc
      simp [h1,h3,hj,hcc,hw,encTm_def]
      rw [hR]
      exact ⟨rfl,rfl,.inr ⟨rfl,by simpa using ha.symm,by simp⟩⟩
    ·rw [hI]
     rintro ⟨tm,df,clk⟩ σ' ⟨rfl,rfl,ha,h1,h3⟩
     rw [List.drop_of_length_le (Nat.le_refl _)] at ha
     rw [encTm_def] at h1
     simp [h1,h3]
     rw [hR]
     exact ⟨rfl,rfl,.inl ⟨rfl,by rw [←ha];rfl⟩⟩
    ·rw [hR]
     rintro ex ⟨tm,df,clk⟩ σ' ⟨rfl,rfl,⟨rfl,h⟩|⟨rfl,h,h6⟩⟩
     ·simp [h]
     ·simp [h,h6]
  by_cases k6:e.kind=6
  ·by_cases hm:e.n∈([1,2,3,4,5,13,9]:List Int)
   ·rw [if_neg (by simp [k6]),if_neg (by simp [k6]),if_neg (by simp [k6]),if_pos ⟨k6,hm⟩]
    simp only [List.mem_cons,List.not_mem_nil,or_false] at hm
    rcases hm with q|q|q|q|q|q|q
    all_goals simp [x1010,encTm_def,k6,q]
   ·rw [if_neg (by simp [k6]),if_neg (by simp [k6]),if_neg (by simp [k6]),if_neg (fun h=>hm h.2)]
    simp only [List.mem_cons,List.not_mem_nil,or_false,not_or] at hm
    obtain ⟨q1,q2,q3,q4,q5,q6,q7⟩:=hm
    simp [x1010,encTm_def,k6,q1,q2,q3,q4,q5,q6,q7]
    obtain ⟨I,hI⟩:∃I:Nat→TAct→Sto→Prop,I=(fun j a σ'=>a.df=[]∧σ'=σ∧sureTs (e.kids.drop j)=sureTs e.kids∧a.tm.get 1=some (.bx 0 (encTm e) 28)∧a.tm.get 3=some (.int .i64 j)):=⟨_,rfl⟩
    obtain ⟨R,hR⟩:∃R:TEx→TAct→Sto→Prop,R=(fun ex a σ'=>a.df=[]∧σ'=σ∧(ex=.exit 2∧sureTs e.kids=true∨ex=.ret∧sureTs e.kids=false∧a.tm.get 2=some (.bool false))):=⟨_,rfl⟩
    refine tw_loop I e.kids.length R ?_ ?_ ?_ ?_ ?_
    ·rw [hI]
     exact ⟨rfl,rfl,by simp,by simp [encTm_def,k6],by simp⟩
    ·omega
    ·rw [hI]
     rintro j ⟨tm,df,clk⟩ σ' hj ⟨rfl,rfl,ha,h1,h3⟩
     rw [←hI]
     have hw:=wrapJ hj he.len
     rw [sureTs_drop hj] at ha
     have hcc:=ih e.kids[j] σ'.length σ' (by have:=szTms_mem _ _ (List.getElem_mem hj);omega) (he.sub _ (List.getElem_mem hj))
     have h1':=h1
     rw [encTm_def] at hcc h1
     cases hs:sureT e.kids[j] with
     |true=>
      rw [hs] at ha hcc
      simp [h1,h3,hj,hcc,hw,encTm_def]
      rw [hI]
      exact ⟨rfl,rfl,by simpa using ha,by simp [h1'],by simp⟩
     |false=>
      rw [hs] at ha hcc
      simp [h1,h3,hj,hcc,hw,encTm_def]
      rw [hR]
      exact ⟨rfl,rfl,.inr ⟨rfl,by simpa using ha.symm,by simp⟩⟩
    ·rw [hI]
     rintro ⟨tm,df,clk⟩ σ' ⟨rfl,rfl,ha,h1,h3⟩
     rw [List.drop_of_length_le (Nat.le_refl _)] at ha
     rw [encTm_def] at h1
     simp [h1,h3]
     rw [hR]
     exact ⟨rfl,rfl,.inl ⟨rfl,by rw [←ha];rfl⟩⟩
    ·rw [hR]
     rintro ex ⟨tm,df,clk⟩ σ' ⟨rfl,rfl,⟨rfl,h⟩|⟨rfl,h,h6⟩⟩
     ·simp [h]
     ·simp [h,h6]
  rw [if_neg (by simp [k3,k10,k4]),if_neg k5,if_neg (fun h=>k11 h.1),if_neg (fun h=>k6 h.1)]
  simp [x1010,encTm_def,k3,k10,k4,k5,k11,k6]
  obtain ⟨I,hI⟩:∃I:Nat→TAct→Sto→Prop,I=(fun j a σ'=>a.df=[]∧σ'=σ∧sureTs (e.kids.drop j)=sureTs e.kids∧a.tm.get 1=some (.bx 0 (encTm e) 28)∧a.tm.get 3=some (.int .i64 j)):=⟨_,rfl⟩
  obtain ⟨R,hR⟩:∃R:TEx→TAct→Sto→Prop,R=(fun ex a σ'=>a.df=[]∧σ'=σ∧(ex=.exit 2∧sureTs e.kids=true∨ex=.ret∧sureTs e.kids=false∧a.tm.get 2=some (.bool false))):=⟨_,rfl⟩
  refine tw_loop I e.kids.length R ?_ ?_ ?_ ?_ ?_
  ·rw [hI]
   exact ⟨rfl,rfl,by simp,by simp [encTm_def,k3],by simp⟩
  ·omega
  ·rw [hI]
   rintro j ⟨tm,df,clk⟩ σ' hj ⟨rfl,rfl,ha,h1,h3⟩
   rw [←hI]
   have hw:=wrapJ hj he.len
   rw [sureTs_drop hj] at ha
   have hcc:=ih e.kids[j] σ'.length σ' (by have:=szTms_mem _ _ (List.getElem_mem hj);omega) (he.sub _ (List.getElem_mem hj))
   have h1':=h1
   rw [encTm_def] at hcc h1
   cases hs:sureT e.kids[j] with
   |true=>
    rw [hs] at ha hcc
    simp [h1,h3,hj,hcc,hw,encTm_def]
    rw [hI]
    exact ⟨rfl,rfl,by simpa using ha,by simp [h1'],by simp⟩
   |false=>
    rw [hs] at ha hcc
    simp [h1,h3,hj,hcc,hw,encTm_def]
    rw [hR]
    exact ⟨rfl,rfl,.inr ⟨rfl,by simpa using ha.symm,by simp⟩⟩
  ·rw [hI]
   rintro ⟨tm,df,clk⟩ σ' ⟨rfl,rfl,ha,h1,h3⟩
   rw [List.drop_of_length_le (Nat.le_refl _)] at ha
   rw [encTm_def] at h1
   simp [h1,h3]
   rw [hR]
   exact ⟨rfl,rfl,.inl ⟨rfl,by rw [←ha];rfl⟩⟩
  ·rw [hR]
   rintro ex ⟨tm,df,clk⟩ σ' ⟨rfl,rfl,⟨rfl,h⟩|⟨rfl,h,h6⟩⟩
   ·simp [h]
   ·simp [h,h6]
theorem Grn.cut {σ σ':Sto} (g:Grn σ σ'):σ'.take σ.length=σ:=by
 apply List.ext_getElem?
 intro i
 by_cases hi:i<σ.length
 ·have h1:=g.same i hi
  have h2:i<σ'.length:=Nat.lt_of_lt_of_le hi g.len
  rw [List.getElem?_take_of_lt hi]
  rw [List.getElem?_eq_getElem hi,List.getElem?_eq_getElem h2]
  unfold Sto.at at h1
  rw [List.getElem?_eq_getElem hi,List.getElem?_eq_getElem h2] at h1
  congr 1
  generalize σ[i]=x at h1 ⊢
  generalize σ'[i]=y at h1 ⊢
  cases x<;>cases y<;>simp_all
 ·rw [List.getElem?_eq_none (by rw [List.length_take];omega),List.getElem?_eq_none (by omega)]
def usedT (t:PTerm) (s:Int):Bool:=decide (s∈refF t)
structure WFits (F:FuncId→Option TFun) (O:FuncId→List TV→Option TV):Prop where
 h11:F 11=some f1011
 h12:F 12=some f1012
 h32:F 32=some f66
 h72:F 72=some f111
 h36:F 36=some f19
 h74:F 74=some f41
 h81:F 81=some f67
 h37:F 37=some f20
 h77:F 77=some f44
 h78:F 78=some f45
 h79:F 79=some f46
 r:RowO F O
theorem used11_t (U:WFits F O) (N:Nat) (e:PTerm) (s:Int) (b:Nat) (σ:Sto) (hN:szTm e+100012≤N) (he:OkTm e) (hc:cntT e≤3000):
  tcall F O (N+1) b 11 [.agg (encTm e),.int .i64 s] σ=some (.ret (.bool (usedT e s)),σ):=by
 obtain ⟨N,rfl⟩:∃n,N=n+2:=⟨N - 2,by omega⟩
 suffices hh:∃e' σ',tcall F O (N+2+1) b 11 [.agg (encTm e),.int .i64 s] σ=some (e',σ')∧e'=.ret (.bool (usedT e s))∧σ'=σ by
  obtain ⟨e',σ',q1,rfl,rfl⟩:=hh
  exact q1
 refine tcall_of U.h11 ?_
 obtain ⟨v,σ1,h1,hv,hgv,hgr⟩:=free19_t (O:=O) U.h36 U.h74 U.h32 U.h81 U.h72 U.r (N+1) e σ.length σ (by omega) he hc (Nat.le_refl _)
 rw [free_law] at hv
 have hlen:=refF_len e
 have h2:=contains_t (O:=O) U.h32 U.h72 N v (refF e) s σ.length σ1 hv (by unfold maxLen;omega) (by omega)
 have hcut:=hgr.cut
 rw [encTm_def] at h1
 unfold usedT
 generalize refF e=L at hv h2
 rcases hv with _|_|_
 all_goals simp [x1011,encTm_def,h1,h2,hcut]
end Go.Xe.YtlgknghehgmodaaGreatDoor
end
