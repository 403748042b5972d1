/-
  WHAT IS PROVED: the tied card of 'sortilegelaw17.SliceCores': at every input that the row takes the call returns true, and each argument reads behind the call as it read before.
  CONDITIONS: those of the given row (loops, recurses, unfollowed, named; 'sortilege/core.ops' reads as listed when the call begins, tied to the program's text by the given tie; the seat's repository is a pruned copy); no others.
-/
import Derived.Test.YtlgknghehgmodaaGreatDoorK8
import Derived.Test.YtlgknghehgmodaaGreatDoorRows
import Derived.Test.YtlgknghehgmodaaGreatDoorCards
import Derived.Test.YtlgknghehgmodaaGreatDoorTie
import Derived.ProofKit
import Derived.LaidMore
import Derived.OpenShut
import Derived.Stop.Joined
import Derived.SevenTiedAt
import Derived.WideShapes
set_option linter.unusedVariables false
set_option linter.unusedSimpArgs false
set_option linter.unusedSectionVars false
set_option maxRecDepth 100000
namespace Go.Proofs.YtlgknghehgmodaaGreatDoor
section
open Go Go.Xe Go.Xt Go.Proofs Go.RowKit Go.Xe.YtlgknghehgmodaaGreatDoor Go.ChangeShapes
set_option maxRecDepth 100000
theorem Tryz.own:ownKnob Tryz.prog.godebug=none:=by kernel_rfl
theorem Tryz.laidOut:laidOutB Tryz.prog=true:=by kernel_rfl
noncomputable def api:ApiC Tryz.prog where
 int:=3
 str:=9
 strs:=86
 ints:=25
 typ:=66
 typs:=35
 exp:=89
 exps:=87
 fld:=136
 flds:=84
 fn:=128
 fns:=85
 prog:=91
 hint:=Tryz.underlying3
 hstr:=Tryz.underlying9
 hstrs:=Tryz.underlying86
 hints:=Tryz.underlying25
 htyp:=⟨_,Tryz.underlying66,by kernel_rfl,by kernel_rfl⟩
 htyps:=Tryz.underlying35
 hexp:=⟨_,Tryz.underlying89,by kernel_rfl,by kernel_rfl⟩
 hexps:=Tryz.underlying87
 hfld:=⟨_,Tryz.underlying136,by kernel_rfl,by kernel_rfl⟩
 hflds:=Tryz.underlying84
 hfn:=⟨_,Tryz.underlying128,by kernel_rfl,by kernel_rfl⟩
 hfns:=Tryz.underlying85
 hprog:=⟨_,Tryz.underlying91,by kernel_rfl,by kernel_rfl⟩
 val:=24
 vals:=22
 term:=28
 terms:=26
 body:=38
 bodies:=36
 core:=40
 hval:=⟨_,Tryz.underlying24,by kernel_rfl,by kernel_rfl⟩
 hvals:=Tryz.underlying22
 hterm:=⟨_,Tryz.underlying28,by kernel_rfl,by kernel_rfl⟩
 hterms:=Tryz.underlying26
 hbody:=⟨_,Tryz.underlying38,by kernel_rfl,by kernel_rfl⟩
 hbodies:=Tryz.underlying36
 hcore:=⟨_,Tryz.underlying40,by kernel_rfl,by kernel_rfl⟩
def readT:List TypeId:=[3,66,35,24,22,25,28,26,38,36,40]
theorem B3N:readT.all (plainT Tryz.prog readT)=true:=by kernel_rfl
theorem C0n:readT.all (B4C Tryz.prog)=true:=by kernel_rfl
abbrev C1E : List (String × DataW Unit) := [("sortilege/core.ops", Rows.laid_sortilege_core_ops)]
def D3h:List (List UInt8):=[[],[43],[45],[42],[47],[37],[61,61],[60],[60,61],[58,58],[97,110,100],[111,114],[110,111,116],[110,101,103]]
theorem C57 {W:World} (hS:W.ShapedOpen Tryz.prog) (h:laidMetH Tryz.prog C1E W):laidG opsL W:=fun x hx=>by
 cases List.mem_singleton.1 hx;exact C0m (n:=14) (t:=229) (e:=9) (bs:=D3h) (zero:=Array.replicate 14 (.string ⟨#[]⟩)) hS h rfl (by kernel_rfl) (by kernel_rfl) (by kernel_rfl) (by kernel_rfl) (by kernel_rfl) (by kernel_rfl) (of_decide_eq_true (by kernel_rfl)) (by kernel_rfl)
theorem C58 (c:PCore):∃M,A1c c.types<=M/\E3 c.query.term<=M/\(∀f∈c.funs,E3 f.term<=M)/\c.funs.length<=M:=by
 have hb:∃B,∀f∈c.funs,E3 f.term<=B:=by
  generalize c.funs=l
  induction l with
  |nil=>exact ⟨0,fun f hf=>by cases hf⟩
  |cons a l ih=>
   obtain ⟨B,hB⟩:=ih
   exact ⟨E3 a.term+B,fun f hf=>by
    rcases List.mem_cons.1 hf with rfl|hf
    ·omega
    ·have:=hB f hf;omega⟩
 obtain ⟨B,hB⟩:=hb;exact ⟨A1c c.types+B+c.funs.length+E3 c.query.term,by omega,by omega,fun f hf=>by have:=hB f hf;omega,by omega⟩
theorem A8N (W:World) (hS:W.ShapedOpen Tryz.prog) (hl:laidG opsL W) {H:Type} {enc:TypeId×Value->H} {cs:Array Value} {d:DataW H} {ps:List MemPlace}
  (h:DataW.Trod enc Tryz.prog W 0 (fun _=>true) true 40 (.agg cs) d ps) (hsz:∀n∈d.weights Tryz.prog 40,n<=reachBytes):Calls Tryz.prog 4 #[.agg cs] W fun E W'=>E=.returned (.bool true)/\Below W.heap.size W W':=by
 obtain ⟨fuel,h⟩:=h;obtain ⟨L,cs',_,hL,hv,_,hr⟩:=C0D readT B3N fuel 40 rfl cs.toList _ h [] (LOk.nil W);obtain ⟨l,hrv,hsh,hsm⟩:=B4D (μ:=[]) (B:=reachBytes) B3N C0n hr rfl hsz;obtain ⟨p,rfl,hp⟩:=C13 api hsh;obtain ⟨M,m1,m2,m3,m4⟩:=C58 p;obtain ⟨σ',ht⟩:=B1A p hp hsm M m1 m2 m3 m4 (5*M+101000) (Nat.le_refl _)
 obtain ⟨s',hx2⟩:=B6S fits (L:=L) (args:=[.agg (E9 p)]) (args':=[.agg ⟨cs'⟩]) (.cons (.agg hrv) .nil) ht;exact B6u D3g (fun _=>rfl) (w:=W) ⟨⟨rfl,hS⟩,hl⟩ hL (args':=[.agg cs]) (.cons (.agg hv) .nil) hx2
theorem C0o (os:Os) (args:Array Value):laidMetH Tryz.prog C1E ((World.doorLaid Tryz.prog 400 os).forCall (fun _ _=>0) ⟨#[],args,[]⟩).memory:=
 laidMetH_of_parts3 (fuel:=8) (laidMet_of_run' 8 (by kernel_rfl) (by kernel_rfl)) (by kernel_rfl) (by kernel_rfl)
def D0Z:Value:=.agg #[.slice none 0 0,.slice none 0 0,.int .i64 0,.int .i64 0,.int .i64 0,.int .i64 0,.int .i64 0,.int .i64 0,.int .i64 0,.slice none 0 0,.slice none 0 0,.slice none 0 0,.int .i64 0]
theorem A5g (os:Os) (started:os.Started) (H:Type) (enc:TypeId×Value->H):
  ReturnsInHanded {} Tryz.checked os 4 .any (fun w args=>(Rows.sliceCoresSpec.pre enc Tryz.prog Tryz.f4 [] false w args/\laidMetH Tryz.prog C1E w)/\sizedMet enc Tryz.prog Tryz.f4 (OpenSpec.ofChange Rows.sliceCoresSpec) false w args)
   (Rows.sliceCoresSpec.post enc Tryz.prog Tryz.f4 false true false false):=by
 refine returnsInHanded_of_calls (C:=Tryz.checked) Tryz.own started (by kernel_rfl)
  (ChangeSpec.witness_shaped (enc:=enc) (C:=Tryz.checked) (os:=os) (X:=fun w _=>laidMetH Tryz.prog C1E w) false (World.doorLaid Tryz.prog 400 os) #[D0Z] 8 rfl (World.shaped_of_RefB (by kernel_rfl) (by kernel_rfl)) (by kernel_rfl) (by kernel_rfl) (by kernel_rfl) (C0o os _)) ?_
 intro w tape i _ hS _ hok hpre hholds;obtain ⟨_,_,_,fn',hfn',_,_,_,_,hval⟩:=hok;have e:fn'=Tryz.f4:=Option.some.inj (hfn'.symm.trans Tryz.func4);subst e;obtain ⟨⟨⟨ds,gs,before,hw,hc⟩,hlm⟩,hz⟩:=hpre;have hl0:=C57 (World.ShapedOpen.of_heap (by rfl) hS) hlm;have hl:laidG opsL (w.forCall tape i):=fun x hx=>hl0 x hx
 clear hl0 hlm;have hsized:=hz.weights hw;have hW:=DataW.Whole.of_heap (w':=w.forCall tape i) (by rfl) hw;clear hw hholds hc hz;generalize hWg:w.forCall tape i=W at hS hW hval hl ⊢;have hWk:=hW;obtain ⟨p,q,hA0,hV,rfl,hfz,hnd⟩:=hW;have hA:DataW.TrodAll enc Tryz.prog W 0 (fun _=>true) true Tryz.f4.params.toList i.args.toList ds p:=hA0;rw [Tryz.params4] at hA hval hsized
 obtain ⟨v0,d0,ha,rfl,h0⟩:=trodAll_one hA;obtain ⟨rfl,rfl⟩:=trodVars_none hV;have hok0:Value.okWide Tryz.prog W .any w.heap.size 40 v0:=hval 0 40 v0 rfl (by rw [ha];rfl);unfold Value.okWide at hok0;rw [Tryz.underlying40] at hok0;obtain ⟨cs,rfl,_,_⟩:=hok0;simp only [List.append_nil] at hWk;rw [ha] at hWk ⊢;have hsz:∀n∈d0.weights Tryz.prog 40,n<=reachBytes:=fun n hn=>by
  have:=List.all_eq_true.1 hsized n (DataW.weights_mem_each (j:=0) rfl rfl n hn)
  simpa using this
 refine Calls.mono (A8N W hS hl h0 hsz) ?_;rintro E W' ⟨rfl,hb⟩;have hlt:∀x∈p,x.block<W.heap.size:=fun x hx=>by simpa using hWk.lt x hx
 refine ChangeSpec.post_blind ⟨[d0],[],p,[],p,[],hWk,?_,trodAll_mk1 (Below.trod Tryz.laidOut (by kernel_rfl) (of_decide_eq_true (by kernel_rfl)) h0 hb hlt),rfl,hb.frame _,fun h=>by cases h⟩;exact trodAll_mk1 (shut_bool Tryz.underlying4 true)
theorem A8O:Rows.SliceCoresSaid:=
 OpenClaim.holds_of_wide 4 Tryz.f4 rfl rfl rfl rfl rfl rfl rfl ⟨rfl,rfl,rfl,rfl,rfl⟩ rfl rfl rfl rfl rfl (by kernel_rfl) Tryz.func4 (by kernel_rfl)
  (of_decide_eq_true (by kernel_rfl)) (by unfold Func.isWrapper;rw [if_neg (by decide+kernel)];exact ⟨rfl,rfl⟩)
  (fun os started H enc _=>A5g os started H enc)
theorem sliceCores_holds:Rows.SliceCoresCardSaid:=
 Claim7.holds_tied_plain_at .later [] [.widerDeep] true (true, "3a252aec191009ef1e32ebe3168671fed77026a0fd9c2d59ca41c742d5da5bb4") true
  A8O (fun _ h=>by cases h) (by kernel_rfl) (fun _ h=>by cases h) sliceCores_row_tie rfl ⟨rfl,rfl⟩ (by kernel_rfl) rfl
  (fun f fn hf hfn=>by
   obtain rfl : f = 4 := Option.some.inj ((show Tryz.prog.funcNamed "sortilege/sortilegelaw17.SliceCores" = some 4 by kernel_rfl).symm.trans hf) |>.symm
   obtain rfl:fn=Tryz.f4:=(Option.some.inj (Tryz.func4.symm.trans hfn)).symm
   exact ⟨by kernel_rfl,fun j t ht=>by
    rw [Tryz.params4] at ht;have hm:t∈[40]:=by simpa using Array.mem_of_getElem? ht
    have hall:([40].all fun u=> !Tryz.prog.wantsStandIn u)=true:=by kernel_rfl
    exact (show Tryz.prog.wantsStandIn t=false by simpa using List.all_eq_true.1 hall t hm)⟩)
  (by kernel_rfl)
end
end Go.Proofs.YtlgknghehgmodaaGreatDoor
