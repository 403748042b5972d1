/-
  WHAT IS PROVED: the tied card of 'sortilegelaw17.SliceTerms': at every input that the row takes the call returns true, and each argument reads behind the call as it read before.
  CONDITIONS: those of the given row (loops, recurses, unfollowed, named; 'sortilege/core.ops' reads as listed when the call begins, tied to the program's text by the given tie; the seat's repository is a pruned copy); no others.
-/
import Derived.Test.YtlgknghehgmodaaGreatDoorK5
import Derived.Test.YtlgknghehgmodaaGreatDoorRows
import Derived.Test.YtlgknghehgmodaaGreatDoorCards
import Derived.Test.YtlgknghehgmodaaGreatDoorTie
import Derived.ProofKit
import Derived.LaidMore
import Derived.OpenShut
import Derived.Stop.Joined
import Derived.SevenTiedAt
import Derived.WideShapes
set_option linter.unusedVariables false
set_option linter.unusedSimpArgs false
set_option linter.unusedSectionVars false
section
namespace Go.Proofs.YtlgknghehgmodaaGreatDoor
open Go Go.Xe Go.Xt Go.Proofs Go.RowKit Go.Xe.YtlgknghehgmodaaGreatDoor Go.ChangeShapes
set_option maxRecDepth 100000
theorem Tryz.own:ownKnob Tryz.prog.godebug=none:=by kernel_rfl
theorem Tryz.laidOut:laidOutB Tryz.prog=true:=by kernel_rfl
noncomputable def api:ApiC Tryz.prog where
 int:=3
 str:=9
 strs:=86
 ints:=25
 typ:=66
 typs:=35
 exp:=89
 exps:=87
 fld:=136
 flds:=84
 fn:=128
 fns:=85
 prog:=91
 hint:=Tryz.underlying3
 hstr:=Tryz.underlying9
 hstrs:=Tryz.underlying86
 hints:=Tryz.underlying25
 htyp:=⟨_,Tryz.underlying66,by kernel_rfl,by kernel_rfl⟩
 htyps:=Tryz.underlying35
 hexp:=⟨_,Tryz.underlying89,by kernel_rfl,by kernel_rfl⟩
 hexps:=Tryz.underlying87
 hfld:=⟨_,Tryz.underlying136,by kernel_rfl,by kernel_rfl⟩
 hflds:=Tryz.underlying84
 hfn:=⟨_,Tryz.underlying128,by kernel_rfl,by kernel_rfl⟩
 hfns:=Tryz.underlying85
 hprog:=⟨_,Tryz.underlying91,by kernel_rfl,by kernel_rfl⟩
 val:=24
 vals:=22
 term:=28
 terms:=26
 body:=38
 bodies:=36
 core:=40
 hval:=⟨_,Tryz.underlying24,by kernel_rfl,by kernel_rfl⟩
 hvals:=Tryz.underlying22
 hterm:=⟨_,Tryz.underlying28,by kernel_rfl,by kernel_rfl⟩
 hterms:=Tryz.underlying26
 hbody:=⟨_,Tryz.underlying38,by kernel_rfl,by kernel_rfl⟩
 hbodies:=Tryz.underlying36
 hcore:=⟨_,Tryz.underlying40,by kernel_rfl,by kernel_rfl⟩
def readT:List TypeId:=[3,66,35,24,22,25,28,26,38,36,40]
theorem readT_ok:readT.all (plainT Tryz.prog readT)=true:=by kernel_rfl
theorem bytes_ok:readT.all (bytesB Tryz.prog)=true:=by kernel_rfl
abbrev ops1 : List (String × DataW Unit) := [("sortilege/core.ops", Rows.laid_sortilege_core_ops)]
def opsB:List (List UInt8):=[[],[43],[45],[42],[47],[37],[61,61],[60],[60,61],[58,58],[97,110,100],[111,114],[110,111,116],[110,101,103]]
theorem ops_of {W:World} (hS:W.ShapedOpen Tryz.prog) (h:laidMetH Tryz.prog ops1 W):laidG opsL W:=fun x hx=>by
 cases List.mem_singleton.1 hx
 exact laid_row (n:=14) (t:=229) (e:=9) (bs:=opsB) (zero:=Array.replicate 14 (.string ⟨#[]⟩)) hS h rfl (by kernel_rfl) (by kernel_rfl) (by kernel_rfl) (by kernel_rfl) (by kernel_rfl) (by kernel_rfl) (of_decide_eq_true (by kernel_rfl)) (by kernel_rfl)
theorem sliceTerms_any (W:World) (hS:W.ShapedOpen Tryz.prog) (hl:laidG opsL W) {H:Type} {enc:TypeId×Value→H} {cs:Array Value} {d:DataW H} {ps:List MemPlace} (z:Int)
  (h:DataW.Trod enc Tryz.prog W 0 (fun _=>true) true 28 (.agg cs) d ps) (hsz:∀n∈d.weights Tryz.prog 28,n≤reachBytes):Calls Tryz.prog 3 #[.agg cs,.int .i64 z] W fun E W'=>E=.returned (.bool true)∧Below W.heap.size W W':=by
 obtain ⟨fuel,h⟩:=h
 obtain ⟨L,cs',_,hL,hv,_,hr⟩:=lay_all readT readT_ok fuel 28 rfl cs.toList _ h [] (LOk.nil W)
 obtain ⟨l,hrv,hsh,hsm⟩:=tree_small (μ:=[]) (B:=reachBytes) readT_ok bytes_ok hr rfl hsz
 obtain ⟨p,rfl,hp⟩:=sh_term api _ _ (Nat.lt_succ_self _) hsh
 obtain ⟨σ',ht⟩:=sliceTerms_t p z hp hsm (5*szTm p+100200) (Nat.le_refl _)
 obtain ⟨s',hx2⟩:=tree_true fits (L:=L) (args:=[.agg (encTm p),.int .i64 z]) (args':=[.agg ⟨cs'⟩,.int .i64 z]) (.cons (.agg hrv) (.cons (.int _ _) .nil)) ht
 exact laid_true envX (fun _=>rfl) (w:=W) ⟨⟨rfl,hS⟩,hl⟩ hL (args':=[.agg cs,.int .i64 z]) (.cons (.agg hv) (.cons (.int _ _) .nil)) hx2
theorem door_met (os:Os) (args:Array Value):laidMetH Tryz.prog ops1 ((World.doorLaid Tryz.prog 400 os).forCall (fun _ _=>0) ⟨#[],args,[]⟩).memory:=
 laidMetH_of_parts3 (fuel:=8) (laidMet_of_run' 8 (by kernel_rfl) (by kernel_rfl)) (by kernel_rfl) (by kernel_rfl)
def termZ:Value:=.agg #[.int .i64 0,.int .i64 0,.int .i64 0,.int .i64 0,.int .i64 0,.slice none 0 0,.slice none 0 0,.slice none 0 0]
theorem sliceTerms_lifted (os:Os) (started:os.Started) (H:Type) (enc:TypeId×Value→H):
  ReturnsInHanded {} Tryz.checked os 3 .any (fun w args=>(Rows.sliceTermsSpec.pre enc Tryz.prog Tryz.f3 [] false w args∧laidMetH Tryz.prog ops1 w)∧sizedMet enc Tryz.prog Tryz.f3 (OpenSpec.ofChange Rows.sliceTermsSpec) false w args)
   (Rows.sliceTermsSpec.post enc Tryz.prog Tryz.f3 false true false false):=by
 refine returnsInHanded_of_calls (C:=Tryz.checked) Tryz.own started (by kernel_rfl)
  (ChangeSpec.witness_shaped (enc:=enc) (C:=Tryz.checked) (os:=os) (X:=fun w _=>laidMetH Tryz.prog ops1 w) false (World.doorLaid Tryz.prog 400 os) #[termZ,.int .i64 0] 8 rfl (World.shaped_of_RefB (by kernel_rfl) (by kernel_rfl)) (by kernel_rfl) (by kernel_rfl) (by kernel_rfl) (door_met os _)) ?_
 intro w tape i _ hS _ hok hpre hholds
 obtain ⟨_,_,_,fn',hfn',_,_,_,_,hval⟩:=hok
 have e:fn'=Tryz.f3:=Option.some.inj (hfn'.symm.trans Tryz.func3)
 subst e
 obtain ⟨⟨⟨ds,gs,before,hw,hc⟩,hlm⟩,hz⟩:=hpre
 have hl0:=ops_of (World.ShapedOpen.of_heap (by rfl) hS) hlm
 have hl:laidG opsL (w.forCall tape i):=fun x hx=>hl0 x hx
 clear hl0 hlm
 have hsized:=hz.weights hw
 have hW:=DataW.Whole.of_heap (w':=w.forCall tape i) (by rfl) hw
 clear hw hholds hc hz
 generalize hWg:w.forCall tape i=W at hS hW hval hl ⊢
 have hWk:=hW
 obtain ⟨p,q,hA0,hV,rfl,hfz,hnd⟩:=hW
 have hA:DataW.TrodAll enc Tryz.prog W 0 (fun _=>true) true Tryz.f3.params.toList i.args.toList ds p:=hA0
 rw [Tryz.params3] at hA hval hsized
 obtain ⟨v0,v1,d0,d1,p0,p1,ha,rfl,rfl,h0,h1⟩:=trodAll_two hA
 obtain ⟨rfl,rfl⟩:=trodVars_none hV
 have hok0:Value.okWide Tryz.prog W .any w.heap.size 28 v0:=hval 0 28 v0 rfl (by rw [ha];rfl)
 unfold Value.okWide at hok0
 rw [Tryz.underlying28] at hok0
 obtain ⟨cs,rfl,_,_⟩:=hok0
 simp only [List.append_nil] at hWk
 rw [ha] at hWk ⊢
 have hsz:∀n∈d0.weights Tryz.prog 28,n≤reachBytes:=fun n hn=>by
  have:=List.all_eq_true.1 hsized n (DataW.weights_mem_each (j:=0) rfl rfl n hn)
  simpa using this
 obtain ⟨z,rfl⟩:∃z,v1=.int .i64 z:=by
  have hok1:Value.okWide Tryz.prog W .any w.heap.size 3 v1:=hval 1 3 v1 rfl (by rw [ha];rfl)
  unfold Value.okWide at hok1
  rw [Tryz.underlying3] at hok1
  unfold Cell.okWide Cell.ok at hok1
  rw [Tryz.underlying3] at hok1
  cases v1<;>simp at hok1
  exact ⟨_,by rw [hok1.1]⟩
 refine Calls.mono (sliceTerms_any W hS hl z h0 hsz) ?_
 rintro E W' ⟨rfl,hb⟩
 have hlt:∀x∈p0++p1,x.block<W.heap.size:=fun x hx=>by simpa using hWk.lt x hx
 refine ChangeSpec.post_blind ⟨[d0,d1],[],p0++p1,[],p0++p1,[],hWk,?_,trodAll_mk2 (Below.trod Tryz.laidOut (by kernel_rfl) (of_decide_eq_true (by kernel_rfl)) h0 hb (fun x hx=>hlt x (by simp [hx]))) (Below.trod Tryz.laidOut (by kernel_rfl) (of_decide_eq_true (by kernel_rfl)) h1 hb (fun x hx=>hlt x (by simp [hx]))),rfl,hb.frame _,fun h=>by cases h⟩
 exact trodAll_mk1 (shut_bool Tryz.underlying4 true)
theorem sliceTerms_row:Rows.SliceTermsSaid:=
 OpenClaim.holds_of_wide 3 Tryz.f3 rfl rfl rfl rfl rfl rfl rfl ⟨rfl,rfl,rfl,rfl,rfl⟩ rfl rfl rfl rfl rfl (by kernel_rfl) Tryz.func3 (by kernel_rfl)
  (of_decide_eq_true (by kernel_rfl)) (by unfold Func.isWrapper;rw [if_neg (by decide+kernel)];exact ⟨rfl,rfl⟩)
  (fun os started H enc _=>sliceTerms_lifted os started H enc)
theorem sliceTerms_holds:Rows.SliceTermsCardSaid:=
 Claim7.holds_tied_plain_at .later [] [.widerDeep] true (true, "3a252aec191009ef1e32ebe3168671fed77026a0fd9c2d59ca41c742d5da5bb4") true
  sliceTerms_row (fun _ h=>by cases h) (by kernel_rfl) (fun _ h=>by cases h) sliceTerms_row_tie rfl ⟨rfl,rfl⟩ (by kernel_rfl) rfl
  (fun f fn hf hfn=>by
   obtain rfl : f = 3 := Option.some.inj ((show Tryz.prog.funcNamed "sortilege/sortilegelaw17.SliceTerms" = some 3 by kernel_rfl).symm.trans hf) |>.symm
   obtain rfl:fn=Tryz.f3:=(Option.some.inj (Tryz.func3.symm.trans hfn)).symm
   exact ⟨by kernel_rfl,fun j t ht=>by
    rw [Tryz.params3] at ht
    have hm:t∈[28,3]:=by simpa using Array.mem_of_getElem? ht
    have hall:([28,3].all fun u=> !Tryz.prog.wantsStandIn u)=true:=by kernel_rfl
    exact (show Tryz.prog.wantsStandIn t=false by simpa using List.all_eq_true.1 hall t hm)⟩)
  (by kernel_rfl)
end Go.Proofs.YtlgknghehgmodaaGreatDoor
end
