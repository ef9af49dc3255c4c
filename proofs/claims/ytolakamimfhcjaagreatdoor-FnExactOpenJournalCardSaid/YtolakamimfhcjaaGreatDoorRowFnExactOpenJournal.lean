/- The law FnExactOpenJournal answers true at every input; no condition. The row: its arguments are opened here, kind by kind; what the machine does is YtolakamimfhcjaaGreatDoorQFnExactOpenJournalx29's, what is left is YtolakamimfhcjaaGreatDoorPureFnExactOpenJournal's. -/
import Derived.Test.YtolakamimfhcjaaGreatDoorCards
import Derived.Test.YtolakamimfhcjaaGreatDoorRows
import Derived.Test.YtolakamimfhcjaaGreatDoorTie
import Derived.Test.YtolakamimfhcjaaGreatDoorPureFnExactOpenJournal
import Derived.Test.YtolakamimfhcjaaGreatDoorTMOpen
import Derived.ProofKit
import Derived.OpenShut
import Derived.ShutString
import Derived.ChangeOld
import Derived.LaidMore
import Derived.Stop.LaidErr
import Derived.Stop.Joined
import Derived.SevenTiedAt
namespace Go.Proofs.YtolakamimfhcjaaGreatDoor.fnExactOpenJournal
open Go.ChangeShapes Go.WideShapes Go.ChangeAt Go.RowKit Go.Proofs.YtolakamimfhcjaaGreatDoorW.PrintWords Go.Proofs.YtolakamimfhcjaaGreatDoor.QFnExactOpenJournal
open Go.ChangeMaps (open_string shut_string)
set_option linter.unusedVariables false
theorem own:ownKnob Tryz.prog.godebug=none:=by kernel_rfl
theorem laidOut:laidOutB Tryz.prog=true:=by kernel_rfl
theorem door_met (os:Os) (args:Array Value):laidMetH Tryz.prog Rows.fnExactOpenJournalRow.laid ((World.doorLaid Tryz.prog 62 os).forCall (fun _ _=>0) ⟨#[],args,[]⟩).memory:=
  laidMetH_of_parts3 (fuel:=8) (laidMet_of_run' 8 (by kernel_rfl) (by kernel_rfl)) (by kernel_rfl) (by kernel_rfl)
theorem star: "*" ++ "errors.errorString" = "*errors.errorString" :=by decide
theorem rowE (u:TypeId) (h:Tryz.prog.typeName? 3 u=some "*errors.errorString"):u=162:=
  typeName_ptr_named (nm:= "errors.errorString") (by rw [star];kernel_rfl) (by kernel_rfl) (by decide) u (by rw [star];exact h)
theorem tab_of {W:World} (h:laidMetH Tryz.prog Rows.fnExactOpenJournalRow.laid W):Tab2 W:=by
  rw [MakeChecks.laidMetH_plain _ _ _ (by kernel_rfl)] at h
  have hL:=h
  have t1:Tab1 W:=Lib.tabIs_of_head (g:=2) (t:=167) (e:=148) (by kernel_rfl) (by kernel_rfl) Tryz.underlying167 Tryz.underlying148 (by kernel_rfl) (by kernel_rfl) (show laidMet Tryz.prog ((_,Lib.tabData .u64 Lib.pow10Tab) :: _) W from hL.tail.tail)
  obtain⟨a0,s0,hv0,-,-,-⟩:=laid_sentinel (g:=0) (ti:=116) hL.tail.tail.tail.tail (by kernel_rfl) (by kernel_rfl) Tryz.underlying116 rowE Tryz.underlying162 Tryz.underlying164 rfl rfl Tryz.underlying9 (by kernel_rfl) (by kernel_rfl)
  obtain⟨a1,s1,hv1,-,-,-⟩:=laid_sentinel (g:=1) (ti:=116) hL.tail.tail.tail (by kernel_rfl) (by kernel_rfl) Tryz.underlying116 rowE Tryz.underlying162 Tryz.underlying164 rfl rfl Tryz.underlying9 (by kernel_rfl) (by kernel_rfl)
  exact⟨t1,⟨_,_,hv0⟩,_,_,hv1⟩
set_option maxRecDepth 100000 in
theorem lifted (os:Os) (started:os.Started) (H:Type) (enc:TypeId × Value→H):
    ReturnsInHanded {} Tryz.checked os 3 .any (fun w args=>(Rows.fnExactOpenJournalSpec.pre enc Tryz.prog Tryz.f3 [] false w args∧laidMetH Tryz.prog Rows.fnExactOpenJournalRow.laid w)∧sizedMet enc Tryz.prog Tryz.f3 (OpenSpec.ofChange Rows.fnExactOpenJournalSpec) false w args) (Rows.fnExactOpenJournalSpec.post enc Tryz.prog Tryz.f3 false true false false):=by
  refine returnsInHanded_of_change_and (C:=Tryz.checked) (X:=fun w _=>laidMetH Tryz.prog Rows.fnExactOpenJournalRow.laid w) (fun _ _ _ hh h=>h.of_heap hh) own started (by kernel_rfl) Tryz.func3
    (ChangeSpec.witness_shaped (enc:=enc) (C:=Tryz.checked) (os:=os) (X:=fun w _=>laidMetH Tryz.prog Rows.fnExactOpenJournalRow.laid w) false (World.doorLaid Tryz.prog 62 os) #[.agg #[.slice none 0 0]] 8 rfl (World.shaped_of_RefB (by kernel_rfl) (by kernel_rfl)) (by kernel_rfl) (by kernel_rfl) (by kernel_rfl) (door_met os _)) ?_
  intro W base args ds gs before hval0 hW hcnd hsz0 hL _
  have hT:=tab_of hL
  have hsz:(DataW.weightsEach Tryz.prog (Tryz.f3.params.toList++Rows.fnExactOpenJournalSpec.plain.varTypes Tryz.prog) (ds++gs)).all (· ≤reachBytes)=true:=hsz0
  have hval:∀(j:Nat) t v,Tryz.f3.params[j]? =some t→args[j]? =some v→Value.okWide Tryz.prog W .any base t v:=hval0
  have hW':=hW
  obtain⟨p,q,hA0,hV,rfl,hfz,hnd⟩:=hW
  have hA:DataW.TrodAll enc Tryz.prog W 0 (fun _=>true) true Tryz.f3.params.toList args.toList ds p:=hA0
  rw [Tryz.params3] at hA hval hsz
  obtain⟨v0,vs0,d0,ds0,p0,q0,hargs,rfl,rfl,h0,r0⟩:=trodAll_cons hA
  obtain⟨rfl,rfl,rfl⟩:=trodAll_nil r0
  obtain rfl:args=#[v0]:=by cases args;simp_all
  obtain⟨rfl,rfl⟩:=trodVars_none hV
  have k0:=h0
  have lt0:∀x∈p0,x.block<W.heap.size:=by obtain⟨m,hm⟩:=k0;exact DataW.trod_lt m _ _ _ hm
  obtain⟨fuel0,hf0⟩:=h0
  obtain⟨cs0,rfl,_⟩:=okWide_struct Tryz.underlying24 (hval 0 24 v0 rfl rfl)
  have op0:O.Op enc Tryz.prog W 0 (fun _=>true) true _ _ 24:=(O.op_struct Tryz.underlying24 (by kernel_rfl) (O.fop_one (O.op_slice (k:=k70) Tryz.underlying22 (by kernel_rfl) (O.op_iso (fun x:S70=>(x.f0,x.f1,x.f2)) (fun p=>⟨p.1,p.2.1,p.2.2⟩) (fun _=>rfl) (O.op_struct Tryz.underlying70 (by kernel_rfl) (O.fop_cons (O.op_string Tryz.underlying9) rfl (by kernel_rfl) (O.fop_cons (O.op_string Tryz.underlying9) rfl (by kernel_rfl) (O.fop_one (O.op_int Tryz.underlying3) rfl (by kernel_rfl))))))) rfl (by kernel_rfl)))
  obtain⟨l0_0,hK0,hG0⟩:=op0 _ _ _ hf0
  obtain⟨A0_0,c0_0,e0,hc0_0,hr0_0⟩:=hK0
  have z0:cs0.toList= [.slice A0_0 l0_0.length c0_0]:=e0
  obtain rfl:cs0=#[.slice A0_0 l0_0.length c0_0]:=Array.ext' z0
  clear hA0 hval0 hsz0 hsz
  obtain⟨k,h⟩:=Pure.FnExactOpenJournal l0_0 hG0
  refine(laws_FnExactOpenJournal.calls k _ _ l0_0 true W hT hr0_0 hc0_0 h).mono fun e W' ⟨he,bel0⟩=>?_
  have bel:Below W.heap.size W W':=bel0
  subst he
  exact⟨_,rfl,_,_,_,[],_,[],hW',trodAll_mk1 (shut_bool Tryz.underlying4 _),(trodAll_cons_mk (Below.trod laidOut (by kernel_rfl) (of_decide_eq_true (by kernel_rfl)) k0 bel lt0) trodAll_mk0),rfl,bel.frame _,fun h=>by cases h⟩
theorem over:Rows.fnExactOpenJournalRow.holds Tryz.pinned (OpenSpec.ofChange Rows.fnExactOpenJournalSpec):=
  OpenClaim.holds_of_wide 3 Tryz.f3 rfl rfl rfl rfl rfl rfl rfl ⟨rfl,rfl,rfl,rfl,rfl⟩ rfl rfl rfl rfl rfl (by kernel_rfl) Tryz.func3 (by kernel_rfl)
    (of_decide_eq_true (by kernel_rfl)) (by unfold Func.isWrapper;first|(rw [if_pos (by decide +kernel)];kernel_rfl)|(rw [if_neg (by decide +kernel)];exact⟨rfl,rfl⟩))
    (fun os started H enc _=>lifted os started H enc)
theorem proved:Rows.FnExactOpenJournalSaid:=over
end Go.Proofs.YtolakamimfhcjaaGreatDoor.fnExactOpenJournal
namespace Go.Proofs.YtolakamimfhcjaaGreatDoor
theorem fnExactOpenJournal_row:Rows.FnExactOpenJournalSaid:=fnExactOpenJournal.proved
theorem fnExactOpenJournal_holds:Rows.FnExactOpenJournalCardSaid:=
  Claim7.holds_tied_plain_at .later [] [.data,.data,.data,.sentinel,.sentinel] true (true, "e93ceac5fd380255d8d6ebebb3a9e1caae85bfa9dea3d3d3991dbbed5141cbd0") true
    fnExactOpenJournal_row (fun _ h=>by cases h) (by kernel_rfl) (fun _ h=>by cases h) fnExactOpenJournal_row_tie rfl ⟨rfl,rfl⟩ (by kernel_rfl) rfl
    (fun f fn hf hfn=>by
      obtain rfl:f=3:=Option.some.inj ((show Tryz.prog.funcNamed Rows.fnExactOpenJournalRow.func=some 3 by kernel_rfl).symm.trans hf) |>.symm
      obtain rfl:fn=Tryz.f3:=(Option.some.inj (Tryz.func3.symm.trans hfn)).symm
      exact⟨by kernel_rfl,fun j t ht=>by
        rw [Tryz.params3] at ht
        have hm:t∈ [24]:=by simpa using Array.mem_of_getElem? ht
        have hall:([24].all fun u=>!Tryz.prog.wantsStandIn u)=true:=by kernel_rfl
        exact(show Tryz.prog.wantsStandIn t=false by simpa using List.all_eq_true.1 hall t hm)⟩)
    (by kernel_rfl)
#print axioms fnExactOpenJournal_holds
end Go.Proofs.YtolakamimfhcjaaGreatDoor
