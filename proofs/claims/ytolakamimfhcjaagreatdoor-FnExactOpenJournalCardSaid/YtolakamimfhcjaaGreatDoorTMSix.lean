/- Of the print's words (YtolakamimfhcjaaGreatDoorMathSix) those that this claim's texts name. -/
import Derived.Test.YtolakamimfhcjaaGreatDoorTMFive
namespace Go.Proofs.YtolakamimfhcjaaGreatDoor
open Go Go.RowKit Go.Proofs.YtolakamimfhcjaaGreatDoorW.PrintWords Go.Proofs.YtolakamimfhcjaaGreatDoorW.PrintLast Go.Proofs.YtolakamimfhcjaaGreatDoorW.PrintMore
set_option linter.unusedVariables false
theorem cf_ {W0 W:World} {g g' i:Nat} {r:Option Nat} {v:Value} (hn:Aside0 (g≠g')) (h0:W0.cell? ⟨g,i,r⟩=some v)
    (hW:W0.cell? ⟨g,i,r⟩=some v→W.cell? ⟨g,i,r⟩=some v:=by intro h_;repeat(with_reducible first|exact h_|refine(cell_far (Aside0.out (by assumption)) _).trans ?_)):W.cell? ⟨g,i,r⟩=some v:=hW h0
theorem gs_ {P:Program} {Q:Exit→Act→World→Prop} {ops:Array Oper} {oi:Oper} {N:Option Tmp} {a:Act} {w:World} {K:Act→World→Prop} {f:FuncId} {fn:Func} {as:Array Operand} {ts:Array TypeId} {args:Array Value} {v:Value} {R:World→Prop} (hf:P.funcs[f]? =some fn)
    (hc:Calls P f args w fun e w'=>e= .returned v∧R w') (h:∀w',R w'→K (a.put N v) w') (hname:(fn.name == "runtime.NumGoroutine")=false:=by kernel_rfl) (hb:fn.body.isSome=true:=by rfl) (hw:Region.wanted oi (yielded ops a.tmps)=true:=by rfl) (hN:oi.dst=N:=by rfl)
    (hop:oi.op= .call {callee:= .value (.func f),args:=as,argTypes:=ts}:=by rfl) (hargs:as.map a.eval=args:=by exact ga_):if Region.wanted oi (yielded ops a.tmps)=true then Oper.wp P oi a w K Q else K (a.put N undef) w:=goes_ hf hname hb args hw hN hop hargs (hc.mono fun e w' x=>⟨v,x.1,h w' x.2⟩)
theorem gt_ {P:Program} {Q:Exit→Act→World→Prop} {ops:Array Oper} {oi:Oper} {N:Option Tmp} {a:Act} {w:World} {K:Act→World→Prop} {f:FuncId} {fn:Func} {as:Array Operand} {ts:Array TypeId} {v:Value} {R:World→Prop} (hf:P.funcs[f]? =some fn) (args:Array Value)
    (hc:Calls P f args w fun e w'=>e= .returned v∧R w') (h:∀w',R w'→K (a.put N v) w') (hname:(fn.name == "runtime.NumGoroutine")=false:=by kernel_rfl) (hb:fn.body.isSome=true:=by rfl) (hw:Region.wanted oi (yielded ops a.tmps)=true:=by rfl) (hN:oi.dst=N:=by rfl)
    (hop:oi.op= .call {callee:= .value (.func f),args:=as,argTypes:=ts}:=by rfl) (hargs:as.map a.eval=args:=by exact ga_):if Region.wanted oi (yielded ops a.tmps)=true then Oper.wp P oi a w K Q else K (a.put N undef) w:=goes_ hf hname hb args hw hN hop hargs (hc.mono fun e w' x=>⟨v,x.1,h w' x.2⟩)
theorem on_ {P:Program} {ops:Array Oper} {Q:Exit→Act→World→Prop} {md:Region.Mode} {S:World→Prop} {ds:List Nat} (i:Nat) (N:Tmp) {oi:Oper} {fuel:Nat} {l:Array Bool} {a:Act} {w:World}
    (h:∀K:Act→World→Prop,Shut (∀a' w',S w'→(S w'→wpAnyLast P md ops Q S ds fuel (l.setIfInBounds i true) a' w')→K a' w')→if Region.wanted oi (yielded ops a.tmps)=true then Oper.wp P oi a w K Q else K (a.put (some N) undef) w)
    (hi:ops[i]? =some oi:=by rfl) (hN:oi.dst=some N:=by rfl) (hc:readyB md ops l (l.setIfInBounds i true) i=true:=by exact one_of (Aside0.out (by assumption)) (by kernel_rfl)) (hd:i∉ds:=by decide):wpAnyLast P md ops Q S ds (fuel+1) l a w:=one_ _ hi hN hc hd h
theorem bgr_ {W0 w w1:World} {g:Nat} {o:Obj} {row:Option Nat} (h0:Aside0 (W0.heap[g]? =some o)) (hg:w.grownBy w1 row) (hne:some g≠row)
    (h:w.heap[g]? =some o:=by(with_reducible repeat(first|refine blk_drewN ?_ _|refine blk_drew ?_|refine blk_alloc ?_ _));exact Aside0.out (by assumption)):Aside0 (w1.heap[g]? =some o):=mk_ (blk_grown h hg hne)
end Go.Proofs.YtolakamimfhcjaaGreatDoor
