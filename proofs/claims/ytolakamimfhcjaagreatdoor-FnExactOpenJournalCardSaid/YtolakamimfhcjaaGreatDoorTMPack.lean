/- Of the print's words (YtolakamimfhcjaaGreatDoorMathPack) those that this claim's texts name. -/
import Derived.Test.YtolakamimfhcjaaGreatDoorTTab
import Derived.Test.YtolakamimfhcjaaGreatDoorTMShort
namespace Go.Proofs.YtolakamimfhcjaaGreatDoor
open Go Go.RowKit Go.Proofs.YtolakamimfhcjaaGreatDoorW.PrintWords Go.Proofs.YtolakamimfhcjaaGreatDoorW.PrintLast Go.Proofs.YtolakamimfhcjaaGreatDoorW.PrintMore
set_option linter.unusedVariables false
theorem kb_ {w W0 W:World} {g g0:Nat} {row r0:Option Nat} (h0:Aside0 (KeepBut w W0 g0 r0)) (h:KeepBut w W g row:=by repeat(first|(with_reducible first|exact Aside0.out (by assumption)|apply KeepBut.set_|apply keep_drewN|apply keep_drew|apply keep_alloc|refine keep_far ?_ (Aside0.out (by assumption)) _)|exact Aside0.out (by assumption))):KeepBut w W g row:=h
theorem ns_ {a b:Nat} (h:Aside0 (a≠b)):a≠b∧b≠a:=⟨h.out,Ne.symm h.out⟩
theorem rq_ {α:Type} {d:Kd α} {e:Nat} {base:Nat} {ok:Nat→Prop} {v:Value} {xs:List α} {W0 W:World} (h:d.R e W0 base ok v xs)
    (hW:d.R e W0 base ok v xs→d.R e W base ok v xs:=by intro h_;(with_reducible repeat(first|apply Kd.R_alloc|apply Kd.R_drewN|apply Kd.R_drew));exact h_):d.R e W base ok v xs:=hW h
theorem rd_ {α:Type} {d:Kd α} {e:Nat} {base:Nat} {ok:Nat→Prop} {v:Value} {xs:List α} {W:World} (h:Aside0 (d.R e W base ok v xs)):Aside0 (d.R e W.drew base ok v xs):=⟨Kd.R_drew h.out⟩
theorem kd_ {W:World} {g:Nat} {o:Obj} (h:Aside0 (W.heap[g]? =some o)):Aside0 (W.drew.heap[g]? =some o):=⟨blk_drew h.out⟩
theorem wd_ {w W:World} {n:Nat} (h:Aside0 (Below n w W)):Aside0 (Below n w W.drew):=⟨below_drew1 h.out⟩
theorem pv_ {P:Program} {ops:Array Oper} {Q:Exit→Act→World→Prop} {md:Region.Mode} {S:World→Prop} {ds:List Nat} (i:Nat) (N:Tmp) {oi:Oper} {v:Value} {fuel:Nat} {l:Array Bool} {a a':Act} {w:World}
    (h:wpAnyLast P md ops Q S ds fuel (l.setIfInBounds i true) a' w) (hi:ops[i]? =some oi:=by rfl) (hN:oi.dst=some N:=by rfl) (hc:anyB md ops l (l.setIfInBounds i true) i=true:=by first|exact any_of (Aside0.out (by assumption)) (by kernel_rfl)|kernel_rfl)
    (hy:Yields P ops oi v a:=by refine Or.inl ⟨by rfl,?_⟩;intro w';go_simp;with_reducible rfl) (hQ:∀c a w,Q (.panic c) (a.put oi.dst v) w→Q (.panic c) a w:=by exact fun _ _ _ h=>h)
    (ha:a.put (some N) v=a':=by simp only [Act.put,sia_,scz_,scs_,i64_w,i32_w];rfl):wpAnyLast P md ops Q S ds (fuel+1) l a w:=pure_ _ hi hN hc hQ hy ha h
theorem tv_ {P:Program} {ops:Array Oper} {Q:Exit→Act→World→Prop} {md:Region.Mode} {S:World→Prop} {ds:List Nat} (i:Nat) (N:Tmp) {oi:Oper} {v:Value} {fuel:Nat} {l:Array Bool} {a a':Act} {w:World} (hS:S w)
    (h:wpAnyLast P md ops Q S ds fuel (l.setIfInBounds i true) a' w) (hi:ops[i]? =some oi:=by rfl) (hN:oi.dst=some N:=by rfl) (hc:takeB md ops ds l (l.setIfInBounds i true) i=true:=by first|exact take_ofW (Aside0.out (by assumption)) (Aside0.out (by assumption)) (by kernel_rfl)|exact take_of (Aside0.out (by assumption)) (by kernel_rfl)|kernel_rfl)
    (hy:YieldsIf P ops S oi v a:=by refine Or.inl ⟨by rfl,?_⟩;intro w' hs_;(repeat(obtain⟨hx_,hs_⟩:=hs_));go_simp;with_reducible rfl) (hQ:∀c a w,Q (.panic c) (a.put oi.dst v) w→Q (.panic c) a w:=by exact fun _ _ _ h=>h)
    (ha:a.put (some N) v=a':=by simp only [Act.put,sia_,scz_,scs_,i64_w,i32_w];rfl):wpAnyLast P md ops Q S ds (fuel+1) l a w:=take_ _ hi hN hc hQ hy hS ha h
theorem kz_ {W0 W W1:World} {g g0:Nat} {o:Obj} (h0:Aside0 (W0.heap[g]? =some o)) (hk:KeepBut W W1 g0 none) (hn:Aside0 (g≠g0))
    (h:W.heap[g]? =some o:=by(with_reducible repeat(first|refine blk_drewN ?_ _|refine blk_drew ?_|refine blk_alloc ?_ _));exact Aside0.out (by assumption)):Aside0 (W1.heap[g]? =some o):=Aside0.mk (KeepBut.blk hk h hn.out (by simp))
theorem rf_ {α:Type} {d:Kd α} {e t g:Nat} {W:World} {base:Nat} {ok:Nat→Prop} {v:Value} {xs:List α} {cs:Array Value} (h:Aside0 (d.R e W base ok v xs)) (hb:Aside0 (W.heap[g]? =some (.cells cs t (0,0)))) (i:Nat) (u:Value) (ht:∀q,q∈e :: d.E→q≠t:=by decide):d.R e (W.setCell ⟨g,i,none⟩ u) base ok v xs:=Kd.R_mono (Kd.R_far (p:=⟨g,i,none⟩) (Kd.R_types h.out hb.out ht) (fun _ hk=>hk.2) u) (fun _ h_=>h_.1)
theorem gl_ {P:Program} {ops:Array Oper} {rest:List Oper} {Q:Exit→Act→World→Prop} {oi:Oper} {a:Act} {w:World} (N:Tmp) {f:FuncId} {fn:Func} {as:Array Operand} {ts:Array TypeId} (hf:P.funcs[f]? =some fn) (args:Array Value)
    (h:Calls P f args w fun e w'=>∃v,e= .returned v∧wpList P ops Q rest (a.put (some N) v) w') (hd:oi.dst=some N:=by rfl) (hg:oi.guard=none:=by rfl) (hname:(fn.name == "runtime.NumGoroutine")=false:=by kernel_rfl) (hb:fn.body.isSome=true:=by rfl)
    (hop:oi.op= .call {callee:= .value (.func f),args:=as,argTypes:=ts}:=by rfl) (hargs:as.map a.eval=args:=by exact ga_):wpList P ops Q (oi :: rest) a w:=goesL_ (some N) hd hg hf hname hb args hop hargs h
end Go.Proofs.YtolakamimfhcjaaGreatDoor
