/- Of the print's words (YtolakamimfhcjaaGreatDoorMathFive) those that this claim's texts name. -/
import Derived.Test.YtolakamimfhcjaaGreatDoorTMPack
import Derived.Test.YtolakamimfhcjaaGreatDoorTMFour
namespace Go.Proofs.YtolakamimfhcjaaGreatDoor
open Go Go.RowKit Go.Proofs.YtolakamimfhcjaaGreatDoorW.PrintWords Go.Proofs.YtolakamimfhcjaaGreatDoorW.PrintLast Go.Proofs.YtolakamimfhcjaaGreatDoorW.PrintMore
set_option linter.unusedVariables false
theorem rl_ {p:Prop} (h:p:=by first|rfl|(simp;done)|(simp [*];done)|(simp [bne];done)):p:=h
theorem kp_ {w W0 W:World} {S:Nat→Prop} (h0:Aside0 (Kept w W0 S)) (h:Kept w W S:=by repeat(first|(with_reducible first|exact Aside0.out (by assumption)|apply Kept.alloc|apply Kept.drewN|apply Kept.drew)|exact Aside0.out (by assumption))):Kept w W S:=h
theorem kl_ {w W0 W W1:World} {S:Nat→Prop} (h0:Aside0 (Kept w W0 S)) (hb:Below W.heap.size W W1) (h:Kept w W S:=by repeat(first|(with_reducible first|exact Aside0.out (by assumption)|apply Kept.alloc|apply Kept.drewN|apply Kept.drew)|exact Aside0.out (by assumption))):Aside0 (Kept w W1 S):=Aside0.mk (Kept.below h hb)
theorem bs1_ {α β:Type} {x:α} {f:α→Option β} {r:Option β} (h:(some x).bind f=r):f x=r:=(Option.bind_some _ _).symm.trans h
theorem sb_ {α β:Type} {x y:α} {f:α→Option β} {r:Option β} (hy:y=x) (h:(some x).bind f=r):f y=r:=by rw [hy];exact bs1_ h
theorem gn_ {P:Program} {ops:Array Oper} {rest:List Oper} {Q:Exit→Act→World→Prop} {o:Oper} {a:Act} {w:World} (N:Tmp) (hN:o.dst=some N) (h:wpList P ops Q (o :: rest) a w):wpList P ops Q (o :: rest) a w:=h
theorem gc_ {P:Program} {ops:Array Oper} {rest:List Oper} {Q:Exit→Act→World→Prop} {o:Oper} {a:Act} {w:World} (f:FuncId) {as:Array Operand} {ts:Array TypeId} (ho:o.op= .call {callee:= .value (.func f),args:=as,argTypes:=ts}) (h:wpList P ops Q (o :: rest) a w):wpList P ops Q (o :: rest) a w:=h
theorem gm_ {P:Program} {ops:Array Oper} {rest:List Oper} {Q:Exit→Act→World→Prop} {oi:Oper} {a:Act} {w:World} {f:FuncId} {fn:Func} {as:Array Operand} {ts:Array TypeId} {args:Array Value} {v:Value} {R:World→Prop} (N:Tmp) (hf:P.funcs[f]? =some fn)
    (hc:Calls P f args w fun e w'=>e= .returned v∧R w') (h:∀w',R w'→wpList P ops Q rest (a.put (some N) v) w') (hd:oi.dst=some N:=by rfl) (hg:oi.guard=none:=by rfl) (hname:(fn.name == "runtime.NumGoroutine")=false:=by kernel_rfl) (hb:fn.body.isSome=true:=by rfl)
    (hop:oi.op= .call {callee:= .value (.func f),args:=as,argTypes:=ts}:=by rfl) (hargs:as.map a.eval=args:=by exact ga_):wpList P ops Q (oi :: rest) a w:=gl_ N hf args (hc.mono fun e w' x=>⟨v,x.1,h w' x.2⟩) hd hg hname hb hop hargs
theorem gx_ {P:Program} {ops:Array Oper} {rest:List Oper} {Q:Exit→Act→World→Prop} {oi:Oper} {a:Act} {w:World} {f:FuncId} {fn:Func} {as:Array Operand} {ts:Array TypeId} {v:Value} {R:World→Prop} (N:Tmp) (hf:P.funcs[f]? =some fn) (args:Array Value)
    (hc:Calls P f args w fun e w'=>e= .returned v∧R w') (h:∀w',R w'→wpList P ops Q rest (a.put (some N) v) w') (hd:oi.dst=some N:=by rfl) (hg:oi.guard=none:=by rfl) (hname:(fn.name == "runtime.NumGoroutine")=false:=by kernel_rfl) (hb:fn.body.isSome=true:=by rfl)
    (hop:oi.op= .call {callee:= .value (.func f),args:=as,argTypes:=ts}:=by rfl) (hargs:as.map a.eval=args:=by exact ga_):wpList P ops Q (oi :: rest) a w:=gl_ N hf args (hc.mono fun e w' x=>⟨v,x.1,h w' x.2⟩) hd hg hname hb hop hargs
theorem gv_ {P:Program} {ops:Array Oper} {rest:List Oper} {Q:Exit→Act→World→Prop} {oi:Oper} {a:Act} {w:World} {f:FuncId} {fn:Func} {as:Array Operand} {ts:Array TypeId} {args:Array Value} {α:Type} {G:α→Value} {R:α→World→Prop} (N:Tmp) (hf:P.funcs[f]? =some fn)
    (hc:Calls P f args w fun e w'=>∃v,e= .returned (G v)∧R v w') (h:∀v w',R v w'→wpList P ops Q rest (a.put (some N) (G v)) w') (hd:oi.dst=some N:=by rfl) (hg:oi.guard=none:=by rfl) (hname:(fn.name == "runtime.NumGoroutine")=false:=by kernel_rfl) (hb:fn.body.isSome=true:=by rfl)
    (hop:oi.op= .call {callee:= .value (.func f),args:=as,argTypes:=ts}:=by rfl) (hargs:as.map a.eval=args:=by exact ga_):wpList P ops Q (oi :: rest) a w:=gl_ N hf args (hc.mono fun e w' ⟨v,x1,x2⟩=>⟨G v,x1,h v w' x2⟩) hd hg hname hb hop hargs
theorem bv_ {P:Program} {ops:Array Oper} {rest:List Oper} {o:Oper} {a:Act} {Q:Exit→Act→World→Prop} {w W0 W:World} {N:Tmp} {cs:Array Value} {t:TypeId} (HB:Aside0 (Below w.heap.size w W0))
    (h:∀g w1,Aside0 (w1.heap[g]? =some (.cells cs t (0,0)))→Aside0 (w.heap.size≤g)→Aside0 (Below w.heap.size w w1)→wpList P ops Q rest (a.put o.dst (.pointer (some ⟨g,0,none⟩))) w1) (hgd:o.guard=none:=by rfl) (hd:o.dst=some N:=by rfl)
    (hrun:(execOp a.eval o).run P W= .ok (.value (.pointer (some ⟨W.heap.size,0,none⟩))) (W.alloc (.cells cs t (0,0))):=by first|(go_simp;done)|(go_simp;rfl))
    (hW:Below w.heap.size w W:=by repeat(first|(with_reducible first|exact Aside0.out (by assumption)|apply below_alloc|apply pw_below_drewN|apply below_drew1|refine below_set ?_ (Aside0.out (by assumption)))|exact Aside0.out (by assumption))):wpList P ops Q (o :: rest) a W:=box_event hgd hd hrun fun g hg w1 hx hb=>h g w1 (mk_ hx) (mk_ (by rw [hg];exact below_size hW)) (mk_ (below_step hW hb))
theorem bn_ {P:Program} {ops:Array Oper} {rest:List Oper} {o:Oper} {a:Act} {Q:Exit→Act→World→Prop} {w W0 W:World} {N:Tmp} {cs:Array Value} {t:TypeId} (HB:Aside0 (Below w.heap.size w W0))
    (h:∀g w1,g=W.heap.size→Below W.heap.size W w1→Aside0 (w1.heap[g]? =some (.cells cs t (0,0)))→Aside0 (w.heap.size≤g)→Aside0 (Below w.heap.size w w1)→wpList P ops Q rest (a.put o.dst (.pointer (some ⟨g,0,none⟩))) w1) (hgd:o.guard=none:=by rfl) (hd:o.dst=some N:=by rfl)
    (hrun:(execOp a.eval o).run P W= .ok (.value (.pointer (some ⟨W.heap.size,0,none⟩))) (W.alloc (.cells cs t (0,0))):=by first|(go_simp;done)|(go_simp;rfl))
    (hW:Below w.heap.size w W:=by repeat(first|(with_reducible first|exact Aside0.out (by assumption)|apply below_alloc|apply pw_below_drewN|apply below_drew1|refine below_set ?_ (Aside0.out (by assumption)))|exact Aside0.out (by assumption))):wpList P ops Q (o :: rest) a W:=box_event hgd hd hrun fun g hg w1 hx hb=>h g w1 hg hb (mk_ hx) (mk_ (by rw [hg];exact below_size hW)) (mk_ (below_step hW hb))
theorem bq_ {W0 W W1:World} {g:Nat} {o:Obj} (h0:Aside0 (W0.heap[g]? =some o)) (hb:Below W.heap.size W W1)
    (h:W.heap[g]? =some o:=by repeat(with_reducible first|exact Aside0.out (by assumption)|refine blk_drewN ?_ _|refine blk_drew ?_|refine blk_alloc ?_ _|refine bfo_ ?_ (Aside0.out (by assumption)) _)):Aside0 (W1.heap[g]? =some o):=Aside0.mk (blk_below h hb)
theorem bU_ {W0 W W1:World} {g:Nat} {t:TypeId} {m:Nat × Nat} {c0:Array Value} (h0:Aside0 (W0.heap[g]? =some (.cells c0 t m))) (cs:Array Value) (hb:Below W.heap.size W W1)
    (h:W.heap[g]? =some (.cells cs t m):=by exact bu_):Aside0 (W1.heap[g]? =some (.cells cs t m)):=Aside0.mk (blk_below h hb)
theorem kq_ {W0 W W1:World} {g g0:Nat} {o:Obj} (h0:Aside0 (W0.heap[g]? =some o)) (hk:KeepBut W W1 g0 none) (hn:Aside0 (g≠g0))
    (h:W.heap[g]? =some o:=by repeat(with_reducible first|exact Aside0.out (by assumption)|refine blk_drewN ?_ _|refine blk_drew ?_|refine blk_alloc ?_ _|refine bfo_ ?_ (Aside0.out (by assumption)) _)):Aside0 (W1.heap[g]? =some o):=Aside0.mk (KeepBut.blk hk h hn.out (by simp))
theorem kU_ {W0 W W1:World} {g g0:Nat} {t:TypeId} {m:Nat × Nat} {c0:Array Value} (h0:Aside0 (W0.heap[g]? =some (.cells c0 t m))) (cs:Array Value) (hk:KeepBut W W1 g0 none) (hn:Aside0 (g≠g0))
    (h:W.heap[g]? =some (.cells cs t m):=by exact bu_):Aside0 (W1.heap[g]? =some (.cells cs t m)):=Aside0.mk (KeepBut.blk hk h hn.out (by simp))
theorem rg_ {α:Type} {d:Kd α} {e t g:Nat} {W0 W:World} {base:Nat} {ok:Nat→Prop} {v:Value} {xs:List α} {cs:Array Value} (h:Aside0 (d.R e W0 base ok v xs)) (hb:Aside0 (W0.heap[g]? =some (.cells cs t (0,0))))
    (ht:∀q,q∈e :: d.E→q≠t:=by decide) (hW:d.R e W0 base (fun k=>ok k∧k≠g) v xs→d.R e W base (fun k=>ok k∧k≠g) v xs:=by intro h_;repeat(with_reducible first|exact h_|refine Kd.R_far ?_ (fun _ hk=>hk.2) _|apply Kd.R_alloc|apply Kd.R_drewN|apply Kd.R_drew)):d.R e W base ok v xs:=Kd.R_mono (hW (Kd.R_types h.out hb.out ht)) (fun _ h_=>h_.1)
end Go.Proofs.YtolakamimfhcjaaGreatDoor
