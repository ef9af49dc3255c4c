/- Of the print's words (YtolakamimfhcjaaGreatDoorMathShort) those that this claim's texts name. -/
import Derived.Test.YtolakamimfhcjaaGreatDoorTMore
namespace Go.Proofs.YtolakamimfhcjaaGreatDoor
open Go Go.RowKit Go.Proofs.YtolakamimfhcjaaGreatDoorW.PrintWords
set_option linter.unusedVariables false
theorem bb_ {W0 W W1:World} {g:Nat} {o:Obj} (h0:Aside0 (W0.heap[g]? =some o)) (hb:Below W.heap.size W W1)
    (h:W.heap[g]? =some o:=by(with_reducible repeat(first|refine blk_drewN ?_ _|refine blk_drew ?_|refine blk_alloc ?_ _));exact Aside0.out (by assumption)):Aside0 (W1.heap[g]? =some o):=Aside0.mk (blk_below h hb)
theorem bl_ {W0 W:World} {g g':Nat} {o:Obj} (h0:Aside0 (W0.heap[g]? =some o)) (hg:g'=W.heap.size)
    (h:W.heap[g]? =some o:=by(with_reducible repeat(first|refine blk_drewN ?_ _|refine blk_drew ?_|refine blk_alloc ?_ _));exact Aside0.out (by assumption)):Aside0 (g≠g'):=Aside0.mk (by rw [hg];exact Nat.ne_of_lt (blk_lt h))
theorem bg_ {W0 W:World} {g g':Nat} {o:Obj} (h0:Aside0 (W0.heap[g]? =some o)) (hg:g'=W.heap.size)
    (h:W.heap[g]? =some o:=by(with_reducible repeat(first|refine blk_drewN ?_ _|refine blk_drew ?_|refine blk_alloc ?_ _));exact Aside0.out (by assumption)):Aside0 (g'≠g):=Aside0.mk (by rw [hg];exact Nat.ne_of_gt (blk_lt h))
theorem bz_ {w W:World} {g:Nat} (hg:g=W.heap.size)
    (h:Below w.heap.size w W:=by repeat(first|(with_reducible first|exact Aside0.out (by assumption)|apply below_alloc|apply pw_below_drewN|apply below_drew1|refine below_set ?_ (Aside0.out (by assumption)))|exact Aside0.out (by assumption))):Aside0 (w.heap.size≤g):=Aside0.mk (by rw [hg];exact below_size h)
theorem bs_ {w W0 W W1:World} (h0:Aside0 (Below w.heap.size w W0)) (hb:Below W.heap.size W W1)
    (h:Below w.heap.size w W:=by repeat(first|(with_reducible first|exact Aside0.out (by assumption)|apply below_alloc|apply pw_below_drewN|apply below_drew1|refine below_set ?_ (Aside0.out (by assumption)))|exact Aside0.out (by assumption))):Aside0 (Below w.heap.size w W1):=Aside0.mk (below_step h hb)
theorem rb_ {α:Type} {d:Kd α} {e:Nat} {base:Nat} {ok:Nat→Prop} {v:Value} {xs:List α} {W0 W W1:World} (h0:Aside0 (d.R e W0 base ok v xs)) (hb:Below W.heap.size W W1)
    (h:d.R e W base ok v xs:=by(with_reducible repeat(first|apply Kd.R_alloc|apply Kd.R_drewN|apply Kd.R_drew));exact Aside0.out (by assumption)):Aside0 (d.R e W1 base ok v xs):=Aside0.mk (Kd.R_below h hb)
theorem bp_ {W0 W:World} {g:Nat} {o:Obj} (h0:Aside0 (W0.heap[g]? =some o))
    (h:W.heap[g]? =some o:=by(with_reducible repeat(first|refine blk_drewN ?_ _|refine blk_drew ?_|refine blk_alloc ?_ _));exact Aside0.out (by assumption)):W.heap[g]? =some o:=h
theorem rp_ {α:Type} {d:Kd α} {e:Nat} {base:Nat} {ok:Nat→Prop} {v:Value} {xs:List α} {W0 W:World} (h0:Aside0 (d.R e W0 base ok v xs))
    (h:d.R e W base ok v xs:=by(with_reducible repeat(first|apply Kd.R_alloc|apply Kd.R_drewN|apply Kd.R_drew));exact Aside0.out (by assumption)):d.R e W base ok v xs:=h
theorem bw_ {w W0 W:World} (h0:Aside0 (Below w.heap.size w W0))
    (h:Below w.heap.size w W:=by repeat(first|(with_reducible first|exact Aside0.out (by assumption)|apply below_alloc|apply pw_below_drewN|apply below_drew1|refine below_set ?_ (Aside0.out (by assumption)))|exact Aside0.out (by assumption))):Below w.heap.size w W:=h
theorem sia_ {α:Type} (l:List α) (i:Nat) (a:α):l.toArray.setIfInBounds i a=(l.set i a).toArray:=by simp
theorem scz_ {α:Type} (a b:α) (l:List α):(a :: l).set 0 b=b :: l:=rfl
theorem scs_ {α:Type} (a b:α) (l:List α) (n:Nat):(a :: l).set (n+1) b=a :: l.set n b:=rfl
theorem bc_ {W:World} {g:Nat} {t:TypeId} {cs:Array Value} {v:Value} (h:Aside0 (W.heap[g]? =some (.cells cs t (0,0)))) (i:Nat) (hv:cs[i]? =some v:=by rfl):W.cell? ⟨g,i,none⟩=some v:=(blk_cell h.out i).trans hv
theorem mk_ {p:Prop} (h:p):Aside0 p:=Aside0.mk h
theorem bfo_ {w:World} {g:Nat} {o:Obj} (h:w.heap[g]? =some o) {p:Addr} (hp:g≠p.block) (u:Value):(w.setCell p u).heap[g]? =some o:=(Below.heap_setCell w p u g hp).trans h
theorem bf_ {W:World} {g:Nat} {o:Obj} (h:W.heap[g]? =some o:=by repeat(with_reducible first|exact Aside0.out (by assumption)|refine blk_drewN ?_ _|refine blk_drew ?_|refine blk_alloc ?_ _|refine bfo_ ?_ (Aside0.out (by assumption)) _)):W.heap[g]? =some o:=h
theorem blk_eq_ {W:World} {g:Nat} {t:TypeId} {m:Nat × Nat} {cs cs':Array Value} (h:W.heap[g]? =some (.cells cs t m)) (e:cs=cs'):W.heap[g]? =some (.cells cs' t m):=e▸h
theorem bu_ {W:World} {g:Nat} {t:TypeId} {m:Nat × Nat} {cs:Array Value} (h:W.heap[g]? =some (.cells cs t m):=by apply blk_eq_;(focus repeat(with_reducible first|exact Aside0.out (by assumption)|refine blk_drewN ?_ _|refine blk_drew ?_|refine blk_alloc ?_ _|apply blk_set|refine bfo_ ?_ (Aside0.out (by assumption)) _));simp only [List.setIfInBounds_toArray,List.set_cons_zero,List.set_cons_succ]):W.heap[g]? =some (.cells cs t m):=h
theorem ga_ {p:Prop} (h:p:=by(try simp only [List.map_toArray,List.map_cons,List.map_nil]);first|done|rfl|(simp only [List.length_drop,List.length_take];rfl)):p:=h
theorem ab_ {p:Prop} (h:p:=by first|(rw [add_block];assumption)|(show(Addr.add _ _).block≠_;rw [add_block];assumption)|assumption):p:=h
theorem er_ {p:Prop} (h:p:=by first|rfl|(simp [errW_none,errW_some] <;> rfl)|(simp [*,errW_none,errW_some] <;> rfl)):p:=h
theorem bwi_ {w W0 W:World} {g:Nat} (h0:Aside0 (Below w.heap.size w W0)) (hg:w.heap.size≤g)
    (h:w.heap.size≤g→Below w.heap.size w W:=by intro hg_;repeat(first|(with_reducible first|exact Aside0.out (by assumption)|apply below_alloc|apply pw_below_drewN|apply below_drew1|refine below_set ?_ (by assumption)|refine below_set ?_ (Aside0.out (by assumption)))|exact Aside0.out (by assumption))):Below w.heap.size w W:=h hg
theorem hc_ {w W:World} {a:Addr} {v:Value} (h:Aside0 (Below w.heap.size w W)) (hx:w.cell? a=some v):W.cell? a=some v:=(h.out.cell (World.block_lt_of_cell? w _ hx)).trans hx
theorem od_ {p:Prop} [Decidable p] (h:decide p=true:=by first|(with_reducible assumption)|assumption):p:=of_decide_eq_true h
theorem bx_ {P:Program} {ops:Array Oper} {rest:List Oper} {o:Oper} {a:Act} {Q:Exit→Act→World→Prop} {W:World} {N:Tmp} {cs:Array Value} {t:TypeId}
    (h:∀g,g=W.heap.size→∀w1,w1.heap[g]? =some (.cells cs t (0,0))→Below W.heap.size W w1→wpList P ops Q rest (a.put o.dst (.pointer (some ⟨g,0,none⟩))) w1) (hgd:o.guard=none:=by rfl) (hd:o.dst=some N:=by rfl)
    (hrun:(execOp a.eval o).run P W= .ok (.value (.pointer (some ⟨W.heap.size,0,none⟩))) (W.alloc (.cells cs t (0,0))):=by first|(go_simp;done)|(go_simp;rfl)):wpList P ops Q (o :: rest) a W:=box_event hgd hd hrun h
theorem b1_ {W:World} {g:Nat} {t:TypeId} {a:Value} (h_:Aside0 (W.heap[g]? =some (.cells #[a] t (0,0)))):W.cell? ⟨g,0,none⟩=some a∧W.frozen? ⟨g,0,none⟩=false:=⟨(blk_cell h_.out 0).trans rfl,blk_frozen h_.out 0⟩
theorem b3_ {W:World} {g:Nat} {t:TypeId} {a b c:Value} (h_:Aside0 (W.heap[g]? =some (.cells #[a,b,c] t (0,0)))):W.cell? ⟨g,0,none⟩=some a∧W.cell? ⟨g,1,none⟩=some b∧W.cell? ⟨g,2,none⟩=some c∧W.frozen? ⟨g,0,none⟩=false∧W.frozen? ⟨g,1,none⟩=false∧W.frozen? ⟨g,2,none⟩=false:=⟨(blk_cell h_.out 0).trans rfl,(blk_cell h_.out 1).trans rfl,(blk_cell h_.out 2).trans rfl,blk_frozen h_.out 0,blk_frozen h_.out 1,blk_frozen h_.out 2⟩
theorem b4_ {W:World} {g:Nat} {t:TypeId} {a b c d:Value} (h_:Aside0 (W.heap[g]? =some (.cells #[a,b,c,d] t (0,0)))):W.cell? ⟨g,0,none⟩=some a∧W.cell? ⟨g,1,none⟩=some b∧W.cell? ⟨g,2,none⟩=some c∧W.cell? ⟨g,3,none⟩=some d∧W.frozen? ⟨g,0,none⟩=false∧W.frozen? ⟨g,1,none⟩=false∧W.frozen? ⟨g,2,none⟩=false∧W.frozen? ⟨g,3,none⟩=false:=⟨(blk_cell h_.out 0).trans rfl,(blk_cell h_.out 1).trans rfl,(blk_cell h_.out 2).trans rfl,(blk_cell h_.out 3).trans rfl,blk_frozen h_.out 0,blk_frozen h_.out 1,blk_frozen h_.out 2,blk_frozen h_.out 3⟩
theorem b6_ {W:World} {g:Nat} {t:TypeId} {a b c d e f:Value} (h_:Aside0 (W.heap[g]? =some (.cells #[a,b,c,d,e,f] t (0,0)))):W.cell? ⟨g,0,none⟩=some a∧W.cell? ⟨g,1,none⟩=some b∧W.cell? ⟨g,2,none⟩=some c∧W.cell? ⟨g,3,none⟩=some d∧W.cell? ⟨g,4,none⟩=some e∧W.cell? ⟨g,5,none⟩=some f∧W.frozen? ⟨g,0,none⟩=false∧W.frozen? ⟨g,1,none⟩=false∧W.frozen? ⟨g,2,none⟩=false∧W.frozen? ⟨g,3,none⟩=false∧W.frozen? ⟨g,4,none⟩=false∧W.frozen? ⟨g,5,none⟩=false:=⟨(blk_cell h_.out 0).trans rfl,(blk_cell h_.out 1).trans rfl,(blk_cell h_.out 2).trans rfl,(blk_cell h_.out 3).trans rfl,(blk_cell h_.out 4).trans rfl,(blk_cell h_.out 5).trans rfl,blk_frozen h_.out 0,blk_frozen h_.out 1,blk_frozen h_.out 2,blk_frozen h_.out 3,blk_frozen h_.out 4,blk_frozen h_.out 5⟩
end Go.Proofs.YtolakamimfhcjaaGreatDoor
