/- Short names for steps that the printed texts take again and again: each lays one fact at the next world. They state nothing of the program. -/
import Derived.Test.YtgnmlgoadkhceaaGreatDoorTWords
import Derived.Test.YtgnmlgoadkhceaaGreatDoorTMore
namespace Go.Proofs.YtgnmlgoadkhceaaGreatDoor
open Go Go.RowKit Go.Proofs.YtgnmlgoadkhceaaGreatDoorW.PrintWords
set_option linter.unusedVariables false
theorem bb_ {W0 W W1 : World} {g : Nat} {o : Obj} (h0 : Aside0 (W0.heap[g]? = some o)) (hb : Below W.heap.size W W1)
    (h : W.heap[g]? = some o := by (with_reducible repeat (first | refine blk_drewN ?_ _ | refine blk_drew ?_ | refine blk_alloc ?_ _)); exact Aside0.out (by assumption)) : Aside0 (W1.heap[g]? = some o) := Aside0.mk (blk_below h hb)
theorem bl_ {W0 W : World} {g g' : Nat} {o : Obj} (h0 : Aside0 (W0.heap[g]? = some o)) (hg : g' = W.heap.size)
    (h : W.heap[g]? = some o := by (with_reducible repeat (first | refine blk_drewN ?_ _ | refine blk_drew ?_ | refine blk_alloc ?_ _)); exact Aside0.out (by assumption)) : Aside0 (g ≠ g') := Aside0.mk (by rw [hg]; exact Nat.ne_of_lt (blk_lt h))
theorem bg_ {W0 W : World} {g g' : Nat} {o : Obj} (h0 : Aside0 (W0.heap[g]? = some o)) (hg : g' = W.heap.size)
    (h : W.heap[g]? = some o := by (with_reducible repeat (first | refine blk_drewN ?_ _ | refine blk_drew ?_ | refine blk_alloc ?_ _)); exact Aside0.out (by assumption)) : Aside0 (g' ≠ g) := Aside0.mk (by rw [hg]; exact Nat.ne_of_gt (blk_lt h))
theorem bz_ {w W : World} {g : Nat} (hg : g = W.heap.size)
    (h : Below w.heap.size w W := by repeat (first | (with_reducible first | exact Aside0.out (by assumption) | apply below_alloc | apply pw_below_drewN | apply below_drew1 | refine below_set ?_ (Aside0.out (by assumption))) | exact Aside0.out (by assumption))) : Aside0 (w.heap.size ≤ g) := Aside0.mk (by rw [hg]; exact below_size h)
theorem bs_ {w W0 W W1 : World} (h0 : Aside0 (Below w.heap.size w W0)) (hb : Below W.heap.size W W1)
    (h : Below w.heap.size w W := by repeat (first | (with_reducible first | exact Aside0.out (by assumption) | apply below_alloc | apply pw_below_drewN | apply below_drew1 | refine below_set ?_ (Aside0.out (by assumption))) | exact Aside0.out (by assumption))) : Aside0 (Below w.heap.size w W1) := Aside0.mk (below_step h hb)
theorem rb_ {α : Type} {d : Kd α} {e : Nat} {base : Nat} {ok : Nat → Prop} {v : Value} {xs : List α} {W0 W W1 : World} (h0 : Aside0 (d.R e W0 base ok v xs)) (hb : Below W.heap.size W W1)
    (h : d.R e W base ok v xs := by (with_reducible repeat (first | apply Kd.R_alloc | apply Kd.R_drewN | apply Kd.R_drew)); exact Aside0.out (by assumption)) : Aside0 (d.R e W1 base ok v xs) := Aside0.mk (Kd.R_below h hb)
theorem bp_ {W0 W : World} {g : Nat} {o : Obj} (h0 : Aside0 (W0.heap[g]? = some o))
    (h : W.heap[g]? = some o := by (with_reducible repeat (first | refine blk_drewN ?_ _ | refine blk_drew ?_ | refine blk_alloc ?_ _)); exact Aside0.out (by assumption)) : W.heap[g]? = some o := h
theorem rp_ {α : Type} {d : Kd α} {e : Nat} {base : Nat} {ok : Nat → Prop} {v : Value} {xs : List α} {W0 W : World} (h0 : Aside0 (d.R e W0 base ok v xs))
    (h : d.R e W base ok v xs := by (with_reducible repeat (first | apply Kd.R_alloc | apply Kd.R_drewN | apply Kd.R_drew)); exact Aside0.out (by assumption)) : d.R e W base ok v xs := h
theorem bw_ {w W0 W : World} (h0 : Aside0 (Below w.heap.size w W0))
    (h : Below w.heap.size w W := by repeat (first | (with_reducible first | exact Aside0.out (by assumption) | apply below_alloc | apply pw_below_drewN | apply below_drew1 | refine below_set ?_ (Aside0.out (by assumption))) | exact Aside0.out (by assumption))) : Below w.heap.size w W := h
theorem sia_ {α : Type} (l : List α) (i : Nat) (a : α) : l.toArray.setIfInBounds i a = (l.set i a).toArray := by simp
theorem scz_ {α : Type} (a b : α) (l : List α) : (a :: l).set 0 b = b :: l := rfl
theorem scs_ {α : Type} (a b : α) (l : List α) (n : Nat) : (a :: l).set (n + 1) b = a :: l.set n b := rfl
theorem bc_ {W : World} {g : Nat} {t : TypeId} {cs : Array Value} {v : Value} (h : Aside0 (W.heap[g]? = some (.cells cs t (0, 0)))) (i : Nat) (hv : cs[i]? = some v := by rfl) : W.cell? ⟨g, i, none⟩ = some v := (blk_cell h.out i).trans hv
theorem mk_ {p : Prop} (h : p) : Aside0 p := Aside0.mk h
theorem bfo_ {w : World} {g : Nat} {o : Obj} (h : w.heap[g]? = some o) {p : Addr} (hp : g ≠ p.block) (u : Value) : (w.setCell p u).heap[g]? = some o := (Below.heap_setCell w p u g hp).trans h
theorem bf_ {W : World} {g : Nat} {o : Obj} (h : W.heap[g]? = some o := by repeat (with_reducible first | exact Aside0.out (by assumption) | refine blk_drewN ?_ _ | refine blk_drew ?_ | refine blk_alloc ?_ _ | refine bfo_ ?_ (Aside0.out (by assumption)) _)) : W.heap[g]? = some o := h
theorem blk_eq_ {W : World} {g : Nat} {t : TypeId} {m : Nat × Nat} {cs cs' : Array Value} (h : W.heap[g]? = some (.cells cs t m)) (e : cs = cs') : W.heap[g]? = some (.cells cs' t m) := e ▸ h
theorem bu_ {W : World} {g : Nat} {t : TypeId} {m : Nat × Nat} {cs : Array Value} (h : W.heap[g]? = some (.cells cs t m) := by apply blk_eq_; (focus repeat (with_reducible first | exact Aside0.out (by assumption) | refine blk_drewN ?_ _ | refine blk_drew ?_ | refine blk_alloc ?_ _ | apply blk_set | refine bfo_ ?_ (Aside0.out (by assumption)) _)); simp only [List.setIfInBounds_toArray, List.set_cons_zero, List.set_cons_succ]) : W.heap[g]? = some (.cells cs t m) := h
theorem ga_ {p : Prop} (h : p := by (try simp only [List.map_toArray, List.map_cons, List.map_nil]); first | done | rfl | (simp only [List.length_drop, List.length_take]; rfl)) : p := h
theorem ab_ {p : Prop} (h : p := by first | (rw [add_block]; assumption) | (show (Addr.add _ _).block ≠ _; rw [add_block]; assumption) | assumption) : p := h
theorem er_ {p : Prop} (h : p := by first | rfl | (simp [errW_none, errW_some] <;> rfl) | (simp [*, errW_none, errW_some] <;> rfl)) : p := h
theorem bwi_ {w W0 W : World} {g : Nat} (h0 : Aside0 (Below w.heap.size w W0)) (hg : w.heap.size ≤ g)
    (h : w.heap.size ≤ g → Below w.heap.size w W := by intro hg_; repeat (first | (with_reducible first | exact Aside0.out (by assumption) | apply below_alloc | apply pw_below_drewN | apply below_drew1 | refine below_set ?_ (by assumption) | refine below_set ?_ (Aside0.out (by assumption))) | exact Aside0.out (by assumption))) : Below w.heap.size w W := h hg
end Go.Proofs.YtgnmlgoadkhceaaGreatDoor
