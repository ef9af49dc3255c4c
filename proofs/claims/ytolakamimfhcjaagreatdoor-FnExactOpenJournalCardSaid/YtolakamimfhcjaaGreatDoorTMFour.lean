/- Of the print's words (YtolakamimfhcjaaGreatDoorMathFour) those that this claim's texts name. -/
import Derived.Test.YtolakamimfhcjaaGreatDoorTMore
namespace Go.Proofs.YtolakamimfhcjaaGreatDoor
open Go Go.RowKit Go.Proofs.YtolakamimfhcjaaGreatDoorW.PrintWords
theorem ob_ {α β:Type} {o:Option α} {f:α→Option β} {r:β} (h:o.bind f=some r):∃a,Aside0 (o=some a)∧f a=some r:=by
  obtain⟨a,ha,hb⟩:=Option.bind_eq_some_iff.mp h
  exact⟨a,Aside0.mk ha,hb⟩
theorem gd_ {α:Type} {p:Prop} [Decidable p] {o:Option α} {r:α} (h:(if p then o else none)=some r):p∧o=some r:=by
  by_cases c:p
  · rw [if_pos c] at h;exact⟨c,h⟩
  · rw [if_neg c] at h;cases h
theorem ic_ {α:Type} {p G:Prop} [Decidable p] {a b r:α} (h:(if p then a else b)=r) (hn:decide p=false→b=r→G) (hp:decide p=true→a=r→G):G:=by
  by_cases c:p
  · rw [if_pos c] at h;exact hp (decide_eq_true c) h
  · rw [if_neg c] at h;exact hn (decide_eq_false c) h
theorem ig_ {α:Type} {x y:Int} {G:Prop} {a b r:α} (h:(if x>y then a else b)=r) (hn:decide (y<x)=false→b=r→G) (hp:decide (y<x)=true→a=r→G):G:=by
  by_cases c:x>y
  · rw [if_pos c] at h;exact hp (decide_eq_true c) h
  · rw [if_neg c] at h;exact hn (decide_eq_false c) h
theorem ih_ {α:Type} {x y:Int} {G:Prop} {a b r:α} (h:(if x≥y then a else b)=r) (hn:decide (y≤x)=false→b=r→G) (hp:decide (y≤x)=true→a=r→G):G:=by
  by_cases c:x≥y
  · rw [if_pos c] at h;exact hp (decide_eq_true c) h
  · rw [if_neg c] at h;exact hn (decide_eq_false c) h
end Go.Proofs.YtolakamimfhcjaaGreatDoor
