/- Written by this session's own program: what the law's functions come to, and that the machine's calls do just that. -/
import Derived.Test.YtolakamimfhcjaaGreatDoorQFnExactOpenJournalx1
namespace Go.Proofs.YtolakamimfhcjaaGreatDoor.QFnExactOpenJournal
open Go.RowKit Go.Proofs.YtolakamimfhcjaaGreatDoorW.PrintWords Go.Proofs.YtolakamimfhcjaaGreatDoorW.PrintLast Go.Proofs.YtolakamimfhcjaaGreatDoorW.PrintMore
attribute [local go_sem] Go.Proofs.YtolakamimfhcjaaGreatDoor.Sem.string_geq Go.Proofs.YtolakamimfhcjaaGreatDoor.Sem.string_leq Go.Proofs.YtolakamimfhcjaaGreatDoor.Sem.string_gtr
attribute [local go_sem] max2_int min2_int max_two min_two max_three min_three max_four min_four
set_option linter.unusedVariables false
set_option linter.unusedSimpArgs false
set_option maxHeartbeats 8000000
set_option maxRecDepth 100000
def IsS100 (w0 W:World) (g:Nat) (f0:ByteArray) (f1:Int) (f2:Bool):Prop:=W.heap[g]? =some (.cells #[.string f0,.int .i64 f1,.bool f2] 100 (0,0))∧w0.heap.size≤g
theorem IsS100.grown {w0 W:World} {g:Nat} {f0:ByteArray} {f1:Int} {f2:Bool} {W1:World} {row:Option Nat} (h:IsS100 w0 W g f0 f1 f2) (hw:W.grownBy W1 row) (hne:some g≠row):IsS100 w0 W1 g f0 f1 f2:=by
 obtain⟨hb,hg⟩:=h
 exact⟨blk_grown hb hw hne,hg⟩
theorem IsS100.own_neN {w0 W:World} {g:Nat} {f0:ByteArray} {f1:Int} {f2:Bool} {α:Type} {d:Kd α} {e:Nat} {base:Nat} {ok:Nat→Prop} {v:Value} {xs:List α} (h:IsS100 w0 W g f0 f1 f2) (ho:Kd.N d e W base ok v xs) (ht:e≠100):some g≠v.ownBlock:=by
 obtain⟨hb,hg⟩:=h
 exact Kd.N_ne ho hb ht
theorem IsS100.fresh {w0 W:World} {g:Nat} {f0:ByteArray} {f1:Int} {f2:Bool} (h:IsS100 w0 W g f0 f1 f2):∀k,W.heap.size≤k→k≠g:=by
 obtain⟨hb,hg⟩:=h
 exact Kd.freshB hb
theorem IsS100.kept {w0 W:World} {g:Nat} {f0:ByteArray} {f1:Int} {f2:Bool} {W1:World} {S:Nat→Prop} (h:IsS100 w0 W g f0 f1 f2) (hk:Kept W W1 S) (hne:¬S g):IsS100 w0 W1 g f0 f1 f2:=by
 obtain⟨hb,hg⟩:=h
 exact⟨blk_kept hb hk hne,hg⟩
theorem IsS100.below {w0 W:World} {g:Nat} {f0:ByteArray} {f1:Int} {f2:Bool} {W1:World} (h:IsS100 w0 W g f0 f1 f2) (hw:Below W.heap.size W W1):IsS100 w0 W1 g f0 f1 f2:=h.grown (grown_of_below hw none) (by simp)
theorem IsS100.alloc {w0 W:World} {g:Nat} {f0:ByteArray} {f1:Int} {f2:Bool} (h:IsS100 w0 W g f0 f1 f2) (o:Obj):IsS100 w0 (W.alloc o) g f0 f1 f2:=h.below (below_alloc (Below.refl _ _) o)
theorem IsS100.drewN {w0 W:World} {g:Nat} {f0:ByteArray} {f1:Int} {f2:Bool} (h:IsS100 w0 W g f0 f1 f2) (m:Nat):IsS100 w0 (W.drewN m) g f0 f1 f2:=h
theorem IsS100.drew {w0 W:World} {g:Nat} {f0:ByteArray} {f1:Int} {f2:Bool} (h:IsS100 w0 W g f0 f1 f2):IsS100 w0 W.drew g f0 f1 f2:=h
theorem IsS100.at_ {w0 W:World} {g:Nat} {f0:ByteArray} {f1:Int} {f2:Bool} {w':World} {m:Nat} (hq:W.drewN m=w') (h:IsS100 w0 W g f0 f1 f2):IsS100 w0 w' g f0 f1 f2:=by subst hq;exact IsS100.drewN h m
theorem IsS100.apart {w0 W:World} {g:Nat} {f0:ByteArray} {f1:Int} {f2:Bool} {α:Type} {d:Kd α} {e:Nat} {base:Nat} {ok:Nat→Prop} {v:Value} {xs:List α} (h:IsS100 w0 W g f0 f1 f2) (ho:d.R e W base ok v xs) (ht:∀q,q∈e :: d.E→q≠100):d.R e W base (fun k=>ok k∧k≠g) v xs:=by
 obtain⟨hb,hg⟩:=h
 exact Kd.R_types ho hb ht
theorem IsS100.own_ne {w0 W:World} {g:Nat} {f0:ByteArray} {f1:Int} {f2:Bool} {α:Type} {d:Kd α} {e:Nat} {base:Nat} {ok:Nat→Prop} {v:Value} {xs:List α} (h:IsS100 w0 W g f0 f1 f2) (ho:d.R e W base ok v xs) (ht:e≠100):some g≠v.ownBlock:=by
 obtain⟨hb,hg⟩:=h
 exact Kd.R_ne ho hb ht
theorem IsS100.apartQ {w0 W:World} {g:Nat} {f0:ByteArray} {f1:Int} {f2:Bool} {α:Type} {d:Kd α} {e:Nat} {base:Nat} {ok:Nat→Prop} {v:Value} {xs:List α} (h:IsS100 w0 W g f0 f1 f2) (ho:d.Q e W base ok v xs) (ht:∀q,q∈e :: d.E→q≠100):d.Q e W base (fun k=>ok k∧k≠g) v xs:=by
 obtain⟨hb,hg⟩:=h
 exact Kd.Q_types ho hb ht
theorem IsS100.own_neQ {w0 W:World} {g:Nat} {f0:ByteArray} {f1:Int} {f2:Bool} {α:Type} {d:Kd α} {e:Nat} {base:Nat} {ok:Nat→Prop} {v:Value} {xs:List α} (h:IsS100 w0 W g f0 f1 f2) (ho:d.Q e W base ok v xs) (ht:e≠100):some g≠v.ownBlock:=by
 obtain⟨hb,hg⟩:=h
 exact Kd.Q_ne ho hb ht
theorem IsS100.apartS {w0 W:World} {g:Nat} {f0:ByteArray} {f1:Int} {f2:Bool} {α:Type} {d:Kd α} {e:Nat} {base:Nat} {ok:Nat→Prop} {v:Value} {xs:List α} (h:IsS100 w0 W g f0 f1 f2) (ho:d.S e W base ok v xs) (ht:∀q,q∈e :: d.E→q≠100):d.S e W base (fun k=>ok k∧k≠g) v xs:=by
 obtain⟨hb,hg⟩:=h
 exact Kd.S_types ho hb ht
theorem IsS100.own_neS {w0 W:World} {g:Nat} {f0:ByteArray} {f1:Int} {f2:Bool} {α:Type} {d:Kd α} {e:Nat} {base:Nat} {ok:Nat→Prop} {v:Value} {xs:List α} (h:IsS100 w0 W g f0 f1 f2) (ho:d.S e W base ok v xs) (ht:e≠100):some g≠v.ownBlock:=by
 obtain⟨hb,hg⟩:=h
 exact Kd.S_ne ho hb ht
theorem IsS100.lt {w0 W:World} {g:Nat} {f0:ByteArray} {f1:Int} {f2:Bool} (h:IsS100 w0 W g f0 f1 f2):g<W.heap.size:=by
 obtain⟨hb,hg⟩:=h
 exact blk_lt hb
theorem IsS100.ge {w0 W:World} {g:Nat} {f0:ByteArray} {f1:Int} {f2:Bool} (h:IsS100 w0 W g f0 f1 f2):w0.heap.size≤g:=by
 obtain⟨hb,hg⟩:=h
 exact hg
theorem IsS100.ne_blk {w0 W:World} {g:Nat} {f0:ByteArray} {f1:Int} {f2:Bool} {a:Nat} {cs:Array Value} {t:TypeId} {fr:Nat × Nat} (h:IsS100 w0 W g f0 f1 f2) (a0:W.heap[a]? =some (.cells cs t fr)) (ht:t≠100):g≠a:=by
 obtain⟨hb,hg⟩:=h
 rintro rfl
 rw [hb] at a0
 injection a0 with a0
 injection a0 with _ b0
 exact ht b0.symm
theorem IsS100.far {w0 W:World} {g:Nat} {f0:ByteArray} {f1:Int} {f2:Bool} {p:Addr} (h:IsS100 w0 W g f0 f1 f2) (hne:g≠p.block) (u:Value):IsS100 w0 (W.setCell p u) g f0 f1 f2:=by
 obtain⟨hb,hg⟩:=h
 exact⟨blk_far hb hne u,hg⟩
theorem cellS100_0 {W:World} {g:Nat} {f0:ByteArray} {f1:Int} {f2:Bool} (h:W.heap[g]? =some (.cells #[.string f0,.int .i64 f1,.bool f2] 100 (0,0))):W.cell? ⟨g,0,none⟩=some (.string f0):=(blk_cell h 0).trans rfl
theorem IsS100.set_0 {w0 W:World} {g:Nat} {f0:ByteArray} {f1:Int} {f2:Bool} (h:IsS100 w0 W g f0 f1 f2) (x:ByteArray):IsS100 w0 (W.setCell ⟨g,0,none⟩ (.string x)) g x f1 f2:=by
 obtain⟨hb,hg⟩:=h
 exact⟨by simpa using blk_set hb 0 (.string x),hg⟩
theorem cellS100_1 {W:World} {g:Nat} {f0:ByteArray} {f1:Int} {f2:Bool} (h:W.heap[g]? =some (.cells #[.string f0,.int .i64 f1,.bool f2] 100 (0,0))):W.cell? ⟨g,1,none⟩=some (.int .i64 f1):=(blk_cell h 1).trans rfl
theorem IsS100.set_1 {w0 W:World} {g:Nat} {f0:ByteArray} {f1:Int} {f2:Bool} (h:IsS100 w0 W g f0 f1 f2) (x:Int):IsS100 w0 (W.setCell ⟨g,1,none⟩ (.int .i64 x)) g f0 x f2:=by
 obtain⟨hb,hg⟩:=h
 exact⟨by simpa using blk_set hb 1 (.int .i64 x),hg⟩
theorem cellS100_2 {W:World} {g:Nat} {f0:ByteArray} {f1:Int} {f2:Bool} (h:W.heap[g]? =some (.cells #[.string f0,.int .i64 f1,.bool f2] 100 (0,0))):W.cell? ⟨g,2,none⟩=some (.bool f2):=(blk_cell h 2).trans rfl
theorem IsS100.set_2 {w0 W:World} {g:Nat} {f0:ByteArray} {f1:Int} {f2:Bool} (h:IsS100 w0 W g f0 f1 f2) (x:Bool):IsS100 w0 (W.setCell ⟨g,2,none⟩ (.bool x)) g f0 f1 x:=by
 obtain⟨hb,hg⟩:=h
 exact⟨by simpa using blk_set hb 2 (.bool x),hg⟩
theorem IsS100.new (w0 W:World) (f0:ByteArray) (f1:Int) (f2:Bool) (hB:Below w0.heap.size w0 W):IsS100 w0 (W.alloc (.cells #[.string f0,.int .i64 f1,.bool f2] 100)) W.heap.size f0 f1 f2:=⟨by simpa using heap_alloc_new W _,hB.size⟩
theorem IsS100.ii_ {w W0 W:World} {g:Nat} {f0 a0:ByteArray} {f1 b0:Int} {f2 d0:Bool} (h0:Aside0 (IsS100 w W0 g f0 f1 f2)) (h:IsS100 w W g a0 b0 d0:=by repeat(first|(with_reducible first|exact Aside0.out (by assumption)|apply IsS100.alloc|apply IsS100.drewN|apply IsS100.drew|apply IsS100.set_0|apply IsS100.set_1|apply IsS100.set_2|refine IsS100.far ?_ (Aside0.out (by assumption)) _)|exact Aside0.out (by assumption))):IsS100 w W g a0 b0 d0:=h
def spec_l05Take.f (b0:ByteArray) (a0:Int) (d0:Bool) (a1:Int):Option (ByteArray × ByteArray × Int × Bool):=if d0=true then(some ((⟨#[]⟩:ByteArray),b0,a0,true)) else(if a1>(wrap64 ((b0.size:Int) - a0)) then(some ((⟨#[]⟩:ByteArray),b0,a0,true)) else(if 0≤(wrap64 ((wrap64 (a0+a1)) - a1)) then(if(wrap64 ((wrap64 (a0+a1)) - a1))≤(wrap64 (a0+a1)) then(if(wrap64 (a0+a1))≤(b0.size:Int) then(some (b0.extract ((wrap64 ((wrap64 (a0+a1)) - a1)):Int).toNat ((wrap64 (a0+a1)):Int).toNat,b0,wrap64 (a0+a1),d0)) else(none)) else(none)) else(none)))
theorem spec_l05Take.calls (g:Nat) (m0:ByteArray) (e0:Int) (n0:Bool) (a1:Int) (r1:ByteArray) (r2:ByteArray) (r3:Int) (r4:Bool) (w0 w:World) (hI:IsS100 w0 w g m0 e0 n0) (hB:Below w0.heap.size w0 w) (h:spec_l05Take.f m0 e0 n0 a1=some (r1,r2,r3,r4)):
  Calls Tryz.prog 69 #[.pointer (some ⟨g,0,none⟩),.int .i64 a1] w fun e w'=>e= .returned (.string r1)∧IsS100 w0 w' g r2 r3 r4∧Below w0.heap.size w0 w'∧KeepBut w w' g none:=by
 have g0:=Aside0.mk hI
 have HK:=mk_ (KeepBut.refl w g none)
 have HL:=Aside0.mk hB.size
 clear hI
 have Z0:=Aside0.mk hB.size
 have HB:=Aside0.mk hB
 clear hB
 have H:=h
 unfold spec_l05Take.f at H
 clear h
 by_cases c3:n0=true
 ·subst c3
  rw [if_pos rfl] at H
  simp only [Option.some.injEq,Prod.mk.injEq] at H
  obtain⟨rfl,rfl,rfl,rfl⟩:=H
  obtain⟨b0,x0⟩:=g0.out
  have y0:=cellS100_0 b0
  have A0:=cellS100_1 b0
  have B0:=cellS100_2 b0
  have C0:=blk_frozen b0 0
  have F0:=blk_frozen b0 1
  have G0:=blk_frozen b0 2
  clear b0 x0
  go_enter Tryz.func69,Tryz.ntmps69
  go_wp2
  repeat(go_quiet (fail);try go_wp2)
  go_ret
  exact⟨er_,IsS100.ii_ g0,bwi_ HB (IsS100.ge g0.out),kb_ HK⟩
 replace c3:=Bool.eq_false_iff.mpr c3
 subst c3
 rw [if_neg (show ¬(false=true) by decide)] at H
 by_cases c5:a1>(wrap64 ((m0.size:Int) - e0))
 ·rw [if_pos c5] at H
  have H0:=decide_eq_true c5
  clear c5
  simp only [Option.some.injEq,Prod.mk.injEq] at H
  obtain⟨rfl,rfl,rfl,rfl⟩:=H
  obtain⟨d0,I0⟩:=g0.out
  have J0:=cellS100_0 d0
  have K0:=cellS100_1 d0
  have L0:=cellS100_2 d0
  have M0:=blk_frozen d0 0
  have N0:=blk_frozen d0 1
  have O0:=blk_frozen d0 2
  clear d0 I0
  go_enter Tryz.func69,Tryz.ntmps69
  go_wp2
  repeat(go_quiet (fail);try go_wp2)
  go_ret
  exact⟨er_,IsS100.ii_ g0,bwi_ HB (IsS100.ge g0.out),kb_ HK⟩
 rw [if_neg c5] at H
 have H0:=decide_eq_false c5
 clear c5
 obtain⟨U0,h0⟩:∃j_:Int,(wrap64 ((wrap64 (e0+a1)) - a1))=j_:=⟨_,rfl⟩
 (first|rw [h0] at H|simp only [h0] at H)
 have P0:(IntKind.i64.wrap ((wrap64 (e0+a1)) - a1))=U0:=(i64_w _).trans h0
 obtain⟨c8,H⟩:=gd_ H
 have V0:=eq_true c8
 have W0:=decide_eq_true c8
 clear c8
 obtain⟨c9,H⟩:=gd_ H
 have X0:=eq_true c9
 have Y0:=decide_eq_true c9
 obtain⟨c10,H⟩:=gd_ H
 have Q0:=eq_true c10
 have R0:=decide_eq_true c10
 simp only [Option.some.injEq,Prod.mk.injEq] at H
 obtain⟨rfl,rfl,rfl,rfl⟩:=H
 obtain⟨a0,o0⟩:=g0.out
 have p0:=cellS100_0 a0
 have q0:=cellS100_1 a0
 have r0:=cellS100_2 a0
 have s0:=blk_frozen a0 0
 have t0:=blk_frozen a0 1
 have v0:=blk_frozen a0 2
 clear a0 o0
 go_enter Tryz.func69,Tryz.ntmps69
 go_wp2
 repeat(go_quiet (fail);try go_wp2)
 go_ret
 exact⟨by first|rfl|(simp [errW_none,errW_some] <;> rfl)|(simp only [←h0];first|rfl|(simp [errW_none,errW_some] <;> rfl))|(simp [*,errW_none,errW_some] <;> rfl),IsS100.ii_ g0,bwi_ HB (IsS100.ge g0.out),kb_ HK⟩
def spec_l05Var.f (k:Nat) (a0:ByteArray) (b0:Int) (d0:Bool):Option (Int × ByteArray × Int × Bool):=(spec_ReadVar.f k a0 b0).bind fun t=>(if d0=true then(some (0,a0,b0,true)) else(if t.2.2=true then(some (t.1,a0,t.2.1,d0)) else(some (0,a0,b0,true))))
theorem spec_l05Var.calls (k:Nat) (g:Nat) (a0:ByteArray) (b0:Int) (m0:Bool) (r1:Int) (r2:ByteArray) (r3:Int) (r4:Bool) (w0 w:World) (hI:IsS100 w0 w g a0 b0 m0) (hB:Below w0.heap.size w0 w) (h:spec_l05Var.f k a0 b0 m0=some (r1,r2,r3,r4)):
  Calls Tryz.prog 70 #[.pointer (some ⟨g,0,none⟩)] w fun e w'=>e= .returned (.int .i64 r1)∧IsS100 w0 w' g r2 r3 r4∧Below w0.heap.size w0 w'∧KeepBut w w' g none:=by
 obtain⟨⟨n,nx,ok⟩,o0,hr⟩:=Option.bind_eq_some_iff.mp h
 clear h
 have HT:=Aside0.mk o0
 clear o0
 have HI:=Aside0.mk hI
 have hlt:g<w.heap.size:=blk_lt hI.1
 have c0:w.cell? ⟨g,0,none⟩=some (.string a0):=(blk_cell hI.1 0).trans rfl
 have c1:w.cell? ⟨g,1,none⟩=some (.int .i64 b0):=(blk_cell hI.1 1).trans rfl
 clear hI
 have HB:=Aside0.mk hB
 clear hB
 cases m0 with
 |true=>
  obtain⟨rfl,rfl,rfl,rfl⟩:0=r1∧a0=r2∧b0=r3∧true=r4:=by simpa using hr
  clear hr
  go_enter Tryz.func70,Tryz.ntmps70
  go_wp2_with fail
  go_region_held3 (fun w'=>w'.cell? ⟨g,0,none⟩=some (.string a0)∧w'.cell? ⟨g,1,none⟩=some (.int .i64 b0)∧g<w'.heap.size) (first|go_keep|exact⟨(hb'.cell (p:=⟨g,0,none⟩) hlt).trans c0,(hb'.cell (p:=⟨g,1,none⟩) hlt).trans c1,Nat.lt_of_lt_of_le hlt hb'.size⟩) (first|(go_at_call 68;refine(spec_ReadVar.calls k a0 b0 n nx ok _ HT.out).mono ?_;rintro e w' ⟨rfl,hb'⟩))
  have g0:=mk_ ((IsS100.drew HI.out).below hb')
  have h0:=mk_ ((keep_drew (KeepBut.refl w g none)).trans (KeepBut.of_below hb' g none) (.inl rfl))
  have n0:=mk_ (below_then (below_drew1 HB.out) (below_drew1 HB.out).size hb')
  clear c0 c1 HI HB hb'
  obtain⟨HG,hg_⟩:=g0.out
  have d0:=cellS100_0 HG
  have d1:=cellS100_1 HG
  have d2:=cellS100_2 HG
  have e0:=blk_frozen HG 0
  have e1:=blk_frozen HG 1
  have e2:=blk_frozen HG 2
  clear HG hg_
  go_wp2
  go_ret
  exact⟨rfl,IsS100.ii_ g0,bwi_ n0 (IsS100.ge g0.out),by repeat(first|(with_reducible first|exact h0.out|apply KeepBut.set_|apply keep_drewN|apply keep_drew|apply keep_alloc)|exact h0.out)⟩
 |false=>
  cases ok with
  |true=>
   obtain⟨rfl,rfl,rfl,rfl⟩:n=r1∧a0=r2∧nx=r3∧false=r4:=by simpa using hr
   clear hr
   go_enter Tryz.func70,Tryz.ntmps70
   go_wp2_with fail
   go_region_held3 (fun w'=>w'.cell? ⟨g,0,none⟩=some (.string a0)∧w'.cell? ⟨g,1,none⟩=some (.int .i64 b0)∧g<w'.heap.size) (first|go_keep|exact⟨(hb'.cell (p:=⟨g,0,none⟩) hlt).trans c0,(hb'.cell (p:=⟨g,1,none⟩) hlt).trans c1,Nat.lt_of_lt_of_le hlt hb'.size⟩) (first|(go_at_call 68;refine(spec_ReadVar.calls k a0 b0 n nx true _ HT.out).mono ?_;rintro e w' ⟨rfl,hb'⟩))
   have g0:=mk_ ((IsS100.drew HI.out).below hb')
   have h0:=mk_ ((keep_drew (KeepBut.refl w g none)).trans (KeepBut.of_below hb' g none) (.inl rfl))
   have n0:=mk_ (below_then (below_drew1 HB.out) (below_drew1 HB.out).size hb')
   clear c0 c1 HI HB hb'
   obtain⟨HG,hg_⟩:=g0.out
   have d0:=cellS100_0 HG
   have d1:=cellS100_1 HG
   have d2:=cellS100_2 HG
   have e0:=blk_frozen HG 0
   have e1:=blk_frozen HG 1
   have e2:=blk_frozen HG 2
   clear HG hg_
   go_wp2
   go_ret
   exact⟨rfl,IsS100.ii_ g0,bwi_ n0 (IsS100.ge g0.out),by repeat(first|(with_reducible first|exact h0.out|apply KeepBut.set_|apply keep_drewN|apply keep_drew|apply keep_alloc)|exact h0.out)⟩
  |false=>
   obtain⟨rfl,rfl,rfl,rfl⟩:0=r1∧a0=r2∧b0=r3∧true=r4:=by simpa using hr
   clear hr
   go_enter Tryz.func70,Tryz.ntmps70
   go_wp2_with fail
   go_region_held3 (fun w'=>w'.cell? ⟨g,0,none⟩=some (.string a0)∧w'.cell? ⟨g,1,none⟩=some (.int .i64 b0)∧g<w'.heap.size) (first|go_keep|exact⟨(hb'.cell (p:=⟨g,0,none⟩) hlt).trans c0,(hb'.cell (p:=⟨g,1,none⟩) hlt).trans c1,Nat.lt_of_lt_of_le hlt hb'.size⟩) (first|(go_at_call 68;refine(spec_ReadVar.calls k a0 b0 n nx false _ HT.out).mono ?_;rintro e w' ⟨rfl,hb'⟩))
   have g0:=mk_ ((IsS100.drew HI.out).below hb')
   have h0:=mk_ ((keep_drew (KeepBut.refl w g none)).trans (KeepBut.of_below hb' g none) (.inl rfl))
   have n0:=mk_ (below_then (below_drew1 HB.out) (below_drew1 HB.out).size hb')
   clear c0 c1 HI HB hb'
   obtain⟨HG,hg_⟩:=g0.out
   have d0:=cellS100_0 HG
   have d1:=cellS100_1 HG
   have d2:=cellS100_2 HG
   have e0:=blk_frozen HG 0
   have e1:=blk_frozen HG 1
   have e2:=blk_frozen HG 2
   clear HG hg_
   go_wp2
   go_ret
   exact⟨rfl,IsS100.ii_ g0,bwi_ n0 (IsS100.ge g0.out),by repeat(first|(with_reducible first|exact h0.out|apply KeepBut.set_|apply keep_drewN|apply keep_drew|apply keep_alloc)|exact h0.out)⟩
def spec_l07Two.f (k:Nat) (a0:ByteArray) (a1:ByteArray):Option (Int × Int × Bool):=(spec_l05Take.f a0 0 false 1).bind fun d0=>((spec_l05Var.f k d0.2.1 d0.2.2.1 d0.2.2.2).bind fun b0=>((spec_l05Var.f k b0.2.1 b0.2.2.1 b0.2.2.2).bind fun e0=>(if e0.2.2.2=true then(some (0,0,false)) else((spec_l01Var.f k b0.1).bind fun g0=>(if a1.size+g0.size≤9223372036854775807 then((spec_l01Var.f k e0.1).bind fun h0=>(if(a1++g0).size+h0.size≤9223372036854775807 then(if((a1++g0)++h0).toList=a0.toList then(some (b0.1,e0.1,true)) else(some (0,0,false))) else(none))) else(none))))))
theorem spec_l07Two.calls (k:Nat) (a0:ByteArray) (a1:ByteArray) (r1:Int) (r2:Int) (r3:Bool) (w:World) (h:spec_l07Two.f k a0 a1=some (r1,r2,r3)):
  Calls Tryz.prog 45 #[.string a0,.string a1] w fun e w'=>e= .returned (.tuple #[.int .i64 r1,.int .i64 r2,.bool r3])∧Below w.heap.size w w':=by
 have v1:=Tryz.underlying100
 have HB:=mk_ (Below.refl w.heap.size w)
 have H:=h
 unfold spec_l07Two.f at H
 clear h
 obtain⟨⟨F0,n0,o0,p0⟩,A3,H⟩:=ob_ H
 try dsimp only at H
 obtain⟨⟨t0,q0,r0,s0⟩,A4,H⟩:=ob_ H
 try dsimp only at H
 obtain⟨⟨v0,G0,H0,s1⟩,A5,H⟩:=ob_ H
 try dsimp only at H
 by_cases c6:s1=true
 ·subst c6
  rw [if_pos rfl] at H
  simp only [Option.some.injEq,Prod.mk.injEq] at H
  obtain⟨rfl,rfl,rfl⟩:=H
  go_enter Tryz.func45,Tryz.ntmps45
  go_wp2_with (first|((with_reducible refine gn_ 12 rfl ?_);refine bx_ (N:=12) (cs:=#[.string a0,.int .i64 0,.bool false]) (t:=100) ?_;intro d0 hg w7 hbox hb;have m0:Aside0 (w.heap.size≤d0):=bz_ hg;have C0:=m0;have b0:=mk_ ((⟨hbox,(by rw [hg];exact(below_size (bw_ HB)):w.heap.size≤d0)⟩:IsS100 w w7 d0 a0 0 false));replace HB:=bs_ HB hb;clear hb hbox hg)|((with_reducible refine gc_ 69 rfl ?_);refine gm_ 14 Tryz.func69 (spec_l05Take.calls d0 a0 0 false 1 F0 n0 o0 p0 w _ ?side1 ?side2 A3.out) ?_;(case side1=>exact IsS100.ii_ b0);(case side2=>exact bwi_ HB (IsS100.ge b0.out));rintro w8 ⟨hi,hb,hk⟩;replace HB:=mk_ (hb);replace b0:=mk_ (hi);(try clear hb);(try clear hk);(try clear hi))|((with_reducible refine gc_ 70 rfl ?_);refine gm_ 16 Tryz.func70 (spec_l05Var.calls k d0 n0 o0 p0 t0 q0 r0 s0 w _ ?side1 ?side2 A4.out) ?_;(case side1=>exact IsS100.ii_ b0);(case side2=>exact bwi_ HB (IsS100.ge b0.out));rintro w9 ⟨hi,hb,hk⟩;replace HB:=mk_ (hb);replace b0:=mk_ (hi);(try clear hb);(try clear hk);(try clear hi))|((with_reducible refine gc_ 70 rfl ?_);refine gm_ 18 Tryz.func70 (spec_l05Var.calls k d0 q0 r0 s0 v0 G0 H0 true w _ ?side1 ?side2 A5.out) ?_;(case side1=>exact IsS100.ii_ b0);(case side2=>exact bwi_ HB (IsS100.ge b0.out));rintro L1 ⟨hi,hb,hk⟩;replace HB:=mk_ (hb);replace b0:=mk_ (hi);(try clear hb);(try clear hk);(try clear hi);obtain⟨e0,J0⟩:=b0.out;have O0:=cellS100_0 e0;have P0:=cellS100_1 e0;have Q0:=cellS100_2 e0;have R0:=blk_frozen e0 0;have U0:=blk_frozen e0 1;have V0:=blk_frozen e0 2;clear e0 J0))
  go_ret3
  exact⟨er_,bwi_ HB (IsS100.ge b0.out)⟩
 replace c6:=Bool.eq_false_iff.mpr c6
 subst c6
 rw [if_neg (show ¬(false=true) by decide)] at H
 obtain⟨A0,x1,H⟩:=ob_ H
 try dsimp only at H
 obtain⟨t1,H⟩:=gd_ H
 have y1:=eq_true t1
 have A1:=decide_eq_true t1
 have C1:=eq_false (Nat.not_lt.2 t1)
 obtain⟨B0,D1,H⟩:=ob_ H
 try dsimp only at H
 obtain⟨W0,H⟩:=gd_ H
 have F1:=eq_true W0
 have G1:=decide_eq_true W0
 have H1:=eq_false (Nat.not_lt.2 W0)
 have I1:(9223372036854775807<a1.size+A0.size+B0.size)=False:=eq_false (by have h_:=W0;simp only [ByteArray.size_append] at h_;exact Nat.not_lt.2 h_)
 by_cases I0:((a1++A0)++B0).toList=a0.toList
 rotate_left
 ·rw [if_neg I0] at H
  have K0:=beq_eq_false_iff_ne.mpr I0
  have L0:=bne_iff_ne.mpr I0
  simp only [Option.some.injEq,Prod.mk.injEq] at H
  obtain⟨rfl,rfl,rfl⟩:=H
  go_enter Tryz.func45,Tryz.ntmps45
  go_wp2_with (first|((with_reducible refine gn_ 12 rfl ?_);refine bx_ (N:=12) (cs:=#[.string a0,.int .i64 0,.bool false]) (t:=100) ?_;intro d0 hg J1 hbox hb;have m0:Aside0 (w.heap.size≤d0):=bz_ hg;have C0:=m0;have b0:=mk_ ((⟨hbox,(by rw [hg];exact(below_size (bw_ HB)):w.heap.size≤d0)⟩:IsS100 w J1 d0 a0 0 false));replace HB:=bs_ HB hb;clear hb hbox hg)|((with_reducible refine gc_ 69 rfl ?_);refine gm_ 14 Tryz.func69 (spec_l05Take.calls d0 a0 0 false 1 F0 n0 o0 p0 w _ ?side1 ?side2 A3.out) ?_;(case side1=>exact IsS100.ii_ b0);(case side2=>exact bwi_ HB (IsS100.ge b0.out));rintro M1 ⟨hi,hb,hk⟩;replace HB:=mk_ (hb);replace b0:=mk_ (hi);(try clear hb);(try clear hk);(try clear hi))|((with_reducible refine gc_ 70 rfl ?_);refine gm_ 16 Tryz.func70 (spec_l05Var.calls k d0 n0 o0 p0 t0 q0 r0 s0 w _ ?side1 ?side2 A4.out) ?_;(case side1=>exact IsS100.ii_ b0);(case side2=>exact bwi_ HB (IsS100.ge b0.out));rintro N1 ⟨hi,hb,hk⟩;replace HB:=mk_ (hb);replace b0:=mk_ (hi);(try clear hb);(try clear hk);(try clear hi))|((with_reducible refine gc_ 70 rfl ?_);refine gm_ 18 Tryz.func70 (spec_l05Var.calls k d0 q0 r0 s0 v0 G0 H0 false w _ ?side1 ?side2 A5.out) ?_;(case side1=>exact IsS100.ii_ b0);(case side2=>exact bwi_ HB (IsS100.ge b0.out));rintro O1 ⟨hi,hb,hk⟩;replace HB:=mk_ (hb);replace b0:=mk_ (hi);(try clear hb);(try clear hk);(try clear hi);obtain⟨g0,M0⟩:=b0.out;have X0:=cellS100_0 g0;have Y0:=cellS100_1 g0;have Z0:=cellS100_2 g0;have b1:=blk_frozen g0 0;have d1:=blk_frozen g0 1;have e1:=blk_frozen g0 2;clear g0 M0)|(go_at_call 71;(with_reducible refine(spec_l01Var.calls k t0 A0 _ x1.out).mono ?_);rintro e P1 ⟨rfl,hb⟩;have x0:=mk_ (IsS100.below (IsS100.ii_ b0) hb);have y0:=mk_ (below_step (bwi_ HB (IsS100.ge b0.out)) hb);clear b0;clear HB;have b0:=x0;have HB:=y0;clear x0 y0;(try clear hb);(try clear hk);(try clear hi))|(go_at_call 71;(with_reducible refine(spec_l01Var.calls k v0 B0 _ D1.out).mono ?_);rintro e Q1 ⟨rfl,hb⟩;have x0:=mk_ (IsS100.below (IsS100.ii_ b0) hb);have y0:=mk_ (below_step (bwi_ HB (IsS100.ge b0.out)) hb);clear b0;clear HB;have b0:=x0;have HB:=y0;clear x0 y0;(try clear hb);(try clear hk);(try clear hi)))
  go_ret3
  exact⟨er_,bwi_ HB (IsS100.ge b0.out)⟩
 rw [if_pos I0] at H
 have K0:=beq_iff_eq.mpr I0
 have L0:=bne_eq_false_iff_eq.mpr I0
 clear I0
 simp only [Option.some.injEq,Prod.mk.injEq] at H
 obtain⟨rfl,rfl,rfl⟩:=H
 go_enter Tryz.func45,Tryz.ntmps45
 go_wp2_with (first|((with_reducible refine gn_ 12 rfl ?_);refine bx_ (N:=12) (cs:=#[.string a0,.int .i64 0,.bool false]) (t:=100) ?_;intro d0 hg K1 hbox hb;have m0:Aside0 (w.heap.size≤d0):=bz_ hg;have C0:=m0;have b0:=mk_ ((⟨hbox,(by rw [hg];exact(below_size (bw_ HB)):w.heap.size≤d0)⟩:IsS100 w K1 d0 a0 0 false));replace HB:=bs_ HB hb;clear hb hbox hg)|((with_reducible refine gc_ 69 rfl ?_);refine gm_ 14 Tryz.func69 (spec_l05Take.calls d0 a0 0 false 1 F0 n0 o0 p0 w _ ?side1 ?side2 A3.out) ?_;(case side1=>exact IsS100.ii_ b0);(case side2=>exact bwi_ HB (IsS100.ge b0.out));rintro R1 ⟨hi,hb,hk⟩;replace HB:=mk_ (hb);replace b0:=mk_ (hi);(try clear hb);(try clear hk);(try clear hi))|((with_reducible refine gc_ 70 rfl ?_);refine gm_ 16 Tryz.func70 (spec_l05Var.calls k d0 n0 o0 p0 t0 q0 r0 s0 w _ ?side1 ?side2 A4.out) ?_;(case side1=>exact IsS100.ii_ b0);(case side2=>exact bwi_ HB (IsS100.ge b0.out));rintro U1 ⟨hi,hb,hk⟩;replace HB:=mk_ (hb);replace b0:=mk_ (hi);(try clear hb);(try clear hk);(try clear hi))|((with_reducible refine gc_ 70 rfl ?_);refine gm_ 18 Tryz.func70 (spec_l05Var.calls k d0 q0 r0 s0 v0 G0 H0 false w _ ?side1 ?side2 A5.out) ?_;(case side1=>exact IsS100.ii_ b0);(case side2=>exact bwi_ HB (IsS100.ge b0.out));rintro V1 ⟨hi,hb,hk⟩;replace HB:=mk_ (hb);replace b0:=mk_ (hi);(try clear hb);(try clear hk);(try clear hi);obtain⟨h0,N0⟩:=b0.out;have g1:=cellS100_0 h0;have m1:=cellS100_1 h0;have n1:=cellS100_2 h0;have o1:=blk_frozen h0 0;have p1:=blk_frozen h0 1;have q1:=blk_frozen h0 2;clear h0 N0)|(go_at_call 71;(with_reducible refine(spec_l01Var.calls k t0 A0 _ x1.out).mono ?_);rintro e W1 ⟨rfl,hb⟩;have x0:=mk_ (IsS100.below (IsS100.ii_ b0) hb);have y0:=mk_ (below_step (bwi_ HB (IsS100.ge b0.out)) hb);clear b0;clear HB;have b0:=x0;have HB:=y0;clear x0 y0;(try clear hb);(try clear hk);(try clear hi))|(go_at_call 71;(with_reducible refine(spec_l01Var.calls k v0 B0 _ D1.out).mono ?_);rintro e X1 ⟨rfl,hb⟩;have x0:=mk_ (IsS100.below (IsS100.ii_ b0) hb);have y0:=mk_ (below_step (bwi_ HB (IsS100.ge b0.out)) hb);clear b0;clear HB;have b0:=x0;have HB:=y0;clear x0 y0;(try clear hb);(try clear hk);(try clear hi)))
 go_ret3
 exact⟨er_,bwi_ HB (IsS100.ge b0.out)⟩
def spec_l05Rise.l0:Nat→List Int→Int→Int→Int→Option (Bool)
 |0,_,_,_,_=>none
 |k+1,x0,x1,x2,x7=>if x7<(x0.length:Int) then(if 0≤x7 then((spec_l01In.f (rd x0 x7) x1 x2).bind fun a0=>(if a0=true then(if x7>0 then(if 0≤(wrap64 (x7 - 1)) then(if(wrap64 (x7 - 1))<(x0.length:Int) then(if(rd x0 (wrap64 (x7 - 1)))≥(rd x0 x7) then(some false) else(spec_l05Rise.l0 k x0 x1 x2 (wrap64 (x7+1)))) else(none)) else(none)) else(spec_l05Rise.l0 k x0 x1 x2 (wrap64 (x7+1)))) else(some false))) else(none)) else(some true)
def spec_l05Rise.f (k:Nat) (l0:List Int) (a1:Int) (a2:Int):Option (Bool):=spec_l05Rise.l0 k l0 a1 a2 0
theorem spec_l05Rise.calls (k:Nat) (A0:Option Addr) (c0:Nat) (l0:List Int) (a1:Int) (a2:Int) (r:Bool) (w:World) (J0:Kd.C (Kd.int .i64) w A0 l0.length l0) (K0:l0.length≤c0) (h:spec_l05Rise.f k l0 a1 a2=some r):
  Calls Tryz.prog 118 #[.slice A0 l0.length c0,.int .i64 a1,.int .i64 a2] w fun e w'=>e= .returned (.bool r)∧Drawn0 w w':=by
 have x0:=Aside0.mk J0
 have U0:=Aside0.mk K0
 clear J0 K0
 have H:(spec_l05Rise.l0 k l0 a1 a2 0)=some r:=h
 clear h
 have H':=Aside0.mk H
 clear H
 go_enter Tryz.func118,Tryz.ntmps118
 go_wp2
 go_loopg [7] k (fun kq v7 w'=>∃(a0:Int),v7= .int .i64 a0∧Aside0 (spec_l05Rise.l0 kq l0 a1 a2 a0=some r)∧Aside0 (kq≤k)∧Drawn0 w w')
 case atStart=>exact⟨(0),rl_,H',⟨Nat.le_refl _⟩,by repeat(first|exact Drawn0.refl _|apply Drawn0.step)⟩
 case round=>
  clear H'
  try clear p2
  obtain⟨a0,rfl,HA,H0,⟨m1,rfl⟩⟩:=hrel
  cases gk with
  |zero=>exact absurd HA.out (by simp [spec_l05Rise.l0])
  |succ k1=>
   have H:=HA.out
   clear HA
   simp only [spec_l05Rise.l0] at H
   refine ic_ H ?_ ?_ <;> clear H <;> intro P0 H
   ·obtain rfl:=Option.some.inj H
    go_wp2
    go_ret
    exact⟨by first|rfl|(simp;done)|(simp [*];done)|(simp [bne];done),by repeat(first|exact Drawn0.refl _|apply Drawn0.step)⟩
   obtain⟨c5,H⟩:=gd_ H
   have Q0:=decide_eq_true c5
   clear c5
   obtain⟨I0,A6,H⟩:=ob_ H
   try dsimp only at H
   by_cases c7:I0=true
   rotate_left
   ·replace c7:=Bool.eq_false_iff.mpr c7
    subst c7
    rw [if_neg (show ¬(false=true) by decide)] at H
    obtain rfl:=Option.some.inj H
    have b0:0≤(a0:Int):=od_
    have d0:a0<(l0.length:Int):=od_
    obtain⟨e0,h0,g0⟩:=Kd.at_int x0.out a0 b0 d0
    cases h0
    replace b0:=eq_true b0
    replace d0:=eq_true d0
    go_wp2_with fail
    repeat(go_quiet (first|(go_at_call 41;(with_reducible refine(spec_l01In.calls (rd l0 a0) a1 a2 false _ A6.out).mono ?_);rintro e w' ⟨rfl,⟨nd,rfl⟩⟩;(try first|exact⟨rfl,_,World.drewN_drewN _ _ _⟩|exact⟨rfl,_,Eq.trans (World.drewN_drewN _ _ _) (congrArg (World.drewN _) (Nat.add_assoc _ _ _))⟩)));try go_wp2_with fail)
    go_ret
    exact⟨by first|rfl|(simp;done)|(simp [*];done)|(simp [bne];done),by repeat(first|exact Drawn0.refl _|apply Drawn0.step)⟩
   subst c7
   rw [if_pos rfl] at H
   refine ig_ H ?_ ?_ <;> clear H <;> intro R0 H
   ·have H':=Aside0.mk H
    clear H
    have b0:0≤(a0:Int):=od_
    have d0:a0<(l0.length:Int):=od_
    obtain⟨e0,h0,g0⟩:=Kd.at_int x0.out a0 b0 d0
    cases h0
    replace b0:=eq_true b0
    replace d0:=eq_true d0
    go_wp2_with fail
    repeat(go_quiet (first|(go_at_call 41;(with_reducible refine(spec_l01In.calls (rd l0 a0) a1 a2 true _ A6.out).mono ?_);rintro e w' ⟨rfl,⟨nd,rfl⟩⟩;(try first|exact⟨rfl,_,World.drewN_drewN _ _ _⟩|exact⟨rfl,_,Eq.trans (World.drewN_drewN _ _ _) (congrArg (World.drewN _) (Nat.add_assoc _ _ _))⟩)));try go_wp2_with fail)
    go_roundg k1
    case measure=>have:=H0.out;omega
    case rel=>exact⟨(wrap64 (a0+1)),rl_,H',⟨by have:=H0.out;omega⟩,by repeat(first|exact Drawn0.refl _|apply Drawn0.step)⟩
   obtain⟨y0,q0⟩:∃j_:Int,(wrap64 (a0 - 1))=j_:=⟨_,rfl⟩
   (first|rw [q0] at H|simp only [q0] at H)
   (try rw [q0] at A6)
   have L0:(IntKind.i64.wrap (a0 - 1))=y0:=(i64_w _).trans q0
   obtain⟨c10,H⟩:=gd_ H
   have M0:=decide_eq_true c10
   clear c10
   obtain⟨N0,H⟩:=gd_ H
   have O0:=decide_eq_true N0
   clear N0
   by_cases F0:(rd l0 (y0))≥(rd l0 a0)
   ·rw [if_pos F0] at H
    have G0:=decide_eq_true F0
    clear F0
    obtain rfl:=Option.some.inj H
    have b0:0≤(a0:Int):=od_
    have d0:a0<(l0.length:Int):=od_
    obtain⟨e0,h0,g0⟩:=Kd.at_int x0.out a0 b0 d0
    cases h0
    replace b0:=eq_true b0
    replace d0:=eq_true d0
    go_wp2_with fail
    repeat(go_quiet (first|(go_at_call 41;(with_reducible refine(spec_l01In.calls (rd l0 a0) a1 a2 true _ A6.out).mono ?_);rintro e w' ⟨rfl,⟨nd,rfl⟩⟩;(try first|exact⟨rfl,_,World.drewN_drewN _ _ _⟩|exact⟨rfl,_,Eq.trans (World.drewN_drewN _ _ _) (congrArg (World.drewN _) (Nat.add_assoc _ _ _))⟩);have m0:0≤((y0):Int):=od_;have n0:(y0)<(l0.length:Int):=od_;obtain⟨r0,B0,t0⟩:=Kd.at_int x0.out (y0) m0 n0;obtain rfl:e0=r0:=(by injection B0);replace m0:=eq_true m0;replace n0:=eq_true n0;have o0:0≤(a0:Int):=od_;have p0:a0<(l0.length:Int):=od_;obtain⟨s0,C0,v0⟩:=Kd.at_int x0.out a0 o0 p0;obtain rfl:e0=s0:=(by injection C0);replace o0:=eq_true o0;replace p0:=eq_true p0));try go_wp2_with fail)
    go_ret
    exact⟨by first|rfl|(simp;done)|(simp only [←q0] <;> (first|rfl|simp))|(simp [*];done),by repeat(first|exact Drawn0.refl _|apply Drawn0.step)⟩
   rw [if_neg F0] at H
   have G0:=decide_eq_false F0
   clear F0
   have H':=Aside0.mk H
   clear H
   have b0:0≤(a0:Int):=od_
   have d0:a0<(l0.length:Int):=od_
   obtain⟨e0,h0,g0⟩:=Kd.at_int x0.out a0 b0 d0
   cases h0
   replace b0:=eq_true b0
   replace d0:=eq_true d0
   go_wp2_with fail
   repeat(go_quiet (first|(go_at_call 41;(with_reducible refine(spec_l01In.calls (rd l0 a0) a1 a2 true _ A6.out).mono ?_);rintro e w' ⟨rfl,⟨nd,rfl⟩⟩;(try first|exact⟨rfl,_,World.drewN_drewN _ _ _⟩|exact⟨rfl,_,Eq.trans (World.drewN_drewN _ _ _) (congrArg (World.drewN _) (Nat.add_assoc _ _ _))⟩);have m0:0≤((y0):Int):=od_;have n0:(y0)<(l0.length:Int):=od_;obtain⟨r0,B0,t0⟩:=Kd.at_int x0.out (y0) m0 n0;obtain rfl:e0=r0:=(by injection B0);replace m0:=eq_true m0;replace n0:=eq_true n0;have o0:0≤(a0:Int):=od_;have p0:a0<(l0.length:Int):=od_;obtain⟨s0,C0,v0⟩:=Kd.at_int x0.out a0 o0 p0;obtain rfl:e0=s0:=(by injection C0);replace o0:=eq_true o0;replace p0:=eq_true p0));try go_wp2_with fail)
   go_roundg k1
   case measure=>have:=H0.out;omega
   case rel=>exact⟨(wrap64 (a0+1)),rl_,H',⟨by have:=H0.out;omega⟩,by repeat(first|exact Drawn0.refl _|apply Drawn0.step)⟩
def spec_ConfOk.f (k:Nat) (l0:List Int):Option (Bool):=(spec_l01In.f (l0.length:Int) 1 4).bind fun a0=>(if a0=true then((spec_l05Rise.f k l0 1 4).bind fun b0=>(some b0)) else(some false))
theorem spec_ConfOk.calls (k:Nat) (A0:Option Addr) (c0:Nat) (l0:List Int) (r:Bool) (w:World) (d0:Kd.C (Kd.int .i64) w A0 l0.length l0) (e0:l0.length≤c0) (h:spec_ConfOk.f k l0=some r):
  Calls Tryz.prog 110 #[.slice A0 l0.length c0] w fun e w'=>e= .returned (.bool r)∧Drawn0 w w':=by
 have g0:=Aside0.mk d0
 have h0:=Aside0.mk e0
 clear d0 e0
 have H:=h
 unfold spec_ConfOk.f at H
 clear h
 obtain⟨a0,A2,H⟩:=ob_ H
 try dsimp only at H
 by_cases c3:a0=true
 rotate_left
 ·replace c3:=Bool.eq_false_iff.mpr c3
  subst c3
  rw [if_neg (show ¬(false=true) by decide)] at H
  obtain rfl:=Option.some.inj H
  go_enter Tryz.func110,Tryz.ntmps110
  go_wp2_with (first|((with_reducible refine gc_ 41 rfl ?_);refine gm_ 5 Tryz.func41 (spec_l01In.calls (l0.length:Int) 1 4 false _ A2.out) ?_;rintro w' ⟨nd,rfl⟩))
  go_ret
  exact⟨by first|rfl|(simp;done)|(simp [*];done)|(simp [bne];done),by repeat(first|exact Drawn0.refl _|apply Drawn0.step)⟩
 subst c3
 rw [if_pos rfl] at H
 obtain⟨b0,A4,H⟩:=ob_ H
 try dsimp only at H
 obtain rfl:=Option.some.inj H
 go_enter Tryz.func110,Tryz.ntmps110
 go_wp2_with (first|((with_reducible refine gc_ 41 rfl ?_);refine gm_ 5 Tryz.func41 (spec_l01In.calls (l0.length:Int) 1 4 true _ A2.out) ?_;rintro w' ⟨nd,rfl⟩)|(go_at_call 118;(with_reducible refine(spec_l05Rise.calls k _ _ l0 1 4 b0 _ ?side1 ?side2 A4.out).mono ?_);(case side1=>repeat(first|exact g0.out|(with_reducible refine Kd.C_alloc ?_ _)|(with_reducible refine Kd.C_drewN ?_ _)|(with_reducible refine Kd.C_drew ?_)));(case side2=>exact h0.out);rintro e w' ⟨rfl,⟨nd,rfl⟩⟩))
 go_ret
 exact⟨by first|rfl|(simp;done)|(simp [*];done)|(simp [bne];done),by repeat(first|exact Drawn0.refl _|apply Drawn0.step)⟩
def spec_ReadConf.l0:Nat→ByteArray→List Int→Int→Option (List Int × Bool)
 |0,_,_,_=>none
 |k+1,x0,x4,x5=>if x5<(x0.size:Int) then(if x5≤4 then(if 0≤x5 then(if x4.length<17592186044416 then(spec_ReadConf.l0 k x0 (x4++ [wrap64 (bt x0 x5)]) (wrap64 (x5+1))) else(none)) else(none)) else(if(x4.length:Int)=(x0.size:Int) then((spec_ConfOk.f k x4).bind fun a0=>(if a0=true then(some (x4,true)) else(some ((([]:List Int)),false)))) else(some ((([]:List Int)),false)))) else(if(x4.length:Int)=(x0.size:Int) then((spec_ConfOk.f k x4).bind fun b0=>(if b0=true then(some (x4,true)) else(some ((([]:List Int)),false)))) else(some ((([]:List Int)),false)))
def spec_ReadConf.f (k:Nat) (a0:ByteArray):Option (List Int × Bool):=spec_ReadConf.l0 k a0 (([]:List Int)) 0
theorem spec_ReadConf.calls (k:Nat) (a0:ByteArray) (r1:List Int) (r2:Bool) (w:World) (h:spec_ReadConf.f k a0=some (r1,r2)):
  Calls Tryz.prog 97 #[.string a0] w fun e w'=>∃x1:Value,e= .returned (.tuple #[x1,.bool r2])∧Kd.R (Kd.int .i64) 3 w' w.heap.size (fun _=>True) x1 r1∧Below w.heap.size w w':=by
 have HB:=mk_ (Below.refl w.heap.size w)
 have H:=h
 unfold spec_ReadConf.f at H
 clear h
 obtain⟨F0,o0⟩:∃y_:List Int,y_=(([]:List Int)):=⟨_,rfl⟩
 replace H:(spec_ReadConf.l0 k a0 F0 0)=some (r1,r2):=by first|(rw [o0];with_reducible exact H)|with_reducible exact H
 have x0:=Aside0.mk o0
 clear o0
 have H':=Aside0.mk H
 clear H
 go_enter Tryz.func97,Tryz.ntmps97
 go_wp2_with (first|((with_reducible refine gn_ 6 rfl ?_);refine Kd.R_lit (Kd.int .i64) _ 3 ?hg (N:=6) ?hd (xs:=([]:List Int)) (inner:=[]) (ok:=fun _=>True) (okp:=fun _=>True) ?hr ?hp (fun _ hk=>hk) trivial (Below.refl _ _) (Nat.le_refl _) (by simp) ?_;(case hd=>rfl);(case hg=>rfl);(case hr=>first|(go_simp;done)|(go_simp;rfl));(case hp=>exact(Reps.none _ _));intro D1 w2 G0 hb hg_ hnew_;clear hg_ hnew_;(first|rw [←x0.out] at G0|(simp only [Int.reduceToNat] at G0;rw [←x0.out] at G0));have H0:=mk_ (Kd.R_lower G0 (below_size (bw_ HB)));replace HB:=bs_ HB hb;clear hb G0))
 go_loopg [4,5] k (fun kq v4 v5 w'=>∃(d0:List Int) (e0:Int),v5= .int .i64 e0∧Aside0 (spec_ReadConf.l0 kq a0 d0 e0=some (r1,r2))∧Aside0 (kq≤k)∧Aside0 (Kd.R (Kd.int .i64) 3 w' w.heap.size (fun _=>True) v4 d0)∧Aside0 (Below w.heap.size w w'))
 case atStart=>exact⟨(F0),(0),rl_,H',⟨Nat.le_refl _⟩,⟨rq_ H0.out⟩,⟨bw_ HB⟩⟩
 case round=>
  clear H'
  try clear p2
  obtain⟨d0,e0,rfl,HA,y1,b0,HB⟩:=hrel
  cases gk with
  |zero=>exact absurd HA.out (by simp [spec_ReadConf.l0])
  |succ k1=>
   have H:=HA.out
   clear HA
   simp only [spec_ReadConf.l0] at H
   refine ic_ H ?_ ?_ <;> clear H <;> intro F1 H
   ·by_cases p0:(d0.length:Int)=(a0.size:Int)
    rotate_left
    ·rw [if_neg p0] at H
     have I0:=beq_eq_false_iff_ne.mpr p0
     have J0:=bne_iff_ne.mpr p0
     have K0:(d0.length == a0.size)=false:=by first|simpa using p0|(simp at p0⊢;omega)
     obtain⟨Y0,q0⟩:∃y_:List Int,y_=(([]:List Int)):=⟨_,rfl⟩
     replace H:(some (Y0,false))=some (r1,r2):=by first|(rw [q0];with_reducible exact H)|with_reducible exact H
     have y0:=Aside0.mk q0
     clear q0
     simp only [Option.some.injEq,Prod.mk.injEq] at H
     obtain⟨rfl,rfl⟩:=H
     obtain⟨G1,H1,Z0⟩:=Kd.R_slice b0.out
     subst Z0
     go_wp2_with (first|((with_reducible refine gn_ 34 rfl ?_);refine Kd.R_lit (Kd.int .i64) _ 3 ?hg (N:=34) ?hd (xs:=([]:List Int)) (inner:=[]) (ok:=fun _=>True) (okp:=fun _=>True) ?hr ?hp (fun _ hk=>hk) trivial (Below.refl _ _) (Nat.le_refl _) (by simp) ?_;(case hd=>rfl);(case hg=>rfl);(case hr=>first|(go_simp;done)|(go_simp;rfl));(case hp=>exact(Reps.none _ _));intro I1 a2 g0 hb hg_ hnew_;clear hg_ hnew_;(first|rw [←y0.out] at g0|(simp only [Int.reduceToNat] at g0;rw [←y0.out] at g0));have L0:=mk_ (Kd.R_lower (Kd.R_new' g0 (Kd.R_lt (rp_ b0))) (below_size (bw_ HB)));replace b0:=mk_ (Kd.R_elder' (rp_ b0) (Kd.R_base g0) hb);replace HB:=bs_ HB hb;clear hb g0))
     go_ret2
     exact⟨_,er_,rq_ (Kd.R_mono L0.out (fun _ hk=>trivial)),bw_ HB⟩
    rw [if_pos p0] at H
    have I0:=beq_iff_eq.mpr p0
    have J0:=bne_eq_false_iff_eq.mpr p0
    have K0:(d0.length == a0.size)=true:=by first|simpa using p0|(simp at p0⊢;omega)
    clear p0
    obtain⟨a1,A1,H⟩:=ob_ H
    try dsimp only at H
    by_cases W0:a1=true
    ·subst W0
     rw [if_pos rfl] at H
     simp only [Option.some.injEq,Prod.mk.injEq] at H
     obtain⟨rfl,rfl⟩:=H
     obtain⟨J1,K1,b1⟩:=Kd.R_slice b0.out
     subst b1
     go_wp2_with (first|(go_at_call 110;(with_reducible refine(spec_ConfOk.calls k1 _ _ d0 true _ ?side1 ?side2 A1.out).mono ?_);(case side1=>repeat(first|exact(Kd.R_reads' b0.out).2.2|(with_reducible refine Kd.C_alloc ?_ _)|(with_reducible refine Kd.C_drewN ?_ _)|(with_reducible refine Kd.C_drew ?_)));(case side2=>exact(Kd.R_reads' b0.out).2.1);rintro e w' ⟨rfl,⟨nd,rfl⟩⟩))
     go_ret2
     exact⟨_,er_,rq_ b0.out,bw_ HB⟩
    replace W0:=Bool.eq_false_iff.mpr W0
    subst W0
    rw [if_neg (show ¬(false=true) by decide)] at H
    obtain⟨d1,r0⟩:∃y_:List Int,y_=(([]:List Int)):=⟨_,rfl⟩
    replace H:(some (d1,false))=some (r1,r2):=by first|(rw [r0];with_reducible exact H)|with_reducible exact H
    have A0:=Aside0.mk r0
    clear r0
    simp only [Option.some.injEq,Prod.mk.injEq] at H
    obtain⟨rfl,rfl⟩:=H
    obtain⟨L1,M1,e1⟩:=Kd.R_slice b0.out
    subst e1
    go_wp2_with (first|(go_at_call 110;(with_reducible refine(spec_ConfOk.calls k1 _ _ d0 false _ ?side1 ?side2 A1.out).mono ?_);(case side1=>repeat(first|exact(Kd.R_reads' b0.out).2.2|(with_reducible refine Kd.C_alloc ?_ _)|(with_reducible refine Kd.C_drewN ?_ _)|(with_reducible refine Kd.C_drew ?_)));(case side2=>exact(Kd.R_reads' b0.out).2.1);rintro e w' ⟨rfl,⟨nd,rfl⟩⟩)|((with_reducible refine gn_ 34 rfl ?_);refine Kd.R_lit (Kd.int .i64) _ 3 ?hg (N:=34) ?hd (xs:=([]:List Int)) (inner:=[]) (ok:=fun _=>True) (okp:=fun _=>True) ?hr ?hp (fun _ hk=>hk) trivial (Below.refl _ _) (Nat.le_refl _) (by simp) ?_;(case hd=>rfl);(case hg=>rfl);(case hr=>first|(go_simp;done)|(go_simp;rfl));(case hp=>exact(Reps.none _ _));intro N1 b2 h0 hb hg_ hnew_;clear hg_ hnew_;(first|rw [←A0.out] at h0|(simp only [Int.reduceToNat] at h0;rw [←A0.out] at h0));have M0:=mk_ (Kd.R_lower (Kd.R_new' h0 (Kd.R_lt (rp_ b0))) (below_size (bw_ HB)));replace b0:=mk_ (Kd.R_elder' (rp_ b0) (Kd.R_base h0) hb);replace HB:=bs_ HB hb;clear hb h0))
    go_ret2
    exact⟨_,er_,rq_ (Kd.R_mono M0.out (fun _ hk=>trivial)),bw_ HB⟩
   by_cases c5:e0≤4
   ·rw [if_pos c5] at H
    have g1:=decide_eq_true c5
    clear c5
    obtain⟨c6,H⟩:=gd_ H
    have O1:=decide_eq_true c6
    clear c6
    obtain⟨c8,H⟩:=gd_ H
    have m1:=Aside0.mk c8
    clear c8
    obtain⟨n1,s0⟩:∃y_:List Int,y_=(d0++ [wrap64 (bt a0 e0)]):=⟨_,rfl⟩
    rw [←s0] at H
    have N0:=Aside0.mk s0
    clear s0
    have H':=Aside0.mk H
    clear H
    have p7:0≤(e0:Int):=od_
    have q7:e0<(a0.size:Int):=od_
    have d2:=bt_at a0 e0
    replace p7:=eq_true p7
    replace q7:=eq_true q7
    go_wp2_with (first|((with_reducible refine gate_builtin (b:= .append) (xs:=#[.tmp 17,.tmp 22]) rfl ?_);at_builtin;refine Kd.R_append (Kd.int .i64) (w0:=w) w.heap.size rfl (.tmp 17) (.tmp 22) 130 3 (.int .i64 0) 8 rfl Tryz.underlying130 info3 rfl (by decide) (by omega) u4 d0 (wrap64 (bt a0 e0)) [.int .i64 (wrap64 (bt a0 e0))] (fun _=>True) (fun _=>False) rfl rfl ?aP (fun _ hk=>hk.elim) ?aF ?aO ?aB ?aS ?aL ?_;(case aP=>exact rfl);(case aB=>exact(bw_ HB));(case aF=>exact(fun _ _=>trivial));(case aO=>exact(rp_ b0));(case aS=>exact(below_size (bw_ HB)));(case aL=>have:=m1.out;omega);intro P1 w9 ho hb hg hat;rw [←N0.out] at ho;have O0:=mk_ (ho);replace HB:=mk_ (hb);clear b0;clear ho hb hg hat))
    go_roundg k1
    case measure=>have:=y1.out;omega
    case rel=>exact⟨(n1),(wrap64 (e0+1)),rl_,H',⟨by have:=y1.out;omega⟩,⟨rq_ O0.out⟩,⟨bw_ HB⟩⟩
   rw [if_neg c5] at H
   have g1:=decide_eq_false c5
   clear c5
   by_cases c10:(d0.length:Int)=(a0.size:Int)
   rotate_left
   ·rw [if_neg c10] at H
    have P0:=beq_eq_false_iff_ne.mpr c10
    have Q0:=bne_iff_ne.mpr c10
    have R0:(d0.length == a0.size)=false:=by first|simpa using c10|(simp at c10⊢;omega)
    obtain⟨o1,t0⟩:∃y_:List Int,y_=(([]:List Int)):=⟨_,rfl⟩
    replace H:(some (o1,false))=some (r1,r2):=by first|(rw [t0];with_reducible exact H)|with_reducible exact H
    have B0:=Aside0.mk t0
    clear t0
    simp only [Option.some.injEq,Prod.mk.injEq] at H
    obtain⟨rfl,rfl⟩:=H
    obtain⟨Q1,R1,p1⟩:=Kd.R_slice b0.out
    subst p1
    go_wp2_with (first|((with_reducible refine gn_ 34 rfl ?_);refine Kd.R_lit (Kd.int .i64) _ 3 ?hg (N:=34) ?hd (xs:=([]:List Int)) (inner:=[]) (ok:=fun _=>True) (okp:=fun _=>True) ?hr ?hp (fun _ hk=>hk) trivial (Below.refl _ _) (Nat.le_refl _) (by simp) ?_;(case hd=>rfl);(case hg=>rfl);(case hr=>first|(go_simp;done)|(go_simp;rfl));(case hp=>exact(Reps.none _ _));intro U1 e2 m0 hb hg_ hnew_;clear hg_ hnew_;(first|rw [←B0.out] at m0|(simp only [Int.reduceToNat] at m0;rw [←B0.out] at m0));have U0:=mk_ (Kd.R_lower (Kd.R_new' m0 (Kd.R_lt (rp_ b0))) (below_size (bw_ HB)));replace b0:=mk_ (Kd.R_elder' (rp_ b0) (Kd.R_base m0) hb);replace HB:=bs_ HB hb;clear hb m0))
    go_ret2
    exact⟨_,er_,rq_ (Kd.R_mono U0.out (fun _ hk=>trivial)),bw_ HB⟩
   rw [if_pos c10] at H
   have P0:=beq_iff_eq.mpr c10
   have Q0:=bne_eq_false_iff_eq.mpr c10
   have R0:(d0.length == a0.size)=true:=by first|simpa using c10|(simp at c10⊢;omega)
   clear c10
   obtain⟨q1,C1,H⟩:=ob_ H
   try dsimp only at H
   by_cases X0:q1=true
   ·subst X0
    rw [if_pos rfl] at H
    simp only [Option.some.injEq,Prod.mk.injEq] at H
    obtain⟨rfl,rfl⟩:=H
    obtain⟨V1,W1,s1⟩:=Kd.R_slice b0.out
    subst s1
    go_wp2_with (first|(go_at_call 110;(with_reducible refine(spec_ConfOk.calls k1 _ _ d0 true _ ?side1 ?side2 C1.out).mono ?_);(case side1=>repeat(first|exact(Kd.R_reads' b0.out).2.2|(with_reducible refine Kd.C_alloc ?_ _)|(with_reducible refine Kd.C_drewN ?_ _)|(with_reducible refine Kd.C_drew ?_)));(case side2=>exact(Kd.R_reads' b0.out).2.1);rintro e w' ⟨rfl,⟨nd,rfl⟩⟩))
    go_ret2
    exact⟨_,er_,rq_ b0.out,bw_ HB⟩
   replace X0:=Bool.eq_false_iff.mpr X0
   subst X0
   rw [if_neg (show ¬(false=true) by decide)] at H
   obtain⟨t1,v0⟩:∃y_:List Int,y_=(([]:List Int)):=⟨_,rfl⟩
   replace H:(some (t1,false))=some (r1,r2):=by first|(rw [v0];with_reducible exact H)|with_reducible exact H
   have C0:=Aside0.mk v0
   clear v0
   simp only [Option.some.injEq,Prod.mk.injEq] at H
   obtain⟨rfl,rfl⟩:=H
   obtain⟨X1,Y1,v1⟩:=Kd.R_slice b0.out
   subst v1
   go_wp2_with (first|(go_at_call 110;(with_reducible refine(spec_ConfOk.calls k1 _ _ d0 false _ ?side1 ?side2 C1.out).mono ?_);(case side1=>repeat(first|exact(Kd.R_reads' b0.out).2.2|(with_reducible refine Kd.C_alloc ?_ _)|(with_reducible refine Kd.C_drewN ?_ _)|(with_reducible refine Kd.C_drew ?_)));(case side2=>exact(Kd.R_reads' b0.out).2.1);rintro e w' ⟨rfl,⟨nd,rfl⟩⟩)|((with_reducible refine gn_ 34 rfl ?_);refine Kd.R_lit (Kd.int .i64) _ 3 ?hg (N:=34) ?hd (xs:=([]:List Int)) (inner:=[]) (ok:=fun _=>True) (okp:=fun _=>True) ?hr ?hp (fun _ hk=>hk) trivial (Below.refl _ _) (Nat.le_refl _) (by simp) ?_;(case hd=>rfl);(case hg=>rfl);(case hr=>first|(go_simp;done)|(go_simp;rfl));(case hp=>exact(Reps.none _ _));intro Z1 g2 n0 hb hg_ hnew_;clear hg_ hnew_;(first|rw [←C0.out] at n0|(simp only [Int.reduceToNat] at n0;rw [←C0.out] at n0));have V0:=mk_ (Kd.R_lower (Kd.R_new' n0 (Kd.R_lt (rp_ b0))) (below_size (bw_ HB)));replace b0:=mk_ (Kd.R_elder' (rp_ b0) (Kd.R_base n0) hb);replace HB:=bs_ HB hb;clear hb n0))
   go_ret2
   exact⟨_,er_,rq_ (Kd.R_mono V0.out (fun _ hk=>trivial)),bw_ HB⟩
def spec_EntryOk.f (k:Nat) (e0:Int) (a0:Int) (b0:ByteArray):Option (Bool):=(spec_l01In.f e0 0 100000).bind fun g0=>(if g0=true then(if a0=1 then(some (b0.toList == ([]:List UInt8))) else(if a0=2 then((spec_ReadConf.f k b0).bind fun d0=>(some d0.2)) else(if a0=3 then(some (decide ((b0.size:Int)≤120))) else(some false)))) else(some false))
theorem spec_EntryOk.calls (k:Nat) (b0:Int) (d0:Int) (e0:ByteArray) (r:Bool) (w:World) (h:spec_EntryOk.f k b0 d0 e0=some r):
  Calls Tryz.prog 72 #[.agg #[.int .i64 b0,.int .i64 d0,.string e0]] w fun e w'=>e= .returned (.bool r)∧Below w.heap.size w w':=by
 have o1:=Tryz.underlying105
 have HB:=mk_ (Below.refl w.heap.size w)
 have H:=h
 unfold spec_EntryOk.f at H
 clear h
 obtain⟨U0,A2,H⟩:=ob_ H
 try dsimp only at H
 by_cases c3:U0=true
 rotate_left
 ·replace c3:=Bool.eq_false_iff.mpr c3
  subst c3
  rw [if_neg (show ¬(false=true) by decide)] at H
  obtain rfl:=Option.some.inj H
  go_enter Tryz.func72,Tryz.ntmps72
  go_wp2_with (first|((with_reducible refine gn_ 1 rfl ?_);refine bv_ (cs:=#[.int .i64 b0,.int .i64 d0,.string e0]) (t:=105) HB ?_;clear HB;intro g0 s1 a0 h0 HB;obtain⟨p0,q0,r0,s0,t0,v0⟩:=b3_ a0)|((with_reducible refine gc_ 41 rfl ?_);refine gm_ 7 Tryz.func41 (spec_l01In.calls b0 0 100000 false _ A2.out) ?_;rintro w' ⟨nd,rfl⟩))
  go_ret
  exact⟨er_,bw_ HB⟩
 subst c3
 rw [if_pos rfl] at H
 by_cases c4:d0=1
 ·rw [if_pos c4] at H
  have V0:=beq_iff_eq.mpr c4
  have W0:=bne_eq_false_iff_eq.mpr c4
  clear c4
  obtain rfl:=Option.some.inj H
  go_enter Tryz.func72,Tryz.ntmps72
  go_wp2_with (first|((with_reducible refine gn_ 1 rfl ?_);refine bv_ (cs:=#[.int .i64 b0,.int .i64 d0,.string e0]) (t:=105) HB ?_;clear HB;intro g0 w5 a0 h0 HB;obtain⟨X0,Y0,Z0,a1,b1,d1⟩:=b3_ a0)|((with_reducible refine gc_ 41 rfl ?_);refine gm_ 7 Tryz.func41 (spec_l01In.calls b0 0 100000 true _ A2.out) ?_;rintro w' ⟨nd,rfl⟩))
  go_ret
  exact⟨er_,bw_ HB⟩
 rw [if_neg c4] at H
 have V0:=beq_eq_false_iff_ne.mpr c4
 have W0:=bne_iff_ne.mpr c4
 by_cases c7:d0=2
 ·rw [if_pos c7] at H
  have e1:=beq_iff_eq.mpr c7
  have g1:=bne_eq_false_iff_eq.mpr c7
  clear c7
  obtain⟨⟨m1,n1⟩,A8,H⟩:=ob_ H
  try dsimp only at H
  obtain rfl:=Option.some.inj H
  go_enter Tryz.func72,Tryz.ntmps72
  go_wp2_with (first|((with_reducible refine gn_ 1 rfl ?_);refine bv_ (cs:=#[.int .i64 b0,.int .i64 d0,.string e0]) (t:=105) HB ?_;clear HB;intro g0 w9 a0 h0 HB;obtain⟨x0,y0,A0,B0,C0,F0⟩:=b3_ a0)|((with_reducible refine gc_ 41 rfl ?_);refine gm_ 7 Tryz.func41 (spec_l01In.calls b0 0 100000 true _ A2.out) ?_;rintro w' ⟨nd,rfl⟩)|((with_reducible refine gc_ 97 rfl ?_);refine gv_ 21 Tryz.func97 (spec_ReadConf.calls k e0 m1 n1 _ A8.out) ?_;rintro r1 t1 ⟨p1,hb⟩;have q1:=mk_ (Kd.R_lower p1 (below_size (bw_ HB)));replace a0:=bb_ a0 hb;replace HB:=bs_ HB hb;(try clear hb);(try clear p1)))
  go_ret
  exact⟨er_,bw_ HB⟩
 rw [if_neg c7] at H
 have e1:=beq_eq_false_iff_ne.mpr c7
 have g1:=bne_iff_ne.mpr c7
 by_cases m0:d0=3
 rotate_left
 ·rw [if_neg m0] at H
  have n0:=beq_eq_false_iff_ne.mpr m0
  have o0:=bne_iff_ne.mpr m0
  obtain rfl:=Option.some.inj H
  go_enter Tryz.func72,Tryz.ntmps72
  go_wp2_with (first|((with_reducible refine gn_ 1 rfl ?_);refine bv_ (cs:=#[.int .i64 b0,.int .i64 d0,.string e0]) (t:=105) HB ?_;clear HB;intro g0 v1 a0 h0 HB;obtain⟨G0,H0,I0,J0,K0,L0⟩:=b3_ a0)|((with_reducible refine gc_ 41 rfl ?_);refine gm_ 7 Tryz.func41 (spec_l01In.calls b0 0 100000 true _ A2.out) ?_;rintro w' ⟨nd,rfl⟩))
  go_ret
  exact⟨er_,bw_ HB⟩
 rw [if_pos m0] at H
 have n0:=beq_iff_eq.mpr m0
 have o0:=bne_eq_false_iff_eq.mpr m0
 clear m0
 obtain rfl:=Option.some.inj H
 go_enter Tryz.func72,Tryz.ntmps72
 go_wp2_with (first|((with_reducible refine gn_ 1 rfl ?_);refine bv_ (cs:=#[.int .i64 b0,.int .i64 d0,.string e0]) (t:=105) HB ?_;clear HB;intro g0 x1 a0 h0 HB;obtain⟨M0,N0,O0,P0,Q0,R0⟩:=b3_ a0)|((with_reducible refine gc_ 41 rfl ?_);refine gm_ 7 Tryz.func41 (spec_l01In.calls b0 0 100000 true _ A2.out) ?_;rintro w' ⟨nd,rfl⟩))
 go_ret
 exact⟨er_,bw_ HB⟩
mutual
def spec_LogOk.j0:Nat→Bool→Int→Int→List (S105)→Option (Bool)
 |0,_,_,_,_=>none
 |k+1,e0,b0,a0,d0=>if e0=true then(some false) else(spec_LogOk.l0 k a0 0 b0 a0 d0)
def spec_LogOk.l0:Nat→Int→Int→Int→Int→List (S105)→Option (Bool)
 |0,_,_,_,_,_=>none
 |k+1,x3,x4,b0,d0,a0=>if x4<(a0.length:Int) then(if 0≤x4 then((spec_EntryOk.f k ((rd_T105 a0 x4).f0) ((rd_T105 a0 x4).f1) ((rd_T105 a0 x4).f2)).bind fun e0=>(if e0=true then(if((rd_T105 a0 x4).f0)<x3 then(some false) else(spec_LogOk.l0 k ((rd_T105 a0 x4).f0) (wrap64 (x4+1)) b0 d0 a0)) else(some false))) else(none)) else(some true)
end
def spec_LogOk.f (k:Nat) (a0:Int) (d0:Int) (b0:List (S105)):Option (Bool):=(spec_l01In.f a0 0 1000000).bind fun e0=>(if e0=true then((spec_l01In.f d0 0 100000).bind fun g0=>(if g0=true then(if(b0.length:Int)>60 then(spec_LogOk.j0 k true a0 d0 b0) else(spec_LogOk.j0 k (decide ((wrap64 (a0+(b0.length:Int)))>1000000)) a0 d0 b0)) else(spec_LogOk.j0 k true a0 d0 b0))) else(spec_LogOk.j0 k true a0 d0 b0))
theorem spec_LogOk.calls (k:Nat) (m0:Int) (n0:Int) (B0:Option Addr) (C0:Nat) (a0:List (S105)) (r:Bool) (w:World) (J0:Kd.C k105 w B0 a0.length a0) (K0:a0.length≤C0) (h:spec_LogOk.f k m0 n0 a0=some r):
  Calls Tryz.prog 46 #[.agg #[.int .i64 m0,.int .i64 n0,.slice B0 a0.length C0]] w fun e w'=>e= .returned (.bool r)∧Below w.heap.size w w':=by
 have O2:=Tryz.underlying28
 have F2:=Tryz.underlying105
 have q0:=Aside0.mk J0
 have G2:=Aside0.mk K0
 clear J0 K0
 have HB:=mk_ (Below.refl w.heap.size w)
 have H:=h
 unfold spec_LogOk.f at H
 clear h
 have n2:=Aside0.mk H
 clear H
 go_enter Tryz.func46,Tryz.ntmps46
 go_upto_region 1 with (first|((with_reducible refine gn_ 1 rfl ?_);(try(refine gate_guard (by rfl) ?_;dsimp only));refine bv_ (cs:=#[.int .i64 m0,.int .i64 n0,.slice B0 a0.length C0]) (t:=28) HB ?_;clear HB;intro L0 w3 d0 H2 HB))
 (try simp only [Act.put,sia_,scz_,scs_])
 go_cut [29] (fun P2 wc=>∃(kq:Nat) (r0:Bool),P2= .bool r0∧Aside0 (spec_LogOk.j0 kq r0 m0 n0 a0=some r)∧Aside0 (kq≤k)∧Aside0 (wc.heap[L0]? =some (.cells #[.int .i64 m0,.int .i64 n0,(.slice B0 a0.length C0)] 28 (0,0)))∧Aside0 (Below w.heap.size w wc))
 case first=>
  have H:=n2.out
  clear n2
  obtain⟨o2,A4,H⟩:=ob_ H
  try dsimp only at H
  by_cases c5:o2=true
  rotate_left
  ·replace c5:=Bool.eq_false_iff.mpr c5
   subst c5
   rw [if_neg (show ¬(false=true) by decide)] at H
   have H':=Aside0.mk H
   clear H
   obtain⟨W0,X0,Y0,Z0,a1,b1⟩:=b3_ d0
   go_wp2_with (first|((with_reducible refine gc_ 41 rfl ?_);refine gm_ 7 Tryz.func41 (spec_l01In.calls m0 0 1000000 false _ A4.out) ?_;rintro w' ⟨nd,rfl⟩))
   go_meet
   case rel=>exact⟨_,(true),rl_,H',⟨by first|omega|exact Nat.le_refl _⟩,⟨bf_⟩,⟨bw_ HB⟩⟩
  subst c5
  rw [if_pos rfl] at H
  obtain⟨q2,A6,H⟩:=ob_ H
  try dsimp only at H
  by_cases c7:q2=true
  rotate_left
  ·replace c7:=Bool.eq_false_iff.mpr c7
   subst c7
   rw [if_neg (show ¬(false=true) by decide)] at H
   have H':=Aside0.mk H
   clear H
   obtain⟨d1,e1,g1,m1,n1,o1⟩:=b3_ d0
   go_wp2_with (first|((with_reducible refine gc_ 41 rfl ?_);refine gm_ 7 Tryz.func41 (spec_l01In.calls m0 0 1000000 true _ A4.out) ?_;rintro w' ⟨nd,rfl⟩)|(go_at_call 41;(with_reducible refine(spec_l01In.calls n0 0 100000 false _ A6.out).mono ?_);rintro e w' ⟨rfl,⟨nd,rfl⟩⟩))
   go_meet
   case rel=>exact⟨_,(true),rl_,H',⟨by first|omega|exact Nat.le_refl _⟩,⟨bf_⟩,⟨bw_ HB⟩⟩
  subst c7
  rw [if_pos rfl] at H
  by_cases c8:(a0.length:Int)>60
  rotate_left
  ·rw [if_neg c8] at H
   have F0:=decide_eq_false c8
   have r2:decide (60<a0.length)=false:=decide_eq_false (by omega)
   clear c8
   (first|rw [F0]|(simp only [i64_w,i32_w];rw [F0])|skip)
   have H':=Aside0.mk H
   clear H
   obtain⟨p1,q1,r1,s1,t1,v1⟩:=b3_ d0
   go_wp2_with (first|((with_reducible refine gc_ 41 rfl ?_);refine gm_ 7 Tryz.func41 (spec_l01In.calls m0 0 1000000 true _ A4.out) ?_;rintro w' ⟨nd,rfl⟩)|(go_at_call 41;(with_reducible refine(spec_l01In.calls n0 0 100000 true _ A6.out).mono ?_);rintro e w' ⟨rfl,⟨nd,rfl⟩⟩))
   go_meet
   case rel=>exact⟨_,(decide ((wrap64 (m0+(a0.length:Int)))>1000000)),rl_,H',⟨by first|omega|exact Nat.le_refl _⟩,⟨bf_⟩,⟨bw_ HB⟩⟩
  rw [if_pos c8] at H
  have F0:=decide_eq_true c8
  have r2:decide (60<a0.length)=true:=decide_eq_true (by omega)
  clear c8
  (first|rw [F0]|(simp only [i64_w,i32_w];rw [F0])|skip)
  have H':=Aside0.mk H
  clear H
  obtain⟨s2,t2,v2,w2,x2,y2⟩:=b3_ d0
  go_wp2_with (first|((with_reducible refine gc_ 41 rfl ?_);refine gm_ 7 Tryz.func41 (spec_l01In.calls m0 0 1000000 true _ A4.out) ?_;rintro w' ⟨nd,rfl⟩)|(go_at_call 41;(with_reducible refine(spec_l01In.calls n0 0 100000 true _ A6.out).mono ?_);rintro e w' ⟨rfl,⟨nd,rfl⟩⟩))
  go_meet
  case rel=>exact⟨_,(true),rl_,H',⟨by first|omega|exact Nat.le_refl _⟩,⟨bf_⟩,⟨bw_ HB⟩⟩
 case rest=>
  clear n2
  (try clear p2);(try clear p6)
  obtain⟨kq,r0,rfl,HA,I2,d0,HB⟩:=hcut
  cases kq with
  |zero=>exact absurd HA.out (by simp [spec_LogOk.j0])
  |succ J2=>
   have H:=HA.out
   clear HA
   simp only [spec_LogOk.j0] at H
   by_cases x1:r0=true
   ·subst x1
    rw [if_pos rfl] at H
    obtain rfl:=Option.some.inj H
    go_wp2
    go_ret
    exact⟨er_,bw_ HB⟩
   replace x1:=Bool.eq_false_iff.mpr x1
   subst x1
   rw [if_neg (show ¬(false=true) by decide)] at H
   have H':=Aside0.mk H
   clear H
   obtain⟨y1,A1,C1,D1,F1,G1⟩:=b3_ d0
   go_wp2
   go_loopg [3,4] J2 (fun kq v3 v4 w'=>∃(I0:Int) (b0:Int),v3= .int .i64 I0∧v4= .int .i64 b0∧Aside0 (spec_LogOk.l0 kq I0 b0 m0 n0 a0=some r)∧Aside0 (kq≤J2)∧Aside0 (w'.heap[L0]? =some (.cells #[.int .i64 m0,.int .i64 n0,(.slice B0 a0.length C0)] 28 (0,0)))∧Aside0 (Below w.heap.size w w'))
   case atStart=>exact⟨(n0),(0),rl_,rl_,H',⟨Nat.le_refl _⟩,⟨bf_⟩,⟨bw_ HB⟩⟩
   case round=>
    clear H'
    (try clear p2);(try clear p6);(try clear p2);(try clear p6)
    obtain⟨I0,b0,rfl,rfl,HA,K2,d0,HB⟩:=hrel
    cases gk with
    |zero=>exact absurd HA.out (by simp [spec_LogOk.l0])
    |succ k2=>
     have H:=HA.out
     clear HA
     simp only [spec_LogOk.l0] at H
     refine ic_ H ?_ ?_ <;> clear H <;> intro L2 H
     ·obtain rfl:=Option.some.inj H
      obtain⟨H1,I1,J1,K1,L1,M1⟩:=b3_ d0
      go_wp2
      go_ret
      exact⟨er_,bw_ HB⟩
     obtain⟨M2,H⟩:=gd_ H
     have N2:=decide_eq_true M2
     clear M2
     obtain⟨A2,B2,H⟩:=ob_ H
     try dsimp only at H
     obtain⟨N1,O1,P1,Q1,R1,U1⟩:=b3_ d0
     have M0:0≤(b0:Int):=od_
     have N0:b0<(a0.length:Int):=od_
     obtain⟨G0,C2,s0,t0,v0⟩:=at_T105 q0.out b0 M0 N0
     cases C2
     replace s0:=hc_ HB s0
     replace t0:=hc_ HB t0
     replace v0:=hc_ HB v0
     replace M0:=eq_true M0
     replace N0:=eq_true N0
     by_cases V1:A2=true
     rotate_left
     ·replace V1:=Bool.eq_false_iff.mpr V1
      subst V1
      rw [if_neg (show ¬(false=true) by decide)] at H
      obtain rfl:=Option.some.inj H
      go_wp2_with (first|((with_reducible refine gc_ 72 rfl ?_);refine gm_ 44 Tryz.func72 (spec_EntryOk.calls k2 ((rd_T105 a0 b0).f0) ((rd_T105 a0 b0).f1) ((rd_T105 a0 b0).f2) false _ B2.out) ?_;rintro Q2 hb;replace d0:=bb_ d0 hb;replace HB:=bs_ HB hb;(try clear hb)))
      go_ret
      exact⟨er_,bw_ HB⟩
     subst V1
     rw [if_pos rfl] at H
     by_cases R0:((rd_T105 a0 b0).f0)<I0
     ·rw [if_pos R0] at H
      have U0:=decide_eq_true R0
      clear R0
      obtain rfl:=Option.some.inj H
      go_wp2_with (first|((with_reducible refine gc_ 72 rfl ?_);refine gm_ 44 Tryz.func72 (spec_EntryOk.calls k2 ((rd_T105 a0 b0).f0) ((rd_T105 a0 b0).f1) ((rd_T105 a0 b0).f2) true _ B2.out) ?_;rintro R2 hb;replace d0:=bb_ d0 hb;replace HB:=bs_ HB hb;(try clear hb);obtain⟨W1,X1,Y1,Z1,a2,b2⟩:=b3_ d0;have o0:0≤(b0:Int):=od_;have p0:b0<(a0.length:Int):=od_;obtain⟨H0,O0,e0,g0,h0⟩:=at_T105 q0.out b0 o0 p0;obtain rfl:G0=H0:=(by injection O0);replace e0:=hc_ HB e0;replace g0:=hc_ HB g0;replace h0:=hc_ HB h0;replace o0:=eq_true o0;replace p0:=eq_true p0))
      go_ret
      exact⟨er_,bw_ HB⟩
     rw [if_neg R0] at H
     have U0:=decide_eq_false R0
     clear R0
     have H':=Aside0.mk H
     clear H
     go_wp2_with (first|((with_reducible refine gc_ 72 rfl ?_);refine gm_ 44 Tryz.func72 (spec_EntryOk.calls k2 ((rd_T105 a0 b0).f0) ((rd_T105 a0 b0).f1) ((rd_T105 a0 b0).f2) true _ B2.out) ?_;rintro U2 hb;replace d0:=bb_ d0 hb;replace HB:=bs_ HB hb;(try clear hb);obtain⟨d2,e2,g2,h2,l2,m2⟩:=b3_ d0;have o0:0≤(b0:Int):=od_;have p0:b0<(a0.length:Int):=od_;obtain⟨H0,O0,e0,g0,h0⟩:=at_T105 q0.out b0 o0 p0;obtain rfl:G0=H0:=(by injection O0);replace e0:=hc_ HB e0;replace g0:=hc_ HB g0;replace h0:=hc_ HB h0;replace o0:=eq_true o0;replace p0:=eq_true p0;have P0:0≤(b0:Int):=od_;have Q0:b0<(a0.length:Int):=od_;obtain⟨V0,D2,x0,y0,A0⟩:=at_T105 q0.out b0 P0 Q0;obtain rfl:G0=V0:=(by injection D2);replace x0:=hc_ HB x0;replace y0:=hc_ HB y0;replace A0:=hc_ HB A0;replace P0:=eq_true P0;replace Q0:=eq_true Q0))
     go_roundg k2
     case measure=>have:=I2.out;have:=K2.out;omega
     case rel=>exact⟨((rd_T105 a0 b0).f0),(wrap64 (b0+1)),rl_,rl_,H',⟨by have:=I2.out;have:=K2.out;omega⟩,⟨bf_⟩,⟨bw_ HB⟩⟩
def spec_EntryText.j0:Nat→Int→Bool→Int→Int→ByteArray→Option (ByteArray × Bool)
 |0,_,_,_,_,_=>none
 |k+1,x0,m0,d0,e0,a0=>if m0=true then(some ((⟨#[]⟩:ByteArray),false)) else((spec_l01Var.f k x0).bind fun b0=>(if 1+b0.size≤9223372036854775807 then((spec_l01Var.f k d0).bind fun g0=>(if((⟨#[69]⟩:ByteArray)++b0).size+g0.size≤9223372036854775807 then((some (([(e0) % 256]:List Int):List Int)).bind fun h0=>(if(((⟨#[69]⟩:ByteArray)++b0)++g0).size+(strOfNums h0).size≤9223372036854775807 then(if((((⟨#[69]⟩:ByteArray)++b0)++g0)++(strOfNums h0)).size+a0.size≤9223372036854775807 then(some (((((⟨#[69]⟩:ByteArray)++b0)++g0)++(strOfNums h0))++a0,true)) else(none)) else(none))) else(none))) else(none)))
def spec_EntryText.f (k:Nat) (a0:Int) (b0:Int) (d0:Int) (e0:ByteArray):Option (ByteArray × Bool):=(spec_EntryOk.f k b0 d0 e0).bind fun g0=>(if g0=true then((spec_l01In.f a0 1 1000000).bind fun h0=>(spec_EntryText.j0 k a0 (!h0) b0 d0 e0)) else(spec_EntryText.j0 k a0 true b0 d0 e0))
def spec_EntryText.T3:Bool × List (List Nat × List Nat):=(true,[([],[]),([0],[0]),([1],[1]),([],[]),([3],[3]),([4,1],[4]),([2,5],[2,5]),([],[]),([7],[7]),([8],[8]),([9],[9]),([10],[10]),([6,11],[6,11]),([],[]),([13],[13]),([12,14],[12,14]),([15,5,0,1,2,3,4,5,6,7,8,9,10,11,12,13,14,15],[15]),([16,0,1,2,3,4,5,6,7,8,9,10,11,12,13,14,15,16],[])])
def spec_EntryText.B3:List Nat:=[0,1,3,0,8,27,63,0,128,384,896,1920,4095,0,8192,32767,65535,131071]
theorem spec_EntryText.tab3:rtab .any (opsOf Tryz.f98 3)=spec_EntryText.T3:=by kernel_rfl
theorem spec_EntryText.bits3:waitsOk spec_EntryText.T3.2 spec_EntryText.B3=true:=by kernel_rfl
theorem spec_EntryText.calls (k:Nat) (a0:Int) (h0:Int) (g0:Int) (m0:ByteArray) (r1:ByteArray) (r2:Bool) (w:World) (h:spec_EntryText.f k a0 h0 g0 m0=some (r1,r2)):
  Calls Tryz.prog 98 #[.int .i64 a0,.agg #[.int .i64 h0,.int .i64 g0,.string m0]] w fun e w'=>e= .returned (.tuple #[.string r1,.bool r2])∧Below w.heap.size w w':=by
 have G1:=Tryz.underlying105
 have HB:=mk_ (Below.refl w.heap.size w)
 have H:=h
 unfold spec_EntryText.f at H
 clear h
 have g1:=Aside0.mk H
 clear H
 go_enter Tryz.func98,Tryz.ntmps98
 go_upto_region 1 with (first|((with_reducible refine gn_ 3 rfl ?_);refine bv_ (cs:=#[.int .i64 h0,.int .i64 g0,.string m0]) (t:=105) HB ?_;clear HB;intro d0 w4 b0 H1 HB))
 (try simp only [Act.put,sia_,scz_,scs_])
 go_cut [13] (fun Z1 wc=>∃(kq:Nat) (B0:Bool),Z1= .bool B0∧Aside0 (spec_EntryText.j0 kq a0 B0 h0 g0 m0=some (r1,r2))∧Aside0 (kq≤k)∧Aside0 (wc.heap[d0]? =some (.cells #[.int .i64 h0,.int .i64 g0,.string m0] 105 (0,0)))∧Aside0 (Below w.heap.size w wc))
 case first=>
  have H:=g1.out
  clear g1
  obtain⟨m1,A5,H⟩:=ob_ H
  try dsimp only at H
  by_cases c6:m1=true
  rotate_left
  ·replace c6:=Bool.eq_false_iff.mpr c6
   subst c6
   rw [if_neg (show ¬(false=true) by decide)] at H
   have H':=Aside0.mk H
   clear H
   obtain⟨U0,V0,W0,X0,Y0,Z0⟩:=b3_ b0
   go_wp2_with (first|((with_reducible refine gc_ 72 rfl ?_);refine gm_ 7 Tryz.func72 (spec_EntryOk.calls k h0 g0 m0 false _ A5.out) ?_;rintro e2 hb;replace b0:=bb_ b0 hb;replace HB:=bs_ HB hb;(try clear hb)))
   go_meet
   case rel=>exact⟨_,(true),rl_,H',⟨by first|omega|exact Nat.le_refl _⟩,⟨bf_⟩,⟨bw_ HB⟩⟩
  subst c6
  rw [if_pos rfl] at H
  obtain⟨M0,A7,H⟩:=ob_ H
  try dsimp only at H
  have H':=Aside0.mk H
  clear H
  obtain⟨n1,o1,p1,q1,s1,t1⟩:=b3_ b0
  go_wp2_with (first|((with_reducible refine gc_ 72 rfl ?_);refine gm_ 7 Tryz.func72 (spec_EntryOk.calls k h0 g0 m0 true _ A5.out) ?_;rintro w9 hb;replace b0:=bb_ b0 hb;replace HB:=bs_ HB hb;(try clear hb))|(go_at_call 41;(with_reducible refine(spec_l01In.calls a0 1 1000000 M0 _ A7.out).mono ?_);rintro e w' ⟨rfl,⟨nd,rfl⟩⟩))
  go_meet
  case rel=>exact⟨_,(!M0),rl_,H',⟨by first|omega|exact Nat.le_refl _⟩,⟨bf_⟩,⟨bw_ HB⟩⟩
 case rest=>
  clear g1
  try clear p2
  obtain⟨kq,B0,rfl,HA,g2,b0,HB⟩:=hcut
  cases kq with
  |zero=>exact absurd HA.out (by simp [spec_EntryText.j0])
  |succ L0=>
   have H:=HA.out
   clear HA
   simp only [spec_EntryText.j0] at H
   by_cases a1:B0=true
   ·subst a1
    rw [if_pos rfl] at H
    simp only [Option.some.injEq,Prod.mk.injEq] at H
    obtain⟨rfl,rfl⟩:=H
    go_wp2
    go_ret2
    exact⟨er_,bw_ HB⟩
   replace a1:=Bool.eq_false_iff.mpr a1
   subst a1
   rw [if_neg (show ¬(false=true) by decide)] at H
   obtain⟨n0,v1,H⟩:=ob_ H
   try dsimp only at H
   obtain⟨x1,H⟩:=gd_ H
   have I1:=eq_true x1
   have J1:=decide_eq_true x1
   have K1:=eq_false (Nat.not_lt.2 x1)
   obtain⟨s0,y1,H⟩:=ob_ H
   try dsimp only at H
   obtain⟨b1,H⟩:=gd_ H
   have L1:=eq_true b1
   have M1:=decide_eq_true b1
   have N1:=eq_false (Nat.not_lt.2 b1)
   have O1:(9223372036854775807<1+n0.size+s0.size)=False:=eq_false (by have h_:=b1;simp only [ByteArray.size_append] at h_;exact Nat.not_lt.2 h_)
   obtain⟨t0,C0⟩:∃y_:List Int,y_=(([(g0) % 256]:List Int)):=⟨_,rfl⟩
   replace H:=sb_ C0 H
   have x0:=Aside0.mk C0
   clear C0
   obtain⟨d1,H⟩:=gd_ H
   have P1:=eq_true d1
   have Q1:=decide_eq_true d1
   have R1:=eq_false (Nat.not_lt.2 d1)
   have U1:(9223372036854775807<1+n0.size+s0.size+(strOfNums t0).size)=False:=eq_false (by have h_:=d1;simp only [ByteArray.size_append] at h_;exact Nat.not_lt.2 h_)
   obtain⟨e1,H⟩:=gd_ H
   have V1:=eq_true e1
   have W1:=decide_eq_true e1
   have X1:=eq_false (Nat.not_lt.2 e1)
   have Y1:(9223372036854775807<1+n0.size+s0.size+(strOfNums t0).size+m0.size)=False:=eq_false (by have h_:=e1;simp only [ByteArray.size_append] at h_;exact Nat.not_lt.2 h_)
   simp only [Option.some.injEq,Prod.mk.injEq] at H
   obtain⟨rfl,rfl⟩:=H
   try go_wp2
   replace b0:=kd_ b0;replace HB:=wd_ HB
   refine start_ (n:=18) (S:=fun w'=>w'.cell? ⟨d0,0,none⟩=some (.int .i64 h0)∧w'.cell? ⟨d0,1,none⟩=some (.int .i64 g0)∧w'.cell? ⟨d0,2,none⟩=some (.string m0)) (ds:=[]) #[false,false,false,false,false,false,false,false,false,false,false,false,false,false,false,false,false,false] (by kernel_rfl) rfl rfl ⟨bc_ b0 0,bc_ b0 1,bc_ b0 2⟩ (fun hHeld=>?_);refine with_tabW spec_EntryText.tab3 spec_EntryText.bits3 (fun HT_ HW_=>?_)
   generalize wc.drew=h2 at b0 HB hHeld⊢
   refine pv_ 0 14 ?_
   refine pv_ 3 17 ?_
   refine pv_ 7 21 ?_
   refine pv_ 13 27 ?_
   refine tv_ 4 18 hHeld ?_
   refine tv_ 8 22 hHeld ?_
   refine pv_ 9 23 ?_
   refine tv_ 14 28 hHeld ?_
   refine join_ (σ:=Value) 4 #[true,true,true,true,true,true,true,true,true,true,true,true,false,true,true,false,false,false] (fun s_=>[(15,.string n0),(19,.string s0),(24,s_),(25,.string (strOfNums t0)),(16,.string ((⟨#[69]⟩:ByteArray)++n0)),(20,.string (((⟨#[69]⟩:ByteArray)++n0)++s0))]) (fun s_ w'=>(w'.cell? ⟨d0,0,none⟩=some (.int .i64 h0)∧w'.cell? ⟨d0,1,none⟩=some (.int .i64 g0)∧w'.cell? ⟨d0,2,none⟩=some (.string m0))∧(Kd.R (Kd.int .u8) 5 w' w.heap.size (fun _=>True) s_ t0)∧(w'.heap[d0]? =some (.cells #[.int .i64 h0,.int .i64 g0,.string m0] 105 (0,0)))∧(Below w.heap.size w w')) ?_ ?_
   rotate_left
   ·intro r0
    refine join_ (σ:=Value) 5 #[true,true,true,true,true,true,true,true,true,true,true,false,false,true,true,false,false,false] (fun s_=>[(15,.string n0),(19,.string s0),(24,s_),(16,.string ((⟨#[69]⟩:ByteArray)++n0)),(20,.string (((⟨#[69]⟩:ByteArray)++n0)++s0))]) (fun s_ w'=>(w'.cell? ⟨d0,0,none⟩=some (.int .i64 h0)∧w'.cell? ⟨d0,1,none⟩=some (.int .i64 g0)∧w'.cell? ⟨d0,2,none⟩=some (.string m0))∧(Kd.R (Kd.int .u8) 5 w' w.heap.size (fun _=>True) s_ t0)∧(w'.heap[d0]? =some (.cells #[.int .i64 h0,.int .i64 g0,.string m0] 105 (0,0)))∧(Below w.heap.size w w')) ?_ ?_
    rotate_left
    rotate_left
    ·skip
     rintro o0 A1 ⟨hS_,p0,q0,v0⟩
     (try dsimp only at hS_ p0 q0 v0)
     clear b0;clear HB;have e0:=mk_ p0;have b0:=mk_ q0;have HB:=mk_ v0;clear p0 q0 v0;have hHeld:=hS_
     refine norm_ (a':=?_) ?_ ?_
     rotate_left
     ·simp only [putAll,Act.put,sia_,scz_,scs_]
      rfl
     refine on_ 11 25 (fun K hK=>?_)
     have N0:=own_string (P:=Tryz.prog) Tryz.underlying95 Tryz.underlying5 Tryz.underlying9 (Kd.own_of_R e0.out)
     refine value_ (w1:=?_) (v:=?_) (by rfl) rfl ?_ ?_
     rotate_left 2
     ·go_simp
      constructor
      ·rfl
      ·rfl
     clear N0
     refine hK.out _ _ ⟨bc_ b0 0,bc_ b0 1,bc_ b0 2⟩ (fun hHeld=>?_)
     clear hK K
     refine norm_ (a':=?_) ?_ ?_
     rotate_left
     ·show Act.put _ (some 25) _=_
      simp only [Act.put,sia_,scz_,scs_,i64_w,i32_w]
      rfl
     exact norm_ (by first|(simp only [putAll,Act.put,sia_,scz_,scs_];done)|(simp only [putAll,Act.put,sia_,scz_,scs_];rfl)) (r0 (o0) _ ⟨hHeld,(rp_ e0),(bp_ b0),(bw_ HB)⟩)
    intro A0
    refine join_ (σ:=Value) 6 #[true,true,true,true,true,false,false,true,true,true,true,true,false,true,true,false,false,false] (fun s_=>[(15,.string n0),(24,s_),(25,.string (strOfNums t0)),(16,.string ((⟨#[69]⟩:ByteArray)++n0))]) (fun s_ w'=>(w'.cell? ⟨d0,0,none⟩=some (.int .i64 h0)∧w'.cell? ⟨d0,1,none⟩=some (.int .i64 g0)∧w'.cell? ⟨d0,2,none⟩=some (.string m0))∧(Kd.R (Kd.int .u8) 5 w' w.heap.size (fun _=>True) s_ t0)∧(w'.heap[d0]? =some (.cells #[.int .i64 h0,.int .i64 g0,.string m0] 105 (0,0)))∧(Below w.heap.size w w')) ?_ ?_
    rotate_left
    rotate_left
    ·skip
     rintro o0 A1 ⟨hS_,p0,q0,v0⟩
     (try dsimp only at hS_ p0 q0 v0)
     clear b0;clear HB;have e0:=mk_ p0;have b0:=mk_ q0;have HB:=mk_ v0;clear p0 q0 v0;have hHeld:=hS_
     refine norm_ (a':=?_) ?_ ?_
     rotate_left
     ·simp only [putAll,Act.put,sia_,scz_,scs_]
      rfl
     refine on_ 5 19 (fun K hK=>?_)
     refine gs_ Tryz.func71 (spec_l01Var.calls L0 h0 s0 _ y1.out) ?_
     rintro a2 hb
     replace e0:=rb_ e0 hb;replace b0:=bb_ b0 hb;replace HB:=bs_ HB hb;(try clear hb);(try clear O0);(try clear hk);(try clear hi)
     refine hK.out _ _ ⟨bc_ b0 0,bc_ b0 1,bc_ b0 2⟩ (fun hHeld=>?_)
     clear hK K
     refine norm_ (a':=?_) ?_ ?_
     rotate_left
     ·show Act.put _ (some 19) _=_
      simp only [Act.put,sia_,scz_,scs_,i64_w,i32_w]
      rfl
     refine pv_ 6 20 ?_
     exact norm_ (by first|(simp only [putAll,Act.put,sia_,scz_,scs_];done)|(simp only [putAll,Act.put,sia_,scz_,scs_];rfl)) (r0 (o0) _ ⟨hHeld,(rp_ e0),(bp_ b0),(bw_ HB)⟩)
    intro y0
    refine join_ (σ:=Unit) 6 #[true,true,true,true,true,true,true,true,true,true,false,false,false,true,true,false,false,false] (fun s_=>[(15,.string n0),(19,.string s0),(16,.string ((⟨#[69]⟩:ByteArray)++n0)),(20,.string (((⟨#[69]⟩:ByteArray)++n0)++s0))]) (fun s_ w'=>(w'.cell? ⟨d0,0,none⟩=some (.int .i64 h0)∧w'.cell? ⟨d0,1,none⟩=some (.int .i64 g0)∧w'.cell? ⟨d0,2,none⟩=some (.string m0))∧(w'.heap[d0]? =some (.cells #[.int .i64 h0,.int .i64 g0,.string m0] 105 (0,0)))∧(Below w.heap.size w w')) ?_ ?_
    rotate_left
    rotate_left
    ·skip
     rintro _ C1 ⟨hS_,p0,q0⟩
     (try dsimp only at hS_ p0 q0)
     clear b0;clear HB;have b0:=mk_ p0;have HB:=mk_ q0;clear p0 q0;have hHeld:=hS_
     refine norm_ (a':=?_) ?_ ?_
     rotate_left
     ·simp only [putAll,Act.put,sia_,scz_,scs_]
      rfl
     refine on_ 10 24 (fun K hK=>?_)
     refine Kd.R_lit_step (Kd.int .u8) _ 5 ?hg (N:=24) ?hd (xs:=([(g0) % 256]:List Int)) (inner:=[.int .u8 ((g0) % 256)]) (ok:=fun _=>True) (okp:=fun _=>True) ?hr ?hp (fun _ hk=>hk) trivial (Below.refl _ _) (Nat.le_refl _) (by simp) ?_;(case hd=>rfl);(case hg=>rfl);(case hr=>first|(go_simp;done)|(go_simp;rfl));(case hp=>exact(Reps.one (show Kd.M (Kd.int .u8) _ _ _ ((g0) % 256) [.int .u8 ((g0) % 256)] from rfl) (Reps.none _ _)))
     intro o0 D1 F0 hb hg_ hnew_
     clear hg_ hnew_
     (first|rw [←x0.out] at F0|(simp only [Int.reduceToNat] at F0;rw [←x0.out] at F0))
     have K0:=mk_ (Kd.R_lower F0 (below_size (bw_ HB)))
     have e0:=K0;clear K0;replace b0:=bb_ b0 hb;replace HB:=bs_ HB hb;clear hb F0
     refine hK.out _ _ ⟨bc_ b0 0,bc_ b0 1,bc_ b0 2⟩ (fun hHeld=>?_)
     clear hK K
     refine norm_ (a':=?_) ?_ ?_
     rotate_left
     ·show Act.put _ (some 24) _=_
      simp only [Act.put,sia_,scz_,scs_,i64_w,i32_w]
      rfl
     exact norm_ (by first|(simp only [putAll,Act.put,sia_,scz_,scs_];done)|(simp only [putAll,Act.put,sia_,scz_,scs_];rfl)) (A0 (o0) _ ⟨hHeld,(rp_ e0),(bp_ b0),(bw_ HB)⟩)
    intro P0
    refine join_ (σ:=Value) 7 #[true,true,true,true,true,false,false,true,true,true,true,false,false,true,true,false,false,false] (fun s_=>[(15,.string n0),(24,s_),(16,.string ((⟨#[69]⟩:ByteArray)++n0))]) (fun s_ w'=>(w'.cell? ⟨d0,0,none⟩=some (.int .i64 h0)∧w'.cell? ⟨d0,1,none⟩=some (.int .i64 g0)∧w'.cell? ⟨d0,2,none⟩=some (.string m0))∧(Kd.R (Kd.int .u8) 5 w' w.heap.size (fun _=>True) s_ t0)∧(w'.heap[d0]? =some (.cells #[.int .i64 h0,.int .i64 g0,.string m0] 105 (0,0)))∧(Below w.heap.size w w')) ?_ ?_
    rotate_left
    rotate_left
    ·skip
     rintro o0 D1 ⟨hS_,p0,q0,v0⟩
     (try dsimp only at hS_ p0 q0 v0)
     clear b0;clear HB;have e0:=mk_ p0;have b0:=mk_ q0;have HB:=mk_ v0;clear p0 q0 v0;have hHeld:=hS_
     refine norm_ (a':=?_) ?_ ?_
     rotate_left
     ·simp only [putAll,Act.put,sia_,scz_,scs_]
      rfl
     refine two_ (i:=5) (j:=11) (Ni:=some 19) (Nj:=some 25) #[true,true,true,true,true,true,false,true,true,true,true,false,false,true,true,false,false,false] #[true,true,true,true,true,false,false,true,true,true,true,true,false,true,true,false,false,false] rfl rfl rfl rfl (two_of HT_.out (by kernel_rfl)) (by decide) (by decide) (fun K hK=>?_) (fun K hK=>?_)
     ·skip
      refine gs_ Tryz.func71 (spec_l01Var.calls L0 h0 s0 _ y1.out) ?_
      rintro A1 hb
      replace e0:=rb_ e0 hb;replace b0:=bb_ b0 hb;replace HB:=bs_ HB hb;(try clear hb);(try clear O0);(try clear hk);(try clear hi)
      refine hK.out _ _ ⟨bc_ b0 0,bc_ b0 1,bc_ b0 2⟩ (fun hHeld=>?_)
      clear hK K
      refine norm_ (a':=?_) ?_ ?_
      rotate_left
      ·show Act.put _ (some 19) _=_
       simp only [Act.put,sia_,scz_,scs_,i64_w,i32_w]
       rfl
      refine pv_ 6 20 ?_
      exact norm_ (by first|(simp only [putAll,Act.put,sia_,scz_,scs_];done)|(simp only [putAll,Act.put,sia_,scz_,scs_];rfl)) (A0 (o0) _ ⟨hHeld,(rp_ e0),(bp_ b0),(bw_ HB)⟩)
     skip
     have Q0:=own_string (P:=Tryz.prog) Tryz.underlying95 Tryz.underlying5 Tryz.underlying9 (Kd.own_of_R e0.out)
     refine value_ (w1:=?_) (v:=?_) (by rfl) rfl ?_ ?_
     rotate_left 2
     ·go_simp
      constructor
      ·rfl
      ·rfl
     clear Q0
     refine hK.out _ _ ⟨bc_ b0 0,bc_ b0 1,bc_ b0 2⟩ (fun hHeld=>?_)
     clear hK K
     refine norm_ (a':=?_) ?_ ?_
     rotate_left
     ·show Act.put _ (some 25) _=_
      simp only [Act.put,sia_,scz_,scs_,i64_w,i32_w]
      rfl
     exact norm_ (by first|(simp only [putAll,Act.put,sia_,scz_,scs_];done)|(simp only [putAll,Act.put,sia_,scz_,scs_];rfl)) (y0 (o0) _ ⟨hHeld,(rp_ e0),(bp_ b0),(bw_ HB)⟩)
    intro G0
    refine join_ (σ:=Value) 8 #[true,false,false,true,true,false,false,true,true,true,true,true,false,true,true,false,false,false] (fun s_=>[(24,s_),(25,.string (strOfNums t0))]) (fun s_ w'=>(w'.cell? ⟨d0,0,none⟩=some (.int .i64 h0)∧w'.cell? ⟨d0,1,none⟩=some (.int .i64 g0)∧w'.cell? ⟨d0,2,none⟩=some (.string m0))∧(Kd.R (Kd.int .u8) 5 w' w.heap.size (fun _=>True) s_ t0)∧(w'.heap[d0]? =some (.cells #[.int .i64 h0,.int .i64 g0,.string m0] 105 (0,0)))∧(Below w.heap.size w w')) ?_ ?_
    rotate_left
    rotate_left
    ·skip
     rintro o0 D1 ⟨hS_,p0,q0,v0⟩
     (try dsimp only at hS_ p0 q0 v0)
     clear b0;clear HB;have e0:=mk_ p0;have b0:=mk_ q0;have HB:=mk_ v0;clear p0 q0 v0;have hHeld:=hS_
     refine norm_ (a':=?_) ?_ ?_
     rotate_left
     ·simp only [putAll,Act.put,sia_,scz_,scs_]
      rfl
     refine on_ 1 15 (fun K hK=>?_)
     refine gs_ Tryz.func71 (spec_l01Var.calls L0 a0 n0 _ v1.out) ?_
     rintro A1 hb
     replace e0:=rb_ e0 hb;replace b0:=bb_ b0 hb;replace HB:=bs_ HB hb;(try clear hb);(try clear O0);(try clear hk);(try clear hi)
     refine hK.out _ _ ⟨bc_ b0 0,bc_ b0 1,bc_ b0 2⟩ (fun hHeld=>?_)
     clear hK K
     refine norm_ (a':=?_) ?_ ?_
     rotate_left
     ·show Act.put _ (some 15) _=_
      simp only [Act.put,sia_,scz_,scs_,i64_w,i32_w]
      rfl
     refine pv_ 2 16 ?_
     exact norm_ (by first|(simp only [putAll,Act.put,sia_,scz_,scs_];done)|(simp only [putAll,Act.put,sia_,scz_,scs_];rfl)) (y0 (o0) _ ⟨hHeld,(rp_ e0),(bp_ b0),(bw_ HB)⟩)
    intro J0
    refine join_ (σ:=Unit) 8 #[true,true,true,true,true,false,false,true,true,true,false,false,false,true,true,false,false,false] (fun s_=>[(15,.string n0),(16,.string ((⟨#[69]⟩:ByteArray)++n0))]) (fun s_ w'=>(w'.cell? ⟨d0,0,none⟩=some (.int .i64 h0)∧w'.cell? ⟨d0,1,none⟩=some (.int .i64 g0)∧w'.cell? ⟨d0,2,none⟩=some (.string m0))∧(w'.heap[d0]? =some (.cells #[.int .i64 h0,.int .i64 g0,.string m0] 105 (0,0)))∧(Below w.heap.size w w')) ?_ ?_
    rotate_left
    rotate_left
    ·skip
     rintro _ l2 ⟨hS_,p0,q0⟩
     (try dsimp only at hS_ p0 q0)
     clear b0;clear HB;have b0:=mk_ p0;have HB:=mk_ q0;clear p0 q0;have hHeld:=hS_
     refine norm_ (a':=?_) ?_ ?_
     rotate_left
     ·simp only [putAll,Act.put,sia_,scz_,scs_]
      rfl
     refine two_ (i:=5) (j:=10) (Ni:=some 19) (Nj:=some 24) #[true,true,true,true,true,true,false,true,true,true,false,false,false,true,true,false,false,false] #[true,true,true,true,true,false,false,true,true,true,true,false,false,true,true,false,false,false] rfl rfl rfl rfl (two_of HT_.out (by kernel_rfl)) (by decide) (by decide) (fun K hK=>?_) (fun K hK=>?_)
     rotate_left
     ·skip
      refine Kd.R_lit_step (Kd.int .u8) _ 5 ?hg (N:=24) ?hd (xs:=([(g0) % 256]:List Int)) (inner:=[.int .u8 ((g0) % 256)]) (ok:=fun _=>True) (okp:=fun _=>True) ?hr ?hp (fun _ hk=>hk) trivial (Below.refl _ _) (Nat.le_refl _) (by simp) ?_;(case hd=>rfl);(case hg=>rfl);(case hr=>first|(go_simp;done)|(go_simp;rfl));(case hp=>exact(Reps.one (show Kd.M (Kd.int .u8) _ _ _ ((g0) % 256) [.int .u8 ((g0) % 256)] from rfl) (Reps.none _ _)))
      intro o0 C1 H0 hb hg_ hnew_
      clear hg_ hnew_
      (first|rw [←x0.out] at H0|(simp only [Int.reduceToNat] at H0;rw [←x0.out] at H0))
      have K0:=mk_ (Kd.R_lower H0 (below_size (bw_ HB)))
      have e0:=K0;clear K0;replace b0:=bb_ b0 hb;replace HB:=bs_ HB hb;clear hb H0
      refine hK.out _ _ ⟨bc_ b0 0,bc_ b0 1,bc_ b0 2⟩ (fun hHeld=>?_)
      clear hK K
      refine norm_ (a':=?_) ?_ ?_
      rotate_left
      ·show Act.put _ (some 24) _=_
       simp only [Act.put,sia_,scz_,scs_,i64_w,i32_w]
       rfl
      exact norm_ (by first|(simp only [putAll,Act.put,sia_,scz_,scs_];done)|(simp only [putAll,Act.put,sia_,scz_,scs_];rfl)) (G0 (o0) _ ⟨hHeld,(rp_ e0),(bp_ b0),(bw_ HB)⟩)
     skip
     refine gs_ Tryz.func71 (spec_l01Var.calls L0 h0 s0 _ y1.out) ?_
     rintro C1 hb
     replace b0:=bb_ b0 hb;replace HB:=bs_ HB hb;(try clear hb);(try clear O0);(try clear hk);(try clear hi)
     refine hK.out _ _ ⟨bc_ b0 0,bc_ b0 1,bc_ b0 2⟩ (fun hHeld=>?_)
     clear hK K
     refine norm_ (a':=?_) ?_ ?_
     rotate_left
     ·show Act.put _ (some 19) _=_
      simp only [Act.put,sia_,scz_,scs_,i64_w,i32_w]
      rfl
     refine pv_ 6 20 ?_
     exact norm_ (by first|(simp only [putAll,Act.put,sia_,scz_,scs_];done)|(simp only [putAll,Act.put,sia_,scz_,scs_];rfl)) (P0 () _ ⟨hHeld,(bp_ b0),(bw_ HB)⟩)
    intro b2
    refine join_ (σ:=Value) 9 #[true,false,false,true,true,false,false,true,true,true,true,false,false,true,true,false,false,false] (fun s_=>[(24,s_)]) (fun s_ w'=>(w'.cell? ⟨d0,0,none⟩=some (.int .i64 h0)∧w'.cell? ⟨d0,1,none⟩=some (.int .i64 g0)∧w'.cell? ⟨d0,2,none⟩=some (.string m0))∧(Kd.R (Kd.int .u8) 5 w' w.heap.size (fun _=>True) s_ t0)∧(w'.heap[d0]? =some (.cells #[.int .i64 h0,.int .i64 g0,.string m0] 105 (0,0)))∧(Below w.heap.size w w')) ?_ ?_
    rotate_left
    ·intro F1
     refine two_ (i:=1) (j:=10) (Ni:=some 15) (Nj:=some 24) #[true,true,false,true,true,false,false,true,true,true,false,false,false,true,true,false,false,false] #[true,false,false,true,true,false,false,true,true,true,true,false,false,true,true,false,false,false] rfl rfl rfl rfl (two_of HT_.out (by kernel_rfl)) (by decide) (by decide) (fun K hK=>?_) (fun K hK=>?_)
     rotate_left
     ·skip
      refine Kd.R_lit_step (Kd.int .u8) _ 5 ?hg (N:=24) ?hd (xs:=([(g0) % 256]:List Int)) (inner:=[.int .u8 ((g0) % 256)]) (ok:=fun _=>True) (okp:=fun _=>True) ?hr ?hp (fun _ hk=>hk) trivial (Below.refl _ _) (Nat.le_refl _) (by simp) ?_;(case hd=>rfl);(case hg=>rfl);(case hr=>first|(go_simp;done)|(go_simp;rfl));(case hp=>exact(Reps.one (show Kd.M (Kd.int .u8) _ _ _ ((g0) % 256) [.int .u8 ((g0) % 256)] from rfl) (Reps.none _ _)))
      intro o0 d2 I0 hb hg_ hnew_
      clear hg_ hnew_
      (first|rw [←x0.out] at I0|(simp only [Int.reduceToNat] at I0;rw [←x0.out] at I0))
      have K0:=mk_ (Kd.R_lower I0 (below_size (bw_ HB)))
      have e0:=K0;clear K0;replace b0:=bb_ b0 hb;replace HB:=bs_ HB hb;clear hb I0
      refine hK.out _ _ ⟨bc_ b0 0,bc_ b0 1,bc_ b0 2⟩ (fun hHeld=>?_)
      clear hK K
      refine norm_ (a':=?_) ?_ ?_
      rotate_left
      ·show Act.put _ (some 24) _=_
       simp only [Act.put,sia_,scz_,scs_,i64_w,i32_w]
       rfl
      exact norm_ (by first|(simp only [putAll,Act.put,sia_,scz_,scs_];done)|(simp only [putAll,Act.put,sia_,scz_,scs_];rfl)) (F1 (o0) _ ⟨hHeld,(rp_ e0),(bp_ b0),(bw_ HB)⟩)
     skip
     refine gs_ Tryz.func71 (spec_l01Var.calls L0 a0 n0 _ v1.out) ?_
     rintro d2 hb
     replace b0:=bb_ b0 hb;replace HB:=bs_ HB hb;(try clear hb);(try clear O0);(try clear hk);(try clear hi)
     refine hK.out _ _ ⟨bc_ b0 0,bc_ b0 1,bc_ b0 2⟩ (fun hHeld=>?_)
     clear hK K
     refine norm_ (a':=?_) ?_ ?_
     rotate_left
     ·show Act.put _ (some 15) _=_
      simp only [Act.put,sia_,scz_,scs_,i64_w,i32_w]
      rfl
     refine pv_ 2 16 ?_
     exact norm_ (by first|(simp only [putAll,Act.put,sia_,scz_,scs_];done)|(simp only [putAll,Act.put,sia_,scz_,scs_];rfl)) (b2 () _ ⟨hHeld,(bp_ b0),(bw_ HB)⟩)
    skip
    rintro o0 C1 ⟨hS_,p0,q0,v0⟩
    (try dsimp only at hS_ p0 q0 v0)
    clear b0;clear HB;have e0:=mk_ p0;have b0:=mk_ q0;have HB:=mk_ v0;clear p0 q0 v0;have hHeld:=hS_
    refine norm_ (a':=?_) ?_ ?_
    rotate_left
    ·simp only [putAll,Act.put,sia_,scz_,scs_]
     rfl
    refine two_ (i:=1) (j:=11) (Ni:=some 15) (Nj:=some 25) #[true,true,false,true,true,false,false,true,true,true,true,false,false,true,true,false,false,false] #[true,false,false,true,true,false,false,true,true,true,true,true,false,true,true,false,false,false] rfl rfl rfl rfl (two_of HT_.out (by kernel_rfl)) (by decide) (by decide) (fun K hK=>?_) (fun K hK=>?_)
    ·skip
     refine gs_ Tryz.func71 (spec_l01Var.calls L0 a0 n0 _ v1.out) ?_
     rintro D1 hb
     replace e0:=rb_ e0 hb;replace b0:=bb_ b0 hb;replace HB:=bs_ HB hb;(try clear hb);(try clear O0);(try clear hk);(try clear hi)
     refine hK.out _ _ ⟨bc_ b0 0,bc_ b0 1,bc_ b0 2⟩ (fun hHeld=>?_)
     clear hK K
     refine norm_ (a':=?_) ?_ ?_
     rotate_left
     ·show Act.put _ (some 15) _=_
      simp only [Act.put,sia_,scz_,scs_,i64_w,i32_w]
      rfl
     refine pv_ 2 16 ?_
     exact norm_ (by first|(simp only [putAll,Act.put,sia_,scz_,scs_];done)|(simp only [putAll,Act.put,sia_,scz_,scs_];rfl)) (G0 (o0) _ ⟨hHeld,(rp_ e0),(bp_ b0),(bw_ HB)⟩)
    skip
    have R0:=own_string (P:=Tryz.prog) Tryz.underlying95 Tryz.underlying5 Tryz.underlying9 (Kd.own_of_R e0.out)
    refine value_ (w1:=?_) (v:=?_) (by rfl) rfl ?_ ?_
    rotate_left 2
    ·go_simp
     constructor
     ·rfl
     ·rfl
    clear R0
    refine hK.out _ _ ⟨bc_ b0 0,bc_ b0 1,bc_ b0 2⟩ (fun hHeld=>?_)
    clear hK K
    refine norm_ (a':=?_) ?_ ?_
    rotate_left
    ·show Act.put _ (some 25) _=_
     simp only [Act.put,sia_,scz_,scs_,i64_w,i32_w]
     rfl
    exact norm_ (by first|(simp only [putAll,Act.put,sia_,scz_,scs_];done)|(simp only [putAll,Act.put,sia_,scz_,scs_];rfl)) (J0 (o0) _ ⟨hHeld,(rp_ e0),(bp_ b0),(bw_ HB)⟩)
   rintro o0 a2 ⟨hS_,p0,q0,v0⟩
   (try dsimp only at hS_ p0 q0 v0)
   clear b0;clear HB;have e0:=mk_ p0;have b0:=mk_ q0;have HB:=mk_ v0;clear p0 q0 v0;have hHeld:=hS_
   refine norm_ (a':=?_) ?_ ?_
   rotate_left
   ·simp only [putAll,Act.put,sia_,scz_,scs_]
    rfl
   refine pv_ 12 26 ?_
   refine pv_ 15 29 ?_
   refine pv_ 16 4 ?_
   refine pv_ 17 5 ?_
   refine done_ (done_of HT_.out (by kernel_rfl)) ?_
   try go_wp2
   go_ret2
   exact⟨er_,bw_ HB⟩
def spec_ReadEntry.f (k:Nat) (a0:ByteArray):Option (Int × Int × Int × ByteArray × Bool):=(spec_l05Take.f a0 0 false 1).bind fun g0=>((spec_l05Var.f k g0.2.1 g0.2.2.1 g0.2.2.2).bind fun d0=>((spec_l05Var.f k d0.2.1 d0.2.2.1 d0.2.2.2).bind fun e0=>((spec_l05Take.f e0.2.1 e0.2.2.1 e0.2.2.2 1).bind fun b0=>(if b0.2.2.2=true then(some (0,0,0,(⟨#[]⟩:ByteArray),false)) else(if 0<(b0.1.size:Int) then(if 0≤b0.2.2.1 then(if b0.2.2.1≤(a0.size:Int) then((spec_EntryText.f k d0.1 e0.1 (wrap64 (bt b0.1 0)) (a0.extract (b0.2.2.1:Int).toNat a0.size)).bind fun h0=>(if h0.2=true then(if h0.1.toList=a0.toList then(some (d0.1,e0.1,wrap64 (bt b0.1 0),a0.extract (b0.2.2.1:Int).toNat a0.size,true)) else(some (0,0,0,(⟨#[]⟩:ByteArray),false))) else(some (0,0,0,(⟨#[]⟩:ByteArray),false)))) else(none)) else(none)) else(none))))))
theorem spec_ReadEntry.calls (k:Nat) (a0:ByteArray) (r1:Int) (r2:Int) (r3:Int) (r4:ByteArray) (r5:Bool) (w:World) (h:spec_ReadEntry.f k a0=some (r1,r2,r3,r4,r5)):
  Calls Tryz.prog 73 #[.string a0] w fun e w'=>e= .returned (.tuple #[.int .i64 r1,.agg #[.int .i64 r2,.int .i64 r3,.string r4],.bool r5])∧Below w.heap.size w w':=by
 have M4:=Tryz.underlying105
 have N4:=Tryz.underlying100
 have HB:=mk_ (Below.refl w.heap.size w)
 have H:=h
 unfold spec_ReadEntry.f at H
 clear h
 obtain⟨⟨n1,M0,N0,O0⟩,A2,H⟩:=ob_ H
 try dsimp only at H
 obtain⟨⟨U0,t0,v0,x0⟩,A3,H⟩:=ob_ H
 try dsimp only at H
 obtain⟨⟨y0,P0,Q0,R0⟩,A4,H⟩:=ob_ H
 try dsimp only at H
 obtain⟨⟨p0,V0,s0,G4⟩,A5,H⟩:=ob_ H
 try dsimp only at H
 by_cases c6:G4=true
 ·subst c6
  rw [if_pos rfl] at H
  simp only [Option.some.injEq,Prod.mk.injEq] at H
  obtain⟨rfl,rfl,rfl,rfl,rfl⟩:=H
  go_enter Tryz.func73,Tryz.ntmps73
  go_wp2_with (first|((with_reducible refine gn_ 3 rfl ?_);refine bv_ (cs:=#[.int .i64 0,.int .i64 0,.string (⟨#[]⟩:ByteArray)]) (t:=105) HB ?_;clear HB;intro q0 w7 d0 W0 HB)|((with_reducible refine gn_ 13 rfl ?_);refine bx_ (N:=13) (cs:=#[.string a0,.int .i64 0,.bool false]) (t:=100) ?_;intro g0 hg w8 hbox hb;have C0:Aside0 (w.heap.size≤g0):=bz_ hg;have X0:=C0;have e0:=bl_ d0 hg;have A0:=bg_ d0 hg;have b0:=mk_ ((⟨hbox,(by rw [hg];exact(below_size (bw_ HB)):w.heap.size≤g0)⟩:IsS100 w w8 g0 a0 0 false));replace d0:=bb_ d0 hb;replace HB:=bs_ HB hb;clear hb hbox hg)|((with_reducible refine gc_ 69 rfl ?_);refine gm_ 15 Tryz.func69 (spec_l05Take.calls g0 a0 0 false 1 n1 M0 N0 O0 w _ ?side1 ?side2 A2.out) ?_;(case side1=>exact IsS100.ii_ b0);(case side2=>exact bwi_ HB (IsS100.ge b0.out));rintro w9 ⟨hi,hb,hk⟩;replace d0:=kz_ d0 hk e0;replace HB:=mk_ (hb);replace b0:=mk_ (hi);(try clear hb);(try clear hk);(try clear hi))|((with_reducible refine gc_ 70 rfl ?_);refine gm_ 17 Tryz.func70 (spec_l05Var.calls k g0 M0 N0 O0 U0 t0 v0 x0 w _ ?side1 ?side2 A3.out) ?_;(case side1=>exact IsS100.ii_ b0);(case side2=>exact bwi_ HB (IsS100.ge b0.out));rintro R5 ⟨hi,hb,hk⟩;replace d0:=kz_ d0 hk e0;replace HB:=mk_ (hb);replace b0:=mk_ (hi);(try clear hb);(try clear hk);(try clear hi))|((with_reducible refine gn_ 7 rfl ?_);refine bx_ (N:=7) (cs:=#[.int .i64 0,.int .i64 0,.string (⟨#[]⟩:ByteArray)]) (t:=105) ?_;intro m0 hg U5 hbox hb;have K0:=mk_ (IsS100.below (IsS100.ii_ b0) hb);have F0:=mk_ (below_step (bwi_ HB (IsS100.ge b0.out)) hb);have L0:=mk_ (hbox);have Y0:=mk_ ((by rw [hg];exact(below_size (bwi_ HB (IsS100.ge b0.out))):w.heap.size≤m0));have Z0:=mk_ ((by rw [hg];exact(below_size (bwi_ HB (IsS100.ge b0.out))):w.heap.size≤m0));have a1:Aside0 (q0≠m0):=bl_ d0 hg;have b1:Aside0 (m0≠q0):=bg_ d0 hg;have d1:=mk_ ((by rw [hg];exact Nat.ne_of_lt (IsS100.lt (show IsS100 w _ g0 t0 v0 x0 from IsS100.ii_ b0)):g0≠m0));have e1:=mk_ ((by rw [hg];exact Nat.ne_of_gt (IsS100.lt (show IsS100 w _ g0 t0 v0 x0 from IsS100.ii_ b0)):m0≠g0));clear b0;clear HB;have b0:=K0;have HB:=F0;have h0:=L0;have g1:=Y0;have m1:=Z0;have r0:=a1;have o0:=b1;have B0:=d1;have n0:=e1;clear K0 F0 L0 Y0 Z0 a1 b1 d1 e1;replace d0:=bb_ d0 hb;clear hb hbox hg;obtain⟨O4,P4⟩:=ns_ o0;obtain⟨Q4,R4⟩:=ns_ n0;obtain⟨H1,I1,J1,K1,L1,M1⟩:=b3_ h0)|((with_reducible refine gc_ 70 rfl ?_);refine gm_ 20 Tryz.func70 (spec_l05Var.calls k g0 t0 v0 x0 y0 P0 Q0 R0 w _ ?side1 ?side2 A4.out) ?_;(case side1=>exact IsS100.ii_ b0);(case side2=>exact bwi_ HB (IsS100.ge b0.out));rintro V5 ⟨hi,hb,hk⟩;replace d0:=kq_ d0 hk e0;replace h0:=kU_ h0 #[.int .i64 0,.int .i64 0,.string (⟨#[]⟩:ByteArray)] hk n0;replace HB:=mk_ (hb);replace b0:=mk_ (hi);(try clear hb);(try clear hk);(try clear hi);obtain⟨N1,O1,P1,Q1,R1,U1⟩:=b3_ h0)|((with_reducible refine gc_ 69 rfl ?_);refine gm_ 23 Tryz.func69 (spec_l05Take.calls g0 P0 Q0 R0 1 p0 V0 s0 true w _ ?side1 ?side2 A5.out) ?_;(case side1=>exact IsS100.ii_ b0);(case side2=>exact bwi_ HB (IsS100.ge b0.out));rintro W5 ⟨hi,hb,hk⟩;replace d0:=kq_ d0 hk e0;replace h0:=kU_ h0 #[.int .i64 y0,.int .i64 0,.string (⟨#[]⟩:ByteArray)] hk n0;replace HB:=mk_ (hb);replace b0:=mk_ (hi);(try clear hb);(try clear hk);(try clear hi);obtain⟨G0,t1⟩:=b0.out;have V1:=cellS100_0 G0;have W1:=cellS100_1 G0;have X1:=cellS100_2 G0;have Y1:=blk_frozen G0 0;have Z1:=blk_frozen G0 1;have a2:=blk_frozen G0 2;clear G0 t1;obtain⟨U4,V4⟩:=ns_ e0;obtain⟨b2,d2,e2,g2,h2,l2⟩:=b3_ d0))
  refine bodyPost_ret (results_list (rs:=[.tmp 2,.cell 3 105,.tmp 4]) rfl (by simp) (.tmp (.cell q0 105 #[.int .i64 0,.int .i64 0,.string (⟨#[]⟩:ByteArray)] (0,0) _ rfl bu_ Tryz.underlying105 rfl (by kernel_rfl) (.tmp .nil)))) rfl ?_
  exact⟨er_,bwi_ HB (IsS100.ge b0.out)⟩
 replace c6:=Bool.eq_false_iff.mpr c6
 subst c6
 rw [if_neg (show ¬(false=true) by decide)] at H
 obtain⟨W4,H⟩:=gd_ H
 have X4:=decide_eq_true W4
 have Y4:decide (0<p0.size)=true:=decide_eq_true (by omega)
 clear W4
 obtain⟨H4,H⟩:=gd_ H
 have Z4:=eq_true H4
 have a5:=decide_eq_true H4
 clear H4
 obtain⟨I4,H⟩:=gd_ H
 have b5:=eq_true I4
 have d5:=decide_eq_true I4
 clear I4
 obtain⟨⟨o1,J4⟩,K4,H⟩:=ob_ H
 try dsimp only at H
 by_cases m2:J4=true
 rotate_left
 ·replace m2:=Bool.eq_false_iff.mpr m2
  subst m2
  rw [if_neg (show ¬(false=true) by decide)] at H
  simp only [Option.some.injEq,Prod.mk.injEq] at H
  obtain⟨rfl,rfl,rfl,rfl,rfl⟩:=H
  go_enter Tryz.func73,Tryz.ntmps73
  go_wp2_with (first|((with_reducible refine gn_ 3 rfl ?_);refine bv_ (cs:=#[.int .i64 0,.int .i64 0,.string (⟨#[]⟩:ByteArray)]) (t:=105) HB ?_;clear HB;intro q0 X5 d0 W0 HB)|((with_reducible refine gn_ 13 rfl ?_);refine bx_ (N:=13) (cs:=#[.string a0,.int .i64 0,.bool false]) (t:=100) ?_;intro g0 hg H5 hbox hb;have C0:Aside0 (w.heap.size≤g0):=bz_ hg;have X0:=C0;have e0:=bl_ d0 hg;have A0:=bg_ d0 hg;have b0:=mk_ ((⟨hbox,(by rw [hg];exact(below_size (bw_ HB)):w.heap.size≤g0)⟩:IsS100 w H5 g0 a0 0 false));replace d0:=bb_ d0 hb;replace HB:=bs_ HB hb;clear hb hbox hg)|((with_reducible refine gc_ 69 rfl ?_);refine gm_ 15 Tryz.func69 (spec_l05Take.calls g0 a0 0 false 1 n1 M0 N0 O0 w _ ?side1 ?side2 A2.out) ?_;(case side1=>exact IsS100.ii_ b0);(case side2=>exact bwi_ HB (IsS100.ge b0.out));rintro w64 ⟨hi,hb,hk⟩;replace d0:=kz_ d0 hk e0;replace HB:=mk_ (hb);replace b0:=mk_ (hi);(try clear hb);(try clear hk);(try clear hi))|((with_reducible refine gc_ 70 rfl ?_);refine gm_ 17 Tryz.func70 (spec_l05Var.calls k g0 M0 N0 O0 U0 t0 v0 x0 w _ ?side1 ?side2 A3.out) ?_;(case side1=>exact IsS100.ii_ b0);(case side2=>exact bwi_ HB (IsS100.ge b0.out));rintro Y5 ⟨hi,hb,hk⟩;replace d0:=kz_ d0 hk e0;replace HB:=mk_ (hb);replace b0:=mk_ (hi);(try clear hb);(try clear hk);(try clear hi))|((with_reducible refine gn_ 7 rfl ?_);refine bx_ (N:=7) (cs:=#[.int .i64 0,.int .i64 0,.string (⟨#[]⟩:ByteArray)]) (t:=105) ?_;intro m0 hg Z5 hbox hb;have K0:=mk_ (IsS100.below (IsS100.ii_ b0) hb);have F0:=mk_ (below_step (bwi_ HB (IsS100.ge b0.out)) hb);have L0:=mk_ (hbox);have Y0:=mk_ ((by rw [hg];exact(below_size (bwi_ HB (IsS100.ge b0.out))):w.heap.size≤m0));have Z0:=mk_ ((by rw [hg];exact(below_size (bwi_ HB (IsS100.ge b0.out))):w.heap.size≤m0));have a1:Aside0 (q0≠m0):=bl_ d0 hg;have b1:Aside0 (m0≠q0):=bg_ d0 hg;have d1:=mk_ ((by rw [hg];exact Nat.ne_of_lt (IsS100.lt (show IsS100 w _ g0 t0 v0 x0 from IsS100.ii_ b0)):g0≠m0));have e1:=mk_ ((by rw [hg];exact Nat.ne_of_gt (IsS100.lt (show IsS100 w _ g0 t0 v0 x0 from IsS100.ii_ b0)):m0≠g0));clear b0;clear HB;have b0:=K0;have HB:=F0;have h0:=L0;have g1:=Y0;have m1:=Z0;have r0:=a1;have o0:=b1;have B0:=d1;have n0:=e1;clear K0 F0 L0 Y0 Z0 a1 b1 d1 e1;replace d0:=bb_ d0 hb;clear hb hbox hg;obtain⟨e5,g5⟩:=ns_ o0;obtain⟨h5,j5⟩:=ns_ n0;obtain⟨n2,o2,q2,s2,t2,v2⟩:=b3_ h0)|((with_reducible refine gc_ 70 rfl ?_);refine gm_ 20 Tryz.func70 (spec_l05Var.calls k g0 t0 v0 x0 y0 P0 Q0 R0 w _ ?side1 ?side2 A4.out) ?_;(case side1=>exact IsS100.ii_ b0);(case side2=>exact bwi_ HB (IsS100.ge b0.out));rintro a6 ⟨hi,hb,hk⟩;replace d0:=kq_ d0 hk e0;replace h0:=kU_ h0 #[.int .i64 0,.int .i64 0,.string (⟨#[]⟩:ByteArray)] hk n0;replace HB:=mk_ (hb);replace b0:=mk_ (hi);(try clear hb);(try clear hk);(try clear hi);obtain⟨w2,x2,y2,B2,C2,D2⟩:=b3_ h0)|((with_reducible refine gc_ 69 rfl ?_);refine gm_ 23 Tryz.func69 (spec_l05Take.calls g0 P0 Q0 R0 1 p0 V0 s0 false w _ ?side1 ?side2 A5.out) ?_;(case side1=>exact IsS100.ii_ b0);(case side2=>exact bwi_ HB (IsS100.ge b0.out));rintro I5 ⟨hi,hb,hk⟩;replace d0:=kq_ d0 hk e0;replace h0:=kU_ h0 #[.int .i64 y0,.int .i64 0,.string (⟨#[]⟩:ByteArray)] hk n0;replace HB:=mk_ (hb);replace b0:=mk_ (hi);(try clear hb);(try clear hk);(try clear hi);obtain⟨H0,v1⟩:=b0.out;have F2:=cellS100_0 H0;have G2:=cellS100_1 H0;have H2:=cellS100_2 H0;have I2:=blk_frozen H0 0;have J2:=blk_frozen H0 1;have K2:=blk_frozen H0 2;clear H0 v1;have x1:0≤(0:Int):=(by omega);have p1:0<p0.size:=(by have:(0:Int)<(p0.size:Int):=od_;omega);have y1:∀h:0<p0.size,((p0[0]'h).toNat:Int)=bt p0 0:=bt_at p0 0;clear x1;have A1:(0<(p0.size:Int))=True:=eq_true (od_);replace p1:=eq_true p1;obtain⟨L2,M2,N2,O2,P2,Q2⟩:=b3_ h0)|((with_reducible refine gc_ 98 rfl ?_);refine gm_ 43 Tryz.func98 (spec_EntryText.calls k U0 y0 (wrap64 (bt p0 0)) (a0.extract (s0:Int).toNat a0.size) o1 false _ K4.out) ?_;rintro b6 hb;have q1:=mk_ (blk_below (g:=q0) (o:= .cells #[.int .i64 0,.int .i64 0,.string (⟨#[]⟩:ByteArray)] 105 (0,0)) bf_ hb);have K0:=mk_ (IsS100.below (show IsS100 w ((I5.setCell ⟨m0,1,none⟩ (.int .i64 (wrap64 (bt p0 0)))).setCell ⟨m0,2,none⟩ (.string (a0.extract (s0:Int).toNat a0.size))) g0 V0 s0 false from IsS100.ii_ b0) hb);have F0:=mk_ (blk_below (g:=m0) (o:= .cells #[.int .i64 y0,.int .i64 (wrap64 (bt p0 0)),.string (a0.extract (s0:Int).toNat a0.size)] 105 (0,0)) bu_ hb);have L0:=mk_ (below_step (bwi_ HB (IsS100.ge b0.out)) hb);clear d0;clear b0;clear h0;clear HB;have d0:=q1;have b0:=K0;have h0:=F0;have HB:=L0;clear q1 K0 F0 L0;(try clear hb);(try clear hk);(try clear hi);obtain⟨l5,m5⟩:=ns_ e0;obtain⟨R2,U2,V2,W2,X2,Y2⟩:=b3_ d0))
  refine bodyPost_ret (results_list (rs:=[.tmp 2,.cell 3 105,.tmp 4]) rfl (by simp) (.tmp (.cell q0 105 #[.int .i64 0,.int .i64 0,.string (⟨#[]⟩:ByteArray)] (0,0) _ rfl bu_ Tryz.underlying105 rfl (by kernel_rfl) (.tmp .nil)))) rfl ?_
  exact⟨er_,bwi_ HB (IsS100.ge b0.out)⟩
 subst m2
 rw [if_pos rfl] at H
 by_cases s1:o1.toList=a0.toList
 rotate_left
 ·rw [if_neg s1] at H
  have C1:=beq_eq_false_iff_ne.mpr s1
  have D1:=bne_iff_ne.mpr s1
  simp only [Option.some.injEq,Prod.mk.injEq] at H
  obtain⟨rfl,rfl,rfl,rfl,rfl⟩:=H
  go_enter Tryz.func73,Tryz.ntmps73
  go_wp2_with (first|((with_reducible refine gn_ 3 rfl ?_);refine bv_ (cs:=#[.int .i64 0,.int .i64 0,.string (⟨#[]⟩:ByteArray)]) (t:=105) HB ?_;clear HB;intro q0 d6 d0 W0 HB)|((with_reducible refine gn_ 13 rfl ?_);refine bx_ (N:=13) (cs:=#[.string a0,.int .i64 0,.bool false]) (t:=100) ?_;intro g0 hg J5 hbox hb;have C0:Aside0 (w.heap.size≤g0):=bz_ hg;have X0:=C0;have e0:=bl_ d0 hg;have A0:=bg_ d0 hg;have b0:=mk_ ((⟨hbox,(by rw [hg];exact(below_size (bw_ HB)):w.heap.size≤g0)⟩:IsS100 w J5 g0 a0 0 false));replace d0:=bb_ d0 hb;replace HB:=bs_ HB hb;clear hb hbox hg)|((with_reducible refine gc_ 69 rfl ?_);refine gm_ 15 Tryz.func69 (spec_l05Take.calls g0 a0 0 false 1 n1 M0 N0 O0 w _ ?side1 ?side2 A2.out) ?_;(case side1=>exact IsS100.ii_ b0);(case side2=>exact bwi_ HB (IsS100.ge b0.out));rintro e6 ⟨hi,hb,hk⟩;replace d0:=kz_ d0 hk e0;replace HB:=mk_ (hb);replace b0:=mk_ (hi);(try clear hb);(try clear hk);(try clear hi))|((with_reducible refine gc_ 70 rfl ?_);refine gm_ 17 Tryz.func70 (spec_l05Var.calls k g0 M0 N0 O0 U0 t0 v0 x0 w _ ?side1 ?side2 A3.out) ?_;(case side1=>exact IsS100.ii_ b0);(case side2=>exact bwi_ HB (IsS100.ge b0.out));rintro g6 ⟨hi,hb,hk⟩;replace d0:=kz_ d0 hk e0;replace HB:=mk_ (hb);replace b0:=mk_ (hi);(try clear hb);(try clear hk);(try clear hi))|((with_reducible refine gn_ 7 rfl ?_);refine bx_ (N:=7) (cs:=#[.int .i64 0,.int .i64 0,.string (⟨#[]⟩:ByteArray)]) (t:=105) ?_;intro m0 hg h6 hbox hb;have K0:=mk_ (IsS100.below (IsS100.ii_ b0) hb);have F0:=mk_ (below_step (bwi_ HB (IsS100.ge b0.out)) hb);have L0:=mk_ (hbox);have Y0:=mk_ ((by rw [hg];exact(below_size (bwi_ HB (IsS100.ge b0.out))):w.heap.size≤m0));have Z0:=mk_ ((by rw [hg];exact(below_size (bwi_ HB (IsS100.ge b0.out))):w.heap.size≤m0));have a1:Aside0 (q0≠m0):=bl_ d0 hg;have b1:Aside0 (m0≠q0):=bg_ d0 hg;have d1:=mk_ ((by rw [hg];exact Nat.ne_of_lt (IsS100.lt (show IsS100 w _ g0 t0 v0 x0 from IsS100.ii_ b0)):g0≠m0));have e1:=mk_ ((by rw [hg];exact Nat.ne_of_gt (IsS100.lt (show IsS100 w _ g0 t0 v0 x0 from IsS100.ii_ b0)):m0≠g0));clear b0;clear HB;have b0:=K0;have HB:=F0;have h0:=L0;have g1:=Y0;have m1:=Z0;have r0:=a1;have o0:=b1;have B0:=d1;have n0:=e1;clear K0 F0 L0 Y0 Z0 a1 b1 d1 e1;replace d0:=bb_ d0 hb;clear hb hbox hg;obtain⟨o5,p5⟩:=ns_ o0;obtain⟨q5,s5⟩:=ns_ n0;obtain⟨Z2,a3,b3,d3,e3,g3⟩:=b3_ h0)|((with_reducible refine gc_ 70 rfl ?_);refine gm_ 20 Tryz.func70 (spec_l05Var.calls k g0 t0 v0 x0 y0 P0 Q0 R0 w _ ?side1 ?side2 A4.out) ?_;(case side1=>exact IsS100.ii_ b0);(case side2=>exact bwi_ HB (IsS100.ge b0.out));rintro j6 ⟨hi,hb,hk⟩;replace d0:=kq_ d0 hk e0;replace h0:=kU_ h0 #[.int .i64 0,.int .i64 0,.string (⟨#[]⟩:ByteArray)] hk n0;replace HB:=mk_ (hb);replace b0:=mk_ (hi);(try clear hb);(try clear hk);(try clear hi);obtain⟨h3,j3,l3,m3,n3,o3⟩:=b3_ h0)|((with_reducible refine gc_ 69 rfl ?_);refine gm_ 23 Tryz.func69 (spec_l05Take.calls g0 P0 Q0 R0 1 p0 V0 s0 false w _ ?side1 ?side2 A5.out) ?_;(case side1=>exact IsS100.ii_ b0);(case side2=>exact bwi_ HB (IsS100.ge b0.out));rintro K5 ⟨hi,hb,hk⟩;replace d0:=kq_ d0 hk e0;replace h0:=kU_ h0 #[.int .i64 y0,.int .i64 0,.string (⟨#[]⟩:ByteArray)] hk n0;replace HB:=mk_ (hb);replace b0:=mk_ (hi);(try clear hb);(try clear hk);(try clear hi);obtain⟨I0,F1⟩:=b0.out;have q3:=cellS100_0 I0;have s3:=cellS100_1 I0;have t3:=cellS100_2 I0;have v3:=blk_frozen I0 0;have w3:=blk_frozen I0 1;have x3:=blk_frozen I0 2;clear I0 F1;have x1:0≤(0:Int):=(by omega);have p1:0<p0.size:=(by have:(0:Int)<(p0.size:Int):=od_;omega);have y1:∀h:0<p0.size,((p0[0]'h).toNat:Int)=bt p0 0:=bt_at p0 0;clear x1;have A1:(0<(p0.size:Int))=True:=eq_true (od_);replace p1:=eq_true p1;obtain⟨y3,C3,D3,F3,G3,H3⟩:=b3_ h0)|((with_reducible refine gc_ 98 rfl ?_);refine gm_ 43 Tryz.func98 (spec_EntryText.calls k U0 y0 (wrap64 (bt p0 0)) (a0.extract (s0:Int).toNat a0.size) o1 true _ K4.out) ?_;rintro l6 hb;have q1:=mk_ (blk_below (g:=q0) (o:= .cells #[.int .i64 0,.int .i64 0,.string (⟨#[]⟩:ByteArray)] 105 (0,0)) bf_ hb);have K0:=mk_ (IsS100.below (show IsS100 w ((K5.setCell ⟨m0,1,none⟩ (.int .i64 (wrap64 (bt p0 0)))).setCell ⟨m0,2,none⟩ (.string (a0.extract (s0:Int).toNat a0.size))) g0 V0 s0 false from IsS100.ii_ b0) hb);have F0:=mk_ (blk_below (g:=m0) (o:= .cells #[.int .i64 y0,.int .i64 (wrap64 (bt p0 0)),.string (a0.extract (s0:Int).toNat a0.size)] 105 (0,0)) bu_ hb);have L0:=mk_ (below_step (bwi_ HB (IsS100.ge b0.out)) hb);clear d0;clear b0;clear h0;clear HB;have d0:=q1;have b0:=K0;have h0:=F0;have HB:=L0;clear q1 K0 F0 L0;(try clear hb);(try clear hk);(try clear hi);obtain⟨t5,v5⟩:=ns_ e0;obtain⟨I3,J3,K3,L3,M3,N3⟩:=b3_ d0))
  refine bodyPost_ret (results_list (rs:=[.tmp 2,.cell 3 105,.tmp 4]) rfl (by simp) (.tmp (.cell q0 105 #[.int .i64 0,.int .i64 0,.string (⟨#[]⟩:ByteArray)] (0,0) _ rfl bu_ Tryz.underlying105 rfl (by kernel_rfl) (.tmp .nil)))) rfl ?_
  exact⟨er_,bwi_ HB (IsS100.ge b0.out)⟩
 rw [if_pos s1] at H
 have C1:=beq_iff_eq.mpr s1
 have D1:=bne_eq_false_iff_eq.mpr s1
 clear s1
 simp only [Option.some.injEq,Prod.mk.injEq] at H
 obtain⟨rfl,rfl,rfl,rfl,rfl⟩:=H
 go_enter Tryz.func73,Tryz.ntmps73
 try go_wp2_with (first|((with_reducible refine gn_ 3 rfl ?_);refine bv_ (cs:=#[.int .i64 0,.int .i64 0,.string (⟨#[]⟩:ByteArray)]) (t:=105) HB ?_;clear HB;intro q0 m6 d0 W0 HB)|((with_reducible refine gn_ 13 rfl ?_);refine bx_ (N:=13) (cs:=#[.string a0,.int .i64 0,.bool false]) (t:=100) ?_;intro g0 hg L5 hbox hb;have C0:Aside0 (w.heap.size≤g0):=bz_ hg;have X0:=C0;have e0:=bl_ d0 hg;have A0:=bg_ d0 hg;have b0:=mk_ ((⟨hbox,(by rw [hg];exact(below_size (bw_ HB)):w.heap.size≤g0)⟩:IsS100 w L5 g0 a0 0 false));replace d0:=bb_ d0 hb;replace HB:=bs_ HB hb;clear hb hbox hg)|((with_reducible refine gc_ 69 rfl ?_);refine gm_ 15 Tryz.func69 (spec_l05Take.calls g0 a0 0 false 1 n1 M0 N0 O0 w _ ?side1 ?side2 A2.out) ?_;(case side1=>exact IsS100.ii_ b0);(case side2=>exact bwi_ HB (IsS100.ge b0.out));rintro o6 ⟨hi,hb,hk⟩;replace d0:=kz_ d0 hk e0;replace HB:=mk_ (hb);replace b0:=mk_ (hi);(try clear hb);(try clear hk);(try clear hi))|((with_reducible refine gc_ 70 rfl ?_);refine gm_ 17 Tryz.func70 (spec_l05Var.calls k g0 M0 N0 O0 U0 t0 v0 x0 w _ ?side1 ?side2 A3.out) ?_;(case side1=>exact IsS100.ii_ b0);(case side2=>exact bwi_ HB (IsS100.ge b0.out));rintro p6 ⟨hi,hb,hk⟩;replace d0:=kz_ d0 hk e0;replace HB:=mk_ (hb);replace b0:=mk_ (hi);(try clear hb);(try clear hk);(try clear hi))|((with_reducible refine gn_ 7 rfl ?_);refine bx_ (N:=7) (cs:=#[.int .i64 0,.int .i64 0,.string (⟨#[]⟩:ByteArray)]) (t:=105) ?_;intro m0 hg q6 hbox hb;have K0:=mk_ (IsS100.below (IsS100.ii_ b0) hb);have F0:=mk_ (below_step (bwi_ HB (IsS100.ge b0.out)) hb);have L0:=mk_ (hbox);have Y0:=mk_ ((by rw [hg];exact(below_size (bwi_ HB (IsS100.ge b0.out))):w.heap.size≤m0));have Z0:=mk_ ((by rw [hg];exact(below_size (bwi_ HB (IsS100.ge b0.out))):w.heap.size≤m0));have a1:Aside0 (q0≠m0):=bl_ d0 hg;have b1:Aside0 (m0≠q0):=bg_ d0 hg;have d1:=mk_ ((by rw [hg];exact Nat.ne_of_lt (IsS100.lt (show IsS100 w _ g0 t0 v0 x0 from IsS100.ii_ b0)):g0≠m0));have e1:=mk_ ((by rw [hg];exact Nat.ne_of_gt (IsS100.lt (show IsS100 w _ g0 t0 v0 x0 from IsS100.ii_ b0)):m0≠g0));clear b0;clear HB;have b0:=K0;have HB:=F0;have h0:=L0;have g1:=Y0;have m1:=Z0;have r0:=a1;have o0:=b1;have B0:=d1;have n0:=e1;clear K0 F0 L0 Y0 Z0 a1 b1 d1 e1;replace d0:=bb_ d0 hb;clear hb hbox hg;obtain⟨w5,x5⟩:=ns_ o0;obtain⟨y5,C5⟩:=ns_ n0;obtain⟨O3,P3,Q3,R3,U3,V3⟩:=b3_ h0)|((with_reducible refine gc_ 70 rfl ?_);refine gm_ 20 Tryz.func70 (spec_l05Var.calls k g0 t0 v0 x0 y0 P0 Q0 R0 w _ ?side1 ?side2 A4.out) ?_;(case side1=>exact IsS100.ii_ b0);(case side2=>exact bwi_ HB (IsS100.ge b0.out));rintro r6 ⟨hi,hb,hk⟩;replace d0:=kq_ d0 hk e0;replace h0:=kU_ h0 #[.int .i64 0,.int .i64 0,.string (⟨#[]⟩:ByteArray)] hk n0;replace HB:=mk_ (hb);replace b0:=mk_ (hi);(try clear hb);(try clear hk);(try clear hi);obtain⟨W3,X3,Y3,Z3,a4,b4⟩:=b3_ h0)|((with_reducible refine gc_ 69 rfl ?_);refine gm_ 23 Tryz.func69 (spec_l05Take.calls g0 P0 Q0 R0 1 p0 V0 s0 false w _ ?side1 ?side2 A5.out) ?_;(case side1=>exact IsS100.ii_ b0);(case side2=>exact bwi_ HB (IsS100.ge b0.out));rintro M5 ⟨hi,hb,hk⟩;replace d0:=kq_ d0 hk e0;replace h0:=kU_ h0 #[.int .i64 y0,.int .i64 0,.string (⟨#[]⟩:ByteArray)] hk n0;replace HB:=mk_ (hb);replace b0:=mk_ (hi);(try clear hb);(try clear hk);(try clear hi);obtain⟨J0,G1⟩:=b0.out;have d4:=cellS100_0 J0;have e4:=cellS100_1 J0;have g4:=cellS100_2 J0;have h4:=blk_frozen J0 0;have j4:=blk_frozen J0 1;have l4:=blk_frozen J0 2;clear J0 G1;have x1:0≤(0:Int):=(by omega);have p1:0<p0.size:=(by have:(0:Int)<(p0.size:Int):=od_;omega);have y1:∀h:0<p0.size,((p0[0]'h).toNat:Int)=bt p0 0:=bt_at p0 0;clear x1;have A1:(0<(p0.size:Int))=True:=eq_true (od_);replace p1:=eq_true p1;obtain⟨m4,o4,q4,s4,t4,v4⟩:=b3_ h0)|((with_reducible refine gc_ 98 rfl ?_);refine gm_ 43 Tryz.func98 (spec_EntryText.calls k U0 y0 (wrap64 (bt p0 0)) (a0.extract (s0:Int).toNat a0.size) o1 true _ K4.out) ?_;rintro N5 hb;have q1:=mk_ (blk_below (g:=q0) (o:= .cells #[.int .i64 0,.int .i64 0,.string (⟨#[]⟩:ByteArray)] 105 (0,0)) bf_ hb);have K0:=mk_ (IsS100.below (show IsS100 w ((M5.setCell ⟨m0,1,none⟩ (.int .i64 (wrap64 (bt p0 0)))).setCell ⟨m0,2,none⟩ (.string (a0.extract (s0:Int).toNat a0.size))) g0 V0 s0 false from IsS100.ii_ b0) hb);have F0:=mk_ (blk_below (g:=m0) (o:= .cells #[.int .i64 y0,.int .i64 (wrap64 (bt p0 0)),.string (a0.extract (s0:Int).toNat a0.size)] 105 (0,0)) bu_ hb);have L0:=mk_ (below_step (bwi_ HB (IsS100.ge b0.out)) hb);clear d0;clear b0;clear h0;clear HB;have d0:=q1;have b0:=K0;have h0:=F0;have HB:=L0;clear q1 K0 F0 L0;(try clear hb);(try clear hk);(try clear hi)))
 have F0:=mk_ (IsS100.drew b0.out)
 clear b0;have b0:=F0;clear F0;replace d0:=kd_ d0;replace h0:=kd_ h0;replace HB:=wd_ HB
 refine start_ (n:=5) (S:=fun w'=>w'.cell? ⟨m0,0,none⟩=some (.int .i64 y0)∧w'.cell? ⟨m0,1,none⟩=some (.int .i64 (wrap64 (bt p0 0)))∧w'.cell? ⟨m0,2,none⟩=some (.string (a0.extract (s0:Int).toNat a0.size))) (ds:=[]) #[false,false,false,false,false] (by kernel_rfl) rfl rfl ⟨bc_ h0 0,bc_ h0 1,bc_ h0 2⟩ (fun hHeld=>?_)
 generalize N5.drew=L4 at d0 h0 b0 HB hHeld⊢
 refine pv_ 0 54 ?_
 refine pv_ 2 2 ?_
 refine tv_ 1 55 hHeld ?_
 refine one_ (i:=3) (N:=none) #[true,true,true,true,false] rfl rfl (by kernel_rfl) (by decide) (fun K hK=>?_)
 have O5:L4.cell? ⟨q0,0,none⟩=some (.int .i64 0):=bc_ d0 0
 have D5:=blk_frozen d0.out 0
 have w4:=o0.out
 have x4:=r0.out
 have P5:L4.cell? ⟨q0,1,none⟩=some (.int .i64 0):=bc_ d0 1
 have F5:=blk_frozen d0.out 1
 have y4:=o0.out
 have C4:=r0.out
 have Q5:L4.cell? ⟨q0,2,none⟩=some (.string (⟨#[]⟩:ByteArray)):=bc_ d0 2
 have G5:=blk_frozen d0.out 2
 have D4:=o0.out
 have F4:=r0.out
 refine skip_ (w1:=?_) (by rfl) rfl ?_ ?_
 rotate_left
 ·go_simp
  rfl
 refine hK.out _ _ ⟨(cf_ o0 hHeld.1),(cf_ o0 hHeld.2.1),(cf_ o0 hHeld.2.2)⟩ (fun hHeld=>?_)
 clear hK K
 refine pv_ 4 4 ?_
 refine done_ (by kernel_rfl) ?_
 try go_wp2
 refine bodyPost_ret (results_list (rs:=[.tmp 2,.cell 3 105,.tmp 4]) rfl (by simp) (.tmp (.cell q0 105 #[.int .i64 y0,.int .i64 (wrap64 (bt p0 0)),.string (a0.extract (s0:Int).toNat a0.size)] (0,0) _ rfl bu_ Tryz.underlying105 rfl (by kernel_rfl) (.tmp .nil)))) rfl ?_
 exact⟨er_,bwi_ HB (IsS100.ge b0.out)⟩
def spec_l06Last.f (a0:Int) (d0:Int) (b0:List (S105)):Option (Int):=some (wrap64 (a0+(b0.length:Int)))
theorem spec_l06Last.calls (e0:Int) (g0:Int) (h0:Option Addr) (m0:Nat) (a0:List (S105)) (r:Int) (w:World) (b0:Kd.C k105 w h0 a0.length a0) (d0:a0.length≤m0) (h:spec_l06Last.f e0 g0 a0=some r):
  Calls Tryz.prog 99 #[.agg #[.int .i64 e0,.int .i64 g0,.slice h0 a0.length m0]] w fun e w'=>e= .returned (.int .i64 r)∧Below w.heap.size w w':=by
 have B0:=Tryz.underlying28
 have v0:=Aside0.mk b0
 have x0:=Aside0.mk d0
 clear b0 d0
 have HB:=mk_ (Below.refl w.heap.size w)
 have H:=h
 unfold spec_l06Last.f at H
 clear h
 obtain rfl:=Option.some.inj H
 go_enter Tryz.func99,Tryz.ntmps99
 go_wp2_with (first|((with_reducible refine gn_ 1 rfl ?_);refine bv_ (cs:=#[.int .i64 e0,.int .i64 g0,.slice h0 a0.length m0]) (t:=28) HB ?_;clear HB;intro y0 w2 n0 A0 HB;obtain⟨o0,p0,q0,r0,s0,t0⟩:=b3_ n0))
 go_ret
 exact⟨er_,bw_ HB⟩
end Go.Proofs.YtolakamimfhcjaaGreatDoor.QFnExactOpenJournal
