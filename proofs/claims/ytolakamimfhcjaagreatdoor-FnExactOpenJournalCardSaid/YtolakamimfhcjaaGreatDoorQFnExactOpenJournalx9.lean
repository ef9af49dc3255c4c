/- Written by this session's own program: what the law's functions come to, and that the machine's calls do just that. -/
import Derived.Test.YtolakamimfhcjaaGreatDoorQFnExactOpenJournalx8
namespace Go.Proofs.YtolakamimfhcjaaGreatDoor.QFnExactOpenJournal
open Go.RowKit Go.Proofs.YtolakamimfhcjaaGreatDoorW.PrintWords Go.Proofs.YtolakamimfhcjaaGreatDoorW.PrintLast Go.Proofs.YtolakamimfhcjaaGreatDoorW.PrintMore
attribute [local go_sem] Go.Proofs.YtolakamimfhcjaaGreatDoor.Sem.string_geq Go.Proofs.YtolakamimfhcjaaGreatDoor.Sem.string_leq Go.Proofs.YtolakamimfhcjaaGreatDoor.Sem.string_gtr
attribute [local go_sem] max2_int min2_int max_two min_two max_three min_three max_four min_four
set_option linter.unusedVariables false
set_option linter.unusedSimpArgs false
set_option maxHeartbeats 8000000
set_option maxRecDepth 100000
def spec_l07More.f (k:Nat) (a1 a2 a3 a4:Int) (l:List S105) (t:ByteArray):Option ((Int × Int × Int × Int × List S105) × Bool):=
 (spec_l07Two.f k t (⟨#[72]⟩:ByteArray)).bind fun b=>if b.2.2=true then
  ((spec_l01In.f b.1 0 100000).bind fun c=>if c=true then((spec_l01In.f b.2.1 0 4).bind fun d=>if d=true then some ((b.1,b.2.1,a3,a4,l),true) else some ((a1,a2,a3,a4,l),false)) else some ((a1,a2,a3,a4,l),false))
 else((spec_ReadEntry.f k t).bind fun e=>if e.2.2.2.2=true then((spec_LogPut.f k a3 a4 l e.1 e.2.1 e.2.2.1 e.2.2.2.1).bind fun p=>if p.2.2.2=true then some ((a1,a2,p.1,p.2.1,p.2.2.1),true) else some ((a1,a2,a3,a4,l),false)) else some ((a1,a2,a3,a4,l),false))
theorem spec_l07More.head_ (k base:Nat) (ok:Nat→Prop) (g:Nat) (a0 a1 a2 a3 a4:Int) (v:Value) (l:List S105) (t:ByteArray) (w:World) (hB:w.heap[g]? =some (.cells #[.int .i64 a0,.int .i64 a1,.int .i64 a2,.int .i64 a3,.int .i64 a4,v] 30 (0,0)))
  (h:k105.R 105 w base (fun k=>ok k∧k≠g) v l) (hbs:base≤w.heap.size) (b0:base≤g) (b1 b2:Int) (h1:spec_l07Two.f k t (⟨#[72]⟩:ByteArray)=some (b1,b2,true)) (h2:spec_l01In.f b1 0 100000=some true) (h3:spec_l01In.f b2 0 4=some true):
  Calls Tryz.prog 47 #[.pointer (some ⟨g,0,none⟩),.string t] w fun e w'=>e= .returned (.bool true)∧w'.heap[g]? =some (.cells #[.int .i64 a0,.int .i64 b1,.int .i64 b2,.int .i64 a3,.int .i64 a4,v] 30 (0,0))∧k105.R 105 w' base (fun k=>ok k∧k≠g) v l∧Below base w w':=by
 have d0:=Tryz.underlying30
 have e0:=Tryz.underlying28
 have H1:=Aside0.mk h1
 have H2:=Aside0.mk h2
 have H3:=Aside0.mk h3
 have HO:=Aside0.mk h
 have BK:=Aside0.mk hB
 have HG:=Aside0.mk b0
 have HS:=Aside0.mk hbs
 have HB:=mk_ (Below.refl w.heap.size w)
 clear h1 h2 h3 h hB b0 hbs
 obtain⟨c0,c1,c2,c3,c4,c5,f0,f1,f2,f3,f4,f5⟩:=b6_ BK
 go_enter Tryz.func47,Tryz.ntmps47
 go_wp2_with (first
  |(go_at_call 45;(with_reducible refine(spec_l07Two.calls k t _ b1 b2 true _ H1.out).mono ?_);rintro e w1 ⟨rfl,hb⟩;replace BK:=bb_ BK hb;replace HO:=rb_ HO hb;replace HB:=bs_ HB hb;clear hb c0 c1 c2 c3 c4 c5 f0 f1 f2 f3 f4 f5;obtain⟨c0,c1,c2,c3,c4,c5,f0,f1,f2,f3,f4,f5⟩:=b6_ BK)
  |(go_at_call 41;(with_reducible refine(spec_l01In.calls b1 0 100000 true _ H2.out).mono ?_);rintro e w2 ⟨rfl,⟨nd,rfl⟩⟩)
  |(go_at_call 41;(with_reducible refine(spec_l01In.calls b2 0 4 true _ H3.out).mono ?_);rintro e w3 ⟨rfl,⟨h0,rfl⟩⟩))
 go_ret
 have g0:Below base w w1:=⟨HB.out.os,HB.out.tape,HB.out.output,HB.out.size,fun k hk=>HB.out.block k (Nat.lt_of_lt_of_le hk HS.out)⟩
 exact⟨rfl,bu_,Kd.R_move HO.out (fun k hk=>(Below.heap_setCell _ _ _ _ hk.2).trans (Below.heap_setCell _ _ _ _ hk.2)),((pw_below_drewN g0 _).setCell HG.out _).setCell HG.out _⟩
theorem spec_l07More.no_ (k base:Nat) (ok:Nat→Prop) (g:Nat) (a0 a1 a2 a3 a4:Int) (v:Value) (l:List S105) (t:ByteArray) (w:World) (hB:w.heap[g]? =some (.cells #[.int .i64 a0,.int .i64 a1,.int .i64 a2,.int .i64 a3,.int .i64 a4,v] 30 (0,0)))
  (h:k105.R 105 w base (fun k=>ok k∧k≠g) v l) (hbs:base≤w.heap.size) (h0:base≤g) (b1 b2:Int) (r:Bool) (h1:spec_l07Two.f k t (⟨#[72]⟩:ByteArray)=some (b1,b2,r)) (hn:r=true∧spec_l01In.f b1 0 100000=some false∨r=true∧spec_l01In.f b1 0 100000=some true∧spec_l01In.f b2 0 4=some false∨r=false∧∃e1 e2 e3 e4,spec_ReadEntry.f k t=some (e1,e2,e3,e4,false)):
  Calls Tryz.prog 47 #[.pointer (some ⟨g,0,none⟩),.string t] w fun e w'=>e= .returned (.bool false)∧w'.heap[g]? =some (.cells #[.int .i64 a0,.int .i64 a1,.int .i64 a2,.int .i64 a3,.int .i64 a4,v] 30 (0,0))∧k105.R 105 w' base (fun k=>ok k∧k≠g) v l∧Below base w w':=by
 have n0:=Tryz.underlying30
 have o0:=Tryz.underlying28
 have H1:=Aside0.mk h1
 have HO:=Aside0.mk h
 have BK:=Aside0.mk hB
 have HG:=Aside0.mk h0
 have HS:=Aside0.mk hbs
 have HB:=mk_ (Below.refl w.heap.size w)
 clear h1 h hB h0 hbs
 obtain⟨c0,c1,c2,c3,c4,c5,f0,f1,f2,f3,f4,f5⟩:=b6_ BK
 rcases hn with ⟨rfl,h2⟩|⟨rfl,h2,h3⟩|⟨rfl,e1,e2,e3,e4,h2⟩
 ·have H2:=Aside0.mk h2
  clear h2
  go_enter Tryz.func47,Tryz.ntmps47
  go_wp2_with (first|(go_at_call 45;(with_reducible refine(spec_l07Two.calls k t _ b1 b2 _ _ H1.out).mono ?_);rintro e w1 ⟨rfl,hb⟩;replace BK:=bb_ BK hb;replace HO:=rb_ HO hb;replace HB:=bs_ HB hb;clear hb c0 c1 c2 c3 c4 c5 f0 f1 f2 f3 f4 f5;obtain⟨c0,c1,c2,c3,c4,c5,f0,f1,f2,f3,f4,f5⟩:=b6_ BK)|(go_at_call 41;(with_reducible refine(spec_l01In.calls b1 0 100000 false _ H2.out).mono ?_);rintro e w2 ⟨rfl,⟨nd,rfl⟩⟩))
  go_ret
  have b0:Below base w w1:=⟨HB.out.os,HB.out.tape,HB.out.output,HB.out.size,fun k hk=>HB.out.block k (Nat.lt_of_lt_of_le hk HS.out)⟩
  exact⟨rfl,bf_,HO.out,pw_below_drewN b0 _⟩
 ·have H2:=Aside0.mk h2
  have H3:=Aside0.mk h3
  clear h2 h3
  go_enter Tryz.func47,Tryz.ntmps47
  go_wp2_with (first|(go_at_call 45;(with_reducible refine(spec_l07Two.calls k t _ b1 b2 _ _ H1.out).mono ?_);rintro e w1 ⟨rfl,hb⟩;replace BK:=bb_ BK hb;replace HO:=rb_ HO hb;replace HB:=bs_ HB hb;clear hb c0 c1 c2 c3 c4 c5 f0 f1 f2 f3 f4 f5;obtain⟨c0,c1,c2,c3,c4,c5,f0,f1,f2,f3,f4,f5⟩:=b6_ BK)|(go_at_call 41;(with_reducible refine(spec_l01In.calls b1 0 100000 true _ H2.out).mono ?_);rintro e w2 ⟨rfl,⟨nd,rfl⟩⟩)|(go_at_call 41;(with_reducible refine(spec_l01In.calls b2 0 4 false _ H3.out).mono ?_);rintro e w2 ⟨rfl,⟨p0,rfl⟩⟩))
  go_ret
  have b0:Below base w w1:=⟨HB.out.os,HB.out.tape,HB.out.output,HB.out.size,fun k hk=>HB.out.block k (Nat.lt_of_lt_of_le hk HS.out)⟩
  exact⟨rfl,bf_,HO.out,pw_below_drewN b0 _⟩
 ·have H2:=Aside0.mk h2
  clear h2
  have m0:=Tryz.underlying105
  go_enter Tryz.func47,Tryz.ntmps47
  go_wp2_with (first|(go_at_call 45;(with_reducible refine(spec_l07Two.calls k t _ b1 b2 _ _ H1.out).mono ?_);rintro e w1 ⟨rfl,hb⟩;replace BK:=bb_ BK hb;replace HO:=rb_ HO hb;replace HB:=bs_ HB hb;clear hb c0 c1 c2 c3 c4 c5 f0 f1 f2 f3 f4 f5;obtain⟨c0,c1,c2,c3,c4,c5,f0,f1,f2,f3,f4,f5⟩:=b6_ BK)|(go_at_call 73;(with_reducible refine(spec_ReadEntry.calls k t e1 e2 e3 e4 _ _ H2.out).mono ?_);rintro e w2 ⟨rfl,hb⟩;replace BK:=bb_ BK hb;replace HO:=rb_ HO hb;replace HB:=bs_ HB hb;clear hb c0 c1 c2 c3 c4 c5 f0 f1 f2 f3 f4 f5;obtain⟨c0,c1,c2,c3,c4,c5,f0,f1,f2,f3,f4,f5⟩:=b6_ BK)|((with_reducible refine gn_ 9 rfl ?_);refine bx_ (N:=9) (cs:=#[.int .i64 0,.int .i64 0,.string ⟨#[]⟩]) (t:=105) ?_;intro ge hg w3 hbox hb;have BE:=Aside0.mk hbox;have GE:Aside0 (w.heap.size≤ge):=bz_ hg;have NKE:=bl_ BK hg;replace BK:=bb_ BK hb;replace HO:Aside0 (k105.R 105 w3 base (fun k=>(ok k∧k≠g)∧k≠ge) v l):=⟨Kd.R_below (Kd.R_mono (Kd.R_bound HO.out) (fun k hk=>⟨hk.1,by have:=hk.2.2.1;omega⟩)) hb⟩;replace HB:=bs_ HB hb;clear hb hbox hg c0 c1 c2 c3 c4 c5 f0 f1 f2 f3 f4 f5;obtain⟨c0,c1,c2,c3,c4,c5,f0,f1,f2,f3,f4,f5⟩:=b6_ BK;obtain⟨d0,d1,d2,g0,g1,g2⟩:=b3_ BE))
  go_ret
  have e0:Below w.heap.size w w3:=HB.out
  have b0:Below base w w3:=⟨e0.os,e0.tape,e0.output,e0.size,fun k hk=>e0.block k (Nat.lt_of_lt_of_le hk HS.out)⟩
  have hge:base≤ge:=Nat.le_trans HS.out GE.out
  exact⟨rfl,bf_,Kd.R_mono (Kd.R_move HO.out (fun k hk=>(Below.heap_setCell _ _ _ _ hk.2).trans ((Below.heap_setCell _ _ _ _ hk.2).trans (Below.heap_setCell _ _ _ _ hk.2)))) (fun _ hk=>hk.1),((b0.setCell hge _).setCell hge _).setCell hge _⟩
theorem low_ {w W0 W W1:World} (h0:Aside0 (Below w.heap.size w W0)) (hb:Below W.heap.size W W1)
  (h:Below w.heap.size w W:=by repeat(first|(with_reducible first|exact Aside0.out (by assumption)|apply below_alloc|apply pw_below_drewN|apply below_drew1|refine below_set ?_ (Aside0.out (by assumption)))|exact Aside0.out (by assumption))):w.heap.size≤W.heap.size:=below_size h
theorem rk_ {α:Type} {d:Kd α} {e:Nat} {w W:World} {base g:Nat} {ok:Nat→Prop} {v:Value} {xs:List α} (h:d.R e w base (fun k=>ok k∧k≠g) v xs)
  (hW:∀k,k≠g→W.heap[k]? =w.heap[k]? :=by intro k_ hk_;repeat(first|(with_reducible exact rfl)|refine(Below.heap_setCell _ _ _ _ hk_).trans ?_)):d.R e W base (fun k=>ok k∧k≠g) v xs:=Kd.R_move h (fun k hk=>hW k hk.2)
theorem spec_l07More.entry_ (k base:Nat) (ok:Nat→Prop) (g:Nat) (a0 a1 a2 a3 a4:Int) (v:Value) (l:List S105) (t:ByteArray) (w:World) (hB:w.heap[g]? =some (.cells #[.int .i64 a0,.int .i64 a1,.int .i64 a2,.int .i64 a3,.int .i64 a4,v] 30 (0,0)))
  (h:k105.R 105 w base (fun k=>ok k∧k≠g) v l) (hbs:base≤w.heap.size) (e0:base≤g) (hfresh:∀k,w.heap.size≤k→ok k) (b1 b2:Int) (h1:spec_l07Two.f k t (⟨#[72]⟩:ByteArray)=some (b1,b2,false)) (e1 e2 e3:Int) (e4:ByteArray) (h2:spec_ReadEntry.f k t=some (e1,e2,e3,e4,true)) (p1 p2:Int) (m:List S105) (r:Bool) (h3:spec_LogPut.f k a3 a4 l e1 e2 e3 e4=some (p1,p2,m,r)):
  Calls Tryz.prog 47 #[.pointer (some ⟨g,0,none⟩),.string t] w fun e w'=>e= .returned (.bool r)∧∃v',w'.heap[g]? =some (.cells #[.int .i64 a0,.int .i64 a1,.int .i64 a2,.int .i64 (if r=true then p1 else a3),.int .i64 (if r=true then p2 else a4),v'] 30 (0,0))∧k105.R 105 w' base (fun k=>ok k∧k≠g) v' (if r=true then m else l)∧Below base w w':=by
 have n0:=Tryz.underlying30
 have o0:=Tryz.underlying28
 have h0:=Tryz.underlying105
 obtain⟨A,c,rfl⟩:=Kd.R_slice h
 have H1:=Aside0.mk h1
 have H2:=Aside0.mk h2
 have H3:=Aside0.mk h3
 have HO:=Aside0.mk h
 have BK:=Aside0.mk hB
 have HG:=Aside0.mk e0
 have HS:=Aside0.mk hbs
 have HF:=Aside0.mk hfresh
 have HL:=mk_ (blk_lt hB)
 have HB:=mk_ (Below.refl w.heap.size w)
 clear h1 h2 h3 h hB e0 hbs hfresh
 obtain⟨c0,c1,c2,c3,c4,c5,f0,f1,f2,f3,f4,f5⟩:=b6_ BK
 go_enter Tryz.func47,Tryz.ntmps47
 go_wp2_with (first
  |(go_at_call 45;(with_reducible refine(spec_l07Two.calls k t _ b1 b2 _ _ H1.out).mono ?_);rintro e w1 ⟨rfl,hb⟩;replace BK:=bb_ BK hb;replace HO:=rb_ HO hb;replace HB:=bs_ HB hb;clear hb c0 c1 c2 c3 c4 c5 f0 f1 f2 f3 f4 f5;obtain⟨c0,c1,c2,c3,c4,c5,f0,f1,f2,f3,f4,f5⟩:=b6_ BK)
  |(go_at_call 73;(with_reducible refine(spec_ReadEntry.calls k t e1 e2 e3 e4 _ _ H2.out).mono ?_);rintro e w2 ⟨rfl,hb⟩;replace BK:=bb_ BK hb;replace HO:=rb_ HO hb;replace HB:=bs_ HB hb;clear hb c0 c1 c2 c3 c4 c5 f0 f1 f2 f3 f4 f5;obtain⟨c0,c1,c2,c3,c4,c5,f0,f1,f2,f3,f4,f5⟩:=b6_ BK)
  |((with_reducible refine gn_ 9 rfl ?_);refine bx_ (N:=9) (cs:=#[.int .i64 0,.int .i64 0,.string ⟨#[]⟩]) (t:=105) ?_;intro ge hg w3 hbox hb;have BE:=Aside0.mk hbox;have GE:Aside0 (w.heap.size≤ge):=bz_ hg;have NKE:=bl_ BK hg;replace BK:=bb_ BK hb;replace HO:Aside0 (k105.R 105 w3 base (fun k=>(ok k∧k≠g)∧k≠ge) (.slice A l.length c) l):=⟨Kd.R_below (Kd.R_mono (Kd.R_bound HO.out) (fun k hk=>⟨hk.1,by have:=hk.2.2.1;omega⟩)) hb⟩;replace HB:=bs_ HB hb;clear hb hbox hg c0 c1 c2 c3 c4 c5 f0 f1 f2 f3 f4 f5;obtain⟨c0,c1,c2,c3,c4,c5,f0,f1,f2,f3,f4,f5⟩:=b6_ BK;obtain⟨d0,d1,d2,g0,g1,g2⟩:=b3_ BE;have NEK:=mk_ (Ne.symm NKE.out);have p0:=NKE.out;have q0:=NEK.out))
 have qk:(((w3.setCell ⟨ge,0,none⟩ (.int .i64 e2)).setCell ⟨ge,1,none⟩ (.int .i64 e3)).setCell ⟨ge,2,none⟩ (.string e4)).heap[g]? =some (.cells #[.int .i64 a0,.int .i64 a1,.int .i64 a2,.int .i64 a3,.int .i64 a4,.slice A l.length c] 30 (0,0)):=bf_
 have qe:(((w3.setCell ⟨ge,0,none⟩ (.int .i64 e2)).setCell ⟨ge,1,none⟩ (.int .i64 e3)).setCell ⟨ge,2,none⟩ (.string e4)).heap[ge]? =some (.cells #[.int .i64 e2,.int .i64 e3,.string e4] 105 (0,0)):=bu_
 have qh:k105.R 105 (((w3.setCell ⟨ge,0,none⟩ (.int .i64 e2)).setCell ⟨ge,1,none⟩ (.int .i64 e3)).setCell ⟨ge,2,none⟩ (.string e4)) base (fun k=>(ok k∧k≠g)∧k≠ge) (.slice A l.length c) l:=rk_ HO.out
 have qb:Below w.heap.size w (((w3.setCell ⟨ge,0,none⟩ (.int .i64 e2)).setCell ⟨ge,1,none⟩ (.int .i64 e3)).setCell ⟨ge,2,none⟩ (.string e4)):=bw_ HB
 clear HO HB BK BE c0 c1 c2 c3 c4 c5 f0 f1 f2 f3 f4 f5 d0 d1 d2 g0 g1 g2
 generalize (((w3.setCell ⟨ge,0,none⟩ (.int .i64 e2)).setCell ⟨ge,1,none⟩ (.int .i64 e3)).setCell ⟨ge,2,none⟩ (.string e4))=wc at *
 have BK:=mk_ (blk_drew qk)
 have BE:=mk_ (blk_drew qe)
 have HO:=mk_ (Kd.R_drew qh)
 have HB:=mk_ (below_drew1 qb)
 clear qk qe qh qb
 refine start_ (n:=13) (S:=fun w'=>w'.cell? ⟨g,3,none⟩=some (.int .i64 a3)∧w'.cell? ⟨g,4,none⟩=some (.int .i64 a4)∧w'.cell? ⟨g,5,none⟩=some (.slice A l.length c)∧w'.cell? ⟨ge,0,none⟩=some (.int .i64 e2)∧w'.cell? ⟨ge,1,none⟩=some (.int .i64 e3)∧w'.cell? ⟨ge,2,none⟩=some (.string e4)) (ds:=[11]) #[false,false,false,false,false,false,false,false,false,false,false,false,false] (by kernel_rfl) rfl rfl ⟨bc_ BK 3,bc_ BK 4,bc_ BK 5,bc_ BE 0,bc_ BE 1,bc_ BE 2⟩ (fun hHeld=>?_)
 generalize wc.drew=wd at BK BE HO HB hHeld⊢
 refine pv_ 0 45 ?_
 refine pv_ 1 46 ?_
 refine pv_ 2 47 ?_
 refine pv_ 4 49 ?_
 refine tv_ 3 48 hHeld ?_
 refine tv_ 5 50 hHeld ?_
 refine join_ (σ:=(Option Addr × Nat) × Nat) 2 #[true,true,true,true,true,true,true,true,true,true,true,false,false] (fun s_=>[(51,.tuple #[.agg #[.int .i64 p1,.int .i64 p2,.slice s_.1.1 m.length s_.1.2],.bool r]),(11,.pointer (some ⟨s_.2,0,none⟩)),(44,.tuple #[.agg #[.int .i64 p1,.int .i64 p2,.slice s_.1.1 m.length s_.1.2],.bool r]),(52,.agg #[.int .i64 p1,.int .i64 p2,.slice s_.1.1 m.length s_.1.2]),(53,.bool r)]) (fun s_ w'=>(w'.cell? ⟨g,3,none⟩=some (.int .i64 a3)∧w'.cell? ⟨g,4,none⟩=some (.int .i64 a4)∧w'.cell? ⟨g,5,none⟩=some (.slice A l.length c)∧w'.cell? ⟨ge,0,none⟩=some (.int .i64 e2)∧w'.cell? ⟨ge,1,none⟩=some (.int .i64 e3)∧w'.cell? ⟨ge,2,none⟩=some (.string e4))∧(k105.R 105 w' base (fun k=>(ok k∧k≠g)∧k≠s_.2) (.slice s_.1.1 m.length s_.1.2) m)∧(k105.R 105 w' base (fun k=>((ok k∧k≠g)∧k≠ge)∧k≠s_.2) (.slice A l.length c) l)∧(w'.heap[g]? =some (.cells #[.int .i64 a0,.int .i64 a1,.int .i64 a2,.int .i64 a3,.int .i64 a4,.slice A l.length c] 30 (0,0)))∧(w'.heap[ge]? =some (.cells #[.int .i64 e2,.int .i64 e3,.string e4] 105 (0,0)))∧(w'.heap[s_.2]? =some (.cells #[.int .i64 0,.int .i64 0,.slice none 0 0] 28 (0,0)))∧(w.heap.size≤s_.2)∧(g≠s_.2)∧(ge≠s_.2)∧(Below w.heap.size w w')) ?_ ?_
 rotate_left
 ·intro hCont
  refine two_ (i:=6) (j:=10) (Ni:=some 51) (Nj:=some 11) #[true,true,true,true,true,true,true,false,false,false,false,false,false] #[true,true,true,true,true,true,false,false,false,false,true,false,false] rfl rfl rfl rfl (by kernel_rfl) (by decide) (by decide) (fun K hK=>?_) (fun K hK=>?_)
  ·skip
   refine goes_ Tryz.func74 (by kernel_rfl) rfl #[.agg #[.int .i64 a3,.int .i64 a4,.slice A l.length c],.int .i64 e1,.agg #[.int .i64 e2,.int .i64 e3,.string e4]] (by rfl) rfl rfl ga_ ?_
   with_reducible refine(spec_LogPut.calls k a3 a4 A c l e1 e2 e3 e4 p1 p2 m r _ ?side1 ?side2 H3.out).mono ?_
   (case side1=>exact(Kd.R_reads' HO.out).2.2)
   (case side2=>exact(Kd.R_reads' HO.out).2.1)
   rintro e w5 ⟨v2,rfl,ho,hb⟩
   obtain⟨A2,cm,rfl⟩:=Kd.R_slice ho
   refine⟨_,rfl,?_⟩
   have hWs:=low_ HB hb
   have HN:Aside0 (k105.R 105 w5 base (fun k=>ok k∧k≠g) (.slice A2 m.length cm) m):=⟨Kd.R_lower (Kd.R_mono (Kd.R_bound ho) (fun k hk=>⟨HF.out k (Nat.le_trans hWs hk.2.1),fun e=>by have h1:=HL.out;have h2:=Nat.le_trans hWs hk.2.1;omega⟩)) (Nat.le_trans HS.out hWs)⟩
   replace BK:=bb_ BK hb
   replace BE:=bb_ BE hb
   replace HO:=rb_ HO hb
   replace HB:=bs_ HB hb
   clear hb ho hWs
   refine hK.out _ _ ⟨bc_ BK 3,bc_ BK 4,bc_ BK 5,bc_ BE 0,bc_ BE 1,bc_ BE 2⟩ (fun hHeld=>?_)
   clear hK K
   refine norm_ (a':=?_) ?_ ?_
   rotate_left
   ·show Act.put _ (some 51) _=_
    simp only [Act.put,sia_,scz_,scs_,i64_w,i32_w]
    rfl
   refine pv_ 7 44 ?_
   refine pv_ 8 52 ?_
   refine pv_ 9 53 ?_
   refine one_ (i:=10) (N:=some 11) #[true,true,true,true,true,true,true,true,true,true,true,false,false] rfl rfl (by kernel_rfl) (by decide) (fun K hK=>?_)
   refine box_step ?hg (N:=11) ?hd (cs:=#[.int .i64 0,.int .i64 0,.slice none 0 0]) (t:=28) ?hr ?_;(case hd=>rfl);(case hg=>rfl);(case hr=>first|(go_simp;done)|(go_simp;rfl))
   intro gl hg w6 hbox hb
   have BL:=Aside0.mk hbox
   have GL:Aside0 (w.heap.size≤gl):=bz_ hg
   have NKL:=bl_ BK hg
   have NEL:=bl_ BE hg
   replace HN:Aside0 (k105.R 105 w6 base (fun k=>(ok k∧k≠g)∧k≠gl) (.slice A2 m.length cm) m):=⟨Kd.R_below (Kd.R_mono (Kd.R_bound HN.out) (fun k hk=>⟨hk.1,by have:=hk.2.2.1;omega⟩)) hb⟩
   replace HO:Aside0 (k105.R 105 w6 base (fun k=>((ok k∧k≠g)∧k≠ge)∧k≠gl) (.slice A l.length c) l):=⟨Kd.R_below (Kd.R_mono (Kd.R_bound HO.out) (fun k hk=>⟨hk.1,by have:=hk.2.2.1;omega⟩)) hb⟩
   replace BK:=bb_ BK hb
   replace BE:=bb_ BE hb
   replace HB:=bs_ HB hb
   clear hb hbox hg
   refine hK.out _ _ ⟨bc_ BK 3,bc_ BK 4,bc_ BK 5,bc_ BE 0,bc_ BE 1,bc_ BE 2⟩ (fun hHeld=>?_)
   clear hK K
   refine norm_ (a':=?_) ?_ ?_
   rotate_left
   ·show Act.put _ (some 11) _=_
    simp only [Act.put,sia_,scz_,scs_,i64_w,i32_w]
    rfl
   exact norm_ (by simp only [putAll,Act.put,sia_,scz_,scs_]) (hCont ((A2,cm),gl) _ ⟨hHeld,HN.out,HO.out,BK.out,BE.out,BL.out,GL.out,NKL.out,NEL.out,HB.out⟩)
  ·skip
   refine box_step ?hg (N:=11) ?hd (cs:=#[.int .i64 0,.int .i64 0,.slice none 0 0]) (t:=28) ?hr ?_;(case hd=>rfl);(case hg=>rfl);(case hr=>first|(go_simp;done)|(go_simp;rfl))
   intro gl hg w6 hbox hb
   have BL:=Aside0.mk hbox
   have GL:Aside0 (w.heap.size≤gl):=bz_ hg
   have NKL:=bl_ BK hg
   have NEL:=bl_ BE hg
   replace HO:Aside0 (k105.R 105 w6 base (fun k=>((ok k∧k≠g)∧k≠ge)∧k≠gl) (.slice A l.length c) l):=⟨Kd.R_below (Kd.R_mono (Kd.R_bound HO.out) (fun k hk=>⟨hk.1,by have:=hk.2.2.1;omega⟩)) hb⟩
   replace BK:=bb_ BK hb
   replace BE:=bb_ BE hb
   replace HB:=bs_ HB hb
   clear hb hbox hg
   refine hK.out _ _ ⟨bc_ BK 3,bc_ BK 4,bc_ BK 5,bc_ BE 0,bc_ BE 1,bc_ BE 2⟩ (fun hHeld=>?_)
   clear hK K
   refine norm_ (a':=?_) ?_ ?_
   rotate_left
   ·show Act.put _ (some 11) _=_
    simp only [Act.put,sia_,scz_,scs_,i64_w,i32_w]
    rfl
   refine one_ (i:=6) (N:=some 51) #[true,true,true,true,true,true,true,false,false,false,true,false,false] rfl rfl (by kernel_rfl) (by decide) (fun K hK=>?_)
   refine goes_ Tryz.func74 (by kernel_rfl) rfl #[.agg #[.int .i64 a3,.int .i64 a4,.slice A l.length c],.int .i64 e1,.agg #[.int .i64 e2,.int .i64 e3,.string e4]] (by rfl) rfl rfl ga_ ?_
   with_reducible refine(spec_LogPut.calls k a3 a4 A c l e1 e2 e3 e4 p1 p2 m r _ ?side1 ?side2 H3.out).mono ?_
   (case side1=>exact(Kd.R_reads' HO.out).2.2)
   (case side2=>exact(Kd.R_reads' HO.out).2.1)
   rintro e w5 ⟨v2,rfl,ho,hb⟩
   obtain⟨A2,cm,rfl⟩:=Kd.R_slice ho
   refine⟨_,rfl,?_⟩
   have hWs:=low_ HB hb
   have hLl:=blk_lt BL.out
   have HN:Aside0 (k105.R 105 w5 base (fun k=>(ok k∧k≠g)∧k≠gl) (.slice A2 m.length cm) m):=⟨Kd.R_lower (Kd.R_mono (Kd.R_bound ho) (fun k hk=>⟨⟨HF.out k (Nat.le_trans hWs hk.2.1),fun e=>by have h1:=HL.out;have h2:=Nat.le_trans hWs hk.2.1;omega⟩,fun e=>by have h2:=hk.2.1;omega⟩)) (Nat.le_trans HS.out hWs)⟩
   clear hLl
   replace BL:=bb_ BL hb
   replace BK:=bb_ BK hb
   replace BE:=bb_ BE hb
   replace HO:=rb_ HO hb
   replace HB:=bs_ HB hb
   clear hb ho hWs
   refine hK.out _ _ ⟨bc_ BK 3,bc_ BK 4,bc_ BK 5,bc_ BE 0,bc_ BE 1,bc_ BE 2⟩ (fun hHeld=>?_)
   clear hK K
   refine norm_ (a':=?_) ?_ ?_
   rotate_left
   ·show Act.put _ (some 51) _=_
    simp only [Act.put,sia_,scz_,scs_,i64_w,i32_w]
    rfl
   refine pv_ 7 44 ?_
   refine pv_ 8 52 ?_
   refine pv_ 9 53 ?_
   exact norm_ (by simp only [putAll,Act.put,sia_,scz_,scs_]) (hCont ((A2,cm),gl) _ ⟨hHeld,HN.out,HO.out,BK.out,BE.out,BL.out,GL.out,NKL.out,NEL.out,HB.out⟩)
 rintro⟨⟨A2,cm⟩,gl⟩ w7 ⟨hHeld,qn,qo,qk,qe,ql,qg,q1,q2,qb⟩
 clear HO HB BK BE
 have HN:=Aside0.mk qn
 have HO:=Aside0.mk qo
 have BK:=Aside0.mk qk
 have BL:=Aside0.mk ql
 have GL:=Aside0.mk qg
 have NKL:=Aside0.mk q1
 have NLK:=mk_ (Ne.symm q1)
 have HB:=Aside0.mk qb
 clear qn qo qk qe ql qg q1 q2 qb
 refine norm_ (a':=?_) ?_ ?_
 rotate_left
 ·simp only [putAll,Act.put,sia_,scz_,scs_]
  rfl
 refine last_ (i:=11) (N:=none) #[true,true,true,true,true,true,true,true,true,true,true,true,false] rfl rfl (by kernel_rfl) (by decide) (fun K hK=>?_)
 obtain⟨l0,l1,l2,m0,m1,m2⟩:=b3_ BL
 have r0:=NKL.out
 have s0:=NLK.out
 refine skip_ (w1:=?_) (by rfl) rfl ?_ ?_
 rotate_left
 ·go_simp
  rfl
 refine hK.out _ _ ?_
 clear hK K
 refine pv_ 12 12 ?_
 refine done_ (by kernel_rfl) ?_
 clear hHeld l0 l1 l2 m0 m1 m2
 have qk:(((w7.setCell ⟨gl,0,none⟩ (.int .i64 p1)).setCell ⟨gl,1,none⟩ (.int .i64 p2)).setCell ⟨gl,2,none⟩ (.slice A2 m.length cm)).heap[g]? =some (.cells #[.int .i64 a0,.int .i64 a1,.int .i64 a2,.int .i64 a3,.int .i64 a4,.slice A l.length c] 30 (0,0)):=bf_
 have ql:(((w7.setCell ⟨gl,0,none⟩ (.int .i64 p1)).setCell ⟨gl,1,none⟩ (.int .i64 p2)).setCell ⟨gl,2,none⟩ (.slice A2 m.length cm)).heap[gl]? =some (.cells #[.int .i64 p1,.int .i64 p2,.slice A2 m.length cm] 28 (0,0)):=bu_
 have qn:k105.R 105 (((w7.setCell ⟨gl,0,none⟩ (.int .i64 p1)).setCell ⟨gl,1,none⟩ (.int .i64 p2)).setCell ⟨gl,2,none⟩ (.slice A2 m.length cm)) base (fun k=>(ok k∧k≠g)∧k≠gl) (.slice A2 m.length cm) m:=rk_ HN.out
 have qo:k105.R 105 (((w7.setCell ⟨gl,0,none⟩ (.int .i64 p1)).setCell ⟨gl,1,none⟩ (.int .i64 p2)).setCell ⟨gl,2,none⟩ (.slice A2 m.length cm)) base (fun k=>((ok k∧k≠g)∧k≠ge)∧k≠gl) (.slice A l.length c) l:=rk_ HO.out
 have qb:Below w.heap.size w (((w7.setCell ⟨gl,0,none⟩ (.int .i64 p1)).setCell ⟨gl,1,none⟩ (.int .i64 p2)).setCell ⟨gl,2,none⟩ (.slice A2 m.length cm)):=bw_ HB
 clear HO HN HB BK BL
 generalize (((w7.setCell ⟨gl,0,none⟩ (.int .i64 p1)).setCell ⟨gl,1,none⟩ (.int .i64 p2)).setCell ⟨gl,2,none⟩ (.slice A2 m.length cm))=w8 at *
 have BK:=Aside0.mk qk
 have BL:=Aside0.mk ql
 have HN:=Aside0.mk qn
 have HO:=Aside0.mk qo
 have HB:=Aside0.mk qb
 clear qk ql qn qo qb
 obtain⟨c0,c1,c2,c3,c4,c5,f0,f1,f2,f3,f4,f5⟩:=b6_ BK
 obtain⟨l0,l1,l2,m0,m1,m2⟩:=b3_ BL
 cases r
 ·go_wp2
  go_ret
  have b0:Below base w w8:=⟨HB.out.os,HB.out.tape,HB.out.output,HB.out.size,fun k hk=>HB.out.block k (Nat.lt_of_lt_of_le hk HS.out)⟩
  exact⟨rfl,_,bf_,Kd.R_mono HO.out (fun _ hk=>hk.1.1),b0⟩
 ·go_wp2
  go_ret
  have b0:Below base w w8:=⟨HB.out.os,HB.out.tape,HB.out.output,HB.out.size,fun k hk=>HB.out.block k (Nat.lt_of_lt_of_le hk HS.out)⟩
  exact⟨rfl,_,bu_,Kd.R_mono (Kd.R_move HN.out (fun k hk=>(Below.heap_setCell _ _ _ _ hk.1.2).trans ((Below.heap_setCell _ _ _ _ hk.1.2).trans (Below.heap_setCell _ _ _ _ hk.1.2)))) (fun _ hk=>hk.1),((b0.setCell HG.out _).setCell HG.out _).setCell HG.out _⟩
theorem spec_l07More.calls (k base:Nat) (ok:Nat→Prop) (g:Nat) (a0 a1 a2 a3 a4:Int) (v:Value) (l:List S105) (t:ByteArray) (w:World) (hB:w.heap[g]? =some (.cells #[.int .i64 a0,.int .i64 a1,.int .i64 a2,.int .i64 a3,.int .i64 a4,v] 30 (0,0)))
  (h:k105.R 105 w base (fun k=>ok k∧k≠g) v l) (hbs:base≤w.heap.size) (b0:base≤g) (hfresh:∀k,w.heap.size≤k→ok k) (r1 r2 r3 r4:Int) (m:List S105) (r:Bool) (hf:spec_l07More.f k a1 a2 a3 a4 l t=some ((r1,r2,r3,r4,m),r)):
  Calls Tryz.prog 47 #[.pointer (some ⟨g,0,none⟩),.string t] w fun e w'=>e= .returned (.bool r)∧∃v',w'.heap[g]? =some (.cells #[.int .i64 a0,.int .i64 r1,.int .i64 r2,.int .i64 r3,.int .i64 r4,v'] 30 (0,0))∧k105.R 105 w' base (fun k=>ok k∧k≠g) v' m∧Below base w w':=by
 unfold spec_l07More.f at hf
 obtain⟨⟨b1,b2,b3⟩,h1,hf⟩:=Option.bind_eq_some_iff.mp hf
 cases b3 with
 |true=>
  rw [if_pos rfl] at hf
  obtain⟨c,h2,hf⟩:=Option.bind_eq_some_iff.mp hf
  cases c with
  |true=>
   rw [if_pos rfl] at hf
   obtain⟨d,h3,hf⟩:=Option.bind_eq_some_iff.mp hf
   cases d with
   |true=>
    rw [if_pos rfl] at hf
    simp only [Option.some.injEq,Prod.mk.injEq] at hf
    obtain⟨⟨rfl,rfl,rfl,rfl,rfl⟩,rfl⟩:=hf
    exact(spec_l07More.head_ k base ok g a0 a1 a2 a3 a4 v l t w hB h hbs b0 b1 b2 h1 h2 h3).mono (fun e w' hh=>⟨hh.1,v,hh.2⟩)
   |false=>
    rw [if_neg Bool.false_ne_true] at hf
    simp only [Option.some.injEq,Prod.mk.injEq] at hf
    obtain⟨⟨rfl,rfl,rfl,rfl,rfl⟩,rfl⟩:=hf
    exact(spec_l07More.no_ k base ok g a0 a1 a2 a3 a4 v l t w hB h hbs b0 b1 b2 true h1 (.inr (.inl ⟨rfl,h2,h3⟩))).mono (fun e w' hh=>⟨hh.1,v,hh.2⟩)
  |false=>
   rw [if_neg Bool.false_ne_true] at hf
   simp only [Option.some.injEq,Prod.mk.injEq] at hf
   obtain⟨⟨rfl,rfl,rfl,rfl,rfl⟩,rfl⟩:=hf
   exact(spec_l07More.no_ k base ok g a0 a1 a2 a3 a4 v l t w hB h hbs b0 b1 b2 true h1 (.inl ⟨rfl,h2⟩)).mono (fun e w' hh=>⟨hh.1,v,hh.2⟩)
 |false=>
  rw [if_neg Bool.false_ne_true] at hf
  obtain⟨⟨e1,e2,e3,e4,e5⟩,h2,hf⟩:=Option.bind_eq_some_iff.mp hf
  cases e5 with
  |true=>
   rw [if_pos rfl] at hf
   obtain⟨⟨p1,p2,p3,p4⟩,h3,hf⟩:=Option.bind_eq_some_iff.mp hf
   refine(spec_l07More.entry_ k base ok g a0 a1 a2 a3 a4 v l t w hB h hbs b0 hfresh b1 b2 h1 e1 e2 e3 e4 h2 p1 p2 p3 p4 h3).mono (fun e w' hh=>?_)
   cases p4 with
   |true=>
    rw [if_pos rfl] at hf
    simp only [Option.some.injEq,Prod.mk.injEq] at hf
    obtain⟨⟨rfl,rfl,rfl,rfl,rfl⟩,rfl⟩:=hf
    exact hh
   |false=>
    rw [if_neg Bool.false_ne_true] at hf
    simp only [Option.some.injEq,Prod.mk.injEq] at hf
    obtain⟨⟨rfl,rfl,rfl,rfl,rfl⟩,rfl⟩:=hf
    exact hh
  |false=>
   rw [if_neg Bool.false_ne_true] at hf
   simp only [Option.some.injEq,Prod.mk.injEq] at hf
   obtain⟨⟨rfl,rfl,rfl,rfl,rfl⟩,rfl⟩:=hf
   exact(spec_l07More.no_ k base ok g a0 a1 a2 a3 a4 v l t w hB h hbs b0 b1 b2 false h1 (.inr (.inr ⟨rfl,e1,e2,e3,e4,h2⟩))).mono (fun e w' hh=>⟨hh.1,v,hh.2⟩)
def spec_ReadJournal.l0 (ls:List ByteArray):Nat→Int→Int→Int→Int→Int→List S105→Int→Option (Int × Int × Int × Int × List S105 × Int)
 |0,_,_,_,_,_,_,_=>none
 |k+1,i,a1,a2,a3,a4,l,e=>if i<(ls.length:Int) then(if i>0 then((spec_l07More.f k a1 a2 a3 a4 l (rdOf ByteArray.empty ls i)).bind fun m=>if m.2=true then((spec_Frame.f k (rdOf ByteArray.empty ls i)).bind fun f=>spec_ReadJournal.l0 ls k (wrap64 (i+1)) m.1.1 m.1.2.1 m.1.2.2.1 m.1.2.2.2.1 m.1.2.2.2.2 (wrap64 (e+(f.1.size:Int)))) else some (m.1.1,m.1.2.1,m.1.2.2.1,m.1.2.2.2.1,m.1.2.2.2.2,e)) else(if 0≤i then((spec_Frame.f k (rdOf ByteArray.empty ls i)).bind fun f=>spec_ReadJournal.l0 ls k (wrap64 (i+1)) a1 a2 a3 a4 l (wrap64 (e+(f.1.size:Int)))) else none)) else some (a1,a2,a3,a4,l,e)
def spec_ReadJournal.f (k:Nat) (a0:Int) (a1:ByteArray):Option (Int × Int × Int × Int × Int × List S105 × Int × Bool):=(spec_Unframe.f k a1).bind fun u=>(spec_l01In.f a0 0 999).bind fun c=>if c=true then(if(u.1.length:Int)=0 then some (0,0,0,0,0,[],0,false) else((spec_l07Two.f k (rdOf ByteArray.empty u.1 0) (⟨#[66]⟩:ByteArray)).bind fun h=>if h.2.2=true then((spec_LogOk.f k h.1 h.2.1 []).bind fun g=>if g=true then((spec_ReadJournal.l0 u.1 k 0 0 0 h.1 h.2.1 [] 0).bind fun r=>some (a0,r.1,r.2.1,r.2.2.1,r.2.2.2.1,r.2.2.2.2.1,r.2.2.2.2.2,true)) else some (0,0,0,0,0,[],0,false)) else some (0,0,0,0,0,[],0,false))) else some (0,0,0,0,0,[],0,false)
theorem low4_ {w W0 W:World} (h0:Aside0 (Below w.heap.size w W0))
  (h:Below w.heap.size w W:=by repeat(first|(with_reducible first|exact Aside0.out (by assumption)|apply below_alloc|apply pw_below_drewN|apply below_drew1|refine below_set ?_ (Aside0.out (by assumption)))|exact Aside0.out (by assumption))):w.heap.size≤W.heap.size:=below_size h
theorem below_trans_ {w W W1:World} (h0:Below w.heap.size w W) (hb:Below w.heap.size W W1):Below w.heap.size w W1:=⟨hb.os.trans h0.os,hb.tape.trans h0.tape,hb.output.trans h0.output,Nat.le_trans h0.size hb.size,fun k hk=>(hb.block k hk).trans (h0.block k hk)⟩
theorem bt_ {w W0 W W1:World} (h0:Aside0 (Below w.heap.size w W0)) (hb:Below w.heap.size W W1)
  (h:Below w.heap.size w W:=by repeat(first|(with_reducible first|exact Aside0.out (by assumption)|apply below_alloc|apply pw_below_drewN|apply below_drew1|refine below_set ?_ (Aside0.out (by assumption)))|exact Aside0.out (by assumption))):Aside0 (Below w.heap.size w W1):=⟨below_trans_ h hb⟩
theorem spec_ReadJournal.no1_ (k:Nat) (a0:Int) (a1:ByteArray) (w:World) (u1:List ByteArray) (u2:Int) (hu:spec_Unframe.f k a1=some (u1,u2)) (hc:spec_l01In.f a0 0 999=some false):
  Calls Tryz.prog 21 #[.int .i64 a0,.string a1] w fun e w'=>∃b0:Value,e= .returned (.tuple #[.agg #[.int .i64 0,.int .i64 0,.int .i64 0,.int .i64 0,.int .i64 0,b0],.int .i64 0,.bool false])∧Kd.R k105 105 w' w.heap.size (fun _=>True) b0 []∧Below w.heap.size w w':=by
 have n0:=Tryz.underlying30
 have o0:=Tryz.underlying28
 have HU:=Aside0.mk hu
 have HB:=mk_ (Below.refl w.heap.size w)
 clear hu
 have HC:=Aside0.mk hc
 clear hc
 go_enter Tryz.func21,Tryz.ntmps21
 go_wp2_with (first
  |((with_reducible refine gn_ 4 rfl ?_);refine bx_ (N:=4) (cs:=#[.int .i64 0,.int .i64 0,.int .i64 0,.int .i64 0,.int .i64 0,.slice none 0 0]) (t:=30) ?_;intro gr hg w1 hbox hb;have BR:=Aside0.mk hbox;have GR:Aside0 (w.heap.size≤gr):=bz_ hg;replace HB:=bs_ HB hb;clear hb hbox hg;obtain⟨r0,d0,e0,g0,h0,m0,z0,z1,z2,z3,z4,z5⟩:=b6_ BR)
  |(go_at_call 44;(with_reducible refine(spec_Unframe.calls k a1 u1 u2 _ HU.out).mono ?_);rintro e w2 ⟨v0,rfl,ho,hb⟩;obtain⟨A0,c0,rfl⟩:=Kd.R_slice ho;have HR:=mk_ (Kd.R_lower ho (below_size (bw_ HB)));replace BR:=bb_ BR hb;replace HB:=bs_ HB hb;clear hb ho;clear r0 d0 e0 g0 h0 m0 z0 z1 z2 z3 z4 z5;obtain⟨r0,d0,e0,g0,h0,m0,z0,z1,z2,z3,z4,z5⟩:=b6_ BR)
  |(go_at_call 41;(with_reducible refine(spec_l01In.calls a0 0 999 false _ HC.out).mono ?_);rintro e w3 ⟨rfl,⟨nd,rfl⟩⟩))
 refine bodyPost_ret (results_ctt rfl _ _ gr 30 #[.int .i64 0,.int .i64 0,.int .i64 0,.int .i64 0,.int .i64 0,.slice none 0 0] (0,0) _ rfl bu_ Tryz.underlying30 rfl (by kernel_rfl)) rfl ?_
 exact⟨_,rfl,Kd.R_nil _ _ _ _ _,bw_ HB⟩
theorem spec_ReadJournal.no2_ (k:Nat) (a0:Int) (a1:ByteArray) (w:World) (u1:List ByteArray) (u2:Int) (hu:spec_Unframe.f k a1=some (u1,u2)) (hc:spec_l01In.f a0 0 999=some true) (hl:(u1.length:Int)=0):
  Calls Tryz.prog 21 #[.int .i64 a0,.string a1] w fun e w'=>∃b0:Value,e= .returned (.tuple #[.agg #[.int .i64 0,.int .i64 0,.int .i64 0,.int .i64 0,.int .i64 0,b0],.int .i64 0,.bool false])∧Kd.R k105 105 w' w.heap.size (fun _=>True) b0 []∧Below w.heap.size w w':=by
 have n0:=Tryz.underlying30
 have o0:=Tryz.underlying28
 have HU:=Aside0.mk hu
 have HB:=mk_ (Below.refl w.heap.size w)
 clear hu
 have HC:=Aside0.mk hc
 have hlb:((u1.length:Int) == 0)=true:=beq_iff_eq.mpr hl
 have hlc:(u1.length == 0)=true:=by first|simpa using hl|(simp at hl⊢;omega)
 clear hc
 go_enter Tryz.func21,Tryz.ntmps21
 go_wp2_with (first
  |((with_reducible refine gn_ 4 rfl ?_);refine bx_ (N:=4) (cs:=#[.int .i64 0,.int .i64 0,.int .i64 0,.int .i64 0,.int .i64 0,.slice none 0 0]) (t:=30) ?_;intro gr hg w1 hbox hb;have BR:=Aside0.mk hbox;have GR:Aside0 (w.heap.size≤gr):=bz_ hg;replace HB:=bs_ HB hb;clear hb hbox hg;obtain⟨r0,d0,e0,g0,h0,m0,z0,z1,z2,z3,z4,z5⟩:=b6_ BR)
  |(go_at_call 44;(with_reducible refine(spec_Unframe.calls k a1 u1 u2 _ HU.out).mono ?_);rintro e w2 ⟨v0,rfl,ho,hb⟩;obtain⟨A0,c0,rfl⟩:=Kd.R_slice ho;have HR:=mk_ (Kd.R_lower ho (below_size (bw_ HB)));replace BR:=bb_ BR hb;replace HB:=bs_ HB hb;clear hb ho;clear r0 d0 e0 g0 h0 m0 z0 z1 z2 z3 z4 z5;obtain⟨r0,d0,e0,g0,h0,m0,z0,z1,z2,z3,z4,z5⟩:=b6_ BR)
  |(go_at_call 41;(with_reducible refine(spec_l01In.calls a0 0 999 true _ HC.out).mono ?_);rintro e w3 ⟨rfl,⟨nd,rfl⟩⟩))
 refine bodyPost_ret (results_ctt rfl _ _ gr 30 #[.int .i64 0,.int .i64 0,.int .i64 0,.int .i64 0,.int .i64 0,.slice none 0 0] (0,0) _ rfl bu_ Tryz.underlying30 rfl (by kernel_rfl)) rfl ?_
 exact⟨_,rfl,Kd.R_nil _ _ _ _ _,bw_ HB⟩
theorem spec_ReadJournal.no3_ (k:Nat) (a0:Int) (a1:ByteArray) (w:World) (u1:List ByteArray) (u2:Int) (hu:spec_Unframe.f k a1=some (u1,u2)) (hc:spec_l01In.f a0 0 999=some true) (hl:¬(u1.length:Int)=0) (b1 b2:Int) (h2:spec_l07Two.f k (rdOf ByteArray.empty u1 0) (⟨#[66]⟩:ByteArray)=some (b1,b2,false)):
  Calls Tryz.prog 21 #[.int .i64 a0,.string a1] w fun e w'=>∃o0:Value,e= .returned (.tuple #[.agg #[.int .i64 0,.int .i64 0,.int .i64 0,.int .i64 0,.int .i64 0,o0],.int .i64 0,.bool false])∧Kd.R k105 105 w' w.heap.size (fun _=>True) o0 []∧Below w.heap.size w w':=by
 have t0:=Tryz.underlying30
 have x0:=Tryz.underlying28
 have HU:=Aside0.mk hu
 have HB:=mk_ (Below.refl w.heap.size w)
 clear hu
 have HC:=Aside0.mk hc
 have hlb:((u1.length:Int) == 0)=false:=beq_eq_false_iff_ne.mpr hl
 have hlc:(u1.length == 0)=false:=by first|simpa using hl|(simp at hl⊢;omega)
 have H2:=Aside0.mk h2
 have p0:(0:Int)≤0:=Int.le_refl 0
 have q0:(0:Int)<(u1.length:Int):=by omega
 clear hc h2
 go_enter Tryz.func21,Tryz.ntmps21
 go_wp2_with (first
  |((with_reducible refine gn_ 4 rfl ?_);refine bx_ (N:=4) (cs:=#[.int .i64 0,.int .i64 0,.int .i64 0,.int .i64 0,.int .i64 0,.slice none 0 0]) (t:=30) ?_;intro gr hg w1 hbox hb;have BR:=Aside0.mk hbox;have GR:Aside0 (w.heap.size≤gr):=bz_ hg;replace HB:=bs_ HB hb;clear hb hbox hg;obtain⟨r0,b0,d0,g0,h0,m0,z0,z1,z2,z3,z4,z5⟩:=b6_ BR)
  |(go_at_call 44;(with_reducible refine(spec_Unframe.calls k a1 u1 u2 _ HU.out).mono ?_);rintro e w2 ⟨v0,rfl,ho,hb⟩;obtain⟨A0,c0,rfl⟩:=Kd.R_slice ho;have HR:=mk_ (Kd.R_lower ho (below_size (bw_ HB)));replace BR:=bb_ BR hb;replace HB:=bs_ HB hb;clear hb ho;clear r0 b0 d0 g0 h0 m0 z0 z1 z2 z3 z4 z5;obtain⟨r0,b0,d0,g0,h0,m0,z0,z1,z2,z3,z4,z5⟩:=b6_ BR)
  |(go_at_call 41;(with_reducible refine(spec_l01In.calls a0 0 999 true _ HC.out).mono ?_);rintro e w3 ⟨rfl,⟨nd,rfl⟩⟩;obtain⟨ad,e0,n0⟩:=Kd.at_string (Kd.R_reads' HR.out).2.2 0 p0 q0;cases e0;replace n0:=(congrArg w2.cell? (show ad=ad.add (Int.toNat 0) from rfl)).trans n0;have B0:=Aside0.mk n0)
  |(go_at_call 45;(with_reducible refine(spec_l07Two.calls k (rdOf ByteArray.empty u1 0) _ b1 b2 _ _ H2.out).mono ?_);rintro e w4 ⟨rfl,hb⟩;replace BR:=bb_ BR hb;replace HR:=rb_ HR hb;replace HB:=bs_ HB hb;clear hb n0 B0;clear r0 b0 d0 g0 h0 m0 z0 z1 z2 z3 z4 z5;obtain⟨r0,b0,d0,g0,h0,m0,z0,z1,z2,z3,z4,z5⟩:=b6_ BR;have s0:=mk_ (Below.refl w4.heap.size w4);have C0:=BR;have F0:Aside0 (Kd.C Kd.string w4 (some ad) u1.length u1):=⟨(Kd.R_reads' HR.out).2.2⟩;clear HR;have HBW:=HB)
  |((with_reducible refine gn_ 12 rfl ?_);refine bx_ (N:=12) (cs:=#[.int .i64 0,.int .i64 0,.int .i64 0,.int .i64 0,.int .i64 0,.slice none 0 0]) (t:=30) ?_;intro gj hg w5 hbox hb;have BJ:=Aside0.mk hbox;have GJ:Aside0 (w.heap.size≤gj):=bz_ hg;have EJ:Aside0 (gj=w4.heap.size):=⟨hg⟩;have G4:Aside0 (w4.heap.size≤gj):=⟨by rw [EJ.out];exact Nat.le_refl _⟩;replace s0:Aside0 (Below w4.heap.size w4 w5):=bs_ s0 hb;have NRJ:=bl_ BR hg;have NJR:=bg_ BR hg;have G0:=NRJ.out;have H0:=NJR.out;replace BR:=bb_ BR hb;replace HB:=bs_ HB hb;clear hb hbox hg;clear r0 b0 d0 g0 h0 m0 z0 z1 z2 z3 z4 z5;obtain⟨r0,b0,d0,g0,h0,m0,z0,z1,z2,z3,z4,z5⟩:=b6_ BR;obtain⟨j0,j1,j2,j3,j4,j5,y0,y1,y2,y3,y4,y5⟩:=b6_ BJ))
 refine bodyPost_ret (results_ctt rfl _ _ gr 30 #[.int .i64 0,.int .i64 0,.int .i64 0,.int .i64 0,.int .i64 0,.slice none 0 0] (0,0) _ rfl bu_ Tryz.underlying30 rfl (by kernel_rfl)) rfl ?_
 exact⟨_,rfl,Kd.R_nil _ _ _ _ _,bw_ HB⟩
theorem spec_ReadJournal.no4_ (k:Nat) (a0:Int) (a1:ByteArray) (w:World) (u1:List ByteArray) (u2:Int) (hu:spec_Unframe.f k a1=some (u1,u2)) (hc:spec_l01In.f a0 0 999=some true) (hl:¬(u1.length:Int)=0) (b1 b2:Int) (h2:spec_l07Two.f k (rdOf ByteArray.empty u1 0) (⟨#[66]⟩:ByteArray)=some (b1,b2,true)) (h4:spec_LogOk.f k b1 b2 []=some false):
  Calls Tryz.prog 21 #[.int .i64 a0,.string a1] w fun e w'=>∃s0:Value,e= .returned (.tuple #[.agg #[.int .i64 0,.int .i64 0,.int .i64 0,.int .i64 0,.int .i64 0,s0],.int .i64 0,.bool false])∧Kd.R k105 105 w' w.heap.size (fun _=>True) s0 []∧Below w.heap.size w w':=by
 have t0:=Tryz.underlying30
 have x0:=Tryz.underlying28
 have HU:=Aside0.mk hu
 have HB:=mk_ (Below.refl w.heap.size w)
 clear hu
 have HC:=Aside0.mk hc
 have hlb:((u1.length:Int) == 0)=false:=beq_eq_false_iff_ne.mpr hl
 have hlc:(u1.length == 0)=false:=by first|simpa using hl|(simp at hl⊢;omega)
 have H2:=Aside0.mk h2
 have p0:(0:Int)≤0:=Int.le_refl 0
 have q0:(0:Int)<(u1.length:Int):=by omega
 clear hc h2
 have HLK:Aside0 (∀W,Calls Tryz.prog 46 #[.agg #[.int .i64 b1,.int .i64 b2,.slice none 0 0]] W (fun e w'=>e= .returned (.bool false)∧Below W.heap.size W w')):=⟨fun W=>spec_LogOk.calls k b1 b2 none 0 [] false W ((Kd.R_reads' (Kd.R_nil k105 105 W 0 (fun _=>True))).2.2) (Nat.le_refl 0) h4⟩
 clear h4
 go_enter Tryz.func21,Tryz.ntmps21
 go_wp2_with (first
  |((with_reducible refine gn_ 4 rfl ?_);refine bx_ (N:=4) (cs:=#[.int .i64 0,.int .i64 0,.int .i64 0,.int .i64 0,.int .i64 0,.slice none 0 0]) (t:=30) ?_;intro gr hg w1 hbox hb;have BR:=Aside0.mk hbox;have GR:Aside0 (w.heap.size≤gr):=bz_ hg;replace HB:=bs_ HB hb;clear hb hbox hg;obtain⟨r0,b0,d0,g0,h0,m0,z0,z1,z2,z3,z4,z5⟩:=b6_ BR)
  |(go_at_call 44;(with_reducible refine(spec_Unframe.calls k a1 u1 u2 _ HU.out).mono ?_);rintro e w2 ⟨v0,rfl,ho,hb⟩;obtain⟨A0,c0,rfl⟩:=Kd.R_slice ho;have HR:=mk_ (Kd.R_lower ho (below_size (bw_ HB)));replace BR:=bb_ BR hb;replace HB:=bs_ HB hb;clear hb ho;clear r0 b0 d0 g0 h0 m0 z0 z1 z2 z3 z4 z5;obtain⟨r0,b0,d0,g0,h0,m0,z0,z1,z2,z3,z4,z5⟩:=b6_ BR)
  |(go_at_call 41;(with_reducible refine(spec_l01In.calls a0 0 999 true _ HC.out).mono ?_);rintro e w3 ⟨rfl,⟨nd,rfl⟩⟩;obtain⟨ad,e0,n0⟩:=Kd.at_string (Kd.R_reads' HR.out).2.2 0 p0 q0;cases e0;replace n0:=(congrArg w2.cell? (show ad=ad.add (Int.toNat 0) from rfl)).trans n0;have B0:=Aside0.mk n0)
  |(go_at_call 45;(with_reducible refine(spec_l07Two.calls k (rdOf ByteArray.empty u1 0) _ b1 b2 _ _ H2.out).mono ?_);rintro e w4 ⟨rfl,hb⟩;replace BR:=bb_ BR hb;replace HR:=rb_ HR hb;replace HB:=bs_ HB hb;clear hb n0 B0;clear r0 b0 d0 g0 h0 m0 z0 z1 z2 z3 z4 z5;obtain⟨r0,b0,d0,g0,h0,m0,z0,z1,z2,z3,z4,z5⟩:=b6_ BR;have o0:=mk_ (Below.refl w4.heap.size w4);have C0:=BR;have F0:Aside0 (Kd.C Kd.string w4 (some ad) u1.length u1):=⟨(Kd.R_reads' HR.out).2.2⟩;clear HR;have HBW:=HB)
  |((with_reducible refine gn_ 12 rfl ?_);refine bx_ (N:=12) (cs:=#[.int .i64 0,.int .i64 0,.int .i64 0,.int .i64 0,.int .i64 0,.slice none 0 0]) (t:=30) ?_;intro gj hg w5 hbox hb;have BJ:=Aside0.mk hbox;have GJ:Aside0 (w.heap.size≤gj):=bz_ hg;have EJ:Aside0 (gj=w4.heap.size):=⟨hg⟩;have G4:Aside0 (w4.heap.size≤gj):=⟨by rw [EJ.out];exact Nat.le_refl _⟩;replace o0:Aside0 (Below w4.heap.size w4 w5):=bs_ o0 hb;have NRJ:=bl_ BR hg;have NJR:=bg_ BR hg;have G0:=NRJ.out;have H0:=NJR.out;replace BR:=bb_ BR hb;replace HB:=bs_ HB hb;clear hb hbox hg;clear r0 b0 d0 g0 h0 m0 z0 z1 z2 z3 z4 z5;obtain⟨r0,b0,d0,g0,h0,m0,z0,z1,z2,z3,z4,z5⟩:=b6_ BR;obtain⟨j0,j1,j2,j3,j4,j5,y0,y1,y2,y3,y4,y5⟩:=b6_ BJ)
  |(go_at_call 46;(with_reducible refine(HLK.out _).mono ?_);rintro e w6 ⟨rfl,hb⟩;replace BJ:Aside0 (w6.heap[gj]? =some (.cells #[.int .i64 a0,.int .i64 0,.int .i64 0,.int .i64 b1,.int .i64 b2,.slice none 0 0] 30 (0,0))):=⟨blk_below bu_ hb⟩;replace BR:Aside0 (w6.heap[gr]? =some (.cells #[.int .i64 0,.int .i64 0,.int .i64 0,.int .i64 0,.int .i64 0,.slice none 0 0] 30 (0,0))):=⟨blk_below bf_ hb⟩;replace o0:=bs_ o0 hb;replace HB:=bs_ HB hb;clear hb j0 j1 j2 j3 j4 j5 y0 y1 y2 y3 y4 y5;clear r0 b0 d0 g0 h0 m0 z0 z1 z2 z3 z4 z5;obtain⟨r0,b0,d0,g0,h0,m0,z0,z1,z2,z3,z4,z5⟩:=b6_ BR))
 refine bodyPost_ret (results_ctt rfl _ _ gr 30 #[.int .i64 0,.int .i64 0,.int .i64 0,.int .i64 0,.int .i64 0,.slice none 0 0] (0,0) _ rfl bu_ Tryz.underlying30 rfl (by kernel_rfl)) rfl ?_
 exact⟨_,rfl,Kd.R_nil _ _ _ _ _,bw_ HB⟩
theorem spec_ReadJournal.loop_ (k:Nat) (a0:Int) (a1:ByteArray) (w:World) (u1:List ByteArray) (u2:Int) (hu:spec_Unframe.f k a1=some (u1,u2)) (hc:spec_l01In.f a0 0 999=some true) (hl:¬(u1.length:Int)=0) (b1 b2:Int) (h2:spec_l07Two.f k (rdOf ByteArray.empty u1 0) (⟨#[66]⟩:ByteArray)=some (b1,b2,true)) (h4:spec_LogOk.f k b1 b2 []=some true) (q1 q2 q3 q4:Int) (ql:List S105) (qe:Int) (h5:spec_ReadJournal.l0 u1 k 0 0 0 b1 b2 [] 0=some (q1,q2,q3,q4,ql,qe)):
  Calls Tryz.prog 21 #[.int .i64 a0,.string a1] w fun e w'=>∃H0:Value,e= .returned (.tuple #[.agg #[.int .i64 a0,.int .i64 q1,.int .i64 q2,.int .i64 q3,.int .i64 q4,H0],.int .i64 qe,.bool true])∧Kd.R k105 105 w' w.heap.size (fun _=>True) H0 ql∧Below w.heap.size w w':=by
 have K0:=Tryz.underlying30
 have L0:=Tryz.underlying28
 have HU:=Aside0.mk hu
 have HB:=mk_ (Below.refl w.heap.size w)
 clear hu
 have HC:=Aside0.mk hc
 have hlb:((u1.length:Int) == 0)=false:=beq_eq_false_iff_ne.mpr hl
 have hlc:(u1.length == 0)=false:=by first|simpa using hl|(simp at hl⊢;omega)
 have H2:=Aside0.mk h2
 have p0:(0:Int)≤0:=Int.le_refl 0
 have q0:(0:Int)<(u1.length:Int):=by omega
 clear hc h2
 have HLK:Aside0 (∀W,Calls Tryz.prog 46 #[.agg #[.int .i64 b1,.int .i64 b2,.slice none 0 0]] W (fun e w'=>e= .returned (.bool true)∧Below W.heap.size W w')):=⟨fun W=>spec_LogOk.calls k b1 b2 none 0 [] true W ((Kd.R_reads' (Kd.R_nil k105 105 W 0 (fun _=>True))).2.2) (Nat.le_refl 0) h4⟩
 clear h4
 have H5:=Aside0.mk h5
 clear h5
 go_enter Tryz.func21,Tryz.ntmps21
 go_wp2_with (first
  |((with_reducible refine gn_ 4 rfl ?_);refine bx_ (N:=4) (cs:=#[.int .i64 0,.int .i64 0,.int .i64 0,.int .i64 0,.int .i64 0,.slice none 0 0]) (t:=30) ?_;intro gr hg w1 hbox hb;have BR:=Aside0.mk hbox;have GR:Aside0 (w.heap.size≤gr):=bz_ hg;replace HB:=bs_ HB hb;clear hb hbox hg;obtain⟨r0,d0,g0,h0,m0,n0,z0,z1,z2,z3,z4,z5⟩:=b6_ BR)
  |(go_at_call 44;(with_reducible refine(spec_Unframe.calls k a1 u1 u2 _ HU.out).mono ?_);rintro e w2 ⟨v0,rfl,ho,hb⟩;obtain⟨A0,c0,rfl⟩:=Kd.R_slice ho;have HR:=mk_ (Kd.R_lower ho (below_size (bw_ HB)));replace BR:=bb_ BR hb;replace HB:=bs_ HB hb;clear hb ho;clear r0 d0 g0 h0 m0 n0 z0 z1 z2 z3 z4 z5;obtain⟨r0,d0,g0,h0,m0,n0,z0,z1,z2,z3,z4,z5⟩:=b6_ BR)
  |(go_at_call 41;(with_reducible refine(spec_l01In.calls a0 0 999 true _ HC.out).mono ?_);rintro e w3 ⟨rfl,⟨nd,rfl⟩⟩;obtain⟨ad,e0,F0⟩:=Kd.at_string (Kd.R_reads' HR.out).2.2 0 p0 q0;cases e0;replace F0:=(congrArg w2.cell? (show ad=ad.add (Int.toNat 0) from rfl)).trans F0;have M0:=Aside0.mk F0)
  |(go_at_call 45;(with_reducible refine(spec_l07Two.calls k (rdOf ByteArray.empty u1 0) _ b1 b2 _ _ H2.out).mono ?_);rintro e w4 ⟨rfl,hb⟩;replace BR:=bb_ BR hb;replace HR:=rb_ HR hb;replace HB:=bs_ HB hb;clear hb F0 M0;clear r0 d0 g0 h0 m0 n0 z0 z1 z2 z3 z4 z5;obtain⟨r0,d0,g0,h0,m0,n0,z0,z1,z2,z3,z4,z5⟩:=b6_ BR;have b0:=mk_ (Below.refl w4.heap.size w4);have s0:=BR;have I0:Aside0 (Kd.C Kd.string w4 (some ad) u1.length u1):=⟨(Kd.R_reads' HR.out).2.2⟩;clear HR;have HBW:=HB)
  |((with_reducible refine gn_ 12 rfl ?_);refine bx_ (N:=12) (cs:=#[.int .i64 0,.int .i64 0,.int .i64 0,.int .i64 0,.int .i64 0,.slice none 0 0]) (t:=30) ?_;intro gj hg w5 hbox hb;have BJ:=Aside0.mk hbox;have GJ:Aside0 (w.heap.size≤gj):=bz_ hg;have EJ:Aside0 (gj=w4.heap.size):=⟨hg⟩;have G4:Aside0 (w4.heap.size≤gj):=⟨by rw [EJ.out];exact Nat.le_refl _⟩;replace b0:Aside0 (Below w4.heap.size w4 w5):=bs_ b0 hb;have NRJ:=bl_ BR hg;have NJR:=bg_ BR hg;have U0:=NRJ.out;have V0:=NJR.out;replace BR:=bb_ BR hb;replace HB:=bs_ HB hb;clear hb hbox hg;clear r0 d0 g0 h0 m0 n0 z0 z1 z2 z3 z4 z5;obtain⟨r0,d0,g0,h0,m0,n0,z0,z1,z2,z3,z4,z5⟩:=b6_ BR;obtain⟨j0,j1,j2,j3,j4,j5,y0,y1,y2,y3,y4,y5⟩:=b6_ BJ)
  |(go_at_call 46;(with_reducible refine(HLK.out _).mono ?_);rintro e w6 ⟨rfl,hb⟩;replace BJ:Aside0 (w6.heap[gj]? =some (.cells #[.int .i64 a0,.int .i64 0,.int .i64 0,.int .i64 b1,.int .i64 b2,.slice none 0 0] 30 (0,0))):=⟨blk_below bu_ hb⟩;replace BR:Aside0 (w6.heap[gr]? =some (.cells #[.int .i64 0,.int .i64 0,.int .i64 0,.int .i64 0,.int .i64 0,.slice none 0 0] 30 (0,0))):=⟨blk_below bf_ hb⟩;replace b0:=bs_ b0 hb;replace HB:=bs_ HB hb;clear hb j0 j1 j2 j3 j4 j5 y0 y1 y2 y3 y4 y5;clear r0 d0 g0 h0 m0 n0 z0 z1 z2 z3 z4 z5;obtain⟨r0,d0,g0,h0,m0,n0,z0,z1,z2,z3,z4,z5⟩:=b6_ BR))
 go_loopg [13,14] k (fun kq N0 O0 w'=>∃(xe xi x1 x2 x3 x4:Int) (l:List S105) (v:Value),N0= .int .i64 xe∧O0= .int .i64 xi∧Aside0 (spec_ReadJournal.l0 u1 kq xi x1 x2 x3 x4 l xe=some (q1,q2,q3,q4,ql,qe))∧Aside0 (kq≤k)∧Aside0 (w'.heap[gj]? =some (.cells #[.int .i64 a0,.int .i64 x1,.int .i64 x2,.int .i64 x3,.int .i64 x4,v] 30 (0,0)))∧Aside0 (k105.R 105 w' w4.heap.size (fun k=>True∧k≠gj) v l)∧Aside0 (Below w4.heap.size w4 w'))
 case atStart=>exact⟨0,0,0,0,b1,b2,[],.slice none 0 0,rfl,rfl,H5,⟨Nat.le_refl _⟩,⟨bp_ BJ⟩,⟨Kd.R_nil _ _ _ _ _⟩,⟨bw_ b0⟩⟩
 case round=>
  clear H5 BJ BR b0 HB HLK r0 d0 g0 h0 m0 n0 z0 z1 z2 z3 z4 z5
  obtain⟨xe,xi,x1,x2,x3,x4,l,v,rfl,rfl,HA,G0,BK,HO,b0⟩:=hrel
  cases gk with
  |zero=>exact absurd HA.out (by simp [spec_ReadJournal.l0])
  |succ k1=>
   have H:=HA.out
   clear HA
   simp only [spec_ReadJournal.l0] at H
   obtain⟨A2,cm,rfl⟩:=Kd.R_slice HO.out
   have BR:=bb_ s0 b0.out
   obtain⟨j0,j1,j2,j3,j4,j5,y0,y1,y2,y3,y4,y5⟩:=b6_ BK;obtain⟨r0,d0,g0,h0,m0,n0,z0,z1,z2,z3,z4,z5⟩:=b6_ BR
   by_cases c1:xi<(u1.length:Int)
   ·rw [if_pos c1] at H
    have P0:decide (xi<(u1.length:Int))=true:=decide_eq_true c1
    by_cases c2:xi>0
    ·rw [if_pos c2] at H
     have Q0:decide (xi>0)=true:=decide_eq_true c2
     have R0:decide (0<xi)=true:=decide_eq_true c2
     have p1:0≤xi:=by omega
     obtain⟨⟨⟨m1,m2,m3,m4,ml⟩,mr⟩,hm,H⟩:=Option.bind_eq_some_iff.mp H
     have HM:=Aside0.mk hm
     clear hm
     obtain⟨ad',e',t0⟩:=Kd.at_string I0.out xi p1 c1
     cases e'
     have hx:=hc_ b0 t0
     cases mr with
     |false=>
      rw [if_neg Bool.false_ne_true] at H
      simp only [Option.some.injEq,Prod.mk.injEq] at H
      obtain⟨rfl,rfl,rfl,rfl,rfl,rfl⟩:=H
      go_wp2_with (first
       |(go_at_call 47;(with_reducible refine(spec_l07More.calls k1 w4.heap.size (fun _=>True) gj a0 x1 x2 x3 x4 (.slice A2 l.length cm) l (rdOf ByteArray.empty u1 xi) _ ?hB ?hR ?hbs G4.out (fun _ _=>trivial) m1 m2 m3 m4 ml false HM.out).mono ?_);(case hB=>exact bp_ BK);(case hR=>exact rp_ HO);(case hbs=>exact low4_ b0);rintro e w7 ⟨rfl,v7,qk,qr,qb⟩;have x0:=Aside0.mk qk;have B0:=Aside0.mk qr;have o0:=bt_ b0 qb;have C0:=bb_ s0 o0.out;clear BK HO b0 BR qk qr qb hx j0 j1 j2 j3 j4 j5 y0 y1 y2 y3 y4 y5 r0 d0 g0 h0 m0 n0 z0 z1 z2 z3 z4 z5;have BK:=x0;have HO:=B0;have b0:=o0;have BR:=C0;clear x0 B0 o0 C0;obtain⟨A3,J0,rfl⟩:=Kd.R_slice HO.out;replace hx:=hc_ b0 t0;obtain⟨j0,j1,j2,j3,j4,j5,y0,y1,y2,y3,y4,y5⟩:=b6_ BK;obtain⟨r0,d0,g0,h0,m0,n0,z0,z1,z2,z3,z4,z5⟩:=b6_ BR))
      have hOr:∀k,w4.heap.size≤k→k≠gr:=fun k hk=>by have h1:=blk_lt s0.out;omega
      have HBF:=bs_ HBW b0.out
      refine bodyPost_ret (results_ctt rfl _ _ gr 30 #[.int .i64 a0,.int .i64 m1,.int .i64 m2,.int .i64 m3,.int .i64 m4,.slice A3 ml.length J0] (0,0) _ rfl bu_ Tryz.underlying30 rfl (by kernel_rfl)) rfl ?_
      exact⟨_,rfl,Kd.R_mono (Kd.R_lower (rk_ (g:=gr) (Kd.R_mono (Kd.R_bound HO.out) (fun k hk=>⟨hk.1,hOr k hk.2.1⟩))) (below_size HBW.out)) (fun _ _=>trivial),bw_ HBF⟩
     |true=>
      rw [if_pos rfl] at H
      obtain⟨⟨f1,f2⟩,hf,H⟩:=Option.bind_eq_some_iff.mp H
      have HFR:=Aside0.mk hf
      have H':=Aside0.mk H
      clear hf H
      go_wp2_with (first
       |(go_at_call 47;(with_reducible refine(spec_l07More.calls k1 w4.heap.size (fun _=>True) gj a0 x1 x2 x3 x4 (.slice A2 l.length cm) l (rdOf ByteArray.empty u1 xi) _ ?hB ?hR ?hbs G4.out (fun _ _=>trivial) m1 m2 m3 m4 ml true HM.out).mono ?_);(case hB=>exact bp_ BK);(case hR=>exact rp_ HO);(case hbs=>exact low4_ b0);rintro e w7 ⟨rfl,v7,qk,qr,qb⟩;have x0:=Aside0.mk qk;have B0:=Aside0.mk qr;have o0:=bt_ b0 qb;have C0:=bb_ s0 o0.out;clear BK HO b0 BR qk qr qb hx j0 j1 j2 j3 j4 j5 y0 y1 y2 y3 y4 y5 r0 d0 g0 h0 m0 n0 z0 z1 z2 z3 z4 z5;have BK:=x0;have HO:=B0;have b0:=o0;have BR:=C0;clear x0 B0 o0 C0;obtain⟨A3,J0,rfl⟩:=Kd.R_slice HO.out;replace hx:=hc_ b0 t0;obtain⟨j0,j1,j2,j3,j4,j5,y0,y1,y2,y3,y4,y5⟩:=b6_ BK;obtain⟨r0,d0,g0,h0,m0,n0,z0,z1,z2,z3,z4,z5⟩:=b6_ BR)
       |(go_at_call 48;(with_reducible refine(spec_Frame.calls k1 _ f1 f2 _ HFR.out).mono ?_);rintro e w8 ⟨rfl,hb⟩;replace BK:=bb_ BK hb;replace HO:=rb_ HO hb;replace BR:=bb_ BR hb;replace b0:=bs_ b0 hb;clear hb hx j0 j1 j2 j3 j4 j5 y0 y1 y2 y3 y4 y5 r0 d0 g0 h0 m0 n0 z0 z1 z2 z3 z4 z5;obtain⟨j0,j1,j2,j3,j4,j5,y0,y1,y2,y3,y4,y5⟩:=b6_ BK;obtain⟨r0,d0,g0,h0,m0,n0,z0,z1,z2,z3,z4,z5⟩:=b6_ BR))
      go_roundg k1
      case measure=>have:=G0.out;omega
      case rel=>exact⟨_,_,m1,m2,m3,m4,ml,_,rfl,rfl,H',⟨by have:=G0.out;omega⟩,⟨bp_ BK⟩,⟨rp_ HO⟩,⟨bw_ b0⟩⟩
    ·rw [if_neg c2] at H
     have Q0:decide (xi>0)=false:=decide_eq_false c2
     have R0:decide (0<xi)=false:=decide_eq_false c2
     by_cases p1:0≤xi
     ·rw [if_pos p1] at H
      obtain⟨⟨f1,f2⟩,hf,H⟩:=Option.bind_eq_some_iff.mp H
      have HFR:=Aside0.mk hf
      have H':=Aside0.mk H
      clear hf H
      obtain⟨ad',e',t0⟩:=Kd.at_string I0.out xi p1 c1
      cases e'
      have hx:=hc_ b0 t0
      go_wp2_with (first
       |(go_at_call 48;(with_reducible refine(spec_Frame.calls k1 _ f1 f2 _ HFR.out).mono ?_);rintro e w8 ⟨rfl,hb⟩;replace BK:=bb_ BK hb;replace HO:=rb_ HO hb;replace BR:=bb_ BR hb;replace b0:=bs_ b0 hb;clear hb hx j0 j1 j2 j3 j4 j5 y0 y1 y2 y3 y4 y5 r0 d0 g0 h0 m0 n0 z0 z1 z2 z3 z4 z5;obtain⟨j0,j1,j2,j3,j4,j5,y0,y1,y2,y3,y4,y5⟩:=b6_ BK;obtain⟨r0,d0,g0,h0,m0,n0,z0,z1,z2,z3,z4,z5⟩:=b6_ BR))
      go_roundg k1
      case measure=>have:=G0.out;omega
      case rel=>exact⟨wrap64 (xe+(f1.size:Int)),wrap64 (xi+1),x1,x2,x3,x4,l,_,rfl,(by first|rfl|(have hz_:xi=0:=(by omega);subst hz_;first|kernel_rfl|decide|(simp [wrap64];done)|(unfold wrap64;rfl))),H',⟨by have:=G0.out;omega⟩,⟨bp_ BK⟩,⟨rp_ HO⟩,⟨bw_ b0⟩⟩
     ·rw [if_neg p1] at H
      cases H
   ·rw [if_neg c1] at H
    have P0:decide (xi<(u1.length:Int))=false:=decide_eq_false c1
    simp only [Option.some.injEq,Prod.mk.injEq] at H
    obtain⟨rfl,rfl,rfl,rfl,rfl,rfl⟩:=H
    go_wp2
    have hOr:∀k,w4.heap.size≤k→k≠gr:=fun k hk=>by have h1:=blk_lt s0.out;omega
    have HBF:=bs_ HBW b0.out
    refine bodyPost_ret (results_ctt rfl _ _ gr 30 #[.int .i64 a0,.int .i64 x1,.int .i64 x2,.int .i64 x3,.int .i64 x4,.slice A2 l.length cm] (0,0) _ rfl bu_ Tryz.underlying30 rfl (by kernel_rfl)) rfl ?_
    exact⟨_,rfl,Kd.R_mono (Kd.R_lower (rk_ (g:=gr) (Kd.R_mono (Kd.R_bound HO.out) (fun k hk=>⟨hk.1,hOr k hk.2.1⟩))) (below_size HBW.out)) (fun _ _=>trivial),bw_ HBF⟩
theorem spec_ReadJournal.calls (k:Nat) (a0:Int) (a1:ByteArray) (r1:Int) (r2:Int) (r3:Int) (r4:Int) (r5:Int) (r6:List S105) (r7:Int) (r8:Bool) (w:World) (h:spec_ReadJournal.f k a0 a1=some (r1,r2,r3,r4,r5,r6,r7,r8)):
  Calls Tryz.prog 21 #[.int .i64 a0,.string a1] w fun e w'=>∃b0:Value,e= .returned (.tuple #[.agg #[.int .i64 r1,.int .i64 r2,.int .i64 r3,.int .i64 r4,.int .i64 r5,b0],.int .i64 r7,.bool r8])∧Kd.R k105 105 w' w.heap.size (fun _=>True) b0 r6∧Below w.heap.size w w':=by
 unfold spec_ReadJournal.f at h
 obtain⟨⟨u1,u2⟩,hu,h⟩:=Option.bind_eq_some_iff.mp h
 obtain⟨c,hc,h⟩:=Option.bind_eq_some_iff.mp h
 cases c with
 |false=>
  rw [if_neg Bool.false_ne_true] at h
  simp only [Option.some.injEq,Prod.mk.injEq] at h
  obtain⟨rfl,rfl,rfl,rfl,rfl,rfl,rfl,rfl⟩:=h
  exact spec_ReadJournal.no1_ k a0 a1 w u1 u2 hu hc
 |true=>
  rw [if_pos rfl] at h
  by_cases hl:(u1.length:Int)=0
  ·rw [if_pos hl] at h
   simp only [Option.some.injEq,Prod.mk.injEq] at h
   obtain⟨rfl,rfl,rfl,rfl,rfl,rfl,rfl,rfl⟩:=h
   exact spec_ReadJournal.no2_ k a0 a1 w u1 u2 hu hc hl
  ·rw [if_neg hl] at h
   obtain⟨⟨b1,b2,b3⟩,h2,h⟩:=Option.bind_eq_some_iff.mp h
   cases b3 with
   |false=>
    rw [if_neg Bool.false_ne_true] at h
    simp only [Option.some.injEq,Prod.mk.injEq] at h
    obtain⟨rfl,rfl,rfl,rfl,rfl,rfl,rfl,rfl⟩:=h
    exact spec_ReadJournal.no3_ k a0 a1 w u1 u2 hu hc hl b1 b2 h2
   |true=>
    rw [if_pos rfl] at h
    obtain⟨g,h4,h⟩:=Option.bind_eq_some_iff.mp h
    cases g with
    |false=>
     rw [if_neg Bool.false_ne_true] at h
     simp only [Option.some.injEq,Prod.mk.injEq] at h
     obtain⟨rfl,rfl,rfl,rfl,rfl,rfl,rfl,rfl⟩:=h
     exact spec_ReadJournal.no4_ k a0 a1 w u1 u2 hu hc hl b1 b2 h2 h4
    |true=>
     rw [if_pos rfl] at h
     obtain⟨⟨q1,q2,q3,q4,ql,qe⟩,h5,h⟩:=Option.bind_eq_some_iff.mp h
     simp only [Option.some.injEq,Prod.mk.injEq] at h
     obtain⟨rfl,rfl,rfl,rfl,rfl,rfl,rfl,rfl⟩:=h
     exact spec_ReadJournal.loop_ k a0 a1 w u1 u2 hu hc hl b1 b2 h2 h4 q1 q2 q3 q4 ql qe h5
def spec_l07Copy.f (d0:Int) (e0:Int) (g0:Int) (h0:Int) (m0:Int) (a0:List (S105)):Option (Int × Int × Int × Int × Int × (List (S105))):=(some (([]:List (S105)):List (S105))).bind fun b0=>(if b0.length+a0.length<4398046511104 then(some (d0,e0,g0,h0,m0,(b0++a0))) else(none))
theorem spec_l07Copy.calls (m0:Int) (n0:Int) (o0:Int) (p0:Int) (q0:Int) (A0:Option Addr) (B0:Nat) (e0:List (S105)) (r1:Int) (r2:Int) (r3:Int) (r4:Int) (r5:Int) (r6:List (S105)) (w:World) (t0:Kd.C k105 w A0 e0.length e0) (v0:e0.length≤B0) (h:spec_l07Copy.f m0 n0 o0 p0 q0 e0=some (r1,r2,r3,r4,r5,r6)):
  Calls Tryz.prog 23 #[.agg #[.int .i64 m0,.int .i64 n0,.int .i64 o0,.int .i64 p0,.int .i64 q0,.slice A0 e0.length B0]] w fun e w'=>∃P1:Value,e= .returned (.agg #[.int .i64 r1,.int .i64 r2,.int .i64 r3,.int .i64 r4,.int .i64 r5,P1])∧Kd.R k105 105 w' w.heap.size (fun _=>True) P1 r6∧Below w.heap.size w w':=by
 have V1:=Tryz.underlying30
 have I0:=Aside0.mk t0
 have Q1:=Aside0.mk v0
 clear t0 v0
 have HB:=mk_ (Below.refl w.heap.size w)
 have H:=h
 unfold spec_l07Copy.f at H
 clear h
 obtain⟨J0,r0⟩:∃y_:List (S105),y_=(([]:List (S105))):=⟨_,rfl⟩
 replace H:=sb_ r0 H
 have x0:=Aside0.mk r0
 clear r0
 obtain⟨c2,H⟩:=gd_ H
 have x1:=Aside0.mk c2
 clear c2
 obtain⟨C0,s0⟩:∃y_:List (S105),y_=(J0++e0):=⟨_,rfl⟩
 rw [←s0] at H
 have K0:=Aside0.mk s0
 clear s0
 simp only [Option.some.injEq,Prod.mk.injEq] at H
 obtain⟨rfl,rfl,rfl,rfl,rfl,rfl⟩:=H
 go_enter Tryz.func23,Tryz.ntmps23
 go_wp2_with (first|((with_reducible refine gn_ 1 rfl ?_);refine bv_ (cs:=#[.int .i64 m0,.int .i64 n0,.int .i64 o0,.int .i64 p0,.int .i64 q0,.slice A0 e0.length B0]) (t:=30) HB ?_;clear HB;intro L0 w3 a0 R1 HB)|((with_reducible refine gn_ 2 rfl ?_);refine bn_ (cs:=#[.int .i64 0,.int .i64 0,.int .i64 0,.int .i64 0,.int .i64 0,.slice none 0 0]) (t:=30) HB ?_;intro b0 w4 hg hb d0 U1 hB_;have h0:=bl_ a0 hg;have H0:=bg_ a0 hg;replace a0:=bb_ a0 hb;replace HB:=hB_;clear hb hB_ hg)|((with_reducible refine gn_ 3 rfl ?_);refine Kd.R_lit k105 _ 105 ?hg (N:=3) ?hd (xs:=([]:List (S105))) (inner:=[]) (ok:=fun _=>True) (okp:=fun _=>True) ?hr ?hp (fun _ hk=>hk) trivial (Below.refl _ _) (Nat.le_refl _) (by simp) ?_;(case hd=>rfl);(case hg=>rfl);(case hr=>first|(go_simp;done)|(go_simp;rfl));(case hp=>exact(Reps.none _ _));intro y1 w5 M0 hb hg_ hnew_;clear hg_ hnew_;(first|rw [←x0.out] at M0|(simp only [Int.reduceToNat] at M0;rw [←x0.out] at M0));have g0:=mk_ (Kd.R_lower M0 (below_size (bw_ HB)));replace a0:=bb_ a0 hb;replace d0:=bb_ d0 hb;replace HB:=bs_ HB hb;clear hb M0;obtain⟨W1,X1⟩:=ns_ h0;obtain⟨A1,C1,D1,F1,G1,H1,I1,J1,K1,L1,M1,N1⟩:=b6_ a0)|((with_reducible refine gate_builtin (b:= .append) (xs:=#[.tmp 3,.tmp 6]) rfl ?_);at_builtin;refine Kd.R_append_rows k105 (w0:=w) w.heap.size rfl (.tmp 3) (.tmp 6) 26 105 (.agg #[(.int .i64 0),(.int .i64 0),(.string ⟨#[]⟩)]) 32 rfl Tryz.underlying26 info105 rfl (by decide) (by omega) y1 J0 e0 _ _ _ (fun _=>True) (fun _=>False) rfl rfl ?aO ?aR (fun _ _ h=>h) (fun _ h=>h.elim) ?aF ?aB ?aS ?aL ?_;(case aR=>repeat(first|exact(Kd.C_below I0.out HB.out)|(with_reducible refine Kd.C_alloc ?_ _)|(with_reducible refine Kd.C_drewN ?_ _)|(with_reducible refine Kd.C_drew ?_)));(case aB=>exact(bw_ HB));(case aF=>exact(fun _ _=>trivial));(case aO=>exact(rp_ g0));(case aS=>exact(below_size (bw_ HB)));(case aL=>have:=x1.out;omega);intro Y1 w9 ho hb hg hat;rw [←K0.out] at ho;have y0:=mk_ (ho);replace a0:=bgr_ a0 hg (Kd.R_ne g0.out a0.out (by decide));replace d0:=bgr_ d0 hg (Kd.R_ne g0.out d0.out (by decide));replace HB:=mk_ (hb);clear g0;clear ho hb hg hat;obtain⟨F0,G0,O1⟩:=Kd.R_slice y0.out;subst O1;obtain⟨N0,O0,P0,Q0,R0,U0,V0,W0,X0,Y0,Z0,a1⟩:=b6_ a0;obtain⟨b1,d1,e1,g1,m1,n1,o1,p1,q1,s1,t1,v1⟩:=b6_ d0))
 refine bodyPost_ret (results_cell_row rfl _ _ b0 30 #[.int .i64 m0,.int .i64 n0,.int .i64 o0,.int .i64 p0,.int .i64 q0,.slice F0 C0.length G0] (0,0) _ rfl bu_ Tryz.underlying30 rfl (by kernel_rfl)) rfl ?_
 exact⟨_,er_,rq_ (Kd.R_mono (Kd.R_far (p:=⟨b0,5,none⟩) (Kd.R_far (p:=⟨b0,4,none⟩) (Kd.R_far (p:=⟨b0,3,none⟩) (Kd.R_far (p:=⟨b0,2,none⟩) (Kd.R_far (p:=⟨b0,1,none⟩) (Kd.R_far (p:=⟨b0,0,none⟩) (Kd.R_far (p:=⟨L0,5,none⟩) (Kd.R_types (Kd.R_types y0.out a0.out (by decide)) d0.out (by decide)) (fun _ hk=>hk.1.2) (.slice F0 C0.length G0)) (fun _ hk=>hk.2) (.int .i64 m0)) (fun _ hk=>hk.2) (.int .i64 n0)) (fun _ hk=>hk.2) (.int .i64 o0)) (fun _ hk=>hk.2) (.int .i64 p0)) (fun _ hk=>hk.2) (.int .i64 q0)) (fun _ hk=>hk.2) (.slice F0 C0.length G0)) (fun _ hk=>trivial)),bw_ HB⟩
def spec_JournalOk.f (k:Nat) (a0:Int) (b0:Int) (d0:Int) (e0:Int) (g0:Int) (h0:List (S105)):Option (Bool):=(spec_l01In.f a0 0 999).bind fun m0=>(if m0=true then((spec_l01In.f b0 0 100000).bind fun n0=>(if n0=true then((spec_l01In.f d0 0 4).bind fun o0=>(if o0=true then((spec_LogOk.f k e0 g0 h0).bind fun p0=>(some p0)) else(some false))) else(some false))) else(some false))
theorem spec_JournalOk.calls (k:Nat) (b0:Int) (e0:Int) (g0:Int) (h0:Int) (m0:Int) (n0:Option Addr) (o0:Nat) (d0:List (S105)) (r:Bool) (w:World) (r0:Kd.C k105 w n0 d0.length d0) (s0:d0.length≤o0) (h:spec_JournalOk.f k b0 e0 g0 h0 m0 d0=some r):
  Calls Tryz.prog 77 #[.agg #[.int .i64 b0,.int .i64 e0,.int .i64 g0,.int .i64 h0,.int .i64 m0,.slice n0 d0.length o0]] w fun e w'=>e= .returned (.bool r)∧Below w.heap.size w w':=by
 have O1:=Tryz.underlying30
 have P1:=Tryz.underlying28
 have t0:=Aside0.mk r0
 have v0:=Aside0.mk s0
 clear r0 s0
 have HB:=mk_ (Below.refl w.heap.size w)
 have H:=h
 unfold spec_JournalOk.f at H
 clear h
 obtain⟨K1,A2,H⟩:=ob_ H
 try dsimp only at H
 by_cases c3:K1=true
 rotate_left
 ·replace c3:=Bool.eq_false_iff.mpr c3
  subst c3
  rw [if_neg (show ¬(false=true) by decide)] at H
  obtain rfl:=Option.some.inj H
  go_enter Tryz.func77,Tryz.ntmps77
  go_wp2_with (first|((with_reducible refine gn_ 1 rfl ?_);refine bv_ (cs:=#[.int .i64 b0,.int .i64 e0,.int .i64 g0,.int .i64 h0,.int .i64 m0,.slice n0 d0.length o0]) (t:=30) HB ?_;clear HB;intro p0 Q1 a0 q0 HB;obtain⟨x0,y0,A0,B0,C0,F0,G0,H0,I0,J0,K0,L0⟩:=b6_ a0)|((with_reducible refine gc_ 41 rfl ?_);refine gm_ 5 Tryz.func41 (spec_l01In.calls b0 0 999 false _ A2.out) ?_;rintro w' ⟨nd,rfl⟩))
  go_ret
  exact⟨er_,bw_ HB⟩
 subst c3
 rw [if_pos rfl] at H
 obtain⟨L1,A4,H⟩:=ob_ H
 try dsimp only at H
 by_cases c5:L1=true
 rotate_left
 ·replace c5:=Bool.eq_false_iff.mpr c5
  subst c5
  rw [if_neg (show ¬(false=true) by decide)] at H
  obtain rfl:=Option.some.inj H
  go_enter Tryz.func77,Tryz.ntmps77
  go_wp2_with (first|((with_reducible refine gn_ 1 rfl ?_);refine bv_ (cs:=#[.int .i64 b0,.int .i64 e0,.int .i64 g0,.int .i64 h0,.int .i64 m0,.slice n0 d0.length o0]) (t:=30) HB ?_;clear HB;intro p0 R1 a0 q0 HB;obtain⟨M0,N0,O0,P0,Q0,R0,U0,V0,W0,X0,Y0,Z0⟩:=b6_ a0)|((with_reducible refine gc_ 41 rfl ?_);refine gm_ 5 Tryz.func41 (spec_l01In.calls b0 0 999 true _ A2.out) ?_;rintro w' ⟨nd,rfl⟩)|(go_at_call 41;(with_reducible refine(spec_l01In.calls e0 0 100000 false _ A4.out).mono ?_);rintro e w' ⟨rfl,⟨nd,rfl⟩⟩))
  go_ret
  exact⟨er_,bw_ HB⟩
 subst c5
 rw [if_pos rfl] at H
 obtain⟨M1,A6,H⟩:=ob_ H
 try dsimp only at H
 by_cases c7:M1=true
 rotate_left
 ·replace c7:=Bool.eq_false_iff.mpr c7
  subst c7
  rw [if_neg (show ¬(false=true) by decide)] at H
  obtain rfl:=Option.some.inj H
  go_enter Tryz.func77,Tryz.ntmps77
  go_wp2_with (first|((with_reducible refine gn_ 1 rfl ?_);refine bv_ (cs:=#[.int .i64 b0,.int .i64 e0,.int .i64 g0,.int .i64 h0,.int .i64 m0,.slice n0 d0.length o0]) (t:=30) HB ?_;clear HB;intro p0 U1 a0 q0 HB;obtain⟨a1,b1,d1,e1,g1,m1,n1,o1,p1,q1,r1,s1⟩:=b6_ a0)|((with_reducible refine gc_ 41 rfl ?_);refine gm_ 5 Tryz.func41 (spec_l01In.calls b0 0 999 true _ A2.out) ?_;rintro w' ⟨nd,rfl⟩)|(go_at_call 41;(with_reducible refine(spec_l01In.calls e0 0 100000 true _ A4.out).mono ?_);rintro e w' ⟨rfl,⟨nd,rfl⟩⟩)|(go_at_call 41;(with_reducible refine(spec_l01In.calls g0 0 4 false _ A6.out).mono ?_);rintro e w' ⟨rfl,⟨nd,rfl⟩⟩))
  go_ret
  exact⟨er_,bw_ HB⟩
 subst c7
 rw [if_pos rfl] at H
 obtain⟨N1,A8,H⟩:=ob_ H
 try dsimp only at H
 obtain rfl:=Option.some.inj H
 go_enter Tryz.func77,Tryz.ntmps77
 go_wp2_with (first|((with_reducible refine gn_ 1 rfl ?_);refine bv_ (cs:=#[.int .i64 b0,.int .i64 e0,.int .i64 g0,.int .i64 h0,.int .i64 m0,.slice n0 d0.length o0]) (t:=30) HB ?_;clear HB;intro p0 w9 a0 q0 HB;obtain⟨t1,v1,x1,y1,A1,C1,D1,F1,G1,H1,I1,J1⟩:=b6_ a0)|((with_reducible refine gc_ 41 rfl ?_);refine gm_ 5 Tryz.func41 (spec_l01In.calls b0 0 999 true _ A2.out) ?_;rintro w' ⟨nd,rfl⟩)|(go_at_call 41;(with_reducible refine(spec_l01In.calls e0 0 100000 true _ A4.out).mono ?_);rintro e w' ⟨rfl,⟨nd,rfl⟩⟩)|(go_at_call 41;(with_reducible refine(spec_l01In.calls g0 0 4 true _ A6.out).mono ?_);rintro e w' ⟨rfl,⟨nd,rfl⟩⟩)|(go_at_call 46;(with_reducible refine(spec_LogOk.calls k h0 m0 _ _ d0 N1 _ ?side1 ?side2 A8.out).mono ?_);(case side1=>repeat(first|exact(Kd.C_below t0.out (bw_ HB))|(with_reducible refine Kd.C_alloc ?_ _)|(with_reducible refine Kd.C_drewN ?_ _)|(with_reducible refine Kd.C_drew ?_)));(case side2=>exact v0.out);rintro e V1 ⟨rfl,hb⟩;replace a0:=bb_ a0 hb;replace HB:=bs_ HB hb;(try clear hb)))
 go_ret
 exact⟨er_,bw_ HB⟩
def spec_l07Hard.f (k:Nat) (a0:Int) (a1:Int):Option (ByteArray):=(spec_l01Var.f k a0).bind fun b0=>(if 1+b0.size≤9223372036854775807 then((spec_l01Var.f k a1).bind fun d0=>(if((⟨#[72]⟩:ByteArray)++b0).size+d0.size≤9223372036854775807 then((spec_Frame.f k (((⟨#[72]⟩:ByteArray)++b0)++d0)).bind fun e0=>(some e0.1)) else(none))) else(none))
theorem spec_l07Hard.calls (k:Nat) (a0:Int) (a1:Int) (r:ByteArray) (w:World) (h:spec_l07Hard.f k a0 a1=some r):
  Calls Tryz.prog 78 #[.int .i64 a0,.int .i64 a1] w fun e w'=>e= .returned (.string r)∧Below w.heap.size w w':=by
 have HB:=mk_ (Below.refl w.heap.size w)
 have H:=h
 unfold spec_l07Hard.f at H
 clear h
 obtain⟨b0,A3,H⟩:=ob_ H
 try dsimp only at H
 obtain⟨c4,H⟩:=gd_ H
 have h0:=eq_true c4
 have m0:=decide_eq_true c4
 have n0:=eq_false (Nat.not_lt.2 c4)
 obtain⟨d0,A5,H⟩:=ob_ H
 try dsimp only at H
 obtain⟨c6,H⟩:=gd_ H
 have o0:=eq_true c6
 have p0:=decide_eq_true c6
 have q0:=eq_false (Nat.not_lt.2 c6)
 have r0:(9223372036854775807<1+b0.size+d0.size)=False:=eq_false (by have h_:=c6;simp only [ByteArray.size_append] at h_;exact Nat.not_lt.2 h_)
 obtain⟨⟨e0,g0⟩,A7,H⟩:=ob_ H
 try dsimp only at H
 obtain rfl:=Option.some.inj H
 go_enter Tryz.func78,Tryz.ntmps78
 go_wp2_with (first|((with_reducible refine gc_ 71 rfl ?_);refine gm_ 9 Tryz.func71 (spec_l01Var.calls k a0 b0 _ A3.out) ?_;rintro w8 hb;replace HB:=bs_ HB hb;(try clear hb))|((with_reducible refine gc_ 71 rfl ?_);refine gm_ 12 Tryz.func71 (spec_l01Var.calls k a1 d0 _ A5.out) ?_;rintro w9 hb;replace HB:=bs_ HB hb;(try clear hb))|((with_reducible refine gc_ 48 rfl ?_);refine gm_ 14 Tryz.func48 (spec_Frame.calls k (((⟨#[72]⟩:ByteArray)++b0)++d0) e0 g0 _ A7.out) ?_;rintro s0 hb;replace HB:=bs_ HB hb;(try clear hb)))
 go_ret
 exact⟨er_,bw_ HB⟩
def spec_l07Frames.l0:Nat→List Int→Int→Int→Int→List (S105)→Option (ByteArray)
 |0,_,_,_,_,_=>none
 |k+1,x5,x6,b0,d0,a0=>if x6<(a0.length:Int) then(if 0≤x6 then((spec_EntryText.f k (wrap64 ((wrap64 (b0+1))+x6)) ((rd_T105 a0 x6).f0) ((rd_T105 a0 x6).f1) ((rd_T105 a0 x6).f2)).bind fun g0=>((spec_Frame.f k g0.1).bind fun e0=>(if x5.length+e0.1.size<140737488355328 then(spec_l07Frames.l0 k (x5++bytesOf e0.1) (wrap64 (x6+1)) b0 d0 a0) else(none)))) else(none)) else(some (strOfNums x5))
def spec_l07Frames.f (k:Nat) (a0:Int) (b0:Int) (d0:List (S105)) (a1:Int):Option (ByteArray):=spec_l07Frames.l0 k (([]:List Int)) a1 a0 b0 d0
def spec_l07Frames.T5:Bool × List (List Nat × List Nat):=(true,[([],[]),([0],[0]),([1],[1]),([],[]),([2,3],[2,3]),([],[]),([5],[5]),([],[]),([6,7],[6,7]),([8],[8]),([4,9],[4,9]),([10],[10]),([11],[11]),([11],[11]),([12,10,0,1,2,3,4,5,6,7,8,9,10,11,12],[12]),([13,14,0,1,2,3,4,5,6,7,8,9,10,11,12,13,14],[13])])
def spec_l07Frames.B5:List Nat:=[0,1,3,0,15,0,32,0,224,480,1023,2047,4095,4095,8191,32767]
theorem spec_l07Frames.tab5:rtab .any (opsOf Tryz.f79 5)=spec_l07Frames.T5:=by kernel_rfl
theorem spec_l07Frames.bits5:waitsOk spec_l07Frames.T5.2 spec_l07Frames.B5=true:=by kernel_rfl
theorem spec_l07Frames.calls (k:Nat) (o0:Int) (p0:Int) (B0:Option Addr) (v0:Nat) (d0:List (S105)) (a1:Int) (r:ByteArray) (w:World) (C0:Kd.C k105 w B0 d0.length d0) (F0:d0.length≤v0) (h:spec_l07Frames.f k o0 p0 d0 a1=some r):
  Calls Tryz.prog 79 #[.agg #[.int .i64 o0,.int .i64 p0,.slice B0 d0.length v0],.int .i64 a1] w fun e w'=>e= .returned (.string r)∧Below w.heap.size w w':=by
 have D1:=Tryz.underlying28
 have t1:=Tryz.underlying105
 have K0:=Aside0.mk C0
 have v1:=Aside0.mk F0
 clear C0 F0
 have HB:=mk_ (Below.refl w.heap.size w)
 have H:=h
 unfold spec_l07Frames.f at H
 clear h
 obtain⟨L0,x0⟩:∃y_:List Int,y_=(([]:List Int)):=⟨_,rfl⟩
 replace H:(spec_l07Frames.l0 k L0 a1 o0 p0 d0)=some r:=by first|(rw [x0];with_reducible exact H)|with_reducible exact H
 have G0:=Aside0.mk x0
 clear x0
 have H':=Aside0.mk H
 clear H
 go_enter Tryz.func79,Tryz.ntmps79
 go_wp2_with (first|((with_reducible refine gn_ 2 rfl ?_);refine bv_ (cs:=#[.int .i64 o0,.int .i64 p0,.slice B0 d0.length v0]) (t:=28) HB ?_;clear HB;intro q0 w3 a0 x1 HB)|((with_reducible refine gn_ 11 rfl ?_);refine Kd.R_lit (Kd.int .u8) _ 5 ?hg (N:=11) ?hd (xs:=([]:List Int)) (inner:=[]) (ok:=fun _=>True) (okp:=fun _=>True) ?hr ?hp (fun _ hk=>hk) trivial (Below.refl _ _) (Nat.le_refl _) (by simp) ?_;(case hd=>rfl);(case hg=>rfl);(case hr=>first|(go_simp;done)|(go_simp;rfl));(case hp=>exact(Reps.none _ _));intro F1 w4 M0 hb hg_ hnew_;clear hg_ hnew_;(first|rw [←G0.out] at M0|(simp only [Int.reduceToNat] at M0;rw [←G0.out] at M0));have N0:=mk_ (Kd.R_lower M0 (below_size (bw_ HB)));replace a0:=bb_ a0 hb;replace HB:=bs_ HB hb;clear hb M0))
 go_loopg [5,6] k (fun kq v5 v6 w'=>∃(y0:List Int) (b0:Int),v6= .int .i64 b0∧Aside0 (spec_l07Frames.l0 kq y0 b0 o0 p0 d0=some r)∧Aside0 (kq≤k)∧Aside0 (Kd.R (Kd.int .u8) 5 w' w.heap.size (fun _=>True) v5 y0)∧Aside0 (w'.heap[q0]? =some (.cells #[.int .i64 o0,.int .i64 p0,(.slice B0 d0.length v0)] 28 (0,0)))∧Aside0 (Below w.heap.size w w'))
 case atStart=>exact⟨(L0),(a1),rl_,H',⟨Nat.le_refl _⟩,⟨rq_ N0.out⟩,⟨bf_⟩,⟨bw_ HB⟩⟩
 case round=>
  clear H'
  try clear p2
  obtain⟨y0,b0,rfl,HA,y1,m0,a0,HB⟩:=hrel
  cases gk with
  |zero=>exact absurd HA.out (by simp [spec_l07Frames.l0])
  |succ k1=>
   have H:=HA.out
   clear HA
   simp only [spec_l07Frames.l0] at H
   refine ic_ H ?_ ?_ <;> clear H <;> intro G1 H
   ·obtain rfl:=Option.some.inj H
    obtain⟨V0,W0,X0,Y0,Z0,b1⟩:=b3_ a0
    have A1:=own_string (P:=Tryz.prog) Tryz.underlying95 Tryz.underlying5 Tryz.underlying9 (Kd.own_of_R m0.out)
    go_wp2
    go_ret
    exact⟨er_,bw_ HB⟩
   obtain⟨c7,H⟩:=gd_ H
   have H1:=decide_eq_true c7
   clear c7
   obtain⟨⟨O0,p1⟩,A8,H⟩:=ob_ H
   try dsimp only at H
   obtain⟨⟨H0,q1⟩,A9,H⟩:=ob_ H
   try dsimp only at H
   obtain⟨c10,H⟩:=gd_ H
   have P0:=Aside0.mk c10
   clear c10
   obtain⟨Q0,A0⟩:∃y_:List Int,y_=(y0++bytesOf H0):=⟨_,rfl⟩
   rw [←A0] at H
   have R0:=Aside0.mk A0
   clear A0
   have H':=Aside0.mk H
   clear H
   obtain⟨d1,e1,g1,m1,n1,o1⟩:=b3_ a0
   try go_wp2
   replace m0:=rd_ m0;replace a0:=kd_ a0;replace HB:=wd_ HB
   have I0:0≤(b0:Int):=od_
   have J0:b0<(d0.length:Int):=od_
   obtain⟨n0,r1,e0,g0,h0⟩:=at_T105 K0.out b0 I0 J0
   have r0:=h0
   have s0:=g0
   have t0:=e0
   cases r1
   replace e0:=hc_ HB e0
   replace g0:=hc_ HB g0
   replace h0:=hc_ HB h0
   replace I0:=eq_true I0
   replace J0:=eq_true J0
   refine start_ (n:=16) (S:=fun w'=>w'.cell? ⟨q0,0,none⟩=some (.int .i64 o0)∧w'.cell? ⟨q0,1,none⟩=some (.int .i64 p0)∧w'.cell? ⟨q0,2,none⟩=some (.slice (some n0) d0.length v0)∧w'.cell? (n0.add ((b0).toNat*3))=some (.int .i64 ((rd_T105 d0 b0).f0))∧w'.cell? ⟨(n0.add ((b0).toNat*3)).block,(n0.add ((b0).toNat*3)).off+1,none⟩=some (.int .i64 ((rd_T105 d0 b0).f1))∧w'.cell? ⟨(n0.add ((b0).toNat*3)).block,(n0.add ((b0).toNat*3)).off+2,none⟩=some (.string ((rd_T105 d0 b0).f2))) (ds:=[]) #[false,false,false,false,false,false,false,false,false,false,false,false,false,false,false,false] (by kernel_rfl) rfl rfl ⟨bc_ a0 0,bc_ a0 1,bc_ a0 2,(hc_ HB t0),(hc_ HB s0),(hc_ HB r0)⟩ (fun hHeld=>?_);refine with_tabW spec_l07Frames.tab5 spec_l07Frames.bits5 (fun HT_ HW_=>?_)
   generalize wr.drew=J1 at m0 a0 HB e0 g0 h0 hHeld⊢
   refine pv_ 0 21 ?_
   refine pv_ 3 24 ?_
   refine pv_ 5 26 ?_
   refine pv_ 7 28 ?_
   refine tv_ 1 22 hHeld ?_
   refine pv_ 2 23 ?_
   refine pv_ 4 25 ?_
   refine tv_ 6 27 hHeld ?_
   refine pv_ 8 29 ?_
   refine tv_ 9 30 hHeld ?_
   refine on_ 10 31 (fun K hK=>?_)
   refine gs_ Tryz.func98 (spec_EntryText.calls k1 (wrap64 ((wrap64 (o0+1))+b0)) ((rd_T105 d0 b0).f0) ((rd_T105 d0 b0).f1) ((rd_T105 d0 b0).f2) O0 p1 _ A8.out) ?_
   rintro K1 hb
   replace m0:=rb_ m0 hb;replace a0:=bb_ a0 hb;replace HB:=bs_ HB hb;(try clear hb);(try clear L1);(try clear hk);(try clear hi)
   refine hK.out _ _ ⟨bc_ a0 0,bc_ a0 1,bc_ a0 2,(hc_ HB t0),(hc_ HB s0),(hc_ HB r0)⟩ (fun hHeld=>?_)
   clear hK K
   refine norm_ (a':=?_) ?_ ?_
   rotate_left
   ·show Act.put _ (some 31) _=_
    simp only [Act.put,sia_,scz_,scs_,i64_w,i32_w]
    rfl
   refine pv_ 11 20 ?_
   refine pv_ 12 32 ?_
   refine pv_ 13 33 ?_
   refine pv_ 14 7 ?_
   refine pv_ 15 8 ?_
   refine done_ (done_of HT_.out (by kernel_rfl)) ?_
   try go_wp2_with (first|((with_reducible refine gc_ 48 rfl ?_);refine gm_ 36 Tryz.func48 (spec_Frame.calls k1 O0 H0 q1 _ A9.out) ?_;rintro M1 hb;replace m0:=rb_ m0 hb;replace a0:=bb_ a0 hb;replace HB:=bs_ HB hb;(try clear hb))|((with_reducible refine gn_ 41 rfl ?_);refine Go.Proofs.YtolakamimfhcjaaGreatDoor.conv_append (w0:=w) w.heap.size 41 rfl rfl rfl 9 95 5 (.tmp 39) (.tmp 40) rfl rfl Tryz.underlying9 Tryz.underlying95 Tryz.underlying5 info5 u5 y0 H0 rfl (fun _=>rfl) (fun _=>rfl) ?aO ?aB ?aS ?aL ?_;(case aB=>exact(bw_ HB));(case aO=>exact(Kd.own_of_R (rp_ m0)));(case aS=>exact(below_size (bw_ HB)));(case aL=>have:=P0.out;omega);intro s1 I1 C1 hb hg;have ho:=Kd.R_of_own (h1:=fun _=>rfl) (ok:=fun _=>True) C1 (fun _ _=>trivial);clear C1;have hat:=True.intro;rw [←R0.out] at ho;change Kd.R (Kd.int .u8) 5 I1 w.heap.size (fun _=>True) s1 Q0 at ho;have U0:=mk_ (ho);replace a0:=bgr_ a0 hg (Kd.R_ne m0.out a0.out (by decide));replace HB:=mk_ (hb);clear m0;clear ho hb hg hat))
   go_roundg k1
   case measure=>have:=y1.out;omega
   case rel=>exact⟨(Q0),(wrap64 (b0+1)),rl_,H',⟨by have:=y1.out;omega⟩,⟨rq_ U0.out⟩,⟨bf_⟩,⟨bw_ HB⟩⟩
def spec_JournalText.f (k:Nat) (q0:Int) (m0:Int) (n0:Int) (d0:Int) (e0:Int) (o0:List (S105)):Option (ByteArray × Bool):=(spec_JournalOk.f k q0 m0 n0 d0 e0 o0).bind fun r0=>(if r0=true then((spec_l01Var.f k d0).bind fun g0=>(if 1+g0.size≤9223372036854775807 then((spec_l01Var.f k e0).bind fun p0=>(if((⟨#[66]⟩:ByteArray)++g0).size+p0.size≤9223372036854775807 then((spec_Frame.f k (((⟨#[66]⟩:ByteArray)++g0)++p0)).bind fun a0=>((spec_l07Hard.f k m0 n0).bind fun b0=>(if a0.1.size+b0.size≤9223372036854775807 then((spec_l07Frames.f k d0 e0 o0 0).bind fun h0=>(if(a0.1++b0).size+h0.size≤9223372036854775807 then(if(((a0.1++b0)++h0).size:Int)>20000 then(some ((⟨#[]⟩:ByteArray),false)) else(some ((a0.1++b0)++h0,true))) else(none))) else(none)))) else(none))) else(none))) else(some ((⟨#[]⟩:ByteArray),false)))
def spec_JournalText.T3:Bool × List (List Nat × List Nat):=(true,[([],[]),([0],[0]),([1],[1]),([2],[2]),([3],[3]),([],[]),([5],[5]),([6],[6]),([7,3],[7]),([4,8],[4,8]),([9,8],[9]),([10],[10]),([11],[11]),([11],[11]),([12,10,0,1,2,3,4,5,6,7,8,9,10,11,12],[12]),([13,14,0,1,2,3,4,5,6,7,8,9,10,11,12,13,14],[13])])
def spec_JournalText.B3:List Nat:=[0,1,3,7,15,0,32,96,239,511,1023,2047,4095,4095,8191,32767]
theorem spec_JournalText.tab3:rtab .any (opsOf Tryz.f49 3)=spec_JournalText.T3:=by kernel_rfl
theorem spec_JournalText.bits3:waitsOk spec_JournalText.T3.2 spec_JournalText.B3=true:=by kernel_rfl
def spec_JournalText.T4:Bool × List (List Nat × List Nat):=(true,[([],[]),([],[]),([1],[1]),([],[]),([3],[3]),([2,4],[2,4]),([0,5],[0,5]),([],[]),([7],[7]),([8,5],[8]),([6,9],[6,9]),([10,9,0,1,2,3,4,5,6,7,8,9,10],[10])])
def spec_JournalText.B4:List Nat:=[0,0,2,0,8,30,63,0,128,446,1023,2047]
theorem spec_JournalText.tab4:rtab .any (opsOf Tryz.f49 4)=spec_JournalText.T4:=by kernel_rfl
theorem spec_JournalText.bits4:waitsOk spec_JournalText.T4.2 spec_JournalText.B4=true:=by kernel_rfl
theorem spec_JournalText.calls (k:Nat) (n0:Int) (h0:Int) (m0:Int) (e0:Int) (g0:Int) (o0:Option Addr) (p0:Nat) (d0:List (S105)) (r1:ByteArray) (r2:Bool) (w:World) (C0:Kd.C k105 w o0 d0.length d0) (F0:d0.length≤p0) (h:spec_JournalText.f k n0 h0 m0 e0 g0 d0=some (r1,r2)):
  Calls Tryz.prog 49 #[.agg #[.int .i64 n0,.int .i64 h0,.int .i64 m0,.int .i64 e0,.int .i64 g0,.slice o0 d0.length p0]] w fun e w'=>e= .returned (.tuple #[.string r1,.bool r2])∧Below w.heap.size w w':=by
 have W1:=Tryz.underlying30
 have X1:=Tryz.underlying28
 have q0:=Aside0.mk C0
 have r0:=Aside0.mk F0
 clear C0 F0
 have HB:=mk_ (Below.refl w.heap.size w)
 have H:=h
 unfold spec_JournalText.f at H
 clear h
 obtain⟨L1,A2,H⟩:=ob_ H
 try dsimp only at H
 by_cases c3:L1=true
 rotate_left
 ·replace c3:=Bool.eq_false_iff.mpr c3
  subst c3
  rw [if_neg (show ¬(false=true) by decide)] at H
  simp only [Option.some.injEq,Prod.mk.injEq] at H
  obtain⟨rfl,rfl⟩:=H
  go_enter Tryz.func49,Tryz.ntmps49
  go_wp2_with (first|((with_reducible refine gn_ 1 rfl ?_);refine bv_ (cs:=#[.int .i64 n0,.int .i64 h0,.int .i64 m0,.int .i64 e0,.int .i64 g0,.slice o0 d0.length p0]) (t:=30) HB ?_;clear HB;intro b0 o2 a0 G0 HB;obtain⟨L0,M0,N0,O0,P0,Q0,R0,U0,V0,W0,X0,Y0⟩:=b6_ a0)|((with_reducible refine gc_ 77 rfl ?_);refine gx_ 8 Tryz.func77 #[.agg #[.int .i64 n0,.int .i64 h0,.int .i64 m0,.int .i64 e0,.int .i64 g0,.slice o0 d0.length p0]] (spec_JournalOk.calls k n0 h0 m0 e0 g0 _ _ d0 false _ ?side1 ?side2 A2.out) ?_;(case side1=>repeat(first|exact(Kd.C_below q0.out HB.out)|(with_reducible refine Kd.C_alloc ?_ _)|(with_reducible refine Kd.C_drewN ?_ _)|(with_reducible refine Kd.C_drew ?_)));(case side2=>exact r0.out);rintro q2 hb;replace a0:=bb_ a0 hb;replace HB:=bs_ HB hb;(try clear hb)))
  go_ret2
  exact⟨er_,bw_ HB⟩
 subst c3
 rw [if_pos rfl] at H
 obtain⟨x0,A4,H⟩:=ob_ H
 try dsimp only at H
 obtain⟨c5,H⟩:=gd_ H
 have Y1:=eq_true c5
 have Z1:=decide_eq_true c5
 have a2:=eq_false (Nat.not_lt.2 c5)
 obtain⟨y0,A6,H⟩:=ob_ H
 try dsimp only at H
 obtain⟨c7,H⟩:=gd_ H
 have b2:=eq_true c7
 have d2:=decide_eq_true c7
 have e2:=eq_false (Nat.not_lt.2 c7)
 have g2:(9223372036854775807<1+x0.size+y0.size)=False:=eq_false (by have h_:=c7;simp only [ByteArray.size_append] at h_;exact Nat.not_lt.2 h_)
 obtain⟨⟨s0,I0⟩,A8,H⟩:=ob_ H
 try dsimp only at H
 obtain⟨t0,A9,H⟩:=ob_ H
 try dsimp only at H
 obtain⟨c10,H⟩:=gd_ H
 have M1:=eq_true c10
 have N1:=decide_eq_true c10
 have O1:=eq_false (Nat.not_lt.2 c10)
 obtain⟨v0,P1,H⟩:=ob_ H
 try dsimp only at H
 obtain⟨Z0,H⟩:=gd_ H
 have Q1:=eq_true Z0
 have R1:=decide_eq_true Z0
 have U1:=eq_false (Nat.not_lt.2 Z0)
 have V1:(9223372036854775807<s0.size+t0.size+v0.size)=False:=eq_false (by have h_:=Z0;simp only [ByteArray.size_append] at h_;exact Nat.not_lt.2 h_)
 by_cases H0:(((s0++t0)++v0).size:Int)>20000
 rotate_left
 ·rw [if_neg H0] at H
  have A0:=decide_eq_false H0
  have J0:decide (20000<((s0++t0)++v0).size)=false:=decide_eq_false (by omega)
  try have K0:decide (20000<((s0.size:Int)+(t0.size:Int)+(v0.size:Int)))=false:=by simpa only [ByteArray.size_append,Int.natCast_add] using A0
  clear H0
  simp only [Option.some.injEq,Prod.mk.injEq] at H
  obtain⟨rfl,rfl⟩:=H
  go_enter Tryz.func49,Tryz.ntmps49
  try go_wp2_with (first|((with_reducible refine gn_ 1 rfl ?_);refine bv_ (cs:=#[.int .i64 n0,.int .i64 h0,.int .i64 m0,.int .i64 e0,.int .i64 g0,.slice o0 d0.length p0]) (t:=30) HB ?_;clear HB;intro b0 s2 a0 G0 HB;obtain⟨a1,b1,d1,e1,g1,m1,n1,o1,p1,q1,s1,t1⟩:=b6_ a0)|((with_reducible refine gc_ 77 rfl ?_);refine gx_ 8 Tryz.func77 #[.agg #[.int .i64 n0,.int .i64 h0,.int .i64 m0,.int .i64 e0,.int .i64 g0,.slice o0 d0.length p0]] (spec_JournalOk.calls k n0 h0 m0 e0 g0 _ _ d0 true _ ?side1 ?side2 A2.out) ?_;(case side1=>repeat(first|exact(Kd.C_below q0.out HB.out)|(with_reducible refine Kd.C_alloc ?_ _)|(with_reducible refine Kd.C_drewN ?_ _)|(with_reducible refine Kd.C_drew ?_)));(case side2=>exact r0.out);rintro h2 hb;replace a0:=bb_ a0 hb;replace HB:=bs_ HB hb;(try clear hb)))
  replace a0:=kd_ a0;replace HB:=wd_ HB
  refine start_ (n:=16) (S:=fun w'=>w'.cell? ⟨b0,0,none⟩=some (.int .i64 n0)∧w'.cell? ⟨b0,1,none⟩=some (.int .i64 h0)∧w'.cell? ⟨b0,2,none⟩=some (.int .i64 m0)∧w'.cell? ⟨b0,3,none⟩=some (.int .i64 e0)∧w'.cell? ⟨b0,4,none⟩=some (.int .i64 g0)∧w'.cell? ⟨b0,5,none⟩=some (.slice o0 d0.length p0)) (ds:=[]) #[false,false,false,false,false,false,false,false,false,false,false,false,false,false,false,false] (by kernel_rfl) rfl rfl ⟨bc_ a0 0,bc_ a0 1,bc_ a0 2,bc_ a0 3,bc_ a0 4,bc_ a0 5⟩ (fun hHeld=>?_);refine with_tabW spec_JournalText.tab3 spec_JournalText.bits3 (fun HT_ HW_=>?_)
  generalize h2.drew=t2 at a0 HB hHeld⊢
  refine pv_ 0 11 ?_
  refine pv_ 1 12 ?_
  refine pv_ 5 16 ?_
  refine pv_ 6 17 ?_
  refine tv_ 2 13 hHeld ?_
  refine tv_ 7 18 hHeld ?_
  refine on_ 3 14 (fun K hK=>?_)
  refine gs_ Tryz.func71 (spec_l01Var.calls k e0 x0 _ A4.out) ?_
  rintro v2 hb
  replace a0:=bb_ a0 hb;replace HB:=bs_ HB hb;(try clear hb);(try clear B0);(try clear hk);(try clear hi)
  refine hK.out _ _ ⟨bc_ a0 0,bc_ a0 1,bc_ a0 2,bc_ a0 3,bc_ a0 4,bc_ a0 5⟩ (fun hHeld=>?_)
  clear hK K
  refine norm_ (a':=?_) ?_ ?_
  rotate_left
  ·show Act.put _ (some 14) _=_
   simp only [Act.put,sia_,scz_,scs_,i64_w,i32_w]
   rfl
  refine pv_ 4 15 ?_
  refine on_ 8 19 (fun K hK=>?_)
  refine gs_ Tryz.func71 (spec_l01Var.calls k g0 y0 _ A6.out) ?_
  rintro w2 hb
  replace a0:=bb_ a0 hb;replace HB:=bs_ HB hb;(try clear hb);(try clear B0);(try clear hk);(try clear hi)
  refine hK.out _ _ ⟨bc_ a0 0,bc_ a0 1,bc_ a0 2,bc_ a0 3,bc_ a0 4,bc_ a0 5⟩ (fun hHeld=>?_)
  clear hK K
  refine norm_ (a':=?_) ?_ ?_
  rotate_left
  ·show Act.put _ (some 19) _=_
   simp only [Act.put,sia_,scz_,scs_,i64_w,i32_w]
   rfl
  refine pv_ 9 20 ?_
  refine on_ 10 21 (fun K hK=>?_)
  refine gs_ Tryz.func48 (spec_Frame.calls k (((⟨#[66]⟩:ByteArray)++x0)++y0) s0 I0 _ A8.out) ?_
  rintro l2 hb
  replace a0:=bb_ a0 hb;replace HB:=bs_ HB hb;(try clear hb);(try clear B0);(try clear hk);(try clear hi)
  refine hK.out _ _ ⟨bc_ a0 0,bc_ a0 1,bc_ a0 2,bc_ a0 3,bc_ a0 4,bc_ a0 5⟩ (fun hHeld=>?_)
  clear hK K
  refine norm_ (a':=?_) ?_ ?_
  rotate_left
  ·show Act.put _ (some 21) _=_
   simp only [Act.put,sia_,scz_,scs_,i64_w,i32_w]
   rfl
  refine pv_ 11 10 ?_
  refine pv_ 12 22 ?_
  refine pv_ 13 23 ?_
  refine pv_ 14 4 ?_
  refine pv_ 15 5 ?_
  refine done_ (done_of HT_.out (by kernel_rfl)) ?_
  try go_wp2
  replace a0:=kd_ a0;replace HB:=wd_ HB
  refine start_ (n:=12) (S:=fun w'=>w'.cell? ⟨b0,0,none⟩=some (.int .i64 n0)∧w'.cell? ⟨b0,1,none⟩=some (.int .i64 h0)∧w'.cell? ⟨b0,2,none⟩=some (.int .i64 m0)∧w'.cell? ⟨b0,3,none⟩=some (.int .i64 e0)∧w'.cell? ⟨b0,4,none⟩=some (.int .i64 g0)∧w'.cell? ⟨b0,5,none⟩=some (.slice o0 d0.length p0)) (ds:=[]) #[false,false,false,false,false,false,false,false,false,false,false,false] (by kernel_rfl) rfl rfl ⟨bc_ a0 0,bc_ a0 1,bc_ a0 2,bc_ a0 3,bc_ a0 4,bc_ a0 5⟩ (fun hHeld=>?_);refine with_tabW spec_JournalText.tab4 spec_JournalText.bits4 (fun HT_ HW_=>?_)
  generalize l2.drew=x2 at a0 HB hHeld⊢
  refine pv_ 0 24 ?_
  refine pv_ 1 25 ?_
  refine pv_ 3 27 ?_
  refine pv_ 7 31 ?_
  refine tv_ 2 26 hHeld ?_
  refine tv_ 4 28 hHeld ?_
  refine tv_ 8 32 hHeld ?_
  refine on_ 5 29 (fun K hK=>?_)
  refine gs_ Tryz.func78 (spec_l07Hard.calls k h0 m0 t0 _ A9.out) ?_
  rintro y2 hb
  replace a0:=bb_ a0 hb;replace HB:=bs_ HB hb;(try clear hb);(try clear B0);(try clear hk);(try clear hi)
  refine hK.out _ _ ⟨bc_ a0 0,bc_ a0 1,bc_ a0 2,bc_ a0 3,bc_ a0 4,bc_ a0 5⟩ (fun hHeld=>?_)
  clear hK K
  refine norm_ (a':=?_) ?_ ?_
  rotate_left
  ·show Act.put _ (some 29) _=_
   simp only [Act.put,sia_,scz_,scs_,i64_w,i32_w]
   rfl
  refine pv_ 6 30 ?_
  refine on_ 9 33 (fun K hK=>?_)
  refine gt_ Tryz.func79 #[.agg #[.int .i64 e0,.int .i64 g0,.slice o0 d0.length p0],.int .i64 0] (spec_l07Frames.calls k e0 g0 _ _ d0 0 v0 _ ?side1 ?side2 P1.out) ?_
  (case side1=>repeat(first|exact(Kd.C_below q0.out HB.out)|(with_reducible refine Kd.C_alloc ?_ _)|(with_reducible refine Kd.C_drewN ?_ _)|(with_reducible refine Kd.C_drew ?_)))
  (case side2=>exact r0.out)
  rintro B2 hb
  replace a0:=bb_ a0 hb;replace HB:=bs_ HB hb;(try clear hb);(try clear B0);(try clear hk);(try clear hi)
  refine hK.out _ _ ⟨bc_ a0 0,bc_ a0 1,bc_ a0 2,bc_ a0 3,bc_ a0 4,bc_ a0 5⟩ (fun hHeld=>?_)
  clear hK K
  refine norm_ (a':=?_) ?_ ?_
  rotate_left
  ·show Act.put _ (some 33) _=_
   simp only [Act.put,sia_,scz_,scs_,i64_w,i32_w]
   rfl
  refine pv_ 10 34 ?_
  refine pv_ 11 6 ?_
  refine done_ (done_of HT_.out (by kernel_rfl)) ?_
  try go_wp2
  go_ret2
  exact⟨er_,bw_ HB⟩
 rw [if_pos H0] at H
 have A0:=decide_eq_true H0
 have J0:decide (20000<((s0++t0)++v0).size)=true:=decide_eq_true (by omega)
 try have K0:decide (20000<((s0.size:Int)+(t0.size:Int)+(v0.size:Int)))=true:=by simpa only [ByteArray.size_append,Int.natCast_add] using A0
 clear H0
 simp only [Option.some.injEq,Prod.mk.injEq] at H
 obtain⟨rfl,rfl⟩:=H
 go_enter Tryz.func49,Tryz.ntmps49
 try go_wp2_with (first|((with_reducible refine gn_ 1 rfl ?_);refine bv_ (cs:=#[.int .i64 n0,.int .i64 h0,.int .i64 m0,.int .i64 e0,.int .i64 g0,.slice o0 d0.length p0]) (t:=30) HB ?_;clear HB;intro b0 C2 a0 G0 HB;obtain⟨v1,x1,y1,A1,C1,D1,F1,G1,H1,I1,J1,K1⟩:=b6_ a0)|((with_reducible refine gc_ 77 rfl ?_);refine gx_ 8 Tryz.func77 #[.agg #[.int .i64 n0,.int .i64 h0,.int .i64 m0,.int .i64 e0,.int .i64 g0,.slice o0 d0.length p0]] (spec_JournalOk.calls k n0 h0 m0 e0 g0 _ _ d0 true _ ?side1 ?side2 A2.out) ?_;(case side1=>repeat(first|exact(Kd.C_below q0.out HB.out)|(with_reducible refine Kd.C_alloc ?_ _)|(with_reducible refine Kd.C_drewN ?_ _)|(with_reducible refine Kd.C_drew ?_)));(case side2=>exact r0.out);rintro m2 hb;replace a0:=bb_ a0 hb;replace HB:=bs_ HB hb;(try clear hb)))
 replace a0:=kd_ a0;replace HB:=wd_ HB
 refine start_ (n:=16) (S:=fun w'=>w'.cell? ⟨b0,0,none⟩=some (.int .i64 n0)∧w'.cell? ⟨b0,1,none⟩=some (.int .i64 h0)∧w'.cell? ⟨b0,2,none⟩=some (.int .i64 m0)∧w'.cell? ⟨b0,3,none⟩=some (.int .i64 e0)∧w'.cell? ⟨b0,4,none⟩=some (.int .i64 g0)∧w'.cell? ⟨b0,5,none⟩=some (.slice o0 d0.length p0)) (ds:=[]) #[false,false,false,false,false,false,false,false,false,false,false,false,false,false,false,false] (by kernel_rfl) rfl rfl ⟨bc_ a0 0,bc_ a0 1,bc_ a0 2,bc_ a0 3,bc_ a0 4,bc_ a0 5⟩ (fun hHeld=>?_);refine with_tabW spec_JournalText.tab3 spec_JournalText.bits3 (fun HT_ HW_=>?_)
 generalize m2.drew=D2 at a0 HB hHeld⊢
 refine pv_ 0 11 ?_
 refine pv_ 1 12 ?_
 refine pv_ 5 16 ?_
 refine pv_ 6 17 ?_
 refine tv_ 2 13 hHeld ?_
 refine tv_ 7 18 hHeld ?_
 refine on_ 3 14 (fun K hK=>?_)
 refine gs_ Tryz.func71 (spec_l01Var.calls k e0 x0 _ A4.out) ?_
 rintro F2 hb
 replace a0:=bb_ a0 hb;replace HB:=bs_ HB hb;(try clear hb);(try clear B0);(try clear hk);(try clear hi)
 refine hK.out _ _ ⟨bc_ a0 0,bc_ a0 1,bc_ a0 2,bc_ a0 3,bc_ a0 4,bc_ a0 5⟩ (fun hHeld=>?_)
 clear hK K
 refine norm_ (a':=?_) ?_ ?_
 rotate_left
 ·show Act.put _ (some 14) _=_
  simp only [Act.put,sia_,scz_,scs_,i64_w,i32_w]
  rfl
 refine pv_ 4 15 ?_
 refine on_ 8 19 (fun K hK=>?_)
 refine gs_ Tryz.func71 (spec_l01Var.calls k g0 y0 _ A6.out) ?_
 rintro G2 hb
 replace a0:=bb_ a0 hb;replace HB:=bs_ HB hb;(try clear hb);(try clear B0);(try clear hk);(try clear hi)
 refine hK.out _ _ ⟨bc_ a0 0,bc_ a0 1,bc_ a0 2,bc_ a0 3,bc_ a0 4,bc_ a0 5⟩ (fun hHeld=>?_)
 clear hK K
 refine norm_ (a':=?_) ?_ ?_
 rotate_left
 ·show Act.put _ (some 19) _=_
  simp only [Act.put,sia_,scz_,scs_,i64_w,i32_w]
  rfl
 refine pv_ 9 20 ?_
 refine on_ 10 21 (fun K hK=>?_)
 refine gs_ Tryz.func48 (spec_Frame.calls k (((⟨#[66]⟩:ByteArray)++x0)++y0) s0 I0 _ A8.out) ?_
 rintro n2 hb
 replace a0:=bb_ a0 hb;replace HB:=bs_ HB hb;(try clear hb);(try clear B0);(try clear hk);(try clear hi)
 refine hK.out _ _ ⟨bc_ a0 0,bc_ a0 1,bc_ a0 2,bc_ a0 3,bc_ a0 4,bc_ a0 5⟩ (fun hHeld=>?_)
 clear hK K
 refine norm_ (a':=?_) ?_ ?_
 rotate_left
 ·show Act.put _ (some 21) _=_
  simp only [Act.put,sia_,scz_,scs_,i64_w,i32_w]
  rfl
 refine pv_ 11 10 ?_
 refine pv_ 12 22 ?_
 refine pv_ 13 23 ?_
 refine pv_ 14 4 ?_
 refine pv_ 15 5 ?_
 refine done_ (done_of HT_.out (by kernel_rfl)) ?_
 try go_wp2
 replace a0:=kd_ a0;replace HB:=wd_ HB
 refine start_ (n:=12) (S:=fun w'=>w'.cell? ⟨b0,0,none⟩=some (.int .i64 n0)∧w'.cell? ⟨b0,1,none⟩=some (.int .i64 h0)∧w'.cell? ⟨b0,2,none⟩=some (.int .i64 m0)∧w'.cell? ⟨b0,3,none⟩=some (.int .i64 e0)∧w'.cell? ⟨b0,4,none⟩=some (.int .i64 g0)∧w'.cell? ⟨b0,5,none⟩=some (.slice o0 d0.length p0)) (ds:=[]) #[false,false,false,false,false,false,false,false,false,false,false,false] (by kernel_rfl) rfl rfl ⟨bc_ a0 0,bc_ a0 1,bc_ a0 2,bc_ a0 3,bc_ a0 4,bc_ a0 5⟩ (fun hHeld=>?_);refine with_tabW spec_JournalText.tab4 spec_JournalText.bits4 (fun HT_ HW_=>?_)
 generalize n2.drew=H2 at a0 HB hHeld⊢
 refine pv_ 0 24 ?_
 refine pv_ 1 25 ?_
 refine pv_ 3 27 ?_
 refine pv_ 7 31 ?_
 refine tv_ 2 26 hHeld ?_
 refine tv_ 4 28 hHeld ?_
 refine tv_ 8 32 hHeld ?_
 refine on_ 5 29 (fun K hK=>?_)
 refine gs_ Tryz.func78 (spec_l07Hard.calls k h0 m0 t0 _ A9.out) ?_
 rintro I2 hb
 replace a0:=bb_ a0 hb;replace HB:=bs_ HB hb;(try clear hb);(try clear B0);(try clear hk);(try clear hi)
 refine hK.out _ _ ⟨bc_ a0 0,bc_ a0 1,bc_ a0 2,bc_ a0 3,bc_ a0 4,bc_ a0 5⟩ (fun hHeld=>?_)
 clear hK K
 refine norm_ (a':=?_) ?_ ?_
 rotate_left
 ·show Act.put _ (some 29) _=_
  simp only [Act.put,sia_,scz_,scs_,i64_w,i32_w]
  rfl
 refine pv_ 6 30 ?_
 refine on_ 9 33 (fun K hK=>?_)
 refine gt_ Tryz.func79 #[.agg #[.int .i64 e0,.int .i64 g0,.slice o0 d0.length p0],.int .i64 0] (spec_l07Frames.calls k e0 g0 _ _ d0 0 v0 _ ?side1 ?side2 P1.out) ?_
 (case side1=>repeat(first|exact(Kd.C_below q0.out HB.out)|(with_reducible refine Kd.C_alloc ?_ _)|(with_reducible refine Kd.C_drewN ?_ _)|(with_reducible refine Kd.C_drew ?_)))
 (case side2=>exact r0.out)
 rintro J2 hb
 replace a0:=bb_ a0 hb;replace HB:=bs_ HB hb;(try clear hb);(try clear B0);(try clear hk);(try clear hi)
 refine hK.out _ _ ⟨bc_ a0 0,bc_ a0 1,bc_ a0 2,bc_ a0 3,bc_ a0 4,bc_ a0 5⟩ (fun hHeld=>?_)
 clear hK K
 refine norm_ (a':=?_) ?_ ?_
 rotate_left
 ·show Act.put _ (some 33) _=_
  simp only [Act.put,sia_,scz_,scs_,i64_w,i32_w]
  rfl
 refine pv_ 10 34 ?_
 refine pv_ 11 6 ?_
 refine done_ (done_of HT_.out (by kernel_rfl)) ?_
 try go_wp2
 go_ret2
 exact⟨er_,bw_ HB⟩
end Go.Proofs.YtolakamimfhcjaaGreatDoor.QFnExactOpenJournal
