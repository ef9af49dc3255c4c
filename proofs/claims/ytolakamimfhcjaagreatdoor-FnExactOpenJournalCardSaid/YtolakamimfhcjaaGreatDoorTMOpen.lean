/- Of the print's words (YtolakamimfhcjaaGreatDoorMathOpen) those that this claim's texts name. -/
import Derived.Test.YtolakamimfhcjaaGreatDoorTMore
import Derived.Deep.Slices
import Derived.ChangeArms
import Derived.DataReads
namespace Go.Proofs.YtolakamimfhcjaaGreatDoor.O
open Go.RowKit Go.Deep Go.Proofs.YtolakamimfhcjaaGreatDoorW.PrintWords Go.Proofs.YtolakamimfhcjaaGreatDoorW.PrintLast
set_option linter.unusedVariables false
set_option linter.unusedSimpArgs false
section
variable {H:Type}
def Op {α:Type} (enc:TypeId × Value→H) (P:Program) (W:World) (base:Nat) (spare:Nat→Bool) (held:Bool) (k:Kd α) (G:α→Prop) (t:TypeId):Prop:=
  ∀(fuel:Nat) (cs:List Value) (x:DataW H × List MemPlace),DataW.trod enc P W base spare held fuel t cs=some x→∃y,k.K W y cs∧G y
def FOp {α:Type} (enc:TypeId × Value→H) (P:Program) (W:World) (base:Nat) (spare:Nat→Bool) (held:Bool) (fs:List Field) (off:Nat) (k:Kd α) (G:α→Prop):Prop:=
  ∀(cs:List Value) (n:Nat),off+k.sz=cs.length→
    (∀f,f∈fs→∃x,DataW.trod enc P W base spare held n f.type ((cs.drop f.offset).take (P.cellsOf f.type))=some x)→∃y,k.K W y (cs.drop off)∧G y
variable {enc:TypeId × Value→H} {P:Program} {W:World} {base:Nat} {spare:Nat→Bool} {held:Bool}
theorem op_int {k:IntKind} {t:TypeId} (ht:P.underlying t=some (.int k)):Op enc P W base spare held (Kd.int k) (fun n=>(Lit.int k n).wf=true) t:=by
  intro fuel cs x h
  obtain⟨n,rfl,_,hw⟩:=DataW.trod_int ht h
  exact⟨n,rfl,hw⟩
theorem op_string {t:TypeId} (ht:P.underlying t=some .string):Op enc P W base spare held Kd.string (fun s=>s.size≤maxLen) t:=by
  intro fuel cs x h
  obtain⟨n,rfl,_,hw⟩:=DataW.trod_string ht h
  exact⟨n,rfl,hw⟩
theorem op_iso {α β:Type} {k:Kd α} {G:α→Prop} {t:TypeId} (f:β→α) (g:α→β) (hfg:∀p,f (g p)=p) (h:Op enc P W base spare held k G t):
    Op enc P W base spare held (Kd.iso k f) (fun x=>G (f x)) t:=by
  intro fuel cs x hx
  obtain⟨y,hK,hG⟩:=h fuel cs x hx
  refine⟨g y,?_,?_⟩
  · show k.K W (f (g y)) cs
    rw [hfg];exact hK
  · show G (f (g y))
    rw [hfg];exact hG
theorem op_slice {α:Type} {k:Kd α} {G:α→Prop} {t e:TypeId} (ht:P.underlying t=some (.slice e)) (hz:P.cellsOf e=k.sz) (h:Op enc P W base spare held k G e):
    Op enc P W base spare held (Kd.slice e k) (fun xs=>xs.length≤maxLen∧∀x∈xs,G x) t:=by
  intro fuel cs x hx
  rcases open_slice ht hx with ⟨rfl,_⟩|⟨a,len,cap,m,n,D,Pl,rfl,hb,hl,hm,hmm,_,hel⟩
  · exact⟨[],⟨none,0,rfl,Nat.le_refl _,rfl,by simp,fun h=>absurd h (by simp)⟩,by simp,by simp⟩
  · have hlm:len≤m:=by rw [hmm];split <;> omega
    have key:∀i:Fin len,∃y cs',W.cells? base (a.add (i.val*k.sz)) k.sz=some cs'∧k.K W y cs'∧G y:=by
      intro i
      obtain⟨cs',h1,h2⟩:=hel i.val (by have:=i.isLt;omega)
      obtain⟨y,hK,hG⟩:=h n cs' _ h2
      rw [hz] at h1
      exact⟨y,cs',h1,hK,hG⟩
    have hlen:(List.ofFn fun i=>Classical.choose (key i)).length=len:=by simp
    refine⟨List.ofFn fun i=>Classical.choose (key i),⟨some a,cap,by rw [hlen],by rw [hlen];exact hl,?_⟩,?_,?_⟩
    · refine⟨rfl,by rw [hlen];simp only [maxLen] at hm;omega,fun _=>⟨a,rfl,fun j p hj=>?_⟩⟩
      obtain⟨hj1,hj2⟩:=List.getElem?_eq_some_iff.1 hj
      rw [List.getElem_ofFn] at hj2
      obtain⟨cs',h1,h2,_⟩:=Classical.choose_spec (key ⟨j,by rw [hlen] at hj1;exact hj1⟩)
      rw [hj2] at h2
      obtain⟨_,hcl,hcell⟩:=World.cells?_some h1
      refine⟨cs',hcl,h2,fun i u hu=>?_⟩
      obtain⟨hi1,_⟩:=List.getElem?_eq_some_iff.1 hu
      have:=hcell i (by omega)
      rw [Go.Deep.add_add] at this
      rw [this];exact hu
    · rw [hlen];omega
    · intro y hy
      obtain⟨i,rfl⟩:=List.mem_ofFn.1 hy
      obtain⟨_,_,_,hG⟩:=Classical.choose_spec (key i)
      exact hG
theorem fop_one {α:Type} {k:Kd α} {G:α→Prop} {f:Field} {off:Nat} (hk:Op enc P W base spare held k G f.type) (ho:f.offset=off) (hz:P.cellsOf f.type=k.sz):
    FOp enc P W base spare held [f] off k G:=by
  intro cs n hl h
  obtain⟨x,hx⟩:=h f (by simp)
  rw [ho,hz,List.take_of_length_le (by rw [List.length_drop];omega)] at hx
  exact hk n _ x hx
theorem fop_cons {α β:Type} {k:Kd α} {G:α→Prop} {k':Kd β} {G':β→Prop} {f:Field} {rest:List Field} {off:Nat} (hk:Op enc P W base spare held k G f.type) (ho:f.offset=off) (hz:P.cellsOf f.type=k.sz)
    (hr:FOp enc P W base spare held rest (off+k.sz) k' G'):FOp enc P W base spare held (f :: rest) off (Kd.pair k k') (fun p=>G p.1∧G' p.2):=by
  intro cs n hl h
  have hsz:(Kd.pair k k').sz=k.sz+k'.sz:=rfl
  obtain⟨x,hx⟩:=h f (by simp)
  rw [ho,hz] at hx
  obtain⟨y0,hK0,hG0⟩:=hk n _ x hx
  obtain⟨y1,hK1,hG1⟩:=hr cs n (by omega) (fun g hg=>h g (by simp [hg]))
  refine⟨(y0,y1),⟨_,_,?_,hK0,hK1⟩,hG0,hG1⟩
  rw [←List.drop_drop,List.take_append_drop]
theorem op_struct {α:Type} {k:Kd α} {G:α→Prop} {t:TypeId} {fs:Array Field} (ht:P.underlying t=some (.struct fs)) (hz:P.cellsOf t=k.sz) (h:FOp enc P W base spare held fs.toList 0 k G):
    Op enc P W base spare held k G t:=by
  intro fuel cs x hx
  obtain⟨xs,n,_,_,hl,hlen,hf⟩:=DataW.trod_struct ht hx
  have:=h cs n (by omega) (fun f hf'=>?_)
  · simpa using this
  · obtain⟨i,hi,rfl⟩:=List.mem_iff_getElem.1 hf'
    have hi':i<fs.size:=by simpa using hi
    have h2:=hf i fs[i] (by simp [hi'])
    refine⟨xs[i]'(by omega),?_⟩
    rw [List.getElem?_eq_getElem (by omega)] at h2
    simpa using h2
end
end Go.Proofs.YtolakamimfhcjaaGreatDoor.O
