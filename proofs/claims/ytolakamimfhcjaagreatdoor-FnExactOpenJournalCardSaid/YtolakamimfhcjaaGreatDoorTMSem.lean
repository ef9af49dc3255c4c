/- Of the print's words (YtolakamimfhcjaaGreatDoorMathSem) those that this claim's texts name. -/
import Derived.Laws.Strings
import Derived.Tactics
namespace Go.Proofs.YtolakamimfhcjaaGreatDoor.Sem
open Go
theorem string_geq (t:TypeId) (a b:ByteArray):binOp .geq t (.string a) (.string b)=pure (.bool !(Op.bytesLess a.toList b.toList)):=by simp [binOp,Op.stringOp]
theorem string_leq (t:TypeId) (a b:ByteArray):binOp .leq t (.string a) (.string b)=pure (.bool (Op.bytesLess a.toList b.toList || a.toList == b.toList)):=by simp [binOp,Op.stringOp]
theorem string_gtr (t:TypeId) (a b:ByteArray):binOp .gtr t (.string a) (.string b)=pure (.bool !(Op.bytesLess a.toList b.toList || a.toList == b.toList)):=by simp [binOp,Op.stringOp]
theorem less_irrefl:∀l:List UInt8,Op.bytesLess l l=false
  | []=>rfl
  |a :: l=>by
    have:¬a<a:=UInt8.lt_irrefl a
    simp only [Op.bytesLess,less_irrefl l,this,decide_false,Bool.and_false,Bool.or_false]
theorem less_trans:∀a b c:List UInt8,Op.bytesLess a b=true→Op.bytesLess b c=true→Op.bytesLess a c=true
  |_,[],_,h,_=>by simp [Op.bytesLess] at h
  |_,_ :: _,[],_,h=>by simp [Op.bytesLess] at h
  | [],_ :: _,_ :: _,_,_=>rfl
  |x :: a,y :: b,z :: c,h,k=>by
    simp only [Op.bytesLess,Bool.or_eq_true,Bool.and_eq_true,decide_eq_true_eq,beq_iff_eq] at h k⊢
    rcases h with h|⟨rfl,h⟩
    · rcases k with k|⟨rfl,k⟩
      · exact .inl (UInt8.lt_trans h k)
      · exact .inl h
    · rcases k with k|⟨rfl,k⟩
      · exact .inl k
      · exact .inr ⟨rfl,less_trans a b c h k⟩
theorem less_no {a b:List UInt8} (h:Op.bytesLess a b=true):Op.bytesLess b a=false:=by
  cases e:Op.bytesLess b a with
  |false=>rfl
  |true=>have:=less_trans a b a h e;rw [less_irrefl] at this;cases this
theorem less_ne {a b:List UInt8} (h:Op.bytesLess a b=true):(b == a)=false:=by
  refine beq_eq_false_iff_ne.2 (fun e=>?_)
  rw [e,less_irrefl] at h;cases h
theorem less_total:∀a b:List UInt8,Op.bytesLess a b=false→Op.bytesLess b a=false→a=b
  | [],[],_,_=>rfl
  | [],_ :: _,h,_=>by simp [Op.bytesLess] at h
  |_ :: _,[],_,h=>by simp [Op.bytesLess] at h
  |x :: a,y :: b,h,k=>by
    simp only [Op.bytesLess,Bool.or_eq_false_iff,Bool.and_eq_false_iff,decide_eq_false_iff_not,beq_eq_false_iff_ne] at h k
    have e:x=y:=by
      rcases Nat.lt_trichotomy x.toNat y.toNat with h1|h1|h1
      · exact absurd (UInt8.lt_iff_toNat_lt.2 h1) h.1
      · exact UInt8.toNat_inj.1 h1
      · exact absurd (UInt8.lt_iff_toNat_lt.2 h1) k.1
    subst e
    rw [less_total a b (h.2.resolve_left (by simp)) (k.2.resolve_left (by simp))]
theorem less_or {a b:List UInt8} (h:Op.bytesLess a b=false):(Op.bytesLess b a || b == a)=true:=by
  cases e:Op.bytesLess b a with
  |true=>rfl
  |false=>rw [less_total b a e h];simp
theorem less_and {a b:List UInt8} (h:Op.bytesLess a b=false):(!Op.bytesLess b a && !(b == a))=false:=by
  have:=less_or h
  cases e:Op.bytesLess b a <;> cases e2:(b == a) <;> simp_all
end Go.Proofs.YtolakamimfhcjaaGreatDoor.Sem
