/- Of the print's words (YtolakamimfhcjaaGreatDoorMathConv) those that this claim's texts name. -/
import Derived.Test.YtolakamimfhcjaaGreatDoorTMore
namespace Go.Proofs.YtolakamimfhcjaaGreatDoor
open Go Go.RowKit Go.Proofs.YtolakamimfhcjaaGreatDoorW.PrintWords
set_option linter.unusedVariables false
section
variable {P:Program} {ops:Array Oper} {rest:List Oper} {o1 o2:Oper} {a:Act} {Q:Exit→Act→World→Prop}
theorem conv_append {w0 W:World} (base:Nat) (N:Tmp) (hd1:o1.dst=some N) (hg1:o1.guard=none) (hg2:o2.guard=none) (src t e:TypeId) (s x:Operand)
    (ho1:o1.op= .convert src t x) (ho2:o2.op= .call {callee:= .builtin .append,args:=#[s,.tmp N],argTypes:=#[t,t]})
    (hu:P.underlying src=some .string) (ht:P.underlying t=some (.slice e)) (he:P.underlying e=some (.int .u8)) (hinfo:(P.info? e).map (fun i=>(i.zero,i.size,i.bytes))=some (some (.int .u8 0),1,1))
    (v:Value) (xs:List Int) (y:ByteArray) (hx:a.eval x= .string y) (hs:∀u,(a.put (some N) u).eval s=v) (hN:∀u,(a.put (some N) u).eval (.tmp N)=u)
    (HO:W.ownsRow base e 1 v xs.length (nums .u8 xs)) (HB:Below base w0 W) (hbase:base≤W.heap.size) (hl:xs.length+y.size≤140737488355328)
    (h:∀v1 w1,w1.ownsRow base e 1 v1 (xs++bytesOf y).length (nums .u8 (xs++bytesOf y))→Below base w0 w1→W.grownBy w1 v.ownBlock→wpList P ops Q rest ((a.put (some N) (.slice (some ⟨W.heap.size,0,none⟩) y.size (grownCap W y.size 0 e))).put o2.dst v1) w1):
    wpList P ops Q (o1 :: o2 :: rest) a W:=by
  have hb:Below W.heap.size W (Lib.bytesWorld W e y):=bytes_below (Below.refl _ _) (Nat.le_refl _) e y
  have hrun:(execOp a.eval o1).run P W= .ok (.value (.slice (some ⟨W.heap.size,0,none⟩) y.size (grownCap W y.size 0 e))) (Lib.bytesWorld W e y):=by
    have hc:=print_bytes src t e hu ht he y W
    unfold execOp
    simp [ho1,hx,hc,Result.andThen]
  refine Kd.event_run hg1 hrun ?_
  rw [hd1]
  refine print_append_row (w0:=w0) base hg2 s (.tmp N) t e .u8 1 ho2 ht hinfo (by decide) v xs (bytesOf y) _ _ _ (hs _) (hN _) (pw_own_below HO hb) (bytes_reads W e y (by omega)) (below_then HB hbase hb) (Nat.le_trans hbase hb.size) (by rw [Nat.mul_one];exact hl) ?_
  intro v1 w1 hown hB hg _
  have hl2:(xs++bytesOf y).length=xs.length+y.size:=by rw [List.length_append,bytesOf_length]
  refine h v1 w1 (by first|exact hown|(rw [hl2];exact hown)) hB ⟨hg.os.trans hb.os,hg.tape.trans hb.tape,hg.output.trans hb.output,Nat.le_trans hb.size hg.size,fun k hk hne=>(hg.block k (Nat.lt_of_lt_of_le hk hb.size) hne).trans (hb.block k hk)⟩
end
end Go.Proofs.YtolakamimfhcjaaGreatDoor
