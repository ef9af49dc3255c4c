/- The law FnExactOpenJournal answers true at every input; no condition. -/
import Derived.Test.YtolakamimfhcjaaGreatDoorQFnExactOpenJournalx29
import Derived.Test.YtolakamimfhcjaaGreatDoorTMDec
namespace Go.Proofs.YtolakamimfhcjaaGreatDoor.QFnExactOpenJournal
open Go.RowKit
def laws_FnExactOpenJournal.Pure:Prop:=∀(l0_0:List (S70)),(l0_0.length≤maxLen∧∀x∈l0_0,(x.f0.size≤maxLen∧x.f1.size≤maxLen∧(Lit.int .i64 x.f2).wf=true))→∃k,laws_FnExactOpenJournal.f k l0_0=some true
end Go.Proofs.YtolakamimfhcjaaGreatDoor.QFnExactOpenJournal
namespace Go.Proofs.YtolakamimfhcjaaGreatDoor.Pure
open Go.RowKit Go.Proofs.YtolakamimfhcjaaGreatDoor.QFnExactOpenJournal Go.Proofs.YtolakamimfhcjaaGreatDoorW.PrintWords Go.Proofs.YtolakamimfhcjaaGreatDoorW.PrintLast Go.Proofs.YtolakamimfhcjaaGreatDoorW.PrintMore Go.Proofs.YtolakamimfhcjaaGreatDoor.M
set_option linter.unusedVariables false
set_option linter.unusedSimpArgs false
set_option maxRecDepth 4000
theorem laws_szFile_is (a b:ByteArray) (c:Int) (left:Int) (h0:0≤left) (h1:left≤1048576) (ha:a.size≤maxLen) (hb:b.size≤maxLen):
    ∃r,laws_szFile.f a b c left=some r∧(r<0∨0≤r∧r≤left∧(a.size:Int)≤left∧(b.size:Int)≤left):=by
  unfold laws_szFile.f
  simp only [maxLen] at ha hb
  rw [w64 (x:=left - (a.size:Int)) (by omega) (by omega)]
  by_cases h:left - (a.size:Int)<0
  · exact⟨-1,by rw [if_pos h],.inl (by omega)⟩
  · rw [if_neg h,w64 (x:=left - (a.size:Int) - (b.size:Int)) (by omega) (by omega)]
    by_cases h':left - (a.size:Int) - (b.size:Int)<0
    · exact⟨-1,by rw [if_pos h'],.inl (by omega)⟩
    · exact⟨_,by rw [if_neg h'],.inr (by omega)⟩
abbrev IFi:=S49
theorem rd_IFi {l:List IFi} {i:Nat} (h:i<l.length):rd_T49 l (i:Int)=l[i]:=by
  simp [rd_T49,List.getD_eq_getElem?_getD,List.getElem?_eq_getElem h]
theorem rd_IFi_drop {l:List IFi} {i:Nat} (h:i<l.length):l.drop i=rd_T49 l (i:Int) :: l.drop (i+1):=by
  rw [List.drop_eq_getElem_cons h,rd_IFi h]
abbrev LFi:=S70
def toFi (x:LFi):IFi:=⟨x.f0,x.f1,x.f2⟩
theorem rd_LFi {l:List LFi} {i:Nat} (h:i<l.length):rd_T70 l (i:Int)=l[i]:=by
  simp [rd_T70,List.getD_eq_getElem?_getD,List.getElem?_eq_getElem h]
theorem laws_szFileS_l0 (l:List LFi) (hl:l.length≤1048576) (hg:∀x∈l,x.f0.size≤maxLen∧x.f1.size≤maxLen):∀(d i:Nat) (left:Int),i+d=l.length→0≤left→left≤1048576→
    ∃r,Ev (fun k=>laws_szFileS.l0 k l left (i:Int)) r∧(r<0∨0≤r∧r≤left∧∀x∈l.drop i,(x.f0.size:Int)≤left∧(x.f1.size:Int)≤left)
  |0,i,left,h,h0,h1=>by
    refine⟨left,Ev.step (f:=fun k=>some left) (fun k=>?_) (Ev.now _),.inr ⟨h0,by omega,?_⟩⟩
    · simp only [laws_szFileS.l0];rw [if_neg (by omega)]
    · rw [List.drop_of_length_le (by omega)];simp
  |d+1,i,left,h,h0,h1=>by
    have hi:i<l.length:=by omega
    have hgi:=hg _ (List.getElem_mem hi)
    obtain⟨r,hr,hx⟩:=laws_szFile_is l[i].f0 l[i].f1 l[i].f2 left h0 h1 hgi.1 hgi.2
    rcases hx with hx|⟨hx0,hx1,hx2⟩
    · refine⟨-1,Ev.step (f:=fun k=>some (-1)) (fun k=>?_) (Ev.now _),.inl (by omega)⟩
      simp only [laws_szFileS.l0]
      rw [if_pos (by omega),if_pos (by omega),rd_LFi hi,hr,Option.bind_some,if_pos hx]
    · obtain⟨r',hr',hy⟩:=laws_szFileS_l0 l hl hg d (i+1) r (by omega) (by omega) (by omega)
      refine⟨r',Ev.step (f:=fun k=>laws_szFileS.l0 k l r ((i+1:Nat):Int)) (fun k=>?_) hr',?_⟩
      · simp only [laws_szFileS.l0]
        rw [if_pos (by omega),if_pos (by omega),rd_LFi hi,hr,Option.bind_some,if_neg (by omega),w64 (x:=(i:Int)+1) (by omega) (by omega)];rfl
      · rcases hy with hy|⟨hy0,hy1,hy2⟩
        · exact .inl hy
        · refine .inr ⟨hy0,by omega,?_⟩
          rw [List.drop_eq_getElem_cons hi]
          intro x hx
          rcases List.mem_cons.1 hx with rfl|hx
          · exact hx2
          · have:=hy2 x hx;omega
theorem laws_szFileS_ev (l:List LFi) (left:Int) (hl:l.length≤maxLen) (hg:∀x∈l,x.f0.size≤maxLen∧x.f1.size≤maxLen) (h0:0≤left) (h1:left≤1048576):
    ∃r,Ev (fun k=>laws_szFileS.f k l left) r∧(r<0∨0≤r∧r≤left∧l.length≤1048576∧∀x∈l,(x.f0.size:Int)≤left∧(x.f1.size:Int)≤left):=by
  simp only [maxLen] at hl
  have e:wrap64 (left - (l.length:Int))=left - l.length:=w64 (by omega) (by omega)
  by_cases h:left - (l.length:Int)<0
  · exact⟨-1,by unfold laws_szFileS.f;rw [e];exact Ev.pos h (Ev.now _),.inl (by omega)⟩
  · obtain⟨r,hr,hx⟩:=laws_szFileS_l0 l (by omega) hg l.length 0 (left - l.length) (by omega) (by omega) (by omega)
    refine⟨r,by unfold laws_szFileS.f;rw [e];exact Ev.neg h hr,?_⟩
    rcases hx with hx|⟨hx0,hx1,hx2⟩
    · exact .inl hx
    · exact .inr ⟨hx0,by omega,by omega,fun x hx=>by have:=hx2 x (by simpa using hx);omega⟩
theorem laws_szDisk_ev (l:List LFi) (left:Int) (hl:l.length≤maxLen) (hg:∀x∈l,x.f0.size≤maxLen∧x.f1.size≤maxLen) (h0:0≤left) (h1:left≤1048576):
    ∃r,Ev (fun k=>laws_szDisk.f k l left) r∧(r<0∨0≤r∧r≤left∧l.length≤1048576∧∀x∈l,(x.f0.size:Int)≤left∧(x.f1.size:Int)≤left):=by
  obtain⟨r,hr,hx⟩:=laws_szFileS_ev l left hl hg h0 h1
  by_cases h:r<0
  · exact⟨-1,by unfold laws_szDisk.f;exact Ev.bind hr (Ev.pos h (Ev.now _)),.inl (by omega)⟩
  · refine⟨r,by unfold laws_szDisk.f;exact Ev.bind hr (Ev.neg h (Ev.now _)),?_⟩
    rcases hx with hx|hx
    · exact absurd hx h
    · exact .inr hx
theorem spec_l01In_is (a b c:Int):spec_l01In.f a b c=some (inR a b c):=by
  unfold spec_l01In.f inR
  by_cases h:a≥b
  · rw [if_pos h];congr 1;simp;omega
  · rw [if_neg h];congr 1;simp;omega
theorem spec_l03Name_is (s:ByteArray):spec_l03Name.f s=some (decide (1≤s.size∧s.size≤8)):=by
  unfold spec_l03Name.f
  rw [spec_l01In_is,Option.bind_some]
  congr 1
  unfold inR
  congr 1
  simp only [eq_iff_iff];omega
def bLess (a b:ByteArray):Bool:=Go.Op.bytesLess a.toList b.toList
def fileOk (x:IFi):Bool:=decide (1≤x.f0.size∧x.f0.size≤8) && decide (x.f1.size≤20000) && decide (0≤x.f2∧x.f2≤(x.f1.size:Int))
def above:Option ByteArray→ByteArray→Bool
  |none,_=>true
  |some q,s=>bLess q s
def filesOk:Option ByteArray→List IFi→Bool
  |_,[]=>true
  |p,x :: l=>fileOk x && above p x.f0 && filesOk (some x.f0) l
def diskOk (l:List IFi):Bool:=decide (l.length≤30) && filesOk none l
theorem spec_DiskOk_l0 (l:List IFi) (hl:l.length≤30):∀(d i:Nat) (p:Option ByteArray),i+d=l.length→(i=0→p=none)→(0<i→p=some (rd_T49 l ((i - 1:Nat):Int)).f0)→
    Ev (fun k=>spec_DiskOk.l0 k (i:Int) l) (filesOk p (l.drop i))
  |0,i,p,h,h0,h1=>by
    refine Ev.step (f:=fun k=>some true) (fun k=>?_) ((Ev.now _).eq ?_)
    · simp only [spec_DiskOk.l0];rw [if_neg (by omega)]
    · rw [List.drop_of_length_le (by omega)];rfl
  |d+1,i,p,h,h0,h1=>by
    rw [rd_IFi_drop (l:=l) (i:=i) (by omega)]
    have ih:=spec_DiskOk_l0 l hl d (i+1) (some (rd_T49 l (i:Int)).f0) (by omega) (by omega) (fun _=>by simp)
    generalize hx:rd_T49 l (i:Int)=x at *
    simp only [filesOk,fileOk]
    by_cases a1:1≤x.f0.size∧x.f0.size≤8
    · by_cases a2:x.f1.size≤20000
      · by_cases a3:0≤x.f2∧x.f2≤(x.f1.size:Int)
        · rw [decide_eq_true a1,decide_eq_true a2,decide_eq_true a3,Bool.true_and,Bool.true_and,Bool.true_and]
          by_cases hi:0<i
          · rw [h1 hi]
            have ei:wrap64 ((i:Int) - 1)=((i - 1:Nat):Int):=by rw [w64 (by omega) (by omega)];omega
            by_cases hb:bLess (rd_T49 l ((i - 1:Nat):Int)).f0 x.f0=true
            · refine Ev.step (f:=fun k=>spec_DiskOk.l0 k ((i+1:Nat):Int) l) (fun k=>?_) (ih.eq ?_)
              · simp only [spec_DiskOk.l0]
                rw [if_pos (by omega),if_pos (by omega),hx,spec_l03Name_is,Option.bind_some,if_pos (decide_eq_true a1),if_neg (by omega),spec_l01In_is,Option.bind_some,if_pos (inR_iff.2 a3),if_pos (by omega),ei,if_pos (by omega),if_pos (by omega),if_pos (show Go.Op.bytesLess _ _=true from hb)]
                rw [w64 (x:=(i:Int)+1) (by omega) (by omega)];rfl
              · simp only [above];rw [hb,Bool.true_and]
            · refine Ev.step (f:=fun k=>some false) (fun k=>?_) ((Ev.now _).eq ?_)
              · simp only [spec_DiskOk.l0]
                rw [if_pos (by omega),if_pos (by omega),hx,spec_l03Name_is,Option.bind_some,if_pos (decide_eq_true a1),if_neg (by omega),spec_l01In_is,Option.bind_some,if_pos (inR_iff.2 a3),if_pos (by omega),ei,if_pos (by omega),if_pos (by omega),if_neg (show ¬Go.Op.bytesLess _ _=true from hb)]
              · simp only [above];rw [Bool.not_eq_true _ |>.mp hb,Bool.false_and]
          · rw [h0 (by omega)]
            refine Ev.step (f:=fun k=>spec_DiskOk.l0 k ((i+1:Nat):Int) l) (fun k=>?_) (ih.eq ?_)
            · simp only [spec_DiskOk.l0]
              rw [if_pos (by omega),if_pos (by omega),hx,spec_l03Name_is,Option.bind_some,if_pos (decide_eq_true a1),if_neg (by omega),spec_l01In_is,Option.bind_some,if_pos (inR_iff.2 a3),if_neg (by omega)]
              rw [w64 (x:=(i:Int)+1) (by omega) (by omega)];rfl
            · simp only [above];rw [Bool.true_and]
        · refine Ev.step (f:=fun k=>some false) (fun k=>?_) ((Ev.now _).eq ?_)
          · simp only [spec_DiskOk.l0]
            rw [if_pos (by omega),if_pos (by omega),hx,spec_l03Name_is,Option.bind_some,if_pos (decide_eq_true a1),if_neg (by omega),spec_l01In_is,Option.bind_some,if_neg (fun e=>a3 (inR_iff.1 e))]
          · rw [decide_eq_false a3];simp
      · refine Ev.step (f:=fun k=>some false) (fun k=>?_) ((Ev.now _).eq ?_)
        · simp only [spec_DiskOk.l0]
          rw [if_pos (by omega),if_pos (by omega),hx,spec_l03Name_is,Option.bind_some,if_pos (decide_eq_true a1),if_pos (by omega)]
        · rw [decide_eq_false a2];simp
    · refine Ev.step (f:=fun k=>some false) (fun k=>?_) ((Ev.now _).eq ?_)
      · simp only [spec_DiskOk.l0]
        rw [if_pos (by omega),if_pos (by omega),hx,spec_l03Name_is,Option.bind_some,if_neg (by rw [decide_eq_true_eq];exact a1)]
      · rw [decide_eq_false a1];simp
theorem spec_DiskOk_ev (l:List IFi):Ev (fun k=>spec_DiskOk.f k l) (diskOk l):=by
  unfold spec_DiskOk.f diskOk
  by_cases h:l.length≤30
  · rw [decide_eq_true h,Bool.true_and]
    exact Ev.neg (by omega) (spec_DiskOk_l0 l h l.length 0 none (by omega) (fun _=>rfl) (fun h=>absurd h (by omega)))
  · rw [decide_eq_false h,Bool.false_and]
    exact Ev.pos (by omega) (Ev.now _)
theorem spec_l01Figure_is (x:Int) (h0:0≤x) (h1:x<16):spec_l01Figure.f x=some (fig x):=by
  unfold spec_l01Figure.f fig
  by_cases h:x<10
  · rw [if_pos h,if_pos h,w64 (x:=48+x) (by omega) (by omega)];congr 1;omega
  · rw [if_neg h,if_neg h,w64 (x:=97+x) (by omega) (by omega),w64 (x:=97+x - 10) (by omega) (by omega)];congr 1;omega
def decB (u:Nat):ByteArray:=⟨(Lib.decDigits u).toArray⟩
theorem decB_small {u:Nat} (h:u<10):decB u=strOfNums [48+(u:Int)]:=by
  unfold decB;rw [Lib.decDigits_one h]
  apply ByteArray.ext
  simp only [strOfNums,List.map_cons,List.map_nil]
  congr 3
theorem decB_big {u:Nat} (h:¬u<10):decB u=decB (u / 10)++strOfNums [48+((u % 10:Nat):Int)]:=by
  unfold decB;rw [Lib.decDigits,dif_neg h]
  apply ByteArray.ext
  simp only [ByteArray.data_append,strOfNums,List.map_cons,List.map_nil]
  rw [List.append_toArray]
  congr 4
def decG (m:Nat) (acc:ByteArray):ByteArray:=if m=0 then acc else decB m++acc
theorem decG_zero (acc:ByteArray):decG 0 acc=acc:=if_pos rfl
theorem decG_step {m:Nat} (h:m≠0) (acc:ByteArray):decG (m / 10) (strOfNums [48+((m % 10:Nat):Int)]++acc)=decG m acc:=by
  unfold decG
  rw [if_neg h]
  by_cases h1:m<10
  · rw [if_pos (by omega),decB_small h1,Nat.mod_eq_of_lt h1]
  · rw [if_neg (by omega),decB_big h1,M.append_assoc]
def signB (neg:Bool) (s:ByteArray):ByteArray:=if neg=true then(⟨#[45]⟩:ByteArray)++s else s
def decS (n:Int):ByteArray:=⟨(Lib.itoa n).toArray⟩
theorem decS_neg {n:Int} (h:n<0):decS n=(⟨#[45]⟩:ByteArray)++decB n.natAbs:=by
  unfold decS decB Lib.itoa;rw [if_pos h]
  apply ByteArray.ext
  rw [ByteArray.data_append]
  apply Array.toList_inj.1
  rw [Array.toList_append]
  simp
theorem decS_pos {n:Int} (h:¬n<0):decS n=decB n.natAbs:=by
  unfold decS decB Lib.itoa;rw [if_neg h]
  have:n.toNat=n.natAbs:=by omega
  rw [this]
theorem decB_size (u:Nat) (d:Nat) (h:u<10 ^ (d+1)):(decB u).size≤d+1:=by
  induction d generalizing u with
  |zero=>rw [decB_small (by omega),str_size];simp
  |succ d ih=>
    by_cases h1:u<10
    · rw [decB_small h1,str_size];simp
    · rw [decB_big h1,size_append,str_size]
      have:=ih (u / 10) (by rw [Nat.pow_succ] at h;omega)
      simp only [List.length_cons,List.length_nil];omega
theorem decS_size (n:Int) (h0: -9223372036854775808≤n) (h1:n≤9223372036854775807):(decS n).size≤21:=by
  have:=decB_size n.natAbs 19 (by omega)
  by_cases h:n<0
  · rw [decS_neg h,size_append]
    have e:(⟨#[45]⟩:ByteArray).size=1:=rfl
    omega
  · rw [decS_pos h];omega
theorem spec_Decimal_l0 (neg:Bool):∀(d:Nat) (x:Int) (acc:ByteArray),x.natAbs<10 ^ d→x.natAbs≤9223372036854775808→acc.size+d≤60→
    Ev (fun k=>spec_Decimal.l0 k x neg acc) (signB neg (decG x.natAbs acc))
  |0,x,acc,h,hb,ha=>by
    obtain rfl:x=0:=by simp at h;omega
    refine Ev.step (f:=fun k=>some (signB neg acc)) (fun k=>?_) ((Ev.now _).eq (by rfl))
    simp only [spec_Decimal.l0];rw [if_pos trivial]
    unfold signB
    cases neg
    · rfl
    · rw [if_pos rfl,if_pos (by omega),if_pos rfl]
  |d+1,x,acc,h,hb,ha=>by
    by_cases hx:x=0
    · subst hx
      refine Ev.step (f:=fun k=>some (signB neg acc)) (fun k=>?_) ((Ev.now _).eq (by rfl))
      simp only [spec_Decimal.l0];rw [if_pos trivial]
      unfold signB
      cases neg
      · rfl
      · rw [if_pos rfl,if_pos (by omega),if_pos rfl]
    · have e1:(Int.tmod x 10).natAbs=x.natAbs % 10:=Int.natAbs_tmod x 10
      have e2:(Int.tdiv x 10).natAbs=x.natAbs / 10:=Int.natAbs_tdiv x 10
      have hs:(strOfNums [48+((x.natAbs % 10:Nat):Int)]).size=1:=by rw [str_size];rfl
      have hf:fig ((x.natAbs % 10:Nat):Int)=48+((x.natAbs % 10:Nat):Int):=by unfold fig;rw [if_pos (by omega)]
      have hw:wrap64 (Int.tdiv x 10)=Int.tdiv x 10:=w64 (by omega) (by omega)
      have hp:x.natAbs / 10<10 ^ d:=by rw [Nat.pow_succ] at h;omega
      have ih:=spec_Decimal_l0 neg d (Int.tdiv x 10) (strOfNums [48+((x.natAbs % 10:Nat):Int)]++acc) (by rw [e2];exact hp) (by omega) (by rw [size_append,hs];omega)
      rw [e2,decG_step (by omega)] at ih
      refine Ev.step (f:=fun k=>spec_Decimal.l0 k (Int.tdiv x 10) neg (strOfNums [48+((x.natAbs % 10:Nat):Int)]++acc)) (fun k=>?_) ih
      simp only [spec_Decimal.l0];rw [if_neg hx]
      by_cases ht:Int.tmod x 10<0
      · have e3:wrap64 (-(Int.tmod x 10))=((x.natAbs % 10:Nat):Int):=by rw [w64 (by omega) (by omega)];omega
        rw [if_pos ht,e3,spec_l01Figure_is _ (by omega) (by omega)]
        simp only [Option.bind_some,hf]
        rw [if_pos (by rw [hs];omega),hw]
      · have e3:Int.tmod x 10=((x.natAbs % 10:Nat):Int):=by omega
        rw [if_neg ht,e3,spec_l01Figure_is _ (by omega) (by omega)]
        simp only [Option.bind_some,hf]
        rw [if_pos (by rw [hs];omega),hw]
theorem spec_Decimal_ev (n:Int) (h0: -9223372036854775808≤n) (h1:n≤9223372036854775807):Ev (fun k=>spec_Decimal.f k n) (decS n):=by
  unfold spec_Decimal.f
  by_cases h:n=0
  · subst h;exact Ev.pos rfl ((Ev.now _).eq (by rw [decS_pos (by decide)];exact(decB_small (u:=0) (by decide)).symm▸rfl))
  · refine Ev.neg h ((spec_Decimal_l0 _ 20 n _ (by omega) (by omega) (by simp [ByteArray.size])).eq ?_)
    have e:decG n.natAbs (⟨#[]⟩:ByteArray)=decB n.natAbs:=by unfold decG;rw [if_neg (by omega),M.append_nil]
    rw [e];unfold signB
    by_cases hn:n<0
    · rw [decide_eq_true hn,if_pos rfl,decS_neg hn]
    · rw [decide_eq_false hn,if_neg (by decide),decS_pos hn]
theorem spec_JournalName_ev (n:Int):Ev (fun k=>spec_JournalName.f k n) (if inR n 0 999=true then(⟨#[106]⟩:ByteArray)++decS n else⟨#[]⟩):=by
  unfold spec_JournalName.f
  refine Ev.bind0 (spec_l01In_is _ _ _) ?_
  by_cases h:inR n 0 999=true
  · have hr:=inR_iff.1 h
    rw [if_pos h]
    refine Ev.pos h (Ev.bind (spec_Decimal_ev n (by omega) (by omega)) (Ev.pos ?_ (Ev.now _)))
    have:=decS_size n (by omega) (by omega);omega
  · rw [if_neg h];exact Ev.neg h (Ev.now _)
def dF (acc:Nat):List Int→Option Nat
  | []=>some acc
  |b :: r=>if 48≤b∧b≤57 then dF (acc*10+(b - 48).toNat) r else none
theorem dF_snoc (b:Int):∀(l:List Int) (acc:Nat),dF acc (l++ [b])=(dF acc l).bind fun m=>if 48≤b∧b≤57 then some (m*10+(b - 48).toNat) else none
  | [],acc=>by simp [dF]
  |c :: l,acc=>by
    simp only [List.cons_append,dF]
    by_cases h:48≤c∧c≤57
    · rw [if_pos h,if_pos h];exact dF_snoc b l _
    · rw [if_neg h,if_neg h];rfl
theorem dF_decFrom:∀(l:List UInt8) (acc:Nat),dF acc (l.map fun b=>(b.toNat:Int))=Lib.decFrom acc l
  | [],acc=>rfl
  |b :: l,acc=>by
    simp only [List.map_cons,dF,Lib.decFrom,Lib.digitVal]
    by_cases h:48≤b.toNat∧b.toNat≤57
    · rw [if_pos h,if_pos (by omega)]
      have e:((b.toNat:Int) - 48).toNat=b.toNat - 48:=by omega
      rw [e];exact dF_decFrom l _
    · rw [if_neg h,if_neg (by omega)]
theorem dF_lt:∀(l:List Int) (acc i:Nat) (m:Nat),acc<10 ^ i→dF acc l=some m→m<10 ^ (i+l.length)
  | [],acc,i,m,h,e=>by simp only [dF,Option.some.injEq] at e;subst e;simpa using h
  |b :: l,acc,i,m,h,e=>by
    simp only [dF] at e
    by_cases hb:48≤b∧b≤57
    · rw [if_pos hb] at e
      have:=dF_lt l _ (i+1) m (by rw [Nat.pow_succ];omega) e
      simp only [List.length_cons]
      rw [show i+(l.length+1)=i+1+l.length by omega];exact this
    · rw [if_neg hb] at e;cases e
theorem dF_decB (u:Nat):dF 0 (bytesOf (decB u))=some u:=by
  induction u using Nat.strongRecOn with
  |_ u ih=>
    by_cases h:u<10
    · rw [decB_small h,bytes_str (xs:=[48+(u:Int)]) (by intro x hx;simp at hx;omega)]
      simp only [dF];rw [if_pos (by omega)];congr 1;omega
    · rw [decB_big h,bytes_append,bytes_str (xs:=[48+((u % 10:Nat):Int)]) (by intro x hx;simp at hx;omega),dF_snoc,ih (u / 10) (by omega)]
      simp only [Option.bind_some];rw [if_pos (by omega)];congr 1;omega
theorem decB_pos (u:Nat):1≤(decB u).size:=by
  by_cases h:u<10
  · rw [decB_small h,str_size];simp
  · rw [decB_big h,size_append,str_size];simp
def rdC (t:ByteArray):Option Nat→Int × Bool
  |some n=>if(n:Int)≤1000000000∧decS n=t then((n:Int),true) else(0,false)
  |none=>(0,false)
def rdDec (t:ByteArray):Int × Bool:=rdC t (dF 0 (bytesOf t))
theorem decS_nat (n:Nat):decS (n:Int)=decB n:=by rw [decS_pos (by omega)];rfl
theorem rdDec_long {t:ByteArray} (h:10<t.size):rdDec t=(0,false):=by
  unfold rdDec
  cases e:dF 0 (bytesOf t) with
  |none=>rfl
  |some n=>
    simp only [rdC]
    refine if_neg (fun hc=>?_)
    have hs:(decB n).size≤9+1:=decB_size n 9 (by have:=hc.1;omega)
    rw [decS_nat] at hc
    rw [hc.2] at hs;omega
theorem atoiAll_dF {t:ByteArray} {n:Nat} (h:dF 0 (bytesOf t)=some n) (h1:1≤t.size) (h2:t.size≤18):Lib.atoiAll t.data.toList= .ok (n:Int):=by
  have hl:t.data.toList.length=t.size:=by rw [Array.length_toList];rfl
  rw [Lib.atoiAll_short _ (by omega)]
  have hd:Lib.decFrom 0 t.data.toList=some n:=by rw [←dF_decFrom];exact h
  cases e:t.data.toList with
  |nil=>rw [e] at hl;simp at hl;omega
  |cons b r=>
    rw [e] at hd
    have hb:48≤b.toNat∧b.toNat≤57:=by
      simp only [Lib.decFrom,Lib.digitVal] at hd
      by_cases hb:48≤b.toNat∧b.toNat≤57
      · exact hb
      · rw [if_neg hb] at hd;cases hd
    have n45:¬b=45:=fun e=>by rw [e] at hb;exact absurd hb (by decide)
    have n43:¬b=43:=fun e=>by rw [e] at hb;exact absurd hb (by decide)
    simp only [Lib.atoi,beq_iff_eq,n45,n43,if_false,Lib.decNat,List.isEmpty_cons,hd]
    rfl
theorem spec_ReadDecimal_l0 (t:ByteArray) (ht:t.size≤10):∀(d i n:Nat),i+d=t.size→n<10 ^ i→
    Ev (fun k=>spec_ReadDecimal.l0 k t (n:Int) (i:Int)) (rdC t (dF n ((bytesOf t).drop i)))
  |0,i,n,h,hn=>by
    have hp:10 ^ i≤10 ^ 10:=Nat.pow_le_pow_right (by decide) (by omega)
    have e10:(10:Nat) ^ 10=10000000000:=by decide
    rw [List.drop_of_length_le (by rw [bytesOf_length];omega)]
    simp only [dF,rdC]
    refine Ev.step (f:=fun k=>if(n:Int)>1000000000 then some (0,false) else(spec_Decimal.f k n).bind fun t109=>if t109.toList=t.toList then some ((n:Int),true) else some (0,false)) (fun k=>?_) ?_
    · simp only [spec_ReadDecimal.l0];rw [if_neg (by omega)]
    · by_cases hb:(n:Int)>1000000000
      · exact(Ev.pos hb (Ev.now _)).eq (if_neg (fun hc=>by omega)).symm
      · refine Ev.neg hb (Ev.bind (spec_Decimal_ev n (by omega) (by omega)) ?_)
        by_cases he:decS (n:Int)=t
        · exact(Ev.pos ((toList_iff _ _).2 he) (Ev.now _)).eq (if_pos ⟨by omega,he⟩).symm
        · exact(Ev.neg (fun hc=>he ((toList_iff _ _).1 hc)) (Ev.now _)).eq (if_neg (fun hc=>he hc.2)).symm
  |d+1,i,n,h,hn=>by
    have hp:10 ^ i≤10 ^ 10:=Nat.pow_le_pow_right (by decide) (by omega)
    have e10:(10:Nat) ^ 10=10000000000:=by decide
    have hr:=bytes_range t (bt t i) (by rw [←bytes_get t i (by rw [bytesOf_length];omega)];exact List.getElem_mem _)
    rw [bytes_drop (by omega:i<t.size)]
    simp only [dF]
    by_cases hb:48≤bt t i∧bt t i≤57
    · rw [if_pos hb]
      refine Ev.step (f:=fun k=>spec_ReadDecimal.l0 k t ((n*10+(bt t i - 48).toNat:Nat):Int) ((i+1:Nat):Int)) (fun k=>?_) (spec_ReadDecimal_l0 t ht d (i+1) _ (by omega) (by rw [Nat.pow_succ];omega))
      simp only [spec_ReadDecimal.l0]
      rw [if_pos (by omega),if_pos (by omega),if_neg (by omega),if_neg (by omega)]
      have w1:wrap64 (10*(n:Int))=10*n:=w64 (by omega) (by omega)
      have w2:wrap64 (bt t i)=bt t i:=w64 (by omega) (by omega)
      rw [w1,w2,w64 (x:=10*(n:Int)+bt t i) (by omega) (by omega),w64 (x:=10*(n:Int)+bt t i - 48) (by omega) (by omega),w64 (x:=(i:Int)+1) (by omega) (by omega)]
      congr 1
      omega
    · rw [if_neg hb]
      refine Ev.step (f:=fun k=>some (0,false)) (fun k=>?_) (Ev.now _)
      simp only [spec_ReadDecimal.l0]
      rw [if_pos (by omega),if_pos (by omega)]
      by_cases h0:bt t i<48
      · rw [if_pos h0]
      · rw [if_neg h0,if_pos (by omega)]
theorem spec_ReadDecimal_ev (t:ByteArray):Ev (fun k=>spec_ReadDecimal.f k t) (rdDec t):=by
  unfold spec_ReadDecimal.f
  by_cases h:(t.size:Int)>10
  · rw [rdDec_long (by omega)];exact Ev.pos h (Ev.now _)
  · refine Ev.neg h ?_
    have:=spec_ReadDecimal_l0 t (by omega) t.size 0 0 (by omega) (by decide)
    exact this
def numIx (p:Int) (most:Int) (s:ByteArray):Int:=
  match bytesOf s with
  | []=>-1
  |b :: _=>if b=p∧(rdDec (s.extract 1 s.size)).2=true∧(rdDec (s.extract 1 s.size)).1≤most then(rdDec (s.extract 1 s.size)).1 else -1
theorem rdDec_ok {t:ByteArray} (h:(rdDec t).2=true):∃n:Nat,(rdDec t).1=(n:Int)∧(n:Int)≤1000000000∧decS (n:Int)=t:=by
  unfold rdDec at *
  cases e:dF 0 (bytesOf t) with
  |none=>rw [e] at h;simp [rdC] at h
  |some n=>
    rw [e] at h
    unfold rdC at *
    by_cases hc:(n:Int)≤1000000000∧decS (n:Int)=t
    · refine⟨n,?_,hc.1,hc.2⟩
      simp only;rw [if_pos hc]
    · simp only at h;rw [if_neg hc] at h;simp at h
theorem rdDec_nil:rdDec (⟨#[]⟩:ByteArray)=(0,false):=by
  have:¬(rdDec (⟨#[]⟩:ByteArray)).2=true:=fun h=>by
    obtain⟨n,_,_,h3⟩:=rdDec_ok h
    rw [decS_nat] at h3
    have:=decB_pos n
    rw [h3] at this
    exact absurd this (by decide)
  unfold rdDec at *
  cases e:dF 0 (bytesOf (⟨#[]⟩:ByteArray)) with
  |none=>rfl
  |some n=>
    rw [e] at this
    unfold rdC at *
    by_cases hc:(n:Int)≤1000000000∧decS (n:Int)=(⟨#[]⟩:ByteArray)
    · simp only at this;rw [if_pos hc] at this;exact absurd rfl this
    · simp only;rw [if_neg hc]
theorem decS_inj {m n:Nat} (h:decS (m:Int)=decS (n:Int)):m=n:=by
  rw [decS_nat,decS_nat] at h
  have h1:=dF_decB m
  rw [h,dF_decB n] at h1
  exact(Option.some.inj h1).symm
theorem head_cut {s:ByteArray} {b:Int} {l:List Int} (h:bytesOf s=b :: l):s=strOfNums [b]++s.extract 1 s.size:=by
  have hb:=bytes_range s b (by rw [h];simp)
  apply bytes_inj
  rw [bytes_append,bytes_str (by intro x hx;rw [List.mem_singleton.1 hx];exact hb),bytes_extract,h]
  have hz:l.length+1=s.size:=by rw [←bytesOf_length,h];rfl
  simp only [List.drop_succ_cons,List.drop_zero,List.singleton_append]
  rw [List.take_of_length_le (by omega)]
theorem numIx_name {p most:Int} {s:ByteArray} (h:0≤numIx p most s):∃n:Nat,numIx p most s=(n:Int)∧(n:Int)≤most∧s=strOfNums [p]++decS (n:Int):=by
  unfold numIx at *
  cases e:bytesOf s with
  |nil=>rw [e] at h;simp at h
  |cons b l=>
    rw [e] at h
    simp only at *
    by_cases hc:b=p∧(rdDec (s.extract 1 s.size)).2=true∧(rdDec (s.extract 1 s.size)).1≤most
    · rw [if_pos hc]
      obtain⟨n,h1,h2,h3⟩:=rdDec_ok hc.2.1
      have h4:=head_cut e
      rw [←h3,hc.1] at h4
      exact⟨n,h1,by have:=hc.2.2;omega,h4⟩
    · rw [if_neg hc] at h;omega
theorem spec_l07Number_ev (s:ByteArray):Ev (fun k=>spec_l07Number.f k s) (numIx 106 999 s):=by
  unfold spec_l07Number.f
  by_cases h:s.size<2
  · refine Ev.pos (by omega) ((Ev.now _).eq ?_)
    unfold numIx
    cases e:bytesOf s with
    |nil=>rfl
    |cons b l=>
      have hz:l.length+1=s.size:=by rw [←bytesOf_length,e];rfl
      have:s.extract 1 s.size=⟨#[]⟩:=bytes_inj (by rw [bytes_extract,e];simp [show l= [] from List.eq_nil_of_length_eq_zero (by omega),bytes_nil])
      simp only
      rw [this,rdDec_nil,if_neg (by simp)]
  · refine Ev.neg (by omega) (Ev.pos (by omega) (Ev.bind (spec_ReadDecimal_ev _) ?_))
    unfold numIx
    cases e:bytesOf s with
    |nil=>exact absurd (bytesOf_length s) (by rw [e];simp;omega)
    |cons b l=>
      simp only
      by_cases h2:(rdDec (s.extract 1 s.size)).2=true
      · obtain⟨n,h3,h4,h5⟩:=rdDec_ok h2
        refine Ev.pos h2 (Ev.bind (spec_JournalName_ev _) ?_)
        rw [h3]
        have hc:=head_cut e
        by_cases h6:(n:Int)≤999
        · rw [if_pos (show inR (n:Int) 0 999=true from inR_iff.2 (by omega)),h5]
          by_cases h7:b=106
          · refine(Ev.pos ?_ (Ev.now _)).eq (if_pos ⟨h7,h2,h6⟩).symm
            rw [h7] at hc
            exact congrArg ByteArray.toList hc.symm
          · refine(Ev.neg (fun h8=>?_) (Ev.now _)).eq (if_neg (fun e=>h7 e.1)).symm
            have h9:=congrArg bytesOf ((toList_iff _ _).1 h8)
            rw [e,bytes_append] at h9
            exact h7 (List.cons.inj h9).1.symm
        · rw [if_neg (show ¬inR (n:Int) 0 999=true from fun e=>by have:=inR_iff.1 e;omega)]
          refine(Ev.neg (fun h8=>?_) (Ev.now _)).eq (if_neg (fun e=>h6 e.2.2)).symm
          have h9:=congrArg bytesOf ((toList_iff _ _).1 h8)
          rw [e] at h9
          exact absurd h9 (by simp [bytes_nil])
      · exact(Ev.neg h2 (Ev.now _)).eq (if_neg (fun e=>h2 e.2.1)).symm
def fAt (l:List IFi) (s:ByteArray):Int:=M.idxP (fun x:IFi=>x.f0.toList == s.toList) l 0
theorem spec_l03At_l0 (l:List IFi) (hl:l.length≤1048577) (s:ByteArray):∀(d i:Nat),i+d=l.length→Ev (fun k=>spec_l03At.l0 k s (i:Int) l) (M.idxP (fun x:IFi=>x.f0.toList == s.toList) (l.drop i) (i:Int))
  |0,i,h=>by
    refine Ev.step (f:=fun k=>some (-1)) (fun k=>?_) ((Ev.now _).eq ?_)
    · simp only [spec_l03At.l0];rw [if_neg (by omega)]
    · rw [List.drop_of_length_le (by omega)];rfl
  |d+1,i,h=>by
    rw [rd_IFi_drop (l:=l) (i:=i) (by omega)]
    by_cases e:(rd_T49 l (i:Int)).f0.toList=s.toList
    · refine Ev.step (f:=fun k=>some (i:Int)) (fun k=>?_) ((Ev.now _).eq ?_)
      · simp only [spec_l03At.l0]
        rw [if_pos (by omega),if_pos (by omega),if_pos e]
      · simp only [M.idxP];rw [if_pos (by simpa using e)]
    · refine Ev.step (f:=fun k=>spec_l03At.l0 k s ((i+1:Nat):Int) l) (fun k=>?_) ((spec_l03At_l0 l hl s d (i+1) (by omega)).eq ?_)
      · simp only [spec_l03At.l0]
        rw [if_pos (by omega),if_pos (by omega),if_neg e,w64 (x:=(i:Int)+1) (by omega) (by omega)];rfl
      · simp only [M.idxP];rw [if_neg (by simpa using e)];rfl
theorem spec_l03At_ev (l:List IFi) (hl:l.length≤1048577) (s:ByteArray):Ev (fun k=>spec_l03At.f k l s) (fAt l s):=by
  unfold spec_l03At.f
  have:=spec_l03At_l0 l hl s l.length 0 (by omega)
  rw [List.drop_zero] at this
  exact this
theorem fAt_cases (l:List IFi) (s:ByteArray):fAt l s= -1∨∃(k:Nat) (h:k<l.length),fAt l s=(k:Int)∧l[k].f0.toList=s.toList:=by
  rcases M.idxP_cases (fun x:IFi=>x.f0.toList == s.toList) l 0 with ⟨h,_⟩|⟨k,h,e,hk⟩
  · exact .inl h
  · exact .inr ⟨k,h,by unfold fAt;omega,by simpa using hk⟩
def fileAt (l:List IFi) (s:ByteArray):ByteArray × Bool:=if fAt l s<0 then(⟨#[]⟩,false) else((rd_T49 l (fAt l s)).f1,true)
theorem spec_FileAt_ev (l:List IFi) (hl:l.length≤1048577) (s:ByteArray):Ev (fun k=>spec_FileAt.f k l s) (fileAt l s):=by
  unfold spec_FileAt.f fileAt
  refine Ev.bind (spec_l03At_ev l hl s) (Ev.is ?_)
  rcases fAt_cases l s with h|⟨k,h,e,_⟩
  · rw [if_pos (by omega),if_pos (by omega)]
  · rw [if_neg (by omega),if_pos (by omega),if_pos (by omega),if_neg (by omega)]
theorem spec_l01Var_l0:∀(n:Nat) (acc:List Int),acc.length+n<140737488355328→Ev (fun k=>spec_l01Var.l0 k (n:Int) acc) (strOfNums (acc++varL n)):=by
  intro n
  induction n using Nat.strongRecOn with
  |_ n ih=>
    intro acc ha
    by_cases h:127<n
    · refine Ev.step (f:=fun k=>spec_l01Var.l0 k ((n / 128:Nat):Int) (acc++ [((n % 128+128:Nat):Int)])) (fun k=>?_) ?_
      · simp only [spec_l01Var.l0]
        rw [if_pos (by omega),if_pos (by omega),td (by omega),tm (by omega)]
        rw [w64 (x:=(n:Int) / 128) (by omega) (by omega),w64 (x:=(n:Int) % 128+128) (by omega) (by omega)]
        congr 3
        omega
      · refine(ih (n / 128) (by omega) _ (by simp;omega)).eq ?_
        rw [varL_big h,List.append_assoc];rfl
    · refine Ev.step (f:=fun k=>some (strOfNums (acc++varL n))) (fun k=>?_) (Ev.now _)
      simp only [spec_l01Var.l0]
      rw [if_neg (by omega),if_pos (by omega),varL_small h]
      congr 4
      omega
theorem spec_l01Var_ev (n:Nat) (h:n<140737488355328):Ev (fun k=>spec_l01Var.f k (n:Int)) (vt n):=by
  have:=spec_l01Var_l0 n [] (by simpa using h)
  exact this
theorem spec_l01Var_evi (n:Int) (h0:0≤n) (h:n<140737488355328):Ev (fun k=>spec_l01Var.f k n) (vt n.toNat):=by
  have:=spec_l01Var_ev n.toNat (by omega)
  rwa [Int.toNat_of_nonneg h0] at this
theorem spec_l02Four_is (x:Int):spec_l02Four.f x=some (four x):=rfl
theorem spec_SumMore_l1 {s:ByteArray} {i r:Int} :∀(d:Nat) (j x0:Int),0≤j→j+d=8→Ev (fun k=>spec_SumMore.l0 k (halves d x0) s (wrap64 (i+1))) r→Ev (fun k=>spec_SumMore.l1 k x0 s i j) r
  |0,j,x0,h0,h,hk=>by
    refine Ev.step (f:=fun k=>spec_SumMore.l0 k x0 s (wrap64 (i+1))) (fun k=>?_) hk
    simp only [spec_SumMore.l1];rw [if_neg (by omega)]
  |d+1,j,x0,h0,h,hk=>by
    refine Ev.step (f:=fun k=>spec_SumMore.l1 k (half x0) s i (j+1)) (fun k=>?_) (spec_SumMore_l1 d (j+1) (half x0) (by omega) (by omega) hk)
    simp only [spec_SumMore.l1];rw [if_pos (by omega),w64 (x:=j+1) (by omega) (by omega)]
    unfold half
    split <;> rfl
theorem spec_SumMore_l0 (s:ByteArray) (hs:s.size≤140737488351232):∀(d i:Nat) (x0:Int),i+d=s.size→Ev (fun k=>spec_SumMore.l0 k x0 s i) (sumL x0 ((bytesOf s).drop i))
  |0,i,x0,h=>by
    refine Ev.step (f:=fun k=>some x0) (fun k=>?_) ((Ev.now _).eq ?_)
    · simp only [spec_SumMore.l0];rw [if_neg (by omega)]
    · rw [List.drop_of_length_le (by rw [bytesOf_length];omega)];rfl
  |d+1,i,x0,h=>by
    refine Ev.step (f:=fun k=>spec_SumMore.l1 k (Go.bits .xor .u32 x0 (bt s i % 4294967296)) s i 0) (fun k=>?_) (spec_SumMore_l1 8 0 _ (by omega) (by omega) ?_)
    · simp only [spec_SumMore.l0];rw [if_pos (by omega),if_pos (by omega)]
    · rw [w64 (x:=(i:Int)+1) (by omega) (by omega)]
      have:=spec_SumMore_l0 s hs d (i+1) (halves 8 (Go.bits .xor .u32 x0 (bt s i % 4294967296))) (by omega)
      rw [bytes_drop (by omega)]
      exact this
theorem spec_SumMore_ev (x:Int) (s:ByteArray) (hs:s.size≤140737488351232):Ev (fun k=>spec_SumMore.f k x s) (sumL x (bytesOf s)):=by
  have:=spec_SumMore_l0 s hs s.size 0 x (by omega)
  exact this
theorem spec_SumOf_ev (s:ByteArray) (hs:s.size≤140737488351232):Ev (fun k=>spec_SumOf.f k s) (sumOf s):=by
  unfold spec_SumOf.f
  exact Ev.bind (spec_SumMore_ev _ s hs) (Ev.now _)
theorem spec_Frame_ev (s:ByteArray) (hs:s.size≤140737488351232):Ev (fun k=>spec_Frame.f k s) (frame s):=by
  unfold spec_Frame.f frame
  refine Ev.bind0 (spec_l01In_is _ _ _) ?_
  by_cases h:1≤s.size∧s.size≤9000
  · rw [if_pos h]
    refine Ev.pos (inR_iff.2 (by omega)) (Ev.bind (spec_l01Var_ev s.size (by omega)) (Ev.bind (spec_SumOf_ev s hs) (Ev.bind0 (spec_l02Four_is _) (Ev.is ?_))))
    have:=vt_size5 s.size (by omega)
    rw [if_pos (by rw [four_size];omega),if_pos (by rw [size_append,four_size];omega)]
  · rw [if_neg h]
    exact Ev.neg (fun e=>h (by have:=inR_iff.1 e;omega)) (Ev.now _)
theorem spec_ReadVar_l0 (s:ByteArray) (hs:s.size≤140737488351232) (a:Nat):∀(f i n:Nat),i+f=5→Led s a i n→
    Ev (fun k=>spec_ReadVar.l0 k s (a:Int) (n:Int) ((128 ^ i:Nat):Int) ((a+i:Nat):Int))
      (match rvL f i n ((bytesOf s).drop (a+i)) with|some (n,m)=>((n:Int),(a:Int)+m,true)|none=>(0,0,false))
  |0,i,n,hi,hl=>by
    have h1:=hl.1
    refine Ev.step (f:=fun k=>spec_ReadVar.j1 k s (a:Int) (n:Int) ((128 ^ i:Nat):Int) ((a+i:Nat):Int) false) (fun k=>?_) ?_
    · simp only [spec_ReadVar.l0]
      rw [w64 (x:=(a:Int)+5) (by omega) (by omega)]
      split
      · rw [show decide (((a+i:Nat):Int)<(a:Int)+5)=false from by simp;omega]
      · rfl
    · refine Ev.step (f:=fun _=>some (0,0,false)) (fun k=>?_) (Ev.now _)
      simp only [spec_ReadVar.j1];rfl
  |f+1,i,n,hi,hl=>by
    have h1:=hl.1
    by_cases hlt:a+i<s.size
    · have hr:=bt_range s ((a+i:Nat):Int)
      have hp:=pow_bound (i:=i) (by omega)
      have hm:=mul_bound (bt s ((a+i:Nat):Int)).toNat (128 ^ i) hp.1
      have hn:=hl.lt
      rw [bytes_drop hlt]
      refine Ev.step (f:=fun k=>spec_ReadVar.j1 k s (a:Int) (n:Int) ((128 ^ i:Nat):Int) ((a+i:Nat):Int) true) (fun k=>?_) ?_
      · simp only [spec_ReadVar.l0]
        rw [w64 (x:=(a:Int)+5) (by omega) (by omega),if_pos (by omega)]
        rw [show decide (((a+i:Nat):Int)<(a:Int)+5)=true from by simp;omega]
      have hb:wrap64 (bt s ((a+i:Nat):Int))=bt s ((a+i:Nat):Int):=w64 (by omega) (by omega)
      have e1:Int.tmod (bt s ((a+i:Nat):Int)) 128*((128 ^ i:Nat):Int)=(((bt s ((a+i:Nat):Int)).toNat % 128*128 ^ i:Nat):Int):=by
        rw [tm (by omega),Int.natCast_mul];congr 1;omega
      generalize hc:(bt s ((a+i:Nat):Int)).toNat % 128*128 ^ i=q at *
      have e2:wrap64 ((n:Int)+wrap64 (Int.tmod (wrap64 (bt s ((a+i:Nat):Int))) 128*((128 ^ i:Nat):Int)))=((n+q:Nat):Int):=by
        rw [hb,e1,w64 (x:=(q:Int)) (by omega) (by omega),w64 (by omega) (by omega)];omega
      by_cases hb:bt s ((a+i:Nat):Int)<128
      · have hsame:=hl.same hlt hb
        rw [hc] at hsame
        simp only [rvL,if_pos hb,hc]
        by_cases hM:n+q≤1000000000
        · refine Ev.step (f:=fun k=>(spec_l01Var.f k ((n+q:Nat):Int)).bind fun t=>(if t.toList=(s.extract a (a+i+1)).toList then some (((n+q:Nat):Int),((a+i+1:Nat):Int),true) else some (0,0,false))) (fun k=>?_) ?_
          · simp only [spec_ReadVar.j1,if_true]
            rw [if_pos (by omega),if_pos (by omega),if_pos hb,e2,if_neg (by omega)]
            rw [w64 (x:=((a+i:Nat):Int)+1) (by omega) (by omega)]
            simp only [if_pos (show(0:Int)≤(a:Int) from by omega),if_pos (show(a:Int)≤((a+i:Nat):Int)+1 from by omega),if_pos (show((a+i:Nat):Int)+1≤(s.size:Int) from by omega)]
            rw [show((a:Int)).toNat=a from by omega,show(((a+i:Nat):Int)+1).toNat=a+i+1 from by omega,show((a+i:Nat):Int)+1=((a+i+1:Nat):Int) from by omega]
          · refine Ev.bind (spec_l01Var_ev (n+q) (by omega)) (Ev.is ?_)
            by_cases hq:(varL (n+q)).length=i+1
            · rw [if_pos (hsame.2 hq),if_pos ⟨hM,hq⟩]
              simp only [Option.some.injEq,Prod.mk.injEq,and_true,true_and];omega
            · rw [if_neg (fun e=>hq (hsame.1 e)),if_neg (fun e=>hq e.2)]
        · refine Ev.step (f:=fun k=>some (0,0,false)) (fun k=>?_) ((Ev.now _).eq ?_)
          · simp only [spec_ReadVar.j1,if_true]
            rw [if_pos (by omega),if_pos (by omega),if_pos hb,e2,if_pos (by omega)]
          · rw [if_neg (fun e=>hM e.1)]
      · simp only [rvL,if_neg hb,hc]
        have hnext:=hl.next hlt (by omega)
        rw [hc] at hnext
        have e3:wrap64 (((128 ^ i:Nat):Int)*128)=((128 ^ (i+1):Nat):Int):=by
          rw [w64 (by omega) (by omega),Nat.pow_succ,Int.natCast_mul];rfl
        refine Ev.step (f:=fun k=>spec_ReadVar.l0 k s (a:Int) ((n+q:Nat):Int) ((128 ^ (i+1):Nat):Int) ((a+(i+1):Nat):Int)) (fun k=>?_) (spec_ReadVar_l0 s hs a f (i+1) (n+q) (by omega) hnext)
        simp only [spec_ReadVar.j1,if_true]
        rw [if_pos (by omega),if_pos (by omega),if_neg hb,e2,e3]
        rw [w64 (x:=((a+i:Nat):Int)+1) (by omega) (by omega),show((a+i:Nat):Int)+1=((a+(i+1):Nat):Int) from by omega]
    · rw [List.drop_of_length_le (by rw [bytesOf_length];omega)]
      refine Ev.step (f:=fun k=>spec_ReadVar.j1 k s (a:Int) (n:Int) ((128 ^ i:Nat):Int) ((a+i:Nat):Int) false) (fun k=>?_) ?_
      · simp only [spec_ReadVar.l0]
        rw [if_neg (by omega)]
      · refine Ev.step (f:=fun _=>some (0,0,false)) (fun k=>?_) (Ev.now _)
        simp only [spec_ReadVar.j1];rfl
theorem spec_ReadVar_ev (s:ByteArray) (hs:s.size≤140737488351232) (a:Int):Ev (fun k=>spec_ReadVar.f k s a) (readVar s a):=by
  unfold spec_ReadVar.f readVar
  refine Ev.bind0 (spec_l01In_is _ _ _) ?_
  by_cases h:0≤a∧a≤(s.size:Int)
  · rw [if_pos h]
    refine Ev.pos (inR_iff.2 h) ?_
    have:=spec_ReadVar_l0 s hs a.toNat 5 0 0 rfl (Led.start s a.toNat (by omega))
    simp only [Nat.add_zero,Int.toNat_of_nonneg h.1] at this
    exact this
  · rw [if_neg h]
    exact Ev.neg (fun e=>h (inR_iff.1 e)) (Ev.now _)
theorem spec_Unframe_l0 (s:ByteArray) (hs:s.size≤20000):∀(f a:Nat) (acc:List ByteArray),a+f=s.size→acc.length≤a→
    Ev (fun k=>spec_Unframe.l0 k s acc (a:Int)) ((unf f s acc a).1,((unf f s acc a).2:Int)):=by
  intro f
  induction f using Nat.strongRecOn with
  |_ f ih=>
    intro a acc hf ha
    cases f with
    |zero=>
      refine Ev.step (f:=fun k=>some (acc,(a:Int))) (fun k=>?_) (Ev.now _)
      simp only [spec_Unframe.l0];rw [if_neg (by omega)]
    |succ f=>
      refine Ev.step (fun k=>by simp only [spec_Unframe.l0];rw [if_pos (by omega)]) (Ev.bind (spec_ReadVar_ev s (by omega) (a:Int)) ?_)
      simp only [unf,nextF]
      rcases readVar_cases s (a:Int) with h|⟨n,m,h,hn,hm,_,hb,hv⟩
      · rw [h]
        have hv:rvar ((bytesOf s).drop a)=none:=by
          unfold readVar at h
          rw [if_pos (by omega),Int.toNat_natCast] at h
          cases e:rvar ((bytesOf s).drop a) with
          |none=>rfl
          |some p=>obtain⟨n,m⟩:=p;rw [e] at h;simp at h
        rw [hv]
        refine Ev.neg (by simp) (Ev.step (fun k=>rfl) (Ev.now _))
      · rw [h]
        rw [Int.toNat_natCast] at hv
        rw [hv]
        refine Ev.pos rfl ?_
        simp only
        rw [w64 (x:=(s.size:Int) - ((a:Int)+(m:Int))) (by omega) (by omega),w64 (x:=(s.size:Int) - ((a:Int)+(m:Int)) - 4) (by omega) (by omega)]
        by_cases h1:n+(a+m+4)≤s.size
        · rw [decide_eq_false (p:=(n:Int)>(s.size:Int) - ((a:Int)+(m:Int)) - 4) (by omega),if_pos h1]
          refine Ev.step (fun k=>by simp only [spec_Unframe.j1,Bool.false_eq_true,if_false];rfl) ?_
          rw [w64 (x:=(a:Int)+(m:Int)+4) (by omega) (by omega),w64 (x:=(a:Int)+(m:Int)+4+(n:Int)) (by omega) (by omega)]
          have e1:((a:Int)+(m:Int)+4).toNat=a+m+4:=by omega
          have e2:((a:Int)+(m:Int)+4+(n:Int)).toNat=a+m+4+n:=by omega
          rw [e1,e2]
          have hz:=size_extract s (a+m+4) (a+m+4+n) (by omega) (by omega)
          refine Ev.pos (by omega) (Ev.pos (by omega) (Ev.pos (by omega) (Ev.bind (spec_Frame_ev _ (by omega)) ?_)))
          by_cases h2:(frame (s.extract (a+m+4) (a+m+4+n))).2=true
          · refine Ev.pos h2 (Ev.pos (by omega) (Ev.pos (by omega) ?_))
            rw [Int.toNat_natCast]
            by_cases h3:(frame (s.extract (a+m+4) (a+m+4+n))).1=s.extract a (a+m+4+n)
            · refine Ev.pos ((toList_iff _ _).2 h3) (Ev.pos (by omega) ?_)
              rw [if_pos ⟨h2,h3⟩]
              have e3:(a:Int)+(m:Int)+4+(n:Int)=((a+m+4+n:Nat):Int):=by omega
              rw [e3]
              refine(ih (s.size - (a+m+4+n)) (by omega) (a+m+4+n) (acc++ [s.extract (a+m+4) (a+m+4+n)]) (by omega) (by simp;omega)).eq ?_
              rw [unf_enough s (s.size - (a+m+4+n)) f _ _ (by omega) (by omega) (by omega)]
            · refine Ev.neg (fun e=>h3 ((toList_iff _ _).1 e)) ((Ev.now _).eq ?_)
              rw [if_neg (fun e=>h3 e.2)]
          · refine Ev.neg h2 ((Ev.now _).eq ?_)
            rw [if_neg (fun e=>h2 e.1)]
        · rw [decide_eq_true (p:=(n:Int)>(s.size:Int) - ((a:Int)+(m:Int)) - 4) (by omega),if_neg h1]
          exact Ev.step (fun k=>rfl) (Ev.now _)
theorem spec_Unframe_ev (s:ByteArray):Ev (fun k=>spec_Unframe.f k s) ((unframe s).1,((unframe s).2:Int)):=by
  unfold spec_Unframe.f unframe
  refine Ev.bind0 rfl ?_
  by_cases h:s.size≤20000
  · rw [if_pos h];exact Ev.neg (by omega) (spec_Unframe_l0 s h s.size 0 [] (by omega) (by simp))
  · rw [if_neg h];exact Ev.pos (by omega) (Ev.now _)
def varC (s:ByteArray) (a:Int) (b:Bool):Int × ByteArray × Int × Bool:=
  if b=true then(0,s,a,true) else if(readVar s a).2.2=true then((readVar s a).1,s,(readVar s a).2.1,b) else(0,s,a,true)
theorem varC_bad (s:ByteArray) (a:Int):varC s a true=(0,s,a,true):=by simp [varC]
theorem readVar_nat {s:ByteArray} {a:Nat} (h:a≤s.size):readVar s (a:Int)=(match rvar ((bytesOf s).drop a) with|some (n,m)=>((n:Int),(a:Int)+m,true)|none=>(0,0,false)):=by
  rw [readVar,if_pos ⟨by omega,by omega⟩,Int.toNat_natCast];cases rvar ((bytesOf s).drop a) <;> rfl
theorem varC_none {s:ByteArray} {a:Nat} (h:a≤s.size) (e:rvar ((bytesOf s).drop a)=none):varC s (a:Int) false=(0,s,(a:Int),true):=by
  rw [varC,if_neg (by simp),readVar_nat h,e];rfl
theorem varC_some {s:ByteArray} {a n m:Nat} (h:a≤s.size) (e:rvar ((bytesOf s).drop a)=some (n,m)):varC s (a:Int) false=((n:Int),s,((a+m:Nat):Int),false):=by
  rw [varC,if_neg (by simp),readVar_nat h,e];simp
theorem rvar_nil {s:ByteArray} {a:Nat} (h:s.size≤a):rvar ((bytesOf s).drop a)=none:=by
  rw [List.drop_of_length_le (by rw [bytesOf_length];exact h)];rfl
theorem extract_one {s:ByteArray} {a:Nat} (h:a<s.size):s.extract a (a+1)=strOfNums [bt s (a:Int)]:=bytes_inj (by
  have hr:=bt_range s (a:Int)
  rw [bytes_extract,bytes_str (by simp;omega),bytes_drop h]
  simp)
theorem bt_one {s:ByteArray} {a:Nat} (h:a<s.size):bt (s.extract a (a+1)) 0=bt s (a:Int):=by
  have hr:=bt_range s (a:Int)
  have hz:0<(bytesOf (s.extract a (a+1))).length:=by rw [bytesOf_length,size_extract s a (a+1) (by omega) (by omega)];omega
  have:=bytes_get (s.extract a (a+1)) 0 hz
  rw [show((0:Nat):Int)=0 from rfl] at this
  rw [←this]
  simp only [extract_one h]
  simp only [bytes_str (xs:=[bt s (a:Int)]) (by simp;omega),List.getElem_cons_zero]
theorem spec_l05Take_bad (s:ByteArray) (a n:Int):spec_l05Take.f s a true n=some (⟨#[]⟩,s,a,true):=by
  unfold spec_l05Take.f;rw [if_pos rfl]
theorem spec_l05Take_no {s:ByteArray} (hs:s.size≤140737488351232) {a:Nat} (ha:a≤s.size) {n:Int} (h0:0≤n) (h:(s.size:Int)<a+n):spec_l05Take.f s (a:Int) false n=some (⟨#[]⟩,s,(a:Int),true):=by
  unfold spec_l05Take.f
  rw [if_neg (by simp),w64 (x:=(s.size:Int) - a) (by omega) (by omega),if_pos (by omega)]
theorem spec_l05Take_ok {s:ByteArray} (hs:s.size≤140737488351232) {a n:Nat} (h:a+n≤s.size):spec_l05Take.f s (a:Int) false (n:Int)=some (s.extract a (a+n),s,((a+n:Nat):Int),false):=by
  unfold spec_l05Take.f
  rw [if_neg (by simp),w64 (x:=(s.size:Int) - a) (by omega) (by omega),if_neg (by omega),w64 (x:=(a:Int)+n) (by omega) (by omega),w64 (x:=(a:Int)+n - n) (by omega) (by omega),if_pos (by omega),if_pos (by omega),if_pos (by omega)]
  have e1:((a:Int)+n - n).toNat=a:=by omega
  have e2:((a:Int)+n).toNat=a+n:=by omega
  rw [e1,e2,←Int.natCast_add]
theorem spec_l05Var_ev (s:ByteArray) (hs:s.size≤140737488351232) (a:Int) (b:Bool):Ev (fun k=>spec_l05Var.f k s a b) (varC s a b):=by
  unfold spec_l05Var.f varC
  refine Ev.bind (spec_ReadVar_ev s hs a) (Ev.is ?_)
  split <;> (try split) <;> simp_all
def twoN (s:ByteArray) (c:Int):Int × Int × Bool:=
  match rvar ((bytesOf s).drop 1) with
  |none=>(0,0,false)
  |some (n,m)=>match rvar ((bytesOf s).drop (1+m)) with
    |none=>(0,0,false)
    |some (t,m2)=>if bt s 0=c∧1+m+m2=s.size then((n:Int),(t:Int),true) else(0,0,false)
theorem two_text {s a1:ByteArray} {n m t m2:Nat} {c:Int} (hc:bytesOf a1= [c]) (h0:1≤s.size) (h1:rvar ((bytesOf s).drop 1)=some (n,m)) (h2:rvar ((bytesOf s).drop (1+m))=some (t,m2)):
    a1++vt n++vt t=s↔bt s 0=c∧1+m+m2=s.size:=by
  have b1:=rvar_some h1
  have b2:=rvar_some h2
  have hr0:=bt_range s 0
  have e0:s.extract 0 1=strOfNums [bt s 0]:=extract_one (a:=0) (by omega)
  have key:s.extract 0 (1+m+m2)=strOfNums [bt s 0]++vt n++vt t:=by
    rw [←e0,rvar_vt h1,rvar_vt h2,extract_extract_append _ _ _ _ (by omega) (by omega),extract_extract_append _ _ _ _ (by omega) (by omega)]
  have hz1:(vt n).size=m:=by rw [rvar_vt h1,size_extract _ _ _ (by omega) (by omega)];omega
  have hz2:(vt t).size=m2:=by rw [rvar_vt h2,size_extract _ _ _ (by omega) (by omega)];omega
  have ha1:a1.size=1:=by rw [←bytesOf_length,hc];rfl
  constructor
  · intro e
    have hz:=congrArg ByteArray.size e
    simp only [ByteArray.size_append] at hz
    have hz':1+m+m2=s.size:=by omega
    refine⟨?_,hz'⟩
    rw [hz',extract_all] at key
    have e':=e.trans key
    have:=congrArg bytesOf e'
    simp only [bytes_append] at this
    rw [bytes_str (xs:=[bt s 0]) (by simp;omega),hc] at this
    simp only [List.singleton_append,List.cons_append,List.cons.injEq] at this
    exact this.1.symm
  · rintro⟨e,hz⟩
    rw [hz,extract_all] at key
    have ea:a1=strOfNums [bt s 0]:=bytes_inj (by rw [bytes_str (xs:=[bt s 0]) (by simp;omega),hc,e])
    rw [ea]
    exact key.symm
theorem spec_l07Two_ev (s a1:ByteArray) (c:Int) (hc:bytesOf a1= [c]) (hs:s.size≤17592186044416):Ev (fun k=>spec_l07Two.f k s a1) (twoN s c):=by
  have ha1:a1.size=1:=by rw [←bytesOf_length,hc];rfl
  unfold spec_l07Two.f twoN
  by_cases h0:s.size=0
  · rw [rvar_nil (by omega)]
    refine Ev.bind0 (spec_l05Take_no (a:=0) (by omega) (by omega) (by omega) (by omega)) ?_
    refine Ev.bind (spec_l05Var_ev s (by omega) _ true) ?_
    rw [varC_bad]
    refine Ev.bind (spec_l05Var_ev s (by omega) _ true) ?_
    rw [varC_bad]
    exact Ev.pos rfl (Ev.now _)
  · refine Ev.bind0 (spec_l05Take_ok (a:=0) (n:=1) (by omega) (by omega)) ?_
    refine Ev.bind (spec_l05Var_ev s (by omega) ((1:Nat):Int) false) ?_
    cases e1:rvar ((bytesOf s).drop 1) with
    |none=>
      rw [varC_none (by omega) e1]
      refine Ev.bind (spec_l05Var_ev s (by omega) _ true) ?_
      rw [varC_bad]
      exact Ev.pos rfl (Ev.now _)
    |some p=>
      obtain⟨n,m⟩:=p
      have b1:=rvar_some e1
      rw [varC_some (by omega) e1]
      refine Ev.bind (spec_l05Var_ev s (by omega) ((1+m:Nat):Int) false) ?_
      simp only
      cases e2:rvar ((bytesOf s).drop (1+m)) with
      |none=>
        rw [varC_none (by omega) e2]
        exact Ev.pos rfl (Ev.now _)
      |some q=>
        obtain⟨t,m2⟩:=q
        have b2:=rvar_some e2
        rw [varC_some (by omega) e2]
        simp only
        have z1:=vt_size5 n (by omega)
        have z2:=vt_size5 t (by omega)
        refine Ev.neg (by simp) (Ev.bind (spec_l01Var_ev n (by omega)) (Ev.pos (by omega) (Ev.bind (spec_l01Var_ev t (by omega)) (Ev.pos (by rw [ByteArray.size_append];omega) ?_))))
        by_cases hq:bt s 0=c∧1+m+m2=s.size
        · rw [if_pos hq]
          exact Ev.pos ((toList_iff _ _).2 ((two_text hc (by omega) e1 e2).2 hq)) (Ev.now _)
        · rw [if_neg hq]
          exact Ev.neg (fun e=>hq ((two_text hc (by omega) e1 e2).1 ((toList_iff _ _).1 e))) (Ev.now _)
theorem spec_l05Rise_l0 (l:List Int) (hl:l.length≤35184372088832):∀(d i:Nat) (p:Int),i+d=l.length→(i=0→p=0)→(0<i→p=rd l ((i - 1:Nat):Int))→
    Ev (fun k=>spec_l05Rise.l0 k l 1 4 (i:Int)) (riseF p (l.drop i))
  |0,i,p,h,h0,h1=>by
    refine Ev.step (f:=fun k=>some true) (fun k=>?_) ((Ev.now _).eq ?_)
    · simp only [spec_l05Rise.l0];rw [if_neg (by omega)]
    · rw [List.drop_of_length_le (by omega)];rfl
  |d+1,i,p,h,h0,h1=>by
    rw [rd_drop (l:=l) (by omega)]
    have ih:=spec_l05Rise_l0 l hl d (i+1) (rd l (i:Int)) (by omega) (by omega) (fun _=>by simp)
    by_cases hin:1≤rd l (i:Int)∧rd l (i:Int)≤4
    · by_cases hi:0<i
      · have hp:=h1 hi
        have ei:wrap64 ((i:Int) - 1)=((i - 1:Nat):Int):=by rw [w64 (by omega) (by omega)];omega
        by_cases hlt:p<rd l (i:Int)
        · refine Ev.step (f:=fun k=>spec_l05Rise.l0 k l 1 4 ((i+1:Nat):Int)) (fun k=>?_) (ih.eq ?_)
          · simp only [spec_l05Rise.l0]
            rw [if_pos (by omega),if_pos (by omega),spec_l01In_is,Option.bind_some,if_pos (inR_iff.2 hin),if_pos (by omega),ei,if_pos (by omega),if_pos (by omega),if_neg (by omega)]
            rw [w64 (x:=(i:Int)+1) (by omega) (by omega)];rfl
          · simp only [riseF];rw [decide_eq_true ⟨hin.1,hin.2,hlt⟩,Bool.true_and]
        · refine Ev.step (f:=fun k=>some false) (fun k=>?_) ((Ev.now _).eq ?_)
          · simp only [spec_l05Rise.l0]
            rw [if_pos (by omega),if_pos (by omega),spec_l01In_is,Option.bind_some,if_pos (inR_iff.2 hin),if_pos (by omega),ei,if_pos (by omega),if_pos (by omega),if_pos (by omega)]
          · simp only [riseF];rw [decide_eq_false (fun e=>hlt e.2.2),Bool.false_and]
      · have hp:=h0 (by omega)
        refine Ev.step (f:=fun k=>spec_l05Rise.l0 k l 1 4 ((i+1:Nat):Int)) (fun k=>?_) (ih.eq ?_)
        · simp only [spec_l05Rise.l0]
          rw [if_pos (by omega),if_pos (by omega),spec_l01In_is,Option.bind_some,if_pos (inR_iff.2 hin),if_neg (by omega)]
          rw [w64 (x:=(i:Int)+1) (by omega) (by omega)];rfl
        · simp only [riseF];rw [decide_eq_true ⟨hin.1,hin.2,by omega⟩,Bool.true_and]
    · refine Ev.step (f:=fun k=>some false) (fun k=>?_) ((Ev.now _).eq ?_)
      · simp only [spec_l05Rise.l0]
        rw [if_pos (by omega),if_pos (by omega),spec_l01In_is,Option.bind_some,if_neg (fun e=>hin (inR_iff.1 e))]
      · simp only [riseF];rw [decide_eq_false (fun e=>hin ⟨e.1,e.2.1⟩),Bool.false_and]
theorem spec_l05Rise_ev (l:List Int) (hl:l.length≤35184372088832):Ev (fun k=>spec_l05Rise.f k l 1 4) (riseF 0 l):=by
  have:=spec_l05Rise_l0 l hl l.length 0 0 (by omega) (fun _=>rfl) (fun h=>absurd h (by omega))
  exact this
theorem spec_ConfOk_ev (l:List Int) (hl:l.length≤35184372088832):Ev (fun k=>spec_ConfOk.f k l) (confOk l):=by
  unfold spec_ConfOk.f confOk
  refine Ev.bind0 (spec_l01In_is _ _ _) ?_
  by_cases h:1≤l.length∧l.length≤4
  · rw [decide_eq_true h,Bool.true_and]
    exact Ev.pos (inR_iff.2 (by omega)) (Ev.bind (spec_l05Rise_ev l hl) (Ev.now _))
  · rw [decide_eq_false h,Bool.false_and]
    exact Ev.neg (fun e=>h (by have:=inR_iff.1 e;omega)) (Ev.now _)
theorem spec_ReadConf_end (s:ByteArray) (acc:List Int) (n:Nat) (hn:n≤5) (hs:s.size≤140737488351232) (ha:acc=(bytesOf s).take n) (hx:n=s.size∨n=5):
    Ev (fun k=>if(acc.length:Int)=(s.size:Int) then((spec_ConfOk.f k acc).bind fun t=>if t=true then some (acc,true) else some ([],false)) else some ([],false)) (readConf s):=by
  have hl:acc.length=min n s.size:=by rw [ha,List.length_take,bytesOf_length]
  by_cases e:acc.length=s.size
  · have:acc=bytesOf s:=by rw [ha];exact List.take_of_length_le (by rw [bytesOf_length];omega)
    subst this
    refine Ev.pos (by omega) (Ev.bind (spec_ConfOk_ev _ (by omega)) (Ev.is ?_))
    unfold readConf
    by_cases h:confOk (bytesOf s)=true
    · rw [if_pos h,if_pos h]
    · rw [if_neg h,if_neg h]
  · refine Ev.neg (by omega) (Ev.is ?_)
    unfold readConf
    rw [if_neg]
    intro h
    have:=confOk_len h
    rw [bytesOf_length] at this
    omega
theorem spec_ReadConf_l0 (s:ByteArray) (hs:s.size≤140737488351232):∀(d i:Nat),i+d=5→i≤s.size→
    Ev (fun k=>spec_ReadConf.l0 k s ((bytesOf s).take i) (i:Int)) (readConf s)
  |d,i,h,hi=>by
    have hl:((bytesOf s).take i).length=i:=by rw [List.length_take,bytesOf_length];omega
    by_cases hlt:i<s.size
    · cases d with
      |zero=>
        refine Ev.step (fun k=>?_) (spec_ReadConf_end s ((bytesOf s).take i) i (by omega) hs rfl (by omega))
        simp only [spec_ReadConf.l0]
        rw [if_pos (by omega),if_neg (by omega)]
      |succ d=>
        have hr:=bt_range s (i:Int)
        refine Ev.step (f:=fun k=>spec_ReadConf.l0 k s ((bytesOf s).take (i+1)) ((i+1:Nat):Int)) (fun k=>?_) (spec_ReadConf_l0 s hs d (i+1) (by omega) (by omega))
        simp only [spec_ReadConf.l0]
        rw [if_pos (by omega),if_pos (by omega),if_pos (by omega),if_pos (by omega),w64 (x:=(i:Int)+1) (by omega) (by omega),w64 (x:=bt s i) (by omega) (by omega)]
        have e:=Led.take_succ (s:=s) (a:=0) (i:=i) (by omega)
        rw [List.drop_zero,Nat.zero_add] at e
        rw [e];rfl
    · refine Ev.step (fun k=>?_) (spec_ReadConf_end s ((bytesOf s).take i) i (by omega) hs rfl (by omega))
      simp only [spec_ReadConf.l0]
      rw [if_neg (by omega)]
theorem spec_ReadConf_ev (s:ByteArray) (hs:s.size≤140737488351232):Ev (fun k=>spec_ReadConf.f k s) (readConf s):=by
  have:=spec_ReadConf_l0 s hs 5 0 (by omega) (by omega)
  rw [List.take_zero] at this
  exact this
def entryOk (a b:Int) (c:ByteArray):Bool:=
  decide (0≤a∧a≤100000) && (if b=1 then(c.toList == ([]:List UInt8)) else if b=2 then(readConf c).2 else if b=3 then decide ((c.size:Int)≤120) else false)
theorem entryOk_term {t k:Int} {d:ByteArray} (h:entryOk t k d=true):0≤t∧t≤100000:=by
  simp [entryOk] at h;omega
theorem spec_EntryOk_ev (a b:Int) (c:ByteArray) (hc:c.size≤17592186044416):Ev (fun k=>spec_EntryOk.f k a b c) (entryOk a b c):=by
  unfold spec_EntryOk.f entryOk
  refine Ev.bind0 (spec_l01In_is _ _ _) ?_
  by_cases h:0≤a∧a≤100000
  · refine Ev.pos (inR_iff.2 h) ?_
    rw [decide_eq_true h,Bool.true_and]
    by_cases h1:b=1
    · refine Ev.pos h1 (Ev.is ?_);rw [if_pos h1]
    · refine Ev.neg h1 ?_
      rw [if_neg h1]
      by_cases h2:b=2
      · refine Ev.pos h2 (Ev.bind (spec_ReadConf_ev c (by omega)) (Ev.is ?_));rw [if_pos h2]
      · refine Ev.neg h2 ?_
        rw [if_neg h2]
        by_cases h3:b=3
        · refine Ev.pos h3 (Ev.is ?_);rw [if_pos h3]
        · refine Ev.neg h3 (Ev.is ?_);rw [if_neg h3]
  · refine Ev.neg (fun e=>h (inR_iff.1 e)) (Ev.is ?_)
    rw [decide_eq_false h,Bool.false_and]
abbrev LEn:=S105
abbrev IEn:=S105
def toEn (x:LEn):IEn:=⟨x.f0,x.f1,x.f2⟩
theorem rd_LEn {l:List LEn} {i:Nat} (h:i<l.length):rd_T105 l (i:Int)=l[i]:=by
  simp [rd_T105,List.getD_eq_getElem?_getD,List.getElem?_eq_getElem h]
theorem rd_IEn {l:List IEn} {i:Nat} (h:i<l.length):rd_T105 l (i:Int)=l[i]:=by
  simp [rd_T105,List.getD_eq_getElem?_getD,List.getElem?_eq_getElem h]
def entriesOk:Int→List IEn→Bool
  |_,[]=>true
  |t,x :: l=>entryOk x.f0 x.f1 x.f2 && decide (t≤x.f0) && entriesOk x.f0 l
def logOk (a b:Int) (l:List IEn):Bool:=
  decide (0≤a∧a≤1000000) && (decide (0≤b∧b≤100000) && (decide (l.length≤60∧a+l.length≤1000000) && entriesOk b l))
theorem rd_IEn_drop {l:List IEn} {i:Nat} (h:i<l.length):l.drop i=rd_T105 l (i:Int) :: l.drop (i+1):=by
  rw [List.drop_eq_getElem_cons h,rd_IEn h]
theorem logOk_iff {a b:Int} {l:List IEn} :logOk a b l=true↔(0≤a∧a≤1000000)∧(0≤b∧b≤100000)∧(l.length≤60∧a+l.length≤1000000)∧entriesOk b l=true:=by
  simp [logOk]
theorem spec_LogOk_l0 (a b:Int) (l:List IEn) (hl:l.length≤1048577) (hs:∀x∈l,x.f2.size≤17592186044416):∀(d i:Nat) (t:Int),i+d=l.length→
    Ev (fun k=>spec_LogOk.l0 k t (i:Int) a b l) (entriesOk t (l.drop i))
  |0,i,t,h=>by
    refine Ev.step (f:=fun k=>some true) (fun k=>?_) ((Ev.now _).eq ?_)
    · simp only [spec_LogOk.l0];rw [if_neg (by omega)]
    · rw [List.drop_of_length_le (by omega)];rfl
  |d+1,i,t,h=>by
    have hx:=hs (rd_T105 l (i:Int)) (by rw [rd_IEn (by omega)];exact List.getElem_mem _)
    rw [rd_IEn_drop (l:=l) (i:=i) (by omega)]
    have ih:=spec_LogOk_l0 a b l hl hs d (i+1) (rd_T105 l (i:Int)).f0 (by omega)
    refine Ev.step (f:=fun k=>(spec_EntryOk.f k (rd_T105 l (i:Int)).f0 (rd_T105 l (i:Int)).f1 (rd_T105 l (i:Int)).f2).bind fun t142=>(if t142=true then(if(rd_T105 l (i:Int)).f0<t then some false else spec_LogOk.l0 k (rd_T105 l (i:Int)).f0 ((i+1:Nat):Int) a b l) else some false)) (fun k=>?_) (Ev.bind (spec_EntryOk_ev _ _ _ hx) ?_)
    · simp only [spec_LogOk.l0]
      rw [if_pos (by omega),if_pos (by omega),w64 (x:=(i:Int)+1) (by omega) (by omega)];rfl
    · generalize rd_T105 l (i:Int)=x at *
      simp only [entriesOk]
      by_cases h1:entryOk x.f0 x.f1 x.f2=true
      · refine Ev.pos h1 ?_
        by_cases h2:x.f0<t
        · refine Ev.pos h2 ((Ev.now _).eq ?_)
          rw [decide_eq_false (p:=t≤x.f0) (by omega)];simp
        · refine Ev.neg h2 (ih.eq ?_)
          rw [h1,decide_eq_true (p:=t≤x.f0) (by omega)];simp
      · refine Ev.neg h1 ((Ev.now _).eq ?_)
        rw [Bool.not_eq_true _ |>.mp h1];simp
theorem spec_LogOk_ev (a b:Int) (l:List IEn) (hl:l.length≤1048577) (hs:∀x∈l,x.f2.size≤17592186044416):Ev (fun k=>spec_LogOk.f k a b l) (logOk a b l):=by
  have no:∀x,logOk a b l=false→x=true→Ev (fun k=>spec_LogOk.j0 k x a b l) (logOk a b l):=by
    intro x h hx
    rw [h,hx]
    exact Ev.step (fun k=>rfl) (Ev.now _)
  have nf:¬logOk a b l=true→logOk a b l=false:=fun h=>Bool.not_eq_true _ |>.mp h
  unfold spec_LogOk.f
  refine Ev.bind0 (spec_l01In_is _ _ _) ?_
  by_cases h1:0≤a∧a≤1000000
  · refine Ev.pos (inR_iff.2 h1) (Ev.bind0 (spec_l01In_is _ _ _) ?_)
    by_cases h2:0≤b∧b≤100000
    · refine Ev.pos (inR_iff.2 h2) ?_
      by_cases h3:l.length≤60
      · refine Ev.neg (by omega) ?_
        rw [w64 (x:=a+(l.length:Int)) (by omega) (by omega)]
        by_cases h4:a+(l.length:Int)≤1000000
        · rw [decide_eq_false (p:=a+(l.length:Int)>1000000) (by omega)]
          refine Ev.step (fun k=>rfl) ?_
          refine(spec_LogOk_l0 a b l hl hs l.length 0 b (by omega)).eq ?_
          unfold logOk
          rw [decide_eq_true h1,decide_eq_true h2,decide_eq_true (p:=l.length≤60∧a+(l.length:Int)≤1000000) ⟨h3,h4⟩];simp
        · exact no _ (nf fun e=>h4 (logOk_iff.1 e).2.2.1.2) (decide_eq_true (by omega))
      · exact Ev.pos (by omega) (no _ (nf fun e=>h3 (logOk_iff.1 e).2.2.1.1) rfl)
    · exact Ev.neg (fun e=>h2 (inR_iff.1 e)) (no _ (nf fun e=>h2 (logOk_iff.1 e).2.1) rfl)
  · exact Ev.neg (fun e=>h1 (inR_iff.1 e)) (no _ (nf fun e=>h1 (logOk_iff.1 e).1) rfl)
def entryText (i t k:Int) (d:ByteArray):ByteArray × Bool:=
  if entryOk t k d=true∧1≤i∧i≤1000000 then((⟨#[69]⟩:ByteArray)++vt i.toNat++vt t.toNat++strOfNums [k % 256]++d,true) else(⟨#[]⟩,false)
theorem size_e:(⟨#[69]⟩:ByteArray).size=1:=rfl
theorem spec_EntryText_ev (i t k:Int) (d:ByteArray) (hd:d.size≤17592186044416):Ev (fun n=>spec_EntryText.f n i t k d) (entryText i t k d):=by
  unfold spec_EntryText.f
  refine Ev.bind (spec_EntryOk_ev t k d hd) ?_
  by_cases h:entryOk t k d=true
  · refine Ev.pos h (Ev.bind0 (spec_l01In_is _ _ _) ?_)
    have ht:=entryOk_term h
    by_cases hi:1≤i∧i≤1000000
    · have e:(!inR i 1 1000000)=false:=by rw [inR_iff.2 hi];rfl
      rw [e]
      refine Ev.step (fun n=>rfl) (Ev.bind (spec_l01Var_evi i (by omega) (by omega)) ?_)
      have h5:=vt_size5 i.toNat (by omega)
      have h6:=vt_size5 t.toNat (by omega)
      refine Ev.pos (by omega) (Ev.bind (spec_l01Var_evi t (by omega) (by omega)) (Ev.pos (by rw [size_append,size_e];omega) (Ev.bind0 rfl (Ev.is ?_))))
      rw [if_pos (by rw [size_append,size_append,size_e,str_size];simp;omega),if_pos (by rw [size_append,size_append,size_append,size_e,str_size];simp;omega)]
      rw [entryText,if_pos ⟨h,hi.1,hi.2⟩]
    · have e:(!inR i 1 1000000)=true:=by
        cases e:inR i 1 1000000 with
        |true=>exact absurd (inR_iff.1 e) hi
        |false=>rfl
      rw [e]
      refine Ev.step (fun n=>rfl) ((Ev.now _).eq ?_)
      rw [entryText,if_neg (fun e=>hi e.2)]
  · refine Ev.neg h (Ev.step (fun n=>rfl) ((Ev.now _).eq ?_))
    rw [entryText,if_neg (fun e=>h e.1)]
def rEnt (s:ByteArray) (n t a:Nat):Int × Int × Int × ByteArray × Bool:=
  if bt s 0=69∧entryOk t (bt s (a:Int)) (s.extract (a+1) s.size)=true∧1≤n∧n≤1000000 then((n:Int),(t:Int),bt s (a:Int),s.extract (a+1) s.size,true) else(0,0,0,⟨#[]⟩,false)
def readEntry (s:ByteArray):Int × Int × Int × ByteArray × Bool:=
  match rvar ((bytesOf s).drop 1) with
  |none=>(0,0,0,⟨#[]⟩,false)
  |some (n,m)=>match rvar ((bytesOf s).drop (1+m)) with
    |none=>(0,0,0,⟨#[]⟩,false)
    |some (t,m2)=>if 1+m+m2<s.size then rEnt s n t (1+m+m2) else(0,0,0,⟨#[]⟩,false)
theorem rEnt_text {s:ByteArray} {n m t m2:Nat} (h1:rvar ((bytesOf s).drop 1)=some (n,m)) (h2:rvar ((bytesOf s).drop (1+m))=some (t,m2)) (h:1+m+m2<s.size):
    (⟨#[69]⟩:ByteArray)++vt n++vt t++strOfNums [bt s ((1+m+m2:Nat):Int) % 256]++s.extract (1+m+m2+1) s.size=s↔bt s 0=69:=by
  have hr:=bt_range s ((1+m+m2:Nat):Int)
  have hr0:=bt_range s 0
  have e0:s.extract 0 1=strOfNums [bt s 0]:=extract_one (a:=0) (by omega)
  have key:s=strOfNums [bt s 0]++vt n++vt t++strOfNums [bt s ((1+m+m2:Nat):Int) % 256]++s.extract (1+m+m2+1) s.size:=by
    rw [←e0,rvar_vt h1,rvar_vt h2,Int.emod_eq_of_lt (by omega) (by omega),←extract_one h]
    rw [extract_extract_append _ _ _ _ (by omega) (by omega),extract_extract_append _ _ _ _ (by omega) (by omega),extract_extract_append _ _ _ _ (by omega) (by omega),extract_extract_append _ _ _ _ (by omega) (by omega),extract_all]
  constructor
  · intro e
    have e':(⟨#[69]⟩:ByteArray)++(vt n++(vt t++(strOfNums [bt s ((1+m+m2:Nat):Int) % 256]++s.extract (1+m+m2+1) s.size)))=strOfNums [bt s 0]++(vt n++(vt t++(strOfNums [bt s ((1+m+m2:Nat):Int) % 256]++s.extract (1+m+m2+1) s.size))):=by
      simp only [append_assoc] at e key
      rw [e];exact key
    have:=congrArg bytesOf e'
    simp only [bytes_append] at this
    rw [bytes_str (xs:=[bt s 0]) (by simp;omega)] at this
    have h69:bytesOf (⟨#[69]⟩:ByteArray)= [69]:=rfl
    rw [h69] at this
    simp only [List.singleton_append,List.cons.injEq] at this
    omega
  · intro e
    rw [e] at key
    exact key.symm
theorem spec_ReadEntry_bad1 (s:ByteArray) (hs:s.size≤140737488351232) (r:ByteArray) (a:Int):
    Ev (fun k=>(spec_l05Var.f k s a true).bind fun bt158=>((spec_l05Var.f k bt158.2.1 bt158.2.2.1 bt158.2.2.2).bind fun bt163=>((spec_l05Take.f bt163.2.1 bt163.2.2.1 bt163.2.2.2 1).bind fun bt167=>(if bt167.2.2.2=true then(some ((0:Int),(0:Int),(0:Int),(⟨#[]⟩:ByteArray),false)) else none)))) (0,0,0,⟨#[]⟩,false):=by
  refine Ev.bind (spec_l05Var_ev s hs a true) ?_
  rw [varC_bad]
  refine Ev.bind (spec_l05Var_ev s hs a true) ?_
  rw [varC_bad]
  refine Ev.is ?_
  simp only [spec_l05Take_bad,Option.bind_some,if_true]
theorem spec_ReadEntry_ev (s:ByteArray) (hs:s.size≤17592186044416):Ev (fun k=>spec_ReadEntry.f k s) (readEntry s):=by
  unfold spec_ReadEntry.f readEntry
  by_cases h0:s.size=0
  · rw [rvar_nil (by omega)]
    refine Ev.bind0 (spec_l05Take_no (a:=0) (by omega) (by omega) (by omega) (by omega)) ?_
    refine Ev.bind (spec_l05Var_ev s (by omega) _ true) ?_
    rw [varC_bad]
    refine Ev.bind (spec_l05Var_ev s (by omega) _ true) ?_
    rw [varC_bad]
    exact Ev.bind0 (spec_l05Take_bad _ _ _) (Ev.pos rfl (Ev.now _))
  · refine Ev.bind0 (spec_l05Take_ok (a:=0) (n:=1) (by omega) (by omega)) ?_
    refine Ev.bind (spec_l05Var_ev s (by omega) ((1:Nat):Int) false) ?_
    cases e1:rvar ((bytesOf s).drop 1) with
    |none=>
      rw [varC_none (by omega) e1]
      refine Ev.bind (spec_l05Var_ev s (by omega) _ true) ?_
      rw [varC_bad]
      exact Ev.bind0 (spec_l05Take_bad _ _ _) (Ev.pos rfl (Ev.now _))
    |some p=>
      obtain⟨n,m⟩:=p
      have b1:=rvar_some e1
      rw [varC_some (by omega) e1]
      refine Ev.bind (spec_l05Var_ev s (by omega) ((1+m:Nat):Int) false) ?_
      simp only
      cases e2:rvar ((bytesOf s).drop (1+m)) with
      |none=>
        rw [varC_none (by omega) e2]
        exact Ev.bind0 (spec_l05Take_bad _ _ _) (Ev.pos rfl (Ev.now _))
      |some q=>
        obtain⟨t,m2⟩:=q
        have b2:=rvar_some e2
        rw [varC_some (by omega) e2]
        simp only
        by_cases h3:1+m+m2<s.size
        · rw [if_pos h3]
          refine Ev.bind0 (spec_l05Take_ok (a:=1+m+m2) (n:=1) (by omega) (by omega)) ?_
          have hx:(s.extract (1+m+m2) (1+m+m2+1)).size=1:=by rw [size_extract _ _ _ (by omega) (by omega)];omega
          have hr:=bt_range s ((1+m+m2:Nat):Int)
          refine Ev.neg (by simp) (Ev.pos (by simp only;omega) (Ev.pos (by simp only;omega) (Ev.pos (by simp only;omega) ?_)))
          simp only [Int.toNat_natCast]
          rw [bt_one h3,w64 (by omega) (by omega)]
          refine Ev.bind (spec_EntryText_ev _ _ _ _ (by rw [size_extract _ _ _ (by omega) (by omega)];omega)) ?_
          unfold entryText rEnt
          by_cases hk:entryOk (t:Int) (bt s ((1+m+m2:Nat):Int)) (s.extract (1+m+m2+1) s.size)=true∧(1:Int)≤n∧(n:Int)≤1000000
          · rw [if_pos hk]
            refine Ev.pos rfl ?_
            simp only [Int.toNat_natCast]
            by_cases hq:bt s 0=69
            · refine Ev.pos ((toList_iff _ _).2 ((rEnt_text e1 e2 h3).2 hq)) ((Ev.now _).eq ?_)
              rw [if_pos ⟨hq,hk.1,by omega,by omega⟩]
            · refine Ev.neg (fun e=>hq ((rEnt_text e1 e2 h3).1 ((toList_iff _ _).1 e))) ((Ev.now _).eq ?_)
              rw [if_neg (fun e=>hq e.1)]
          · have hk':¬(bt s 0=69∧entryOk (t:Int) (bt s ((1+m+m2:Nat):Int)) (s.extract (1+m+m2+1) s.size)=true∧1≤n∧n≤1000000):=fun e=>hk ⟨e.2.1,by omega,by omega⟩
            rw [if_neg hk,if_neg hk']
            exact Ev.neg (by simp) (Ev.now _)
        · rw [if_neg h3]
          exact Ev.bind0 (spec_l05Take_no (a:=1+m+m2) (by omega) (by omega) (by omega) (by omega)) (Ev.pos rfl (Ev.now _))
theorem spec_l06Last_is (a b:Int) (l:List IEn) (h:0≤a∧a≤1000000) (hl:l.length≤60):spec_l06Last.f a b l=some (a+(l.length:Int)):=by
  unfold spec_l06Last.f;rw [w64 (by omega) (by omega)]
def putE (a:Int) (l:List IEn) (i:Int) (e:IEn):List IEn:=l.take (i - a - 1).toNat++ [e]
def putF (a b:Int) (l:List IEn) (i:Int) (e:IEn):Int × Int × List IEn × Bool:=
  if logOk a b l=true∧(a+1≤i∧i≤a+(l.length:Int)+1)∧logOk a b (putE a l i e)=true then(a,b,putE a l i e,true) else(0,0,[],false)
theorem putF_len (a b:Int) (l:List IEn) (i:Int) (e:IEn):(putF a b l i e).2.2.1.length≤60:=by
  unfold putF
  split
  · rename_i h;exact(logOk_iff.1 h.2.2).2.2.1.1
  · exact Nat.zero_le _
theorem putE_small {a:Int} {l:List IEn} {i:Int} {e:IEn} (hs:∀x∈l,x.f2.size≤17592186044416) (he:e.f2.size≤17592186044416):∀x∈putE a l i e,x.f2.size≤17592186044416:=by
  intro x hx
  rcases List.mem_append.1 hx with hx|hx
  · exact hs x (List.mem_of_mem_take hx)
  · rw [List.mem_singleton.1 hx];exact he
def logTermF (a b:Int) (l:List IEn) (i:Int):Int:=if i=a then b else if a<i∧i≤a+(l.length:Int) then(rd_T105 l (i - a - 1)).f0 else -1
theorem entriesOk_terms:∀(l:List IEn) (t:Int),entriesOk t l=true→∀x∈l,0≤x.f0
  | [],_,_=>by simp
  |y :: l,t,h=>by
    simp only [entriesOk,Bool.and_eq_true] at h
    intro x hx
    rcases List.mem_cons.1 hx with rfl|hx
    · exact(entryOk_term h.1.1).1
    · exact entriesOk_terms l _ h.2 x hx
theorem logTermF_low {a b:Int} {l:List IEn} (h:logOk a b l=true) (i:Int):logTermF a b l i= -1∨0≤logTermF a b l i:=by
  have hk:=logOk_iff.1 h
  unfold logTermF
  split
  · omega
  · split
    · rename_i h1
      right
      have hi:(i - a - 1)=(((i - a - 1).toNat:Nat):Int):=by omega
      rw [hi,rd_IEn (by omega)]
      exact entriesOk_terms l _ hk.2.2.2 _ (List.getElem_mem _)
    · left;rfl
theorem spec_LogPut_ev (a b:Int) (l:List IEn) (hl:l.length≤1048577) (hs:∀x∈l,x.f2.size≤17592186044416) (i e0 e1:Int) (e2:ByteArray) (he:e2.size≤17592186044416):Ev (fun k=>spec_LogPut.f k a b l i e0 e1 e2) (putF a b l i ⟨e0,e1,e2⟩):=by
  have no:¬(logOk a b l=true∧(a+1≤i∧i≤a+(l.length:Int)+1)∧logOk a b (putE a l i ⟨e0,e1,e2⟩)=true)→Ev (fun k=>spec_LogPut.j0 k i true a b l e0 e1 e2) (putF a b l i ⟨e0,e1,e2⟩):=by
    intro h
    rw [putF,if_neg h]
    exact Ev.step (f:=fun k=>some (0,0,[],false)) (fun k=>by simp only [spec_LogPut.j0,if_true]) (Ev.now _)
  unfold spec_LogPut.f
  refine Ev.bind (spec_LogOk_ev a b l hl hs) ?_
  by_cases h1:logOk a b l=true
  · have k1:=logOk_iff.1 h1
    refine Ev.pos h1 (Ev.bind0 (spec_l06Last_is a b l k1.1 k1.2.2.1.1) (Ev.bind0 (spec_l01In_is _ _ _) ?_))
    rw [w64 (x:=a+1) (by omega) (by omega),w64 (x:=a+(l.length:Int)+1) (by omega) (by omega)]
    by_cases h2:a+1≤i∧i≤a+(l.length:Int)+1
    · rw [inR_iff.2 h2]
      show Ev (fun k=>spec_LogPut.j0 k i false a b l e0 e1 e2) _
      refine Ev.step (f:=fun k=>(spec_LogOk.f k a b (putE a l i ⟨e0,e1,e2⟩)).bind fun t=>if t=true then some (a,b,putE a l i ⟨e0,e1,e2⟩,true) else some (0,0,[],false)) (fun k=>?_) (Ev.bind (spec_LogOk_ev a b _ (by simp [putE];omega) (putE_small hs he)) ?_)
      · simp only [spec_LogPut.j0,Bool.false_eq_true,if_false,Option.bind_some,List.nil_append]
        rw [w64 (x:=i - a) (by omega) (by omega),w64 (x:=i - a - 1) (by omega) (by omega),if_pos (by omega),if_pos (by omega),if_pos (by simp;omega),if_pos (by simp;omega)]
        rfl
      · by_cases h3:logOk a b (putE a l i ⟨e0,e1,e2⟩)=true
        · exact Ev.pos h3 ((Ev.now _).eq (by rw [putF,if_pos ⟨h1,h2,h3⟩]))
        · exact Ev.neg h3 ((Ev.now _).eq (by rw [putF,if_neg (fun e=>h3 e.2.2)]))
    · have e:inR i (a+1) (a+(l.length:Int)+1)=false:=by
        cases e:inR i (a+1) (a+(l.length:Int)+1) with
        |true=>exact absurd (inR_iff.1 e) h2
        |false=>rfl
      rw [e]
      exact no (fun e=>h2 e.2.1)
  · exact Ev.neg h1 (no (fun e=>h1 e.1))
def journalOk (p q s a b:Int) (l:List IEn):Bool:=decide (0≤p∧p≤999) && (decide (0≤q∧q≤100000) && (decide (0≤s∧s≤4) && logOk a b l))
abbrev JSt:=Int × Int × Int × Int × Int × List IEn
def moreF (p:JSt) (t:ByteArray):Option JSt:=
  if(twoN t 72).2.2=true then(if(0≤(twoN t 72).1∧(twoN t 72).1≤100000)∧(0≤(twoN t 72).2.1∧(twoN t 72).2.1≤4) then some (p.1,(twoN t 72).1,(twoN t 72).2.1,p.2.2.2.1,p.2.2.2.2.1,p.2.2.2.2.2) else none)
  else if(readEntry t).2.2.2.2=true then
    (if(putF p.2.2.2.1 p.2.2.2.2.1 p.2.2.2.2.2 (readEntry t).1 ⟨(readEntry t).2.1,(readEntry t).2.2.1,(readEntry t).2.2.2.1⟩).2.2.2=true then some (p.1,p.2.1,p.2.2.1,(putF p.2.2.2.1 p.2.2.2.2.1 p.2.2.2.2.2 (readEntry t).1 ⟨(readEntry t).2.1,(readEntry t).2.2.1,(readEntry t).2.2.2.1⟩).1,(putF p.2.2.2.1 p.2.2.2.2.1 p.2.2.2.2.2 (readEntry t).1 ⟨(readEntry t).2.1,(readEntry t).2.2.1,(readEntry t).2.2.2.1⟩).2.1,(putF p.2.2.2.1 p.2.2.2.2.1 p.2.2.2.2.2 (readEntry t).1 ⟨(readEntry t).2.1,(readEntry t).2.2.1,(readEntry t).2.2.2.1⟩).2.2.1) else none)
  else none
def jInv (p:JSt):Prop:=(0≤p.1∧p.1≤999)∧logOk p.2.2.2.1 p.2.2.2.2.1 p.2.2.2.2.2=true∧∀x∈p.2.2.2.2.2,x.f2.size≤17592186044416
theorem readEntry_small (t:ByteArray) (ht:t.size≤20000):(readEntry t).2.2.2.1.size≤17592186044416:=by
  have hz:∀a,(t.extract a t.size).size≤20000:=by
    intro a
    by_cases h:a≤t.size
    · rw [size_extract _ _ _ h (Nat.le_refl _)];omega
    · rw [ByteArray.size_extract];omega
  unfold readEntry
  cases rvar ((bytesOf t).drop 1) with
  |none=>exact Nat.zero_le _
  |some p=>
    obtain⟨n,m⟩:=p
    simp only
    cases rvar ((bytesOf t).drop (1+m)) with
    |none=>exact Nat.zero_le _
    |some q=>
      obtain⟨u,m2⟩:=q
      simp only
      split
      · unfold rEnt
        split
        · have:=hz (1+m+m2+1);simp only;omega
        · exact Nat.zero_le _
      · exact Nat.zero_le _
theorem putF_true {a b:Int} {l:List IEn} {i:Int} {e:IEn} (h:(putF a b l i e).2.2.2=true):putF a b l i e=(a,b,putE a l i e,true)∧logOk a b (putE a l i e)=true:=by
  unfold putF at h⊢
  split
  · rename_i hh;exact⟨rfl,hh.2.2⟩
  · rename_i hh;rw [if_neg hh] at h;cases h
theorem moreF_inv {p q:JSt} {t:ByteArray} (hp:jInv p) (ht:t.size≤20000) (h:moreF p t=some q):jInv q∧q.1=p.1:=by
  unfold moreF at h
  obtain⟨h1,h2,h3⟩:=hp
  split at h
  · split at h
    · cases h;exact⟨⟨h1,h2,h3⟩,rfl⟩
    · cases h
  · split at h
    · split at h
      · rename_i hh
        have k:=putF_true hh
        rw [k.1] at h
        cases h
        exact⟨⟨h1,k.2,putE_small h3 (readEntry_small t ht)⟩,rfl⟩
      · cases h
    · cases h
theorem jInv_len {p:JSt} (h:jInv p):p.2.2.2.2.2.length≤60:=(logOk_iff.1 h.2.1).2.2.1.1
def foldJ:JSt→Int→List ByteArray→JSt × Int
  |p,e,[]=>(p,e)
  |p,e,t :: ts=>match moreF p t with|none=>(p,e)|some q=>foldJ q (e+((frame t).1.size:Int)) ts
theorem foldJ_inv:∀(l:List ByteArray) (p:JSt) (e:Int),jInv p→(∀t∈l,t.size≤20000)→jInv (foldJ p e l).1∧(foldJ p e l).1.1=p.1
  | [],p,e,hp,_=>⟨hp,rfl⟩
  |t :: ts,p,e,hp,hl=>by
    simp only [foldJ]
    cases hm:moreF p t with
    |none=>exact⟨hp,rfl⟩
    |some q=>
      have k:=moreF_inv hp (hl t (List.mem_cons_self ..)) hm
      have r:=foldJ_inv ts q (e+((frame t).1.size:Int)) k.1 (fun x hx=>hl x (List.mem_cons_of_mem _ hx))
      exact⟨r.1,r.2.trans k.2⟩
theorem frame_len (t:ByteArray):(frame t).1.size≤10000:=by
  unfold frame
  split
  · rename_i h
    have z1:=vt_size5 t.size (by omega)
    have z2:(four (sumOf t)).size≤4:=by rw [four,str_size];first|exact Nat.le_refl _|decide|(simp;done)
    rw [ByteArray.size_append,ByteArray.size_append];omega
  · exact Nat.zero_le _
theorem unf_small (s:ByteArray):∀(f:Nat) (acc:List ByteArray) (a:Nat),(∀t∈acc,t.size≤20000)→∀t∈(unf f s acc a).1,t.size≤20000
  |0,acc,a,h=>h
  |f+1,acc,a,h=>by
    simp only [unf]
    cases e:nextF s a with
    |none=>exact h
    |some p=>
      obtain⟨t,b⟩:=p
      refine unf_small s f _ b (fun x hx=>?_)
      rcases List.mem_append.1 hx with hx|hx
      · exact h x hx
      · rw [List.mem_singleton.1 hx];have:=(nextF_some e).2.2.2;omega
theorem unframe_small (s:ByteArray):∀t∈(unframe s).1,t.size≤20000:=by
  unfold unframe
  split
  · exact unf_small s s.size [] 0 (by simp)
  · simp
def readR (n:Int) (t:ByteArray) (ts:List ByteArray):Int × Int × Int × Int × Int × List IEn × Int × Bool:=
  if(twoN t 66).2.2=true then(if logOk (twoN t 66).1 (twoN t 66).2.1 []=true then((foldJ (n,0,0,(twoN t 66).1,(twoN t 66).2.1,[]) ((frame t).1.size:Int) ts).1.1,(foldJ (n,0,0,(twoN t 66).1,(twoN t 66).2.1,[]) ((frame t).1.size:Int) ts).1.2.1,(foldJ (n,0,0,(twoN t 66).1,(twoN t 66).2.1,[]) ((frame t).1.size:Int) ts).1.2.2.1,(foldJ (n,0,0,(twoN t 66).1,(twoN t 66).2.1,[]) ((frame t).1.size:Int) ts).1.2.2.2.1,(foldJ (n,0,0,(twoN t 66).1,(twoN t 66).2.1,[]) ((frame t).1.size:Int) ts).1.2.2.2.2.1,(foldJ (n,0,0,(twoN t 66).1,(twoN t 66).2.1,[]) ((frame t).1.size:Int) ts).1.2.2.2.2.2,(foldJ (n,0,0,(twoN t 66).1,(twoN t 66).2.1,[]) ((frame t).1.size:Int) ts).2,true) else(0,0,0,0,0,[],0,false)) else(0,0,0,0,0,[],0,false)
def readJ (n:Int) (s:ByteArray):Int × Int × Int × Int × Int × List IEn × Int × Bool:=
  if 0≤n∧n≤999 then(match (unframe s).1 with| []=>(0,0,0,0,0,[],0,false)|t :: ts=>readR n t ts) else(0,0,0,0,0,[],0,false)
theorem jInv_first {n:Int} (h:0≤n∧n≤999) {a b:Int} (hl:logOk a b []=true):jInv (n,0,0,a,b,[]):=⟨h,hl,fun x hx=>by cases hx⟩
theorem readJ_len (n:Int) (s:ByteArray):(readJ n s).2.2.2.2.2.1.length≤60:=by
  unfold readJ
  split
  · rename_i hn
    have hs:=unframe_small s
    cases e:(unframe s).1 with
    |nil=>exact Nat.zero_le _
    |cons t ts=>
      rw [e] at hs
      simp only
      unfold readR
      split
      · split
        · rename_i hl
          exact jInv_len (foldJ_inv ts _ _ (jInv_first hn hl) (fun x hx=>hs x (List.mem_cons_of_mem _ hx))).1
        · exact Nat.zero_le _
      · exact Nat.zero_le _
  · exact Nat.zero_le _
theorem spec_l07More_ev (p:JSt) (hp:jInv p) (t:ByteArray) (ht:t.size≤20000):Ev (fun k=>spec_l07More.f k p.2.1 p.2.2.1 p.2.2.2.1 p.2.2.2.2.1 p.2.2.2.2.2 t) (match moreF p t with|some q=>(q.2,true)|none=>(p.2,false)):=by
  have hlen:=jInv_len hp
  unfold spec_l07More.f moreF
  refine Ev.bind (spec_l07Two_ev t _ 72 rfl (by omega)) ?_
  by_cases h:(twoN t 72).2.2=true
  · refine Ev.pos h (Ev.bind0 (spec_l01In_is _ _ _) ?_)
    by_cases h1:0≤(twoN t 72).1∧(twoN t 72).1≤100000
    · refine Ev.pos (inR_iff.2 h1) (Ev.bind0 (spec_l01In_is _ _ _) ?_)
      by_cases h2:0≤(twoN t 72).2.1∧(twoN t 72).2.1≤4
      · refine(Ev.pos (inR_iff.2 h2) (Ev.now _)).eq ?_
        simp only [h,h1,h2,and_self,if_true]
      · refine(Ev.neg (fun e=>h2 (inR_iff.1 e)) (Ev.now _)).eq ?_
        simp only [h,h2,and_false,if_true,if_false]
    · refine(Ev.neg (fun e=>h1 (inR_iff.1 e)) (Ev.now _)).eq ?_
      simp only [h,h1,false_and,if_true,if_false]
  · refine Ev.neg h (Ev.bind (spec_ReadEntry_ev t (by omega)) ?_)
    by_cases h1:(readEntry t).2.2.2.2=true
    · refine Ev.pos h1 (Ev.bind (spec_LogPut_ev _ _ _ (by omega) hp.2.2 _ _ _ _ (readEntry_small t ht)) ?_)
      generalize putF p.2.2.2.1 p.2.2.2.2.1 p.2.2.2.2.2 (readEntry t).1 ⟨(readEntry t).2.1,(readEntry t).2.2.1,(readEntry t).2.2.2.1⟩=z
      by_cases h2:z.2.2.2=true
      · refine(Ev.pos h2 (Ev.now _)).eq ?_
        simp only [h,h1,h2,if_true,if_false,Bool.false_eq_true]
      · refine(Ev.neg h2 (Ev.now _)).eq ?_
        simp only [h,h1,h2,if_true,if_false,Bool.false_eq_true]
    · refine(Ev.neg h1 (Ev.now _)).eq ?_
      simp only [h,h1,if_false,Bool.false_eq_true]
theorem spec_ReadJournal_l0 (ls:List ByteArray) (hl:ls.length≤20000) (hs:∀t∈ls,t.size≤20000):∀(d i:Nat) (p:JSt) (e:Int),i+d=ls.length→1≤i→jInv p→0≤e→e≤10000*(i:Int)→
    Ev (fun k=>spec_ReadJournal.l0 ls k (i:Int) p.2.1 p.2.2.1 p.2.2.2.1 p.2.2.2.2.1 p.2.2.2.2.2 e) ((foldJ p e (ls.drop i)).1.2.1,(foldJ p e (ls.drop i)).1.2.2.1,(foldJ p e (ls.drop i)).1.2.2.2.1,(foldJ p e (ls.drop i)).1.2.2.2.2.1,(foldJ p e (ls.drop i)).1.2.2.2.2.2,(foldJ p e (ls.drop i)).2)
  |0,i,p,e,h,h1,hp,h2,h3=>by
    rw [List.drop_of_length_le (by omega)]
    refine Ev.step (f:=fun k=>some (p.2.1,p.2.2.1,p.2.2.2.1,p.2.2.2.2.1,p.2.2.2.2.2,e)) (fun k=>?_) (Ev.now _)
    simp only [spec_ReadJournal.l0];rw [if_neg (by omega)]
  |d+1,i,p,e,h,h1,hp,h2,h3=>by
    have hi:i<ls.length:=by omega
    have ht:=hs ls[i] (List.getElem_mem hi)
    have hF:=frame_len ls[i]
    rw [List.drop_eq_getElem_cons hi]
    refine Ev.step (f:=fun k=>(spec_l07More.f k p.2.1 p.2.2.1 p.2.2.2.1 p.2.2.2.2.1 p.2.2.2.2.2 ls[i]).bind fun m=>if m.2=true then((spec_Frame.f k ls[i]).bind fun f=>spec_ReadJournal.l0 ls k ((i+1:Nat):Int) m.1.1 m.1.2.1 m.1.2.2.1 m.1.2.2.2.1 m.1.2.2.2.2 (wrap64 (e+(f.1.size:Int)))) else some (m.1.1,m.1.2.1,m.1.2.2.1,m.1.2.2.2.1,m.1.2.2.2.2,e)) (fun k=>?_) (Ev.bind (spec_l07More_ev p hp ls[i] ht) ?_)
    · simp only [spec_ReadJournal.l0]
      rw [if_pos (by omega),if_pos (by omega),rdOf_nat _ _ i hi,w64 (x:=(i:Int)+1) (by omega) (by omega)]
      rfl
    · simp only [foldJ]
      cases hm:moreF p ls[i] with
      |none=>exact Ev.neg (by simp) (Ev.now _)
      |some q=>
        have k:=moreF_inv hp ht hm
        refine Ev.pos rfl (Ev.bind (spec_Frame_ev _ (by omega)) ?_)
        rw [w64 (x:=e+((frame ls[i]).1.size:Int)) (by omega) (by omega)]
        exact spec_ReadJournal_l0 ls hl hs d (i+1) q _ (by omega) (by omega) k.1 (by omega) (by omega)
theorem spec_ReadJournal_ev (n:Int) (s:ByteArray):Ev (fun k=>spec_ReadJournal.f k n s) (readJ n s):=by
  have hlen:=(unframe_length s).1
  have hsm:=unframe_small s
  unfold spec_ReadJournal.f readJ
  refine Ev.bind (spec_Unframe_ev s) (Ev.bind0 (spec_l01In_is _ _ _) ?_)
  by_cases h:0≤n∧n≤999
  · rw [if_pos h]
    refine Ev.pos (inR_iff.2 h) ?_
    simp only
    cases e:(unframe s).1 with
    |nil=>exact Ev.pos (by simp) (Ev.now _)
    |cons t ts=>
      rw [e] at hlen hsm
      have ht:=hsm t (List.mem_cons_self ..)
      have hF:=frame_len t
      have r0:rdOf ByteArray.empty (t :: ts) 0=t:=rdOf_nat _ (t :: ts) 0 (by simp)
      show Ev _ (readR n t ts)
      rw [r0]
      refine Ev.neg (by simp;omega) (Ev.bind (spec_l07Two_ev t _ 66 rfl (by omega)) ?_)
      by_cases h2:(twoN t 66).2.2=true
      · refine Ev.pos h2 (Ev.bind (spec_LogOk_ev _ _ [] (by simp) (by simp)) ?_)
        by_cases h3:logOk (twoN t 66).1 (twoN t 66).2.1 []=true
        · have hp:=jInv_first h h3
          have k0:=(foldJ_inv ts _ ((frame t).1.size:Int) hp (fun x hx=>hsm x (List.mem_cons_of_mem _ hx))).2
          have l1:=spec_ReadJournal_l0 (t :: ts) hlen hsm ts.length 1 (n,0,0,(twoN t 66).1,(twoN t 66).2.1,[]) ((frame t).1.size:Int) (by simp;omega) (by omega) hp (by omega) (by omega)
          rw [show(t :: ts).drop 1=ts from rfl] at l1
          have hv:readR n t ts=((foldJ (n,0,0,(twoN t 66).1,(twoN t 66).2.1,[]) ((frame t).1.size:Int) ts).1.1,(foldJ (n,0,0,(twoN t 66).1,(twoN t 66).2.1,[]) ((frame t).1.size:Int) ts).1.2.1,(foldJ (n,0,0,(twoN t 66).1,(twoN t 66).2.1,[]) ((frame t).1.size:Int) ts).1.2.2.1,(foldJ (n,0,0,(twoN t 66).1,(twoN t 66).2.1,[]) ((frame t).1.size:Int) ts).1.2.2.2.1,(foldJ (n,0,0,(twoN t 66).1,(twoN t 66).2.1,[]) ((frame t).1.size:Int) ts).1.2.2.2.2.1,(foldJ (n,0,0,(twoN t 66).1,(twoN t 66).2.1,[]) ((frame t).1.size:Int) ts).1.2.2.2.2.2,(foldJ (n,0,0,(twoN t 66).1,(twoN t 66).2.1,[]) ((frame t).1.size:Int) ts).2,true):=by unfold readR;rw [if_pos h2,if_pos h3]
          rw [hv,k0]
          have l2:Ev (fun k=>spec_ReadJournal.l0 (t :: ts) k 0 0 0 (twoN t 66).1 (twoN t 66).2.1 [] 0) ((foldJ (n,0,0,(twoN t 66).1,(twoN t 66).2.1,[]) ((frame t).1.size:Int) ts).1.2.1,(foldJ (n,0,0,(twoN t 66).1,(twoN t 66).2.1,[]) ((frame t).1.size:Int) ts).1.2.2.1,(foldJ (n,0,0,(twoN t 66).1,(twoN t 66).2.1,[]) ((frame t).1.size:Int) ts).1.2.2.2.1,(foldJ (n,0,0,(twoN t 66).1,(twoN t 66).2.1,[]) ((frame t).1.size:Int) ts).1.2.2.2.2.1,(foldJ (n,0,0,(twoN t 66).1,(twoN t 66).2.1,[]) ((frame t).1.size:Int) ts).1.2.2.2.2.2,(foldJ (n,0,0,(twoN t 66).1,(twoN t 66).2.1,[]) ((frame t).1.size:Int) ts).2):=by
            refine Ev.step (f:=fun k=>(spec_Frame.f k t).bind fun f=>spec_ReadJournal.l0 (t :: ts) k ((1:Nat):Int) 0 0 (twoN t 66).1 (twoN t 66).2.1 [] (wrap64 (0+(f.1.size:Int)))) (fun k=>?_) (Ev.bind (spec_Frame_ev t (by omega)) ?_)
            · simp only [spec_ReadJournal.l0]
              rw [if_pos (by simp only [List.length_cons];omega),if_neg (by omega),if_pos (by omega),r0,w64 (x:=(0:Int)+1) (by omega) (by omega)]
              rfl
            · rw [w64 (x:=0+((frame t).1.size:Int)) (by omega) (by omega),Int.zero_add]
              exact l1
          exact Ev.pos h3 (Ev.bind l2 (Ev.now _))
        · refine(Ev.neg h3 (Ev.now _)).eq ?_
          unfold readR
          rw [if_pos h2,if_neg h3]
      · refine(Ev.neg h2 (Ev.now _)).eq ?_
        unfold readR
        rw [if_neg h2]
  · rw [if_neg h]
    exact Ev.neg (fun e=>h (inR_iff.1 e)) (Ev.now _)
theorem spec_l07Copy_is (p q s a b:Int) (l:List IEn) (hl:l.length≤1048577):spec_l07Copy.f p q s a b l=some (p,q,s,a,b,l):=by
  unfold spec_l07Copy.f
  rw [Option.bind_some,if_pos (by simp;omega),List.nil_append]
theorem spec_JournalOk_ev (p q s a b:Int) (l:List IEn) (hl:l.length≤1048577) (hs:∀x∈l,x.f2.size≤17592186044416):Ev (fun k=>spec_JournalOk.f k p q s a b l) (journalOk p q s a b l):=by
  unfold spec_JournalOk.f journalOk
  refine Ev.bind0 (spec_l01In_is _ _ _) ?_
  by_cases h1:0≤p∧p≤999
  · rw [decide_eq_true h1,Bool.true_and]
    refine Ev.pos (inR_iff.2 h1) (Ev.bind0 (spec_l01In_is _ _ _) ?_)
    by_cases h2:0≤q∧q≤100000
    · rw [decide_eq_true h2,Bool.true_and]
      refine Ev.pos (inR_iff.2 h2) (Ev.bind0 (spec_l01In_is _ _ _) ?_)
      by_cases h3:0≤s∧s≤4
      · rw [decide_eq_true h3,Bool.true_and]
        exact Ev.pos (inR_iff.2 h3) (Ev.bind (spec_LogOk_ev a b l hl hs) (Ev.now _))
      · rw [decide_eq_false h3,Bool.false_and];exact Ev.neg (fun e=>h3 (inR_iff.1 e)) (Ev.now _)
    · rw [decide_eq_false h2,Bool.false_and];exact Ev.neg (fun e=>h2 (inR_iff.1 e)) (Ev.now _)
  · rw [decide_eq_false h1,Bool.false_and];exact Ev.neg (fun e=>h1 (inR_iff.1 e)) (Ev.now _)
theorem frame_size (s:ByteArray):(frame s).1.size≤9009:=by
  unfold frame
  split
  · rename_i h
    have:=vt_size5 s.size (by omega)
    simp only;rw [size_append,size_append,four_size];omega
  · exact Nat.zero_le _
theorem vt_size10 (n:Nat) (h:n≤1000000000):(vt n).size≤5:=vt_size5 n (by omega)
theorem entryText_size (i t k:Int) (d:ByteArray):(entryText i t k d).1.size≤d.size+12:=by
  unfold entryText
  split
  · rename_i h
    have h1:=vt_size5 i.toNat (by omega)
    have ht:=entryOk_term h.1
    have h2:=vt_size5 t.toNat (by omega)
    simp only;rw [size_append,size_append,size_append,size_append,size_e,str_size];simp only [List.length_cons,List.length_nil];omega
  · exact Nat.zero_le _
def frameE (i:Int) (x:IEn):ByteArray:=(frame (entryText i x.f0 x.f1 x.f2).1).1
def framesL (i:Int):List IEn→List Int
  | []=>[]
  |x :: l=>bytesOf (frameE i x)++framesL (i+1) l
theorem framesL_len:∀(l:List IEn) (i:Int),(framesL i l).length≤9009*l.length
  | [],_=>by simp [framesL]
  |x :: l,i=>by
    have:=frame_size (entryText i x.f0 x.f1 x.f2).1
    have h2:=framesL_len l (i+1)
    simp only [framesL,List.length_append,bytesOf_length,List.length_cons,frameE];omega
def headF (c:ByteArray) (a b:Int):ByteArray:=(frame (c++vt a.toNat++vt b.toNat)).1
def journalT (q s a b:Int) (l:List IEn):ByteArray:=headF (⟨#[66]⟩:ByteArray) a b++headF (⟨#[72]⟩:ByteArray) q s++strOfNums (framesL (a+1) l)
def journalText (p q s a b:Int) (l:List IEn):ByteArray × Bool:=
  if journalOk p q s a b l=true then(if(journalT q s a b l).size≤20000 then(journalT q s a b l,true) else(⟨#[]⟩,false)) else(⟨#[]⟩,false)
theorem journalOk_range {p q s a b:Int} {l:List IEn} (h:journalOk p q s a b l=true):(0≤q∧q≤100000)∧(0≤s∧s≤4)∧(0≤a∧a≤1000000)∧(0≤b∧b≤100000)∧l.length≤60:=by
  unfold journalOk logOk at h
  simp only [Bool.and_eq_true,decide_eq_true_eq] at h
  exact⟨h.2.1,h.2.2.1,h.2.2.2.1,h.2.2.2.2.1,h.2.2.2.2.2.1.1⟩
theorem headF_size (c:ByteArray) (a b:Int):(headF c a b).size≤9009:=frame_size _
theorem journalT_size (q s a b:Int) (l:List IEn) (hl:l.length≤60):(journalT q s a b l).size≤600000∧(headF (⟨#[66]⟩:ByteArray) a b++headF (⟨#[72]⟩:ByteArray) q s).size≤20000∧(strOfNums (framesL (a+1) l)).size≤541000:=by
  have h1:=headF_size (⟨#[66]⟩:ByteArray) a b
  have h2:=headF_size (⟨#[72]⟩:ByteArray) q s
  have h3:=framesL_len l (a+1)
  unfold journalT
  rw [size_append,size_append,str_size];omega
theorem spec_l07Hard_ev {a b:Int} (ha:0≤a∧a≤1000000000) (hb:0≤b∧b≤1000000000):Ev (fun k=>spec_l07Hard.f k a b) (headF (⟨#[72]⟩:ByteArray) a b):=by
  unfold spec_l07Hard.f
  have h1:=vt_size5 a.toNat (by omega)
  have h2:=vt_size5 b.toNat (by omega)
  have e1:(⟨#[72]⟩:ByteArray).size=1:=rfl
  refine Ev.bind (spec_l01Var_evi a ha.1 (by omega)) (Ev.pos (by omega) (Ev.bind (spec_l01Var_evi b hb.1 (by omega)) (Ev.pos (by rw [size_append];omega) (Ev.bind (spec_Frame_ev _ (by rw [size_append,size_append];omega)) (Ev.now _)))))
theorem spec_l07Frames_l0 (a b:Int) (l:List IEn) (ha:0≤a∧a≤1000000) (hl:l.length≤60) (hs:∀x∈l,x.f2.size≤17592186044416):∀(d i:Nat) (acc:List Int),i+d=l.length→acc.length≤9009*i→
    Ev (fun k=>spec_l07Frames.l0 k acc (i:Int) a b l) (strOfNums (acc++framesL (a+1+i) (l.drop i)))
  |0,i,acc,h,hc=>by
    refine Ev.step (f:=fun k=>some (strOfNums acc)) (fun k=>?_) ((Ev.now _).eq ?_)
    · simp only [spec_l07Frames.l0];rw [if_neg (by omega)]
    · rw [List.drop_of_length_le (by omega)];simp [framesL]
  |d+1,i,acc,h,hc=>by
    have hx:=hs (rd_T105 l (i:Int)) (by rw [rd_IEn (by omega)];exact List.getElem_mem _)
    rw [rd_IEn_drop (by omega:i<l.length)]
    generalize hX:rd_T105 l (i:Int)=x at hx
    have w1:wrap64 ((wrap64 (a+1))+(i:Int))=a+1+i:=by rw [w64 (x:=a+1) (by omega) (by omega),w64 (by omega) (by omega)]
    have w4:wrap64 ((i:Int)+1)=((i+1:Nat):Int):=by rw [w64 (by omega) (by omega)];omega
    have hz:=frame_size (entryText (a+1+i) x.f0 x.f1 x.f2).1
    have he:=entryText_size (a+1+i) x.f0 x.f1 x.f2
    have ih:=spec_l07Frames_l0 a b l ha hl hs d (i+1) (acc++bytesOf (frameE (a+1+i) x)) (by omega) (by rw [List.length_append,bytesOf_length,frameE];omega)
    refine Ev.step (f:=fun k=>(spec_EntryText.f k (a+1+i) x.f0 x.f1 x.f2).bind fun bt186=>(spec_Frame.f k bt186.1).bind fun bt188=>if acc.length+bt188.1.size<140737488355328 then spec_l07Frames.l0 k (acc++bytesOf bt188.1) ((i+1:Nat):Int) a b l else none) (fun k=>?_) (Ev.bind (spec_EntryText_ev _ _ _ _ hx) (Ev.bind (spec_Frame_ev _ (by omega)) (Ev.pos (by omega) (ih.eq ?_))))
    · simp only [spec_l07Frames.l0,hX,w1,w4]
      rw [if_pos (by omega),if_pos (by omega)]
    · simp only [framesL]
      rw [List.append_assoc,show a+1+((i+1:Nat):Int)=a+1+(i:Int)+1 by omega]
theorem spec_l07Frames_ev (a b:Int) (l:List IEn) (ha:0≤a∧a≤1000000) (hl:l.length≤60) (hs:∀x∈l,x.f2.size≤17592186044416):Ev (fun k=>spec_l07Frames.f k a b l 0) (strOfNums (framesL (a+1) l)):=by
  have:=spec_l07Frames_l0 a b l ha hl hs l.length 0 [] (by omega) (by simp)
  unfold spec_l07Frames.f
  simpa using this
theorem spec_JournalText_ev (p q s a b:Int) (l:List IEn) (hl:l.length≤1048577) (hs:∀x∈l,x.f2.size≤17592186044416):Ev (fun k=>spec_JournalText.f k p q s a b l) (journalText p q s a b l):=by
  unfold spec_JournalText.f journalText
  refine Ev.bind (spec_JournalOk_ev p q s a b l hl hs) ?_
  by_cases h:journalOk p q s a b l=true
  · rw [if_pos h]
    obtain⟨hq,hss,ha,hb,h60⟩:=journalOk_range h
    have z:=journalT_size q s a b l h60
    have h1:=vt_size5 a.toNat (by omega)
    have h2:=vt_size5 b.toNat (by omega)
    have e1:(⟨#[66]⟩:ByteArray).size=1:=rfl
    have hf:Ev (fun k=>spec_Frame.f k (((⟨#[66]⟩:ByteArray)++vt a.toNat)++vt b.toNat)) (frame (((⟨#[66]⟩:ByteArray)++vt a.toNat)++vt b.toNat)):=spec_Frame_ev _ (by rw [size_append,size_append];omega)
    have y1:=headF_size (⟨#[66]⟩:ByteArray) a b
    have y2:=headF_size (⟨#[72]⟩:ByteArray) q s
    refine Ev.pos h (Ev.bind (spec_l01Var_evi a ha.1 (by omega)) (Ev.pos (by omega) (Ev.bind (spec_l01Var_evi b hb.1 (by omega)) (Ev.pos (by rw [size_append];omega) (Ev.bind hf (Ev.bind (spec_l07Hard_ev (by omega) (by omega)) (Ev.pos (by unfold headF at y1;omega) (Ev.bind (spec_l07Frames_ev a b l ha h60 hs) (Ev.pos ?_ ?_)))))))))
    · have:=z.2.1;have:=z.2.2;unfold headF at *;omega
    · by_cases h3:(journalT q s a b l).size≤20000
      · rw [if_pos h3];exact Ev.neg (by show ¬((20000:Int)<((journalT q s a b l).size:Int));omega) (Ev.now _)
      · rw [if_neg h3];exact Ev.pos (by show(20000:Int)<((journalT q s a b l).size:Int);omega) (Ev.now _)
  · rw [if_neg h];exact Ev.neg h (Ev.now _)
open Go.Proofs.YtolakamimfhcjaaGreatDoor.Sem (less_irrefl less_trans less_total)
theorem less_asymm {a b:List UInt8} (h:Go.Op.bytesLess a b=true):Go.Op.bytesLess b a=false:=Go.Proofs.YtolakamimfhcjaaGreatDoor.Sem.less_no h
def Sd (l:List IFi):Prop:=l.Pairwise (fun x y=>bLess x.f0 y.f0=true)
theorem filesOk_iff:∀(l:List IFi) (p:Option ByteArray),filesOk p l=true↔(∀x∈l,fileOk x=true)∧(∀x∈l,above p x.f0=true)∧Sd l
  | [],p=>by simp [filesOk,Sd]
  |x :: l,p=>by
    simp only [filesOk,Bool.and_eq_true,filesOk_iff l (some x.f0),Sd,List.pairwise_cons,List.mem_cons,forall_eq_or_imp,above]
    constructor
    · rintro⟨⟨h1,h2⟩,h3,h4,h5⟩
      refine⟨⟨h1,h3⟩,⟨h2,fun y hy=>?_⟩,h4,h5⟩
      cases p with
      |none=>rfl
      |some q=>exact less_trans _ _ _ h2 (h4 y hy)
    · rintro⟨⟨h1,h3⟩,⟨h2,_⟩,h4,h5⟩
      exact⟨⟨h1,h2⟩,h3,h4,h5⟩
theorem diskOk_iff (l:List IFi):diskOk l=true↔l.length≤30∧(∀x∈l,fileOk x=true)∧Sd l:=by
  unfold diskOk
  rw [Bool.and_eq_true,decide_eq_true_eq,filesOk_iff]
  constructor
  · rintro⟨h,h1,_,h2⟩;exact⟨h,h1,h2⟩
  · rintro⟨h,h1,h2⟩;exact⟨h,h1,fun _ _=>rfl,h2⟩
theorem fileOk_iff (x:IFi):fileOk x=true↔(1≤x.f0.size∧x.f0.size≤8)∧x.f1.size≤20000∧0≤x.f2∧x.f2≤(x.f1.size:Int):=by
  unfold fileOk;simp only [Bool.and_eq_true,decide_eq_true_eq];exact⟨fun h=>⟨h.1.1,h.1.2,h.2⟩,fun h=>⟨⟨h.1,h.2.1⟩,h.2.2⟩⟩
def putL (l:List IFi) (f:IFi):List IFi:=l.filter (fun x=>bLess x.f0 f.f0)++f :: l.filter (fun x=>bLess f.f0 x.f0)
theorem putL_len (l:List IFi) (f:IFi):(putL l f).length≤l.length+1:=by
  unfold putL
  rw [List.length_append,List.length_cons]
  have:∀l:List IFi,(l.filter (fun x=>bLess x.f0 f.f0)).length+(l.filter (fun x=>bLess f.f0 x.f0)).length≤l.length:=by
    intro l
    induction l with
    |nil=>simp
    |cons x l ih=>
      simp only [List.filter_cons,List.length_cons]
      cases h1:bLess x.f0 f.f0 with
      |true=>rw [show bLess f.f0 x.f0=false from less_asymm h1];simp;omega
      |false=>
        cases h2:bLess f.f0 x.f0 with
        |true=>simp;omega
        |false=>simp;omega
  have:=this l
  omega
theorem putL_sd {l:List IFi} (h:Sd l) (f:IFi):Sd (putL l f):=by
  unfold putL Sd
  rw [List.pairwise_append,List.pairwise_cons]
  refine⟨h.sublist List.filter_sublist,⟨fun x hx=>?_,h.sublist List.filter_sublist⟩,fun x hx y hy=>?_⟩
  · simpa using (List.mem_filter.1 hx).2
  · have h1:=(List.mem_filter.1 hx).2
    rcases List.mem_cons.1 hy with rfl|hy
    · exact h1
    · exact less_trans _ _ _ h1 (List.mem_filter.1 hy).2
theorem putL_ok {l:List IFi} {f:IFi} (h:∀x∈l,fileOk x=true) (hf:fileOk f=true):∀x∈putL l f,fileOk x=true:=by
  intro x hx
  unfold putL at hx
  rcases List.mem_append.1 hx with hx|hx
  · exact h x (List.mem_filter.1 hx).1
  · rcases List.mem_cons.1 hx with rfl|hx
    · exact hf
    · exact h x (List.mem_filter.1 hx).1
abbrev IAc:=S57
theorem rd_IAc {l:List IAc} {i:Nat} (h:i<l.length):rd_T57 l (i:Int)=l[i]:=by
  simp [rd_T57,List.getD_eq_getElem?_getD,List.getElem?_eq_getElem h]
theorem rd_IAc_set {l:List IAc} {i:Nat} (v:IAc) (h:i<l.length):rd_T57 (l.set i v) (i:Int)=v:=by
  rw [rd_IAc (by simpa using h)];simp
def mkAc (m:Int):IAc:=⟨m,mkT (m+1),mkT (m+2),mkT (m+3)⟩
def seqA (m:Int):Nat→List IAc
  |0=>[]
  |n+1=>mkAc m :: seqA (m+4) n
theorem seqA_length (m:Int) (n:Nat):(seqA m n).length=n:=by
  induction n generalizing m with
  |zero=>rfl
  |succ n ih=>simp [seqA,ih]
theorem seqA_get (m:Int) (n i:Nat) (h:i<(seqA m n).length):(seqA m n)[i]=mkAc (m+4*i):=by
  induction n generalizing m i with
  |zero=>simp [seqA] at h
  |succ n ih=>
    cases i with
    |zero=>simp [seqA]
    |succ i=>simp only [seqA,List.getElem_cons_succ];rw [ih];congr 1;omega
def newA (l:List IFi):List IAc:=if 0≤fAt l (⟨#[106,43]⟩:ByteArray) then [⟨4,⟨#[106,43]⟩,⟨#[]⟩,⟨#[]⟩⟩] else []
def dropsL (l:List IFi) (i:Int):List IAc:=(l.filter fun x=>decide (0≤numIx 106 999 x.f0∧numIx 106 999 x.f0≠i)).map fun x=>⟨4,x.f0,⟨#[]⟩,⟨#[]⟩⟩
theorem newA_len (l:List IFi):(newA l).length≤1:=by unfold newA;split <;> simp
theorem dropsL_len (l:List IFi) (i:Int):(dropsL l i).length≤l.length:=by unfold dropsL;rw [List.length_map];exact List.length_filter_le _ _
def mkDrop (x:IFi):IAc:=⟨4,x.f0,⟨#[]⟩,⟨#[]⟩⟩
def shedI (i:Int) (x:IFi):Bool:=(x.f0.toList == ([106,43]:List UInt8)) || decide (0≤numIx 106 999 x.f0∧numIx 106 999 x.f0≠i)
def shedL (l:List IFi) (i:Int):List IAc:=(l.filter (shedI i)).map mkDrop
theorem num_first {s:ByteArray} (h:0≤numIx 106 999 s):∃b l,bytesOf s=106 :: b :: l∧48≤b:=by
  obtain⟨n,h1,h2,h3⟩:=numIx_name h
  have hd:=dF_decB n
  rw [decS_nat] at h3
  cases e:bytesOf (decB n) with
  |nil=>
    have h4:=decB_pos n
    have h5:=bytesOf_length (decB n)
    rw [e] at h5;simp at h5;omega
  |cons b l=>
    rw [e] at hd
    simp only [dF] at hd
    split at hd
    · rename_i hb
      refine⟨b,l,?_,hb.1⟩
      rw [h3,bytes_append,e];rfl
    · cases hd
theorem toList_bytes (s:ByteArray):bytesOf s=s.toList.map (fun b=>(b.toNat:Int)):=by
  rw [ByteArray.toList_eq];rfl
theorem num_not_new {s:ByteArray} (h:0≤numIx 106 999 s):¬s.toList=([106,43]:List UInt8):=by
  intro e
  obtain⟨b,l,h1,h2⟩:=num_first h
  rw [toList_bytes,e] at h1
  simp at h1
  omega
theorem num_above {s:ByteArray} (h:0≤numIx 106 999 s):¬Go.Op.bytesLess s.toList ([106,43]:List UInt8)=true:=by
  intro e
  obtain⟨b,l,h1,h2⟩:=num_first h
  rw [toList_bytes] at h1
  cases hs:s.toList with
  |nil=>rw [hs] at h1;simp at h1
  |cons x r=>
    rw [hs] at h1
    cases r with
    |nil=>simp at h1
    |cons y r=>
      rw [hs] at e
      simp only [List.map_cons,List.cons.injEq] at h1
      simp only [Go.Op.bytesLess,Bool.or_eq_true,Bool.and_eq_true,decide_eq_true_eq,beq_iff_eq,Bool.false_eq_true,and_false,or_false] at e
      have h3:=h1.1
      have h4:=h1.2.1
      rcases e with e|⟨_,e⟩
      · have:=UInt8.lt_iff_toNat_lt.1 e
        have:(106:UInt8).toNat=106:=rfl
        omega
      · have:=UInt8.lt_iff_toNat_lt.1 e
        have:(43:UInt8).toNat=43:=rfl
        omega
theorem newA_iff (l:List IFi):newA l=if(∃x∈l,x.f0.toList=([106,43]:List UInt8)) then [⟨4,⟨#[106,43]⟩,⟨#[]⟩,⟨#[]⟩⟩] else []:=by
  unfold newA
  have ht:(⟨#[106,43]⟩:ByteArray).toList=([106,43]:List UInt8):=by rw [ByteArray.toList_eq]
  rcases M.idxP_cases (fun x:IFi=>x.f0.toList == (⟨#[106,43]⟩:ByteArray).toList) l 0 with ⟨h,h'⟩|⟨k,h,e,hk⟩
  · have h0:¬0≤fAt l (⟨#[106,43]⟩:ByteArray):=by unfold fAt;omega
    rw [if_neg h0,if_neg]
    rintro⟨x,hx,hx2⟩
    have:=h' x hx
    rw [ht,hx2] at this
    simp at this
  · have h0:0≤fAt l (⟨#[106,43]⟩:ByteArray):=by unfold fAt;omega
    rw [if_pos h0,if_pos]
    refine⟨l[k],List.getElem_mem _,?_⟩
    rw [ht] at hk
    simpa using hk
theorem shed_eq (i:Int):∀(l:List IFi),Sd l→shedL l i=newA l++dropsL l i
  | [],_=>by rw [newA_iff];simp [shedL,dropsL]
  |x :: l,h=>by
    have hs:=List.pairwise_cons.1 h
    have ih:=shed_eq i l hs.2
    by_cases hx:x.f0.toList=([106,43]:List UInt8)
    · have hn:∀y∈l,¬y.f0.toList=([106,43]:List UInt8):=fun y hy e=>by
        have:=hs.1 y hy
        unfold bLess at this
        rw [hx,e] at this
        exact absurd this (by decide)
      have e1:newA (x :: l)= [⟨4,⟨#[106,43]⟩,⟨#[]⟩,⟨#[]⟩⟩]:=by rw [newA_iff,if_pos ⟨x,by simp,hx⟩]
      have e2:newA l= []:=by rw [newA_iff,if_neg];rintro⟨y,hy,e⟩;exact hn y hy e
      have e3:¬(0≤numIx 106 999 x.f0∧numIx 106 999 x.f0≠i):=fun e=>num_not_new e.1 hx
      have e4:x.f0=⟨#[106,43]⟩:=(toList_iff _ _).1 (by rw [hx,ByteArray.toList_eq])
      have e5:shedI i x=true:=by unfold shedI;rw [hx];simp
      rw [e2,List.nil_append] at ih
      rw [e1]
      unfold shedL at *
      rw [List.filter_cons_of_pos e5,List.map_cons,ih]
      have e6:dropsL (x :: l) i=dropsL l i:=by unfold dropsL;rw [List.filter_cons_of_neg (by simpa using e3)]
      rw [e6,show mkDrop x=⟨4,⟨#[106,43]⟩,⟨#[]⟩,⟨#[]⟩⟩ from by unfold mkDrop;rw [e4]]
      rfl
    · have e1:newA (x :: l)=newA l:=by
        rw [newA_iff,newA_iff]
        have:(∃y∈x :: l,y.f0.toList=([106,43]:List UInt8))↔∃y∈l,y.f0.toList=([106,43]:List UInt8):=by simp [hx]
        simp only [this]
      by_cases hn:0≤numIx 106 999 x.f0∧numIx 106 999 x.f0≠i
      · have e2:newA l= []:=by
          rw [newA_iff,if_neg]
          rintro⟨y,hy,e⟩
          have:=hs.1 y hy
          unfold bLess at this
          rw [e] at this
          exact num_above hn.1 this
        have e5:shedI i x=true:=by unfold shedI;rw [decide_eq_true hn];simp
        rw [e2,List.nil_append] at ih
        rw [e1,e2,List.nil_append]
        unfold shedL at *
        rw [List.filter_cons_of_pos e5,List.map_cons,ih]
        unfold dropsL
        rw [List.filter_cons_of_pos (by simpa using hn),List.map_cons]
        rfl
      · have e5:¬shedI i x=true:=by unfold shedI;rw [decide_eq_false hn];simpa using hx
        rw [e1]
        unfold shedL at *
        rw [List.filter_cons_of_neg e5,ih]
        unfold dropsL
        rw [List.filter_cons_of_neg (by simpa using hn)]
theorem disk_files {l:List IFi} (h:diskOk l=true):l.length≤30∧∀x∈l,x.f0.size≤8∧x.f1.size≤20000:=by
  have h1:=(diskOk_iff l).1 h
  refine⟨h1.1,fun x hx=>?_⟩
  have:=(fileOk_iff x).1 (h1.2.1 x hx)
  omega
def bestL (l:List IFi) (b:Int):Int:=l.foldl (fun b x=>if numIx 106 999 x.f0>b then numIx 106 999 x.f0 else b) b
theorem bestL_range:∀(l:List IFi) (b:Int),-1≤b→b≤999→-1≤bestL l b∧bestL l b≤999
  | [],b,h1,h2=>⟨h1,h2⟩
  |x :: l,b,h1,h2=>by
    have hn:numIx 106 999 x.f0≤999:=by
      by_cases h:0≤numIx 106 999 x.f0
      · obtain⟨n,e,hm,_⟩:=numIx_name h;omega
      · omega
    show -1≤bestL l (if numIx 106 999 x.f0>b then numIx 106 999 x.f0 else b)∧_≤999
    refine bestL_range l _ ?_ ?_ <;> split <;> omega
def jnm (n:Int):ByteArray:=if inR n 0 999=true then(⟨#[106]⟩:ByteArray)++decS n else⟨#[]⟩
def anewA (b:Int) (t:ByteArray):List IAc:=[⟨1,⟨#[106,43]⟩,t,⟨#[]⟩⟩,⟨2,⟨#[106,43]⟩,⟨#[]⟩,⟨#[]⟩⟩,⟨3,⟨#[106,43]⟩,⟨#[]⟩,jnm (b+1)⟩,⟨4,jnm b,⟨#[]⟩,⟨#[]⟩⟩]
abbrev OJ:=Int × Int × Int × Int × Int × List IEn × List IAc × Bool
def zeroJ:OJ:=(0,0,0,0,0,[],[],false)
def tailJ (b:Int) (size:Int) (z:Int × Int × Int × Int × Int × List IEn × Int × Bool) (acts:List IAc):OJ:=
  if z.2.2.2.2.2.2.1=size then(z.1,z.2.1,z.2.2.1,z.2.2.2.1,z.2.2.2.2.1,z.2.2.2.2.2.1,acts,true)
  else if(journalText (b+1) z.2.1 z.2.2.1 z.2.2.2.1 z.2.2.2.2.1 z.2.2.2.2.2.1).2=true then(b+1,z.2.1,z.2.2.1,z.2.2.2.1,z.2.2.2.2.1,z.2.2.2.2.2.1,acts++anewA b (journalText (b+1) z.2.1 z.2.2.1 z.2.2.2.1 z.2.2.2.2.1 z.2.2.2.2.2.1).1,true)
  else zeroJ
def finJ (l:List IFi) (b:Int):OJ:=
  if b<0 then zeroJ else if(readJ b (fileAt l (jnm b)).1).2.2.2.2.2.2.2=true then tailJ b ((fileAt l (jnm b)).1.size:Int) (readJ b (fileAt l (jnm b)).1) (newA l++dropsL l b) else zeroJ
def openL (l:List IFi):OJ:=if diskOk l=true then finJ l (bestL l (-1)) else zeroJ
theorem readJ_ok {n:Int} {s:ByteArray} (h:(readJ n s).2.2.2.2.2.2.2=true):(readJ n s).1=n∧jInv ((readJ n s).1,(readJ n s).2.1,(readJ n s).2.2.1,(readJ n s).2.2.2.1,(readJ n s).2.2.2.2.1,(readJ n s).2.2.2.2.2.1):=by
  unfold readJ at *
  by_cases hn:0≤n∧n≤999
  · rw [if_pos hn] at h⊢
    have hs:=unframe_small s
    cases e:(unframe s).1 with
    |nil=>rw [e] at h;simp at h
    |cons t ts=>
      rw [e] at hs h
      simp only at h⊢
      unfold readR at *
      by_cases h2:(twoN t 66).2.2=true
      · rw [if_pos h2] at h⊢
        by_cases h3:logOk (twoN t 66).1 (twoN t 66).2.1 []=true
        · rw [if_pos h3]
          have k:=foldJ_inv ts (n,0,0,(twoN t 66).1,(twoN t 66).2.1,[]) ((frame t).1.size:Int) (jInv_first hn h3) (fun x hx=>hs x (List.mem_cons_of_mem _ hx))
          exact⟨k.2,k.1⟩
        · rw [if_neg h3] at h;simp at h
      · rw [if_neg h2] at h;simp at h
  · rw [if_neg hn] at h;simp at h
theorem journalText_ok {p q s a b:Int} {l:List IEn} (h:(journalText p q s a b l).2=true):0≤p∧p≤999:=by
  unfold journalText at h
  split at h
  · rename_i hj
    unfold journalOk at hj
    simp only [Bool.and_eq_true,decide_eq_true_eq] at hj
    exact hj.1
  · simp at h
theorem openL_len (l:List IFi):(openL l).2.2.2.2.2.1.length≤60∧(openL l).2.2.2.2.2.2.1.length≤100:=by
  unfold openL
  split
  · rename_i hk
    have h30:=(disk_files hk).1
    unfold finJ
    split
    · exact⟨Nat.zero_le _,Nat.zero_le _⟩
    · split
      · rename_i hz
        have k:=jInv_len (readJ_ok hz).2
        have h1:=newA_len l
        have h2:=dropsL_len l (bestL l (-1))
        unfold tailJ
        split
        · refine⟨k,?_⟩
          simp only [List.length_append];omega
        · split
          · refine⟨k,?_⟩
            simp only [List.length_append,anewA,List.length_cons,List.length_nil];omega
          · exact⟨Nat.zero_le _,Nat.zero_le _⟩
      · exact⟨Nat.zero_le _,Nat.zero_le _⟩
  · exact⟨Nat.zero_le _,Nat.zero_le _⟩
theorem spec_l07Anew_ev (p q s a b:Int) (l:List IEn) (hp:0≤p∧p≤999) (hl:l.length≤1048577) (hs:∀x∈l,x.f2.size≤17592186044416) (q0 s0 a0 b0:Int) (l0:List IEn) (p1:Int):
    Ev (fun k=>spec_l07Anew.f k p q0 s0 a0 b0 l0 p1 q s a b l) (if(journalText (p+1) q s a b l).2=true then(anewA p (journalText (p+1) q s a b l).1,p+1,q,s,a,b,l,true) else([],0,0,0,0,0,[],false)):=by
  unfold spec_l07Anew.f
  rw [w64 (x:=p+1) (by omega) (by omega)]
  refine Ev.bind (spec_JournalText_ev _ _ _ _ _ _ hl hs) ?_
  by_cases h:(journalText (p+1) q s a b l).2=true
  · rw [if_pos h]
    exact Ev.pos h (Ev.bind (spec_JournalName_ev _) (Ev.bind (spec_JournalName_ev _) (Ev.bind0 (spec_l07Copy_is _ _ _ _ _ _ hl) (Ev.now _))))
  · rw [if_neg h];exact Ev.neg h (Ev.now _)
theorem spec_OpenJournal_l1 (l:List IFi) (hl:l.length≤30) (b:Int) (t:ByteArray) (z:Int × Int × Int × Int × Int × List IEn × Int × Bool) (hz:jInv (z.1,z.2.1,z.2.2.1,z.2.2.2.1,z.2.2.2.2.1,z.2.2.2.2.2.1)) (hb:z.1=b):∀(d i:Nat) (acc:List IAc),i+d=l.length→acc.length≤i+1→
    Ev (fun k=>spec_OpenJournal.l1 k acc b t z.2.2.2.2.2.2.1 (i:Int) l z.1 z.2.1 z.2.2.1 z.2.2.2.1 z.2.2.2.2.1 z.2.2.2.2.2.1) (tailJ b (t.size:Int) z (acc++dropsL (l.drop i) b)):=by
  have h60:z.2.2.2.2.2.1.length≤60:=jInv_len hz
  intro d
  induction d with
  |zero=>
    intro i acc h ha
    rw [List.drop_of_length_le (by omega),show dropsL [] b= [] from rfl,List.append_nil]
    unfold tailJ
    by_cases he:z.2.2.2.2.2.2.1=(t.size:Int)
    · rw [if_pos he]
      refine Ev.step (f:=fun k=>(spec_l07Copy.f z.1 z.2.1 z.2.2.1 z.2.2.2.1 z.2.2.2.2.1 z.2.2.2.2.2.1).bind fun c=>some (c.1,c.2.1,c.2.2.1,c.2.2.2.1,c.2.2.2.2.1,c.2.2.2.2.2,acc,true)) (fun k=>?_) (Ev.bind0 (spec_l07Copy_is _ _ _ _ _ _ (by omega)) (Ev.now _))
      simp only [spec_OpenJournal.l1];rw [if_neg (by omega),if_pos he]
    · rw [if_neg he]
      refine Ev.step (f:=fun k=>(spec_l07Anew.f k z.1 z.2.1 z.2.2.1 z.2.2.2.1 z.2.2.2.2.1 z.2.2.2.2.2.1 z.1 z.2.1 z.2.2.1 z.2.2.2.1 z.2.2.2.2.1 z.2.2.2.2.2.1).bind fun c=>if c.2.2.2.2.2.2.2=true then(if acc.length+c.1.length<2513169434916 then some (c.2.1,c.2.2.1,c.2.2.2.1,c.2.2.2.2.1,c.2.2.2.2.2.1,c.2.2.2.2.2.2.1,acc++c.1,true) else none) else some (0,0,0,0,0,[],[],false)) (fun k=>?_) (Ev.bind (spec_l07Anew_ev z.1 z.2.1 z.2.2.1 z.2.2.2.1 z.2.2.2.2.1 z.2.2.2.2.2.1 hz.1 (by omega) hz.2.2 _ _ _ _ _ _) ?_)
      · simp only [spec_OpenJournal.l1];rw [if_neg (by omega),if_neg he]
      · rw [hb]
        by_cases h2:(journalText (b+1) z.2.1 z.2.2.1 z.2.2.2.1 z.2.2.2.2.1 z.2.2.2.2.2.1).2=true
        · rw [if_pos h2,if_pos h2]
          exact Ev.pos rfl (Ev.pos (by simp only [anewA,List.length_cons,List.length_nil];omega) (Ev.now _))
        · rw [if_neg h2,if_neg h2]
          exact Ev.neg (by simp) (Ev.now _)
  |succ d ih=>
    intro i acc h ha
    have hi:i<l.length:=by omega
    have w4:wrap64 ((i:Int)+1)=((i+1:Nat):Int):=by rw [w64 (by omega) (by omega)];omega
    have er:rd_T49 l (i:Int)=l[i]:=rd_IFi hi
    rw [List.drop_eq_getElem_cons hi]
    have h1:=ih (i+1) acc (by omega) (by omega)
    have h2:=ih (i+1) (acc++ [⟨4,l[i].f0,⟨#[]⟩,⟨#[]⟩⟩]) (by omega) (by simp;omega)
    generalize l[i]=x at er h2
    refine Ev.step (f:=fun k=>(spec_l07Number.f k x.f0).bind fun n=>if n≥0 then(if n=b then spec_OpenJournal.l1 k acc b t z.2.2.2.2.2.2.1 ((i+1:Nat):Int) l z.1 z.2.1 z.2.2.1 z.2.2.2.1 z.2.2.2.2.1 z.2.2.2.2.2.1 else(if acc.length<2513169434916 then spec_OpenJournal.l1 k (acc++ [⟨4,x.f0,⟨#[]⟩,⟨#[]⟩⟩]) b t z.2.2.2.2.2.2.1 ((i+1:Nat):Int) l z.1 z.2.1 z.2.2.1 z.2.2.2.1 z.2.2.2.2.1 z.2.2.2.2.2.1 else none)) else spec_OpenJournal.l1 k acc b t z.2.2.2.2.2.2.1 ((i+1:Nat):Int) l z.1 z.2.1 z.2.2.1 z.2.2.2.1 z.2.2.2.2.1 z.2.2.2.2.2.1) (fun k=>?_) (Ev.bind (spec_l07Number_ev x.f0) ?_)
    · simp only [spec_OpenJournal.l1,er,w4]
      rw [if_pos (by omega),if_pos (Int.natCast_nonneg i)]
    · by_cases c1:0≤numIx 106 999 x.f0
      · refine Ev.pos c1 ?_
        by_cases c2:numIx 106 999 x.f0=b
        · refine Ev.pos c2 (h1.eq ?_)
          unfold dropsL;rw [List.filter_cons_of_neg (by simp [c2])]
        · refine Ev.neg c2 (Ev.pos (by omega) (h2.eq ?_))
          unfold dropsL;rw [List.filter_cons_of_pos (by simp [c1,c2]),List.map_cons,List.append_assoc];rfl
      · refine Ev.neg c1 (h1.eq ?_)
        unfold dropsL;rw [List.filter_cons_of_neg (by simp;omega)]
theorem spec_OpenJournal_fin (l:List IFi) (hk:diskOk l=true) (i b:Int) (h0: -1≤b) (h1:b≤999):Ev (fun k=>spec_OpenJournal.j1 k [] b i false l) (finJ l b):=by
  have h30:=(disk_files hk).1
  unfold finJ
  by_cases hb:b<0
  · rw [if_pos hb]
    exact Ev.step (f:=fun _=>some zeroJ) (fun k=>by simp only [spec_OpenJournal.j1];rw [if_neg (by simp),if_pos hb];rfl) (Ev.now _)
  · rw [if_neg hb]
    refine Ev.step (f:=fun k=>(spec_JournalName.f k b).bind fun t337=>((spec_FileAt.f k l t337).bind fun bt338=>((spec_ReadJournal.f k b bt338.1).bind fun bt340=>(if bt340.2.2.2.2.2.2.2=true then((spec_l03At.f k l (⟨#[106,43]⟩:ByteArray)).bind fun t351=>(if t351≥0 then(spec_OpenJournal.j2 k [⟨4,⟨#[106,43]⟩,⟨#[]⟩,⟨#[]⟩⟩] b bt338.1 bt340.2.2.2.2.2.2.1 l bt340.1 bt340.2.1 bt340.2.2.1 bt340.2.2.2.1 bt340.2.2.2.2.1 bt340.2.2.2.2.2.1) else(spec_OpenJournal.j2 k [] b bt338.1 bt340.2.2.2.2.2.2.1 l bt340.1 bt340.2.1 bt340.2.2.1 bt340.2.2.2.1 bt340.2.2.2.2.1 bt340.2.2.2.2.2.1))) else some zeroJ)))) (fun k=>?_) (Ev.bind (show Ev (fun k=>spec_JournalName.f k b) (jnm b) from spec_JournalName_ev b) (Ev.bind (spec_FileAt_ev l (by omega) (jnm b)) (Ev.bind (spec_ReadJournal_ev b _) ?_)))
    · simp only [spec_OpenJournal.j1];rw [if_neg (by simp),if_neg hb];rfl
    · show Ev (fun k=>if(readJ b (fileAt l (jnm b)).1).2.2.2.2.2.2.2=true then _ else _) _
      generalize hz:readJ b (fileAt l (jnm b)).1=z
      by_cases hr:z.2.2.2.2.2.2.2=true
      · rw [if_pos hr]
        have ho:z.1=b∧jInv (z.1,z.2.1,z.2.2.1,z.2.2.2.1,z.2.2.2.2.1,z.2.2.2.2.2.1):=by
          have:=readJ_ok (n:=b) (s:=(fileAt l (jnm b)).1) (by rw [hz];exact hr)
          rw [hz] at this;exact this
        refine Ev.pos hr (Ev.bind (spec_l03At_ev l (by omega) _) ?_)
        have go:∀acc:List IAc,acc.length≤1→Ev (fun k=>spec_OpenJournal.j2 k acc b (fileAt l (jnm b)).1 z.2.2.2.2.2.2.1 l z.1 z.2.1 z.2.2.1 z.2.2.2.1 z.2.2.2.2.1 z.2.2.2.2.2.1) (tailJ b ((fileAt l (jnm b)).1.size:Int) z (acc++dropsL l b)):=fun acc ha=>by
          refine Ev.step (f:=fun k=>spec_OpenJournal.l1 k acc b (fileAt l (jnm b)).1 z.2.2.2.2.2.2.1 0 l z.1 z.2.1 z.2.2.1 z.2.2.2.1 z.2.2.2.2.1 z.2.2.2.2.2.1) (fun k=>by simp only [spec_OpenJournal.j2]) ?_
          have:=spec_OpenJournal_l1 l h30 b (fileAt l (jnm b)).1 z ho.2 ho.1 l.length 0 acc (by omega) (by omega)
          simpa using this
        unfold newA
        by_cases hn:0≤fAt l (⟨#[106,43]⟩:ByteArray)
        · rw [if_pos hn];exact Ev.pos hn (go [⟨4,⟨#[106,43]⟩,⟨#[]⟩,⟨#[]⟩⟩] (Nat.le_refl 1))
        · rw [if_neg hn];exact Ev.neg hn (go [] (Nat.zero_le 1))
      · rw [if_neg hr];exact Ev.neg hr (Ev.now _)
theorem spec_OpenJournal_l0 (l:List IFi) (hk:diskOk l=true):∀(d i:Nat) (b:Int),i+d=l.length→-1≤b→b≤999→
    Ev (fun k=>spec_OpenJournal.l0 k [] b (i:Int) l) (finJ l (bestL (l.drop i) b)):=by
  have hf:=disk_files hk
  have hl:=hf.1
  intro d
  induction d with
  |zero=>
    intro i b h h0 h1
    rw [List.drop_of_length_le (by omega),show bestL [] b=b from rfl]
    refine Ev.step (f:=fun k=>spec_OpenJournal.j1 k [] b (i:Int) false l) (fun k=>?_) (spec_OpenJournal_fin l hk _ b h0 h1)
    simp only [spec_OpenJournal.l0];rw [if_neg (by omega)]
  |succ d ih=>
    intro i b h h0 h1
    have hi:i<l.length:=by omega
    have w4:wrap64 ((i:Int)+1)=((i+1:Nat):Int):=by rw [w64 (by omega) (by omega)];omega
    have er:rd_T49 l (i:Int)=l[i]:=rd_IFi hi
    rw [List.drop_eq_getElem_cons hi]
    generalize l[i]=x at er
    refine Ev.step (f:=fun k=>(spec_DiskOk.f k l).bind fun t=>spec_OpenJournal.j1 k [] b (i:Int) t l) (fun k=>?_) (Ev.bind (spec_DiskOk_ev l) ?_)
    · simp only [spec_OpenJournal.l0];rw [if_pos (by omega)]
    · rw [hk]
      refine Ev.step (f:=fun k=>(spec_l07Number.f k x.f0).bind fun n=>if n>b then spec_OpenJournal.l0 k [] n ((i+1:Nat):Int) l else spec_OpenJournal.l0 k [] b ((i+1:Nat):Int) l) (fun k=>?_) (Ev.bind (spec_l07Number_ev x.f0) ?_)
      · simp only [spec_OpenJournal.j1,er,w4]
        rw [if_pos trivial,if_pos (Int.natCast_nonneg i),if_pos (by omega)]
      · show Ev _ (finJ l (bestL (l.drop (i+1)) (if numIx 106 999 x.f0>b then numIx 106 999 x.f0 else b)))
        by_cases c:numIx 106 999 x.f0>b
        · rw [if_pos c]
          have hn:numIx 106 999 x.f0≤999:=by
            obtain⟨n,e,hm,_⟩:=numIx_name (show 0≤numIx 106 999 x.f0 by omega);omega
          exact Ev.pos c (ih (i+1) _ (by omega) (by omega) hn)
        · rw [if_neg c];exact Ev.neg c (ih (i+1) _ (by omega) h0 h1)
theorem spec_OpenJournal_ev (l:List IFi):Ev (fun k=>spec_OpenJournal.f k l) (openL l):=by
  unfold spec_OpenJournal.f openL
  by_cases hk:diskOk l=true
  · rw [if_pos hk]
    exact spec_OpenJournal_l0 l hk l.length 0 (-1) (by omega) (by omega) (by omega)
  · rw [if_neg hk]
    have hj:Ev (fun k=>spec_OpenJournal.j1 k ([]:List IAc) (-1) 0 false l) zeroJ:=
      Ev.step (f:=fun _=>some zeroJ) (fun k=>by simp only [spec_OpenJournal.j1];rw [if_neg (by simp),if_pos (by decide)];rfl) (Ev.now _)
    by_cases hl:l.length=0
    · refine Ev.step (f:=fun k=>spec_OpenJournal.j1 k ([]:List IAc) (-1) 0 false l) (fun k=>?_) hj
      simp only [spec_OpenJournal.l0];rw [if_neg (by omega)]
    · refine Ev.step (f:=fun k=>(spec_DiskOk.f k l).bind fun t=>spec_OpenJournal.j1 k ([]:List IAc) (-1) 0 t l) (fun k=>?_) (Ev.bind (spec_DiskOk_ev l) ?_)
      · simp only [spec_OpenJournal.l0];rw [if_pos (by omega)]
      · rw [show diskOk l=false by simpa using hk];exact hj
theorem laws_toFile_is (a b:ByteArray) (c:Int):laws_toFile.f a b c=some (a,b,c):=rfl
theorem laws_toFileS_l0 (l:List LFi) (hl:l.length≤1048576):∀(d i:Nat),i+d=l.length→
    Ev (fun k=>laws_toFileS.l0 k l ((l.map toFi).take i++List.replicate (l.length - i) z49) (i:Int)) (l.map toFi)
  |0,i,h=>by
    refine Ev.step (f:=fun k=>some ((l.map toFi).take i++List.replicate (l.length - i) z49)) (fun k=>?_) ((Ev.now _).eq ?_)
    · simp only [laws_toFileS.l0];rw [if_neg (by omega)]
    · obtain rfl:i=l.length:=by omega
      rw [List.take_of_length_le (by simp)];simp
  |d+1,i,h=>by
    have hi:i<l.length:=by omega
    refine Ev.step (f:=fun k=>laws_toFileS.l0 k l ((l.map toFi).take (i+1)++List.replicate (l.length - (i+1)) z49) ((i+1:Nat):Int)) (fun k=>?_) (laws_toFileS_l0 l hl d (i+1) (by omega))
    simp only [laws_toFileS.l0]
    rw [if_pos (by omega),if_pos (by omega),rd_LFi hi,laws_toFile_is,Option.bind_some,if_pos (by simp [List.length_take];omega),w64 (x:=(i:Int)+1) (by omega) (by omega)]
    rw [Int.toNat_natCast]
    have e:=fill_step (l.map toFi) z49 i l.length (by simpa using hi) (by simp)
    rw [←e,List.getElem_map];rfl
theorem laws_toFileS_ev (l:List LFi) (hl:l.length≤1048576):Ev (fun k=>laws_toFileS.f k l) (l.map toFi):=by
  unfold laws_toFileS.f
  refine Ev.pos (by omega) (Ev.pos (by omega) ?_)
  have:=laws_toFileS_l0 l hl l.length 0 (by omega)
  simpa using this
theorem laws_toDisk_ev (l:List LFi) (hl:l.length≤1048576):Ev (fun k=>laws_toDisk.f k l) (l.map toFi):=by
  unfold laws_toDisk.f
  exact Ev.bind (laws_toFileS_ev l hl) (Ev.now _)
theorem impl_within_is (a b c:Int):impl_within.f a b c=some (inR a b c):=by
  unfold impl_within.f inR
  by_cases h:a≥b
  · rw [if_pos h];congr 1;simp;omega
  · rw [if_neg h];congr 1;simp;omega
theorem impl_Decimal_is (n:Int) (h0: -9223372036854775808≤n) (h1:n≤9223372036854775807):impl_Decimal.f n=some (decS n):=by
  unfold impl_Decimal.f;rw [if_pos ⟨h0,h1⟩];rfl
theorem impl_ReadDecimal_is (t:ByteArray) (h:t.size≤281474976710656):impl_ReadDecimal.f t=some (rdDec t):=by
  unfold impl_ReadDecimal.f;rw [if_pos h];congr 1
  unfold impl_ReadDecimal.v
  have key:∀n:Nat,(n:Int)≤1000000000→decS (n:Int)=t→dF 0 (bytesOf t)=some n∧Lib.atoiAll t.data.toList= .ok (n:Int):=by
    intro n hn he
    rw [decS_nat] at he
    have hd:dF 0 (bytesOf t)=some n:=by rw [←he];exact dF_decB n
    have hs:=decB_size n 10 (by omega)
    exact⟨hd,atoiAll_dF hd (by rw [←he];exact decB_pos n) (by rw [←he];omega)⟩
  have no:(∀n:Nat,(n:Int)≤1000000000→¬decS (n:Int)=t)→rdDec t=(0,false):=by
    intro hno
    unfold rdDec
    cases dF 0 (bytesOf t) with
    |none=>rfl
    |some n=>simp only [rdC];exact if_neg (fun hc=>hno n hc.1 hc.2)
  have yes:∀n:Nat,(n:Int)≤1000000000→decS (n:Int)=t→rdDec t=((n:Int),true):=by
    intro n hn he
    unfold rdDec
    rw [(key n hn he).1]
    exact if_pos ⟨hn,he⟩
  cases ha:Lib.atoiAll t.data.toList with
  |ok v=>
    simp only
    by_cases he:(⟨(Lib.itoa v).toArray⟩:ByteArray).toList=t.toList
    · rw [if_pos he]
      by_cases hv:0≤v∧v≤1000000000
      · rw [if_pos hv]
        obtain⟨n,rfl⟩:∃n:Nat,v=n:=⟨v.toNat,by omega⟩
        exact(yes n hv.2 ((toList_iff _ _).1 he)).symm
      · rw [if_neg hv]
        refine(no fun n hn hc=>?_).symm
        have:=(key n hn hc).2
        rw [ha] at this
        have e:v=(n:Int):=by injection this
        exact hv ⟨by omega,by omega⟩
    · rw [if_neg he]
      refine(no fun n hn hc=>?_).symm
      have:=(key n hn hc).2
      rw [ha] at this
      have e:v=(n:Int):=by injection this
      exact he ((toList_iff _ _).2 (by rw [e];exact hc))
  |range=>
    refine(no fun n hn hc=>?_).symm
    have:=(key n hn hc).2
    rw [ha] at this;cases this
  |_=>
    refine(no fun n hn hc=>?_).symm
    have:=(key n hn hc).2
    rw [ha] at this;cases this
theorem impl_numberOf_is (s:ByteArray) (p:UInt8) (most:Int) (hs:s.size≤281474976710656):impl_numberOf.f s (⟨#[p]⟩:ByteArray) most=some (numIx (p.toNat:Int) most s):=by
  have hcut:strings_CutPrefix.f s (⟨#[p]⟩:ByteArray)=some (⟨(Lib.trimPrefix s.data.toList [p]).toArray⟩,Lib.hasPrefix s.data.toList [p]):=rfl
  unfold impl_numberOf.f numIx
  rw [hcut,Option.bind_some]
  cases e:s.data.toList with
  |nil=>
    have e1:bytesOf s= []:=by unfold bytesOf;rw [e];rfl
    have e2:(⟨(Lib.trimPrefix ([]:List UInt8) [p]).toArray⟩:ByteArray)=⟨#[]⟩:=by simp [Lib.trimPrefix,Lib.hasPrefix]
    have e3:Lib.hasPrefix ([]:List UInt8) [p]=false:=rfl
    simp only [e1,e2,e3]
    rw [impl_ReadDecimal_is _ (by decide),Option.bind_some,if_neg (by simp)]
  |cons b l=>
    have e1:bytesOf s=(b.toNat:Int) :: l.map (fun b=>(b.toNat:Int)):=by unfold bytesOf;rw [e];rfl
    have hz:l.length+1=s.size:=by rw [←Go.Proofs.YtolakamimfhcjaaGreatDoorW.PrintWords.data_length,e];rfl
    have ex:s.extract 1 s.size=⟨l.toArray⟩:=by
      apply bytes_inj
      rw [bytes_extract,e1]
      unfold bytesOf
      simp only [List.drop_succ_cons,List.drop_zero]
      rw [List.take_of_length_le (by rw [List.length_map];omega)]
    simp only [e1]
    by_cases hp:b=p
    · subst hp
      have e2:Lib.hasPrefix (b :: l) [b]=true:=by simp [Lib.hasPrefix]
      have e3:Lib.trimPrefix (b :: l) [b]=l:=by unfold Lib.trimPrefix;rw [e2];rfl
      rw [e2,e3,←ex,impl_ReadDecimal_is _ (by have:=size_extract s 1 s.size (by omega) (by omega);omega),Option.bind_some,if_pos rfl]
      by_cases h2:(rdDec (s.extract 1 s.size)).2=true
      · rw [if_pos h2]
        by_cases h3:(rdDec (s.extract 1 s.size)).1≤most
        · rw [if_neg (by omega),if_pos ⟨rfl,h2,h3⟩]
        · rw [if_pos (by omega),if_neg (fun e=>h3 e.2.2)]
      · rw [if_neg h2,if_neg (fun e=>h2 e.2.1)]
    · have e2:Lib.hasPrefix (b :: l) [p]=false:=by simp [Lib.hasPrefix,List.isPrefixOf,Ne.symm hp]
      have e3:Lib.trimPrefix (b :: l) [p]=b :: l:=by unfold Lib.trimPrefix;rw [e2];rfl
      have hn:¬(b.toNat:Int)=(p.toNat:Int):=fun h=>hp (UInt8.toNat_inj.1 (by omega))
      have hsz:(⟨(b :: l).toArray⟩:ByteArray).size≤281474976710656:=by show(b :: l).length≤_;simp only [List.length_cons];omega
      rw [e2,e3,impl_ReadDecimal_is _ hsz,Option.bind_some,if_neg (by simp),if_neg (fun h=>hn h.1)]
theorem impl_DiskOk_l0 (l:List IFi) (hl:l.length≤1048577):∀(d i:Nat) (p:Option ByteArray),i+d=l.length→(i=0→p=none)→(0<i→p=some (rd_T49 l ((i - 1:Nat):Int)).f0)→
    Ev (fun k=>impl_DiskOk.l0 k l (l.length:Int) (i:Int) l) (decide (l.length≤30) && filesOk p (l.drop i))
  |0,i,p,h,h0,h1=>by
    refine Ev.step (f:=fun k=>some (decide ((l.length:Int)≤30))) (fun k=>?_) ((Ev.now _).eq ?_)
    · simp only [impl_DiskOk.l0];rw [if_neg (by omega)]
    · rw [List.drop_of_length_le (by omega)]
      simp only [filesOk,Bool.and_true]
      congr 1
      simp only [eq_iff_iff];omega
  |d+1,i,p,h,h0,h1=>by
    rw [rd_IFi_drop (l:=l) (i:=i) (by omega)]
    have ih:=impl_DiskOk_l0 l hl d (i+1) (some (rd_T49 l (i:Int)).f0) (by omega) (by omega) (fun _=>by simp)
    have a1i:∀s:ByteArray,inR (s.size:Int) 1 8=decide (1≤s.size∧s.size≤8):=by
      intro s;unfold inR;congr 1;simp only [eq_iff_iff];omega
    generalize hx:rd_T49 l (i:Int)=x at *
    simp only [filesOk,fileOk]
    by_cases a1:1≤x.f0.size∧x.f0.size≤8
    · by_cases a2:x.f1.size≤20000
      · by_cases a3:0≤x.f2∧x.f2≤(x.f1.size:Int)
        · rw [decide_eq_true a1,decide_eq_true a2,decide_eq_true a3,Bool.true_and,Bool.true_and,Bool.true_and]
          by_cases hi:0<i
          · rw [h1 hi]
            have ei:wrap64 ((i:Int) - 1)=((i - 1:Nat):Int):=by rw [w64 (by omega) (by omega)];omega
            by_cases hb:bLess (rd_T49 l ((i - 1:Nat):Int)).f0 x.f0=true
            · refine Ev.step (f:=fun k=>impl_DiskOk.l0 k l (l.length:Int) ((i+1:Nat):Int) l) (fun k=>?_) (ih.eq ?_)
              · simp only [impl_DiskOk.l0]
                rw [if_pos (by omega),if_pos (by omega),if_pos (by omega),hx,impl_within_is,Option.bind_some,a1i,if_pos (decide_eq_true a1),if_neg (by omega),impl_within_is,Option.bind_some,if_pos (inR_iff.2 a3),if_pos (by omega),ei,if_pos (by omega),if_pos (by omega),if_pos (show Go.Op.bytesLess _ _=true from hb)]
                rw [w64 (x:=(i:Int)+1) (by omega) (by omega)];rfl
              · simp only [above];rw [hb,Bool.true_and]
            · refine Ev.step (f:=fun k=>some false) (fun k=>?_) ((Ev.now _).eq ?_)
              · simp only [impl_DiskOk.l0]
                rw [if_pos (by omega),if_pos (by omega),if_pos (by omega),hx,impl_within_is,Option.bind_some,a1i,if_pos (decide_eq_true a1),if_neg (by omega),impl_within_is,Option.bind_some,if_pos (inR_iff.2 a3),if_pos (by omega),ei,if_pos (by omega),if_pos (by omega),if_neg (show ¬Go.Op.bytesLess _ _=true from hb)]
              · simp only [above];rw [Bool.not_eq_true _ |>.mp hb,Bool.false_and,Bool.and_false]
          · rw [h0 (by omega)]
            refine Ev.step (f:=fun k=>impl_DiskOk.l0 k l (l.length:Int) ((i+1:Nat):Int) l) (fun k=>?_) (ih.eq ?_)
            · simp only [impl_DiskOk.l0]
              rw [if_pos (by omega),if_pos (by omega),if_pos (by omega),hx,impl_within_is,Option.bind_some,a1i,if_pos (decide_eq_true a1),if_neg (by omega),impl_within_is,Option.bind_some,if_pos (inR_iff.2 a3),if_neg (by omega)]
              rw [w64 (x:=(i:Int)+1) (by omega) (by omega)];rfl
            · simp only [above];rw [Bool.true_and]
        · refine Ev.step (f:=fun k=>some false) (fun k=>?_) ((Ev.now _).eq ?_)
          · simp only [impl_DiskOk.l0]
            rw [if_pos (by omega),if_pos (by omega),if_pos (by omega),hx,impl_within_is,Option.bind_some,a1i,if_pos (decide_eq_true a1),if_neg (by omega),impl_within_is,Option.bind_some,if_neg (fun e=>a3 (inR_iff.1 e))]
          · rw [decide_eq_false a3];simp
      · refine Ev.step (f:=fun k=>some false) (fun k=>?_) ((Ev.now _).eq ?_)
        · simp only [impl_DiskOk.l0]
          rw [if_pos (by omega),if_pos (by omega),if_pos (by omega),hx,impl_within_is,Option.bind_some,a1i,if_pos (decide_eq_true a1),if_pos (by omega)]
        · rw [decide_eq_false a2];simp
    · refine Ev.step (f:=fun k=>some false) (fun k=>?_) ((Ev.now _).eq ?_)
      · simp only [impl_DiskOk.l0]
        rw [if_pos (by omega),if_pos (by omega),if_pos (by omega),hx,impl_within_is,Option.bind_some,a1i,if_neg (by rw [decide_eq_true_eq];exact a1)]
      · rw [decide_eq_false a1];simp
theorem impl_DiskOk_ev (l:List IFi) (hl:l.length≤1048577):Ev (fun k=>impl_DiskOk.f k l) (diskOk l):=
  impl_DiskOk_l0 l hl l.length 0 none (by omega) (fun _=>rfl) (fun h=>absurd h (by omega))
theorem impl_fileAt_is (l:List IFi) (s:ByteArray):impl_fileAt.f l s=some (fAt l s):=rfl
theorem impl_FileAt_is (l:List IFi) (s:ByteArray):impl_FileAt.f l s=some (fileAt l s):=by
  unfold impl_FileAt.f fileAt
  rw [impl_fileAt_is,Option.bind_some]
  rcases fAt_cases l s with h|⟨k,h,e,_⟩
  · rw [if_pos (by omega),if_pos (by omega)]
  · rw [if_neg (by omega),if_pos (by omega),if_pos (by omega),if_neg (by omega)]
theorem impl_JournalName_is (n:Int):impl_JournalName.f n=some (if inR n 0 999=true then(⟨#[106]⟩:ByteArray)++decS n else⟨#[]⟩):=by
  unfold impl_JournalName.f
  rw [impl_within_is];simp only [Option.bind_some]
  by_cases h:inR n 0 999=true
  · have hr:=inR_iff.1 h
    have:=decS_size n (by omega) (by omega)
    rw [if_pos h,if_pos h,impl_Decimal_is n (by omega) (by omega)];simp only [Option.bind_some]
    rw [if_pos (by omega)]
  · rw [if_neg h,if_neg h]
theorem impl_VarText_l0:∀(n:Nat) (acc:List Int),acc.length+n<140737488355328→Ev (fun k=>impl_VarText.l0 k (n:Int) acc) (strOfNums (acc++varL n),true):=by
  intro n
  induction n using Nat.strongRecOn with
  |_ n ih=>
    intro acc ha
    by_cases h:127<n
    · refine Ev.step (f:=fun k=>impl_VarText.l0 k ((n / 128:Nat):Int) (acc++ [((n % 128+128:Nat):Int)])) (fun k=>?_) ?_
      · simp only [impl_VarText.l0]
        rw [if_pos (by omega),if_pos (by omega),td (by omega),tm (by omega)]
        rw [w64 (x:=(n:Int) / 128) (by omega) (by omega),w64 (x:=(n:Int) % 128+128) (by omega) (by omega)]
        congr 3
        omega
      · refine(ih (n / 128) (by omega) _ (by simp;omega)).eq ?_
        rw [varL_big h,List.append_assoc];rfl
    · refine Ev.step (f:=fun k=>some (strOfNums (acc++varL n),true)) (fun k=>?_) (Ev.now _)
      simp only [impl_VarText.l0]
      rw [if_neg (by omega),if_pos (by omega),varL_small h]
      congr 5
      omega
theorem impl_VarText_ev (n:Int):Ev (fun k=>impl_VarText.f k n) (varText n):=by
  unfold impl_VarText.f
  refine Ev.bind0 (impl_within_is _ _ _) ?_
  by_cases h:0≤n∧n≤1000000000
  · refine Ev.pos (inR_iff.2 h) ?_
    have:=impl_VarText_l0 n.toNat [] (by simp;omega)
    rw [Int.toNat_of_nonneg h.1] at this
    refine this.eq ?_
    rw [varText,if_pos h];rfl
  · refine Ev.neg (fun e=>h (inR_iff.1 e)) (Ev.is ?_)
    rw [varText,if_neg h]
theorem impl_SumMore_l1 {s:ByteArray} {i r:Int} :∀(d:Nat) (j x0:Int),0≤j→j+d=8→Ev (fun k=>impl_SumMore.l0 k (halves d x0) s (wrap64 (i+1))) r→Ev (fun k=>impl_SumMore.l1 k x0 s i j) r
  |0,j,x0,h0,h,hk=>by
    refine Ev.step (f:=fun k=>impl_SumMore.l0 k x0 s (wrap64 (i+1))) (fun k=>?_) hk
    simp only [impl_SumMore.l1];rw [if_neg (by omega)]
  |d+1,j,x0,h0,h,hk=>by
    refine Ev.step (f:=fun k=>impl_SumMore.l1 k (half x0) s i (j+1)) (fun k=>?_) (impl_SumMore_l1 d (j+1) (half x0) (by omega) (by omega) hk)
    simp only [impl_SumMore.l1];rw [if_pos (by omega),w64 (x:=j+1) (by omega) (by omega)]
    unfold half
    split <;> rfl
theorem impl_SumMore_l0 (s:ByteArray) (hs:s.size≤140737488351232):∀(d i:Nat) (x0:Int),i+d=s.size→Ev (fun k=>impl_SumMore.l0 k x0 s i) (sumL x0 ((bytesOf s).drop i))
  |0,i,x0,h=>by
    refine Ev.step (f:=fun k=>some x0) (fun k=>?_) ((Ev.now _).eq ?_)
    · simp only [impl_SumMore.l0];rw [if_neg (by omega)]
    · rw [List.drop_of_length_le (by rw [bytesOf_length];omega)];rfl
  |d+1,i,x0,h=>by
    refine Ev.step (f:=fun k=>impl_SumMore.l1 k (Go.bits .xor .u32 x0 (bt s i % 4294967296)) s i 0) (fun k=>?_) (impl_SumMore_l1 8 0 _ (by omega) (by omega) ?_)
    · simp only [impl_SumMore.l0];rw [if_pos (by omega),if_pos (by omega)]
    · rw [w64 (x:=(i:Int)+1) (by omega) (by omega)]
      have:=impl_SumMore_l0 s hs d (i+1) (halves 8 (Go.bits .xor .u32 x0 (bt s i % 4294967296))) (by omega)
      rw [bytes_drop (by omega)]
      exact this
theorem impl_SumMore_ev (x:Int) (s:ByteArray) (hs:s.size≤140737488351232):Ev (fun k=>impl_SumMore.f k x s) (sumL x (bytesOf s)):=by
  have:=impl_SumMore_l0 s hs s.size 0 x (by omega)
  exact this
theorem impl_SumOf_ev (s:ByteArray) (hs:s.size≤140737488351232):Ev (fun k=>impl_SumOf.f k s) (sumOf s):=by
  unfold impl_SumOf.f
  exact Ev.bind (impl_SumMore_ev _ s hs) (Ev.now _)
theorem impl_Frame_ev (s:ByteArray) (hs:s.size≤140737488351232):Ev (fun k=>impl_Frame.f k s) (frame s):=by
  unfold impl_Frame.f frame
  refine Ev.bind0 (impl_within_is _ _ _) ?_
  by_cases h:1≤s.size∧s.size≤9000
  · rw [if_pos h]
    refine Ev.pos (inR_iff.2 (by omega)) (Ev.bind (impl_VarText_ev (s.size:Int)) (Ev.bind (impl_SumOf_ev s hs) (Ev.bind0 (a:=fourL (sumOf s)) rfl (Ev.is ?_))))
    have:=vt_size5 s.size (by omega)
    rw [varText_ok (by omega) (by omega),Int.toNat_natCast]
    simp only
    show(if(vt s.size).size+(four (sumOf s)).size≤_ then(if(vt s.size++four (sumOf s)).size+s.size≤_ then some (vt s.size++four (sumOf s)++s,true) else none) else none)=_
    rw [if_pos (by rw [four_size];omega),if_pos (by rw [size_append,four_size];omega)]
  · rw [if_neg h]
    exact Ev.neg (fun e=>h (by have:=inR_iff.1 e;omega)) (Ev.now _)
theorem impl_ReadVar_l0 (s:ByteArray) (hs:s.size≤140737488351232) (a:Nat):∀(f i n:Nat),i+f=5→n<128 ^ i→a+i≤s.size→
    Ev (fun k=>impl_ReadVar.l0 k s (a:Int) (n:Int) (i:Int))
      (match rvL f i n ((bytesOf s).drop (a+i)) with|some (n,m)=>((n:Int),(a:Int)+m,true)|none=>(0,0,false))
  |0,i,n,hi,hn,h1=>by
    refine Ev.step (f:=fun k=>impl_ReadVar.j1 k s (a:Int) (n:Int) (i:Int) false) (fun k=>?_) ?_
    · simp only [impl_ReadVar.l0]
      rw [if_neg (by omega)]
    · refine Ev.step (f:=fun _=>some (0,0,false)) (fun k=>?_) (Ev.now _)
      simp only [impl_ReadVar.j1];rfl
  |f+1,i,n,hi,hn,h1=>by
    by_cases hlt:a+i<s.size
    · have hr:=bt_range s ((a+i:Nat):Int)
      have hp:=pow_bound (i:=i) (by omega)
      have hm:=mul_bound (bt s ((a+i:Nat):Int)).toNat (128 ^ i) hp.1
      have ei:(a:Int)+(i:Int)=((a+i:Nat):Int):=by omega
      rw [bytes_drop hlt]
      refine Ev.step (f:=fun k=>impl_ReadVar.j1 k s (a:Int) (n:Int) (i:Int) true) (fun k=>?_) ?_
      · simp only [impl_ReadVar.l0]
        rw [if_pos (by omega),w64 (x:=(a:Int)+i) (by omega) (by omega)]
        rw [show decide ((a:Int)+i<(s.size:Int))=true from by simp;omega]
      have hb:wrap64 (bt s ((a+i:Nat):Int))=bt s ((a+i:Nat):Int):=w64 (by omega) (by omega)
      have e0:shl .i64 (Int.tmod (bt s ((a+i:Nat):Int)) 128) (7*(i:Int))=(((bt s ((a+i:Nat):Int)).toNat % 128*128 ^ i:Nat):Int):=by
        unfold shl
        rw [tm (by omega),i64_w,show(7*(i:Int)).toNat=7*i from by omega,show min (7*i) IntKind.i64.bits=7*i from by simp [IntKind.bits];omega]
        have e7:(2:Int) ^ (7*i)=((128 ^ i:Nat):Int):=by
          rw [show(128:Nat)=2 ^ 7 from rfl,←Nat.pow_mul];simp
        rw [e7,Int.natCast_mul,w64]
        · congr 1;omega
        · have:=Int.mul_nonneg (a:=bt s ((a+i:Nat):Int) % 128) (b:=((128 ^ i:Nat):Int)) (by omega) (by omega)
          omega
        · have e8:bt s ((a+i:Nat):Int) % 128=(((bt s ((a+i:Nat):Int)).toNat % 128:Nat):Int):=by omega
          rw [e8,←Int.natCast_mul];omega
      generalize hc:(bt s ((a+i:Nat):Int)).toNat % 128*128 ^ i=q at *
      have e2:wrap64 ((n:Int)+shl .i64 (Int.tmod (wrap64 (bt s ((a+i:Nat):Int))) 128) (wrap64 (7*(i:Int))))=((n+q:Nat):Int):=by
        rw [hb,w64 (x:=7*(i:Int)) (by omega) (by omega),e0,w64 (by omega) (by omega)];omega
      by_cases hb':bt s ((a+i:Nat):Int)<128
      · simp only [rvL,if_pos hb',hc]
        refine Ev.step (f:=fun k=>(impl_VarText.f k ((n+q:Nat):Int)).bind fun bt=>(if bt.2=true then(if(bt.1.size:Int)=(i:Int)+1 then some (((n+q:Nat):Int),((a+i+1:Nat):Int),true) else some (0,0,false)) else some (0,0,false))) (fun k=>?_) ?_
        · simp only [impl_ReadVar.j1,if_true]
          rw [w64 (x:=(a:Int)+i) (by omega) (by omega),ei,if_pos (by omega),if_pos (by omega),if_pos (by rw [w64 (by omega) (by omega)];omega),hb,if_pos hb']
          rw [hb] at e2
          rw [e2,w64 (x:=(i:Int)+1) (by omega) (by omega),w64 (x:=((a+i:Nat):Int)+1) (by omega) (by omega)]
          rfl
        · refine Ev.bind (impl_VarText_ev _) (Ev.is ?_)
          by_cases hM:n+q≤1000000000
          · rw [varText_ok (by omega) (by omega),Int.toNat_natCast]
            simp only [if_true,vt_size]
            by_cases hq:(varL (n+q)).length=i+1
            · rw [if_pos (by omega),if_pos ⟨hM,hq⟩]
              simp only [Option.some.injEq,Prod.mk.injEq,and_true,true_and];omega
            · rw [if_neg (by omega),if_neg (fun e=>hq e.2)]
          · rw [varText_no (by omega),if_neg (c:=_∧_) (fun e=>hM e.1)];simp
      · simp only [rvL,if_neg hb',hc]
        refine Ev.step (f:=fun k=>impl_ReadVar.l0 k s (a:Int) ((n+q:Nat):Int) ((i+1:Nat):Int)) (fun k=>?_) (impl_ReadVar_l0 s hs a f (i+1) (n+q) (by omega) ?_ (by omega))
        · simp only [impl_ReadVar.j1,if_true]
          rw [w64 (x:=(a:Int)+i) (by omega) (by omega),ei,if_pos (by omega),if_pos (by omega),if_pos (by rw [w64 (by omega) (by omega)];omega),hb,if_neg hb']
          rw [hb] at e2
          rw [e2,w64 (x:=(i:Int)+1) (by omega) (by omega)]
          rfl
        · rw [Nat.pow_succ,←hc]
          have h2:(bt s ((a+i:Nat):Int)).toNat % 128≤127:=by omega
          have h3:=Nat.mul_le_mul_right (128 ^ i) h2
          omega
    · rw [List.drop_of_length_le (by rw [bytesOf_length];omega)]
      refine Ev.step (f:=fun k=>impl_ReadVar.j1 k s (a:Int) (n:Int) (i:Int) false) (fun k=>?_) ?_
      · simp only [impl_ReadVar.l0]
        rw [if_pos (by omega),w64 (x:=(a:Int)+i) (by omega) (by omega)]
        rw [show decide ((a:Int)+i<(s.size:Int))=false from by simp;omega]
      · refine Ev.step (f:=fun _=>some (0,0,false)) (fun k=>?_) (Ev.now _)
        simp only [impl_ReadVar.j1];rfl
theorem impl_ReadVar_ev (s:ByteArray) (hs:s.size≤140737488351232) (a:Int):Ev (fun k=>impl_ReadVar.f k s a) (readVar s a):=by
  unfold impl_ReadVar.f readVar
  refine Ev.bind0 (impl_within_is _ _ _) ?_
  by_cases h:0≤a∧a≤(s.size:Int)
  · rw [if_pos h]
    refine Ev.pos (inR_iff.2 h) ?_
    have:=impl_ReadVar_l0 s hs a.toNat 5 0 0 rfl (by simp) (by omega)
    simp only [Nat.add_zero,Int.toNat_of_nonneg h.1] at this
    exact this
  · rw [if_neg h]
    exact Ev.neg (fun e=>h (inR_iff.1 e)) (Ev.now _)
theorem impl_Unframe_l0 (s:ByteArray) (hs:s.size≤20000):∀(f a:Nat) (acc:List ByteArray),a+f=s.size→acc.length≤a→
    Ev (fun k=>impl_Unframe.l0 k s acc (a:Int)) ((unf (f+1) s acc a).1,((unf (f+1) s acc a).2:Int)):=by
  intro f
  induction f using Nat.strongRecOn with
  |_ f ih=>
    intro a acc hf ha
    refine Ev.step (fun k=>by simp only [impl_Unframe.l0];rfl) (Ev.bind (impl_ReadVar_ev s (by omega) (a:Int)) ?_)
    simp only [unf,nextF]
    rcases readVar_cases s (a:Int) with h|⟨n,m,h,hn,hm,_,hb,hv⟩
    · rw [h]
      have hv:rvar ((bytesOf s).drop a)=none:=by
        unfold readVar at h
        rw [if_pos (by omega),Int.toNat_natCast] at h
        cases e:rvar ((bytesOf s).drop a) with
        |none=>rfl
        |some p=>obtain⟨n,m⟩:=p;rw [e] at h;simp at h
      rw [hv]
      refine Ev.neg (by simp) (Ev.step (fun k=>rfl) (Ev.now _))
    · rw [h]
      rw [Int.toNat_natCast] at hv
      rw [hv]
      refine Ev.pos rfl ?_
      simp only
      rw [w64 (x:=(s.size:Int) - ((a:Int)+(m:Int))) (by omega) (by omega),w64 (x:=(s.size:Int) - ((a:Int)+(m:Int)) - 4) (by omega) (by omega)]
      by_cases h1:n+(a+m+4)≤s.size
      · rw [decide_eq_false (p:=(n:Int)>(s.size:Int) - ((a:Int)+(m:Int)) - 4) (by omega),if_pos h1]
        refine Ev.step (fun k=>by simp only [impl_Unframe.j1,Bool.false_eq_true,if_false];rfl) ?_
        rw [w64 (x:=(a:Int)+(m:Int)+4) (by omega) (by omega),w64 (x:=(a:Int)+(m:Int)+4+(n:Int)) (by omega) (by omega)]
        have e1:((a:Int)+(m:Int)+4).toNat=a+m+4:=by omega
        have e2:((a:Int)+(m:Int)+4+(n:Int)).toNat=a+m+4+n:=by omega
        rw [e1,e2]
        have hz:=size_extract s (a+m+4) (a+m+4+n) (by omega) (by omega)
        refine Ev.pos (by omega) (Ev.pos (by omega) (Ev.pos (by omega) (Ev.bind (impl_Frame_ev _ (by omega)) ?_)))
        by_cases h2:(frame (s.extract (a+m+4) (a+m+4+n))).2=true
        · refine Ev.pos h2 (Ev.pos (by omega) (Ev.pos (by omega) ?_))
          rw [Int.toNat_natCast]
          by_cases h3:(frame (s.extract (a+m+4) (a+m+4+n))).1=s.extract a (a+m+4+n)
          · refine Ev.pos ((toList_iff _ _).2 h3) (Ev.pos (by omega) ?_)
            rw [if_pos ⟨h2,h3⟩]
            have e3:(a:Int)+(m:Int)+4+(n:Int)=((a+m+4+n:Nat):Int):=by omega
            rw [e3]
            refine(ih (s.size - (a+m+4+n)) (by omega) (a+m+4+n) (acc++ [s.extract (a+m+4) (a+m+4+n)]) (by omega) (by simp;omega)).eq ?_
            rw [unf_enough s (s.size - (a+m+4+n)+1) f _ _ (by omega) (by omega) (by omega)]
          · refine Ev.neg (fun e=>h3 ((toList_iff _ _).1 e)) ((Ev.now _).eq ?_)
            rw [if_neg (fun e=>h3 e.2)]
        · refine Ev.neg h2 ((Ev.now _).eq ?_)
          rw [if_neg (fun e=>h2 e.1)]
      · rw [decide_eq_true (p:=(n:Int)>(s.size:Int) - ((a:Int)+(m:Int)) - 4) (by omega),if_neg h1]
        exact Ev.step (fun k=>rfl) (Ev.now _)
theorem impl_Unframe_ev (s:ByteArray):Ev (fun k=>impl_Unframe.f k s) ((unframe s).1,((unframe s).2:Int)):=by
  unfold impl_Unframe.f unframe
  by_cases h:s.size≤20000
  · rw [if_pos h]
    refine Ev.neg (by omega) ((impl_Unframe_l0 s h s.size 0 [] (by omega) (by simp)).eq ?_)
    rw [unf_enough s (s.size+1) s.size _ _ (by omega) (by omega) (by omega)]
  · rw [if_neg h];exact Ev.pos (by omega) (Ev.now _)
theorem impl_reader_byte_bad (s:ByteArray) (a:Int):impl_reader_byte.f s a true=some (0,s,a,true):=by
  unfold impl_reader_byte.f;rw [if_pos rfl]
theorem impl_reader_byte_no {s:ByteArray} {a:Nat} (h:s.size≤a):impl_reader_byte.f s (a:Int) false=some (0,s,(a:Int),true):=by
  unfold impl_reader_byte.f;rw [if_neg (by simp),if_pos (by omega)]
theorem impl_reader_byte_ok {s:ByteArray} (hs:s.size≤140737488351232) {a:Nat} (h:a<s.size):impl_reader_byte.f s (a:Int) false=some (bt s (a:Int),s,((a+1:Nat):Int),false):=by
  have hr:=bt_range s (a:Int)
  unfold impl_reader_byte.f
  rw [if_neg (by simp),if_neg (by omega),w64 (x:=(a:Int)+1) (by omega) (by omega),w64 (x:=(a:Int)+1 - 1) (by omega) (by omega),if_pos (by omega),if_pos (by omega)]
  have e:(a:Int)+1 - 1=a:=by omega
  rw [e,w64 (by omega) (by omega),Int.natCast_add];rfl
theorem impl_reader_num_ev (s:ByteArray) (hs:s.size≤140737488351232) (a:Int) (b:Bool):Ev (fun k=>impl_reader_num.f k s a b) (varC s a b):=by
  unfold impl_reader_num.f varC
  refine Ev.bind (impl_ReadVar_ev s hs a) (Ev.is ?_)
  split <;> (try split) <;> simp_all
theorem impl_head_ev (s:ByteArray) (c:Int) (hc:0≤c∧c≤255) (hs:s.size≤17592186044416):∃r,Ev (fun k=>impl_head.f k s c) r∧r.2.2=(twoN s c).2.2∧(r.2.2=true→r=twoN s c):=by
  unfold impl_head.f twoN
  have hw:wrap64 c=c:=w64 (by omega) (by omega)
  by_cases h0:s.size=0
  · rw [rvar_nil (by omega)]
    refine⟨(0,0,false),?_,rfl,fun e=>by cases e⟩
    refine Ev.bind0 (impl_reader_byte_no (a:=0) (by omega)) ?_
    refine Ev.bind (impl_reader_num_ev s (by omega) _ true) ?_
    rw [varC_bad]
    refine Ev.bind (impl_reader_num_ev s (by omega) _ true) ?_
    rw [varC_bad]
    exact Ev.bind0 rfl (Ev.neg (by simp) (Ev.now _))
  · cases e1:rvar ((bytesOf s).drop 1) with
    |none=>
      refine⟨(0,0,false),?_,rfl,fun e=>by cases e⟩
      refine Ev.bind0 (impl_reader_byte_ok (a:=0) (by omega) (by omega)) ?_
      refine Ev.bind (impl_reader_num_ev s (by omega) ((1:Nat):Int) false) ?_
      rw [varC_none (by omega) e1]
      refine Ev.bind (impl_reader_num_ev s (by omega) _ true) ?_
      rw [varC_bad]
      exact Ev.bind0 rfl (Ev.neg (by simp) (Ev.now _))
    |some p=>
      obtain⟨n,m⟩:=p
      have b1:=rvar_some e1
      simp only
      cases e2:rvar ((bytesOf s).drop (1+m)) with
      |none=>
        refine⟨((n:Int),0,false),?_,rfl,fun e=>by cases e⟩
        refine Ev.bind0 (impl_reader_byte_ok (a:=0) (by omega) (by omega)) ?_
        refine Ev.bind (impl_reader_num_ev s (by omega) ((1:Nat):Int) false) ?_
        rw [varC_some (by omega) e1]
        refine Ev.bind (impl_reader_num_ev s (by omega) ((1+m:Nat):Int) false) ?_
        rw [varC_none (by omega) e2]
        exact Ev.bind0 rfl (Ev.neg (by simp) (Ev.now _))
      |some q=>
        obtain⟨t,m2⟩:=q
        have b2:=rvar_some e2
        simp only
        refine⟨((n:Int),(t:Int),decide (bt s 0=c∧1+m+m2=s.size)),?_,?_,?_⟩
        · refine Ev.bind0 (impl_reader_byte_ok (a:=0) (by omega) (by omega)) ?_
          refine Ev.bind (impl_reader_num_ev s (by omega) ((1:Nat):Int) false) ?_
          rw [varC_some (by omega) e1]
          refine Ev.bind (impl_reader_num_ev s (by omega) ((1+m:Nat):Int) false) ?_
          rw [varC_some (by omega) e2]
          refine Ev.bind0 rfl ?_
          simp only [hw]
          by_cases hz:1+m+m2=s.size
          · refine Ev.pos (by simp only [beq_iff_eq];omega) ((Ev.now _).eq ?_)
            by_cases hb:bt s 0=c
            · rw [decide_eq_true ⟨hb,hz⟩,show(bt s ((0:Nat):Int) == c)=true from by simpa using hb]
            · rw [decide_eq_false (fun e=>hb e.1),show(bt s ((0:Nat):Int) == c)=false from by simpa using hb]
          · refine Ev.neg (by simp only [beq_iff_eq];omega) ((Ev.now _).eq ?_)
            rw [decide_eq_false (fun e=>hz e.2)]
        · by_cases hq:bt s 0=c∧1+m+m2=s.size
          · rw [if_pos hq,decide_eq_true hq]
          · rw [if_neg hq,decide_eq_false hq]
        · intro e
          have hq:=of_decide_eq_true e
          rw [if_pos hq,decide_eq_true hq]
theorem impl_ConfOk_l0 (l:List Int) (hl:l.length≤35184372088832):∀(d i:Nat) (p:Int),i+d=l.length→(i=0→p=0)→(0<i→p=rd l ((i - 1:Nat):Int))→
    Ev (fun k=>impl_ConfOk.l0 k l l (l.length:Int) (i:Int)) (decide (1≤l.length∧l.length≤4) && riseF p (l.drop i))
  |0,i,p,h,h0,h1=>by
    refine Ev.step (f:=fun k=>some (decide (1≤l.length∧l.length≤4))) (fun k=>?_) ((Ev.now _).eq ?_)
    · simp only [impl_ConfOk.l0];rw [if_neg (by omega),impl_within_is,Option.bind_some]
      congr 1
      unfold inR
      congr 1
      simp only [eq_iff_iff]
      omega
    · rw [List.drop_of_length_le (by omega)];simp [riseF]
  |d+1,i,p,h,h0,h1=>by
    rw [rd_drop (l:=l) (by omega)]
    have ih:=impl_ConfOk_l0 l hl d (i+1) (rd l (i:Int)) (by omega) (by omega) (fun _=>by simp)
    by_cases hin:1≤rd l (i:Int)∧rd l (i:Int)≤4
    · by_cases hi:0<i
      · have hp:=h1 hi
        have ei:wrap64 ((i:Int) - 1)=((i - 1:Nat):Int):=by rw [w64 (by omega) (by omega)];omega
        by_cases hlt:p<rd l (i:Int)
        · refine Ev.step (f:=fun k=>impl_ConfOk.l0 k l l (l.length:Int) ((i+1:Nat):Int)) (fun k=>?_) (ih.eq ?_)
          · simp only [impl_ConfOk.l0]
            rw [if_pos (by omega),if_pos (by omega),if_pos (by omega),impl_within_is,Option.bind_some,if_pos (inR_iff.2 hin),if_pos (by omega),ei,if_pos (by omega),if_pos (by omega),if_neg (by omega)]
            rw [w64 (x:=(i:Int)+1) (by omega) (by omega)];rfl
          · simp only [riseF];rw [decide_eq_true (p:=_∧_∧_) ⟨hin.1,hin.2,hlt⟩,Bool.true_and]
        · refine Ev.step (f:=fun k=>some false) (fun k=>?_) ((Ev.now _).eq ?_)
          · simp only [impl_ConfOk.l0]
            rw [if_pos (by omega),if_pos (by omega),if_pos (by omega),impl_within_is,Option.bind_some,if_pos (inR_iff.2 hin),if_pos (by omega),ei,if_pos (by omega),if_pos (by omega),if_pos (by omega)]
          · simp only [riseF];rw [decide_eq_false (p:=_∧_∧_) (fun e=>hlt e.2.2),Bool.false_and,Bool.and_false]
      · have hp:=h0 (by omega)
        refine Ev.step (f:=fun k=>impl_ConfOk.l0 k l l (l.length:Int) ((i+1:Nat):Int)) (fun k=>?_) (ih.eq ?_)
        · simp only [impl_ConfOk.l0]
          rw [if_pos (by omega),if_pos (by omega),if_pos (by omega),impl_within_is,Option.bind_some,if_pos (inR_iff.2 hin),if_neg (by omega)]
          rw [w64 (x:=(i:Int)+1) (by omega) (by omega)];rfl
        · simp only [riseF];rw [decide_eq_true (p:=_∧_∧_) ⟨hin.1,hin.2,by omega⟩,Bool.true_and]
    · refine Ev.step (f:=fun k=>some false) (fun k=>?_) ((Ev.now _).eq ?_)
      · simp only [impl_ConfOk.l0]
        rw [if_pos (by omega),if_pos (by omega),if_pos (by omega),impl_within_is,Option.bind_some,if_neg (fun e=>hin (inR_iff.1 e))]
      · simp only [riseF];rw [decide_eq_false (p:=_∧_∧_) (fun e=>hin ⟨e.1,e.2.1⟩),Bool.false_and,Bool.and_false]
theorem impl_ConfOk_ev (l:List Int) (hl:l.length≤35184372088832):Ev (fun k=>impl_ConfOk.f k l) (confOk l):=by
  have:=impl_ConfOk_l0 l hl l.length 0 0 (by omega) (fun _=>rfl) (fun h=>absurd h (by omega))
  exact this
theorem impl_ReadConf_l0 (s:ByteArray) (hs:s.size≤17592186044416):∀(d i:Nat),i+d=s.size→
    Ev (fun k=>impl_ReadConf.l0 k s ((bytesOf s).take i) (i:Int)) (readConf s)
  |0,i,h=>by
    have e:(bytesOf s).take i=bytesOf s:=List.take_of_length_le (by rw [bytesOf_length];omega)
    rw [e]
    refine Ev.step (f:=fun k=>(impl_ConfOk.f k (bytesOf s)).bind fun t=>if t=true then some (bytesOf s,true) else some ([],false)) (fun k=>?_) (Ev.bind (impl_ConfOk_ev _ (by rw [bytesOf_length];omega)) (Ev.is ?_))
    · simp only [impl_ReadConf.l0];rw [if_neg (by omega)]
    · unfold readConf
      by_cases h:confOk (bytesOf s)=true
      · rw [if_pos h,if_pos h]
      · rw [if_neg h,if_neg h]
  |d+1,i,h=>by
    have hr:=bt_range s (i:Int)
    have hl:((bytesOf s).take i).length=i:=by rw [List.length_take,bytesOf_length];omega
    refine Ev.step (f:=fun k=>impl_ReadConf.l0 k s ((bytesOf s).take (i+1)) ((i+1:Nat):Int)) (fun k=>?_) (impl_ReadConf_l0 s hs d (i+1) (by omega))
    simp only [impl_ReadConf.l0]
    rw [if_pos (by omega),if_pos (by omega),if_pos (by omega),w64 (x:=(i:Int)+1) (by omega) (by omega),w64 (x:=bt s i) (by omega) (by omega)]
    have e:=Led.take_succ (s:=s) (a:=0) (i:=i) (by omega)
    rw [List.drop_zero,Nat.zero_add] at e
    rw [e];rfl
theorem impl_ReadConf_ev (s:ByteArray) (hs:s.size≤17592186044416):Ev (fun k=>impl_ReadConf.f k s) (readConf s):=by
  have:=impl_ReadConf_l0 s hs s.size 0 (by omega)
  rw [List.take_zero] at this
  exact this
theorem impl_EntryOk_ev (a b:Int) (c:ByteArray) (hc:c.size≤17592186044416):Ev (fun k=>impl_EntryOk.f k a b c) (entryOk a b c):=by
  unfold impl_EntryOk.f entryOk
  refine Ev.bind0 (impl_within_is _ _ _) ?_
  by_cases h:0≤a∧a≤100000
  · refine Ev.pos (inR_iff.2 h) ?_
    rw [decide_eq_true h,Bool.true_and]
    by_cases h1:b=1
    · refine Ev.pos h1 (Ev.is ?_);rw [if_pos h1]
    · refine Ev.neg h1 ?_
      rw [if_neg h1]
      by_cases h2:b=2
      · refine Ev.pos h2 (Ev.bind (impl_ReadConf_ev c (by omega)) (Ev.is ?_));rw [if_pos h2]
      · refine Ev.neg h2 ?_
        rw [if_neg h2]
        by_cases h3:b=3
        · refine Ev.pos h3 (Ev.is ?_);rw [if_pos h3]
        · refine Ev.neg h3 (Ev.is ?_);rw [if_neg h3]
  · refine Ev.neg (fun e=>h (inR_iff.1 e)) (Ev.is ?_)
    rw [decide_eq_false h,Bool.false_and]
theorem impl_LogOk_l0 (l:List IEn) (hl:l.length≤1048577) (hs:∀x∈l,x.f2.size≤17592186044416):∀(d i:Nat) (t:Int),i+d=l.length→
    Ev (fun k=>impl_LogOk.l0 k t l (l.length:Int) (i:Int)) (entriesOk t (l.drop i))
  |0,i,t,h=>by
    refine Ev.step (f:=fun k=>some true) (fun k=>?_) ((Ev.now _).eq ?_)
    · simp only [impl_LogOk.l0];rw [if_neg (by omega)]
    · rw [List.drop_of_length_le (by omega)];rfl
  |d+1,i,t,h=>by
    have hx:=hs (rd_T105 l (i:Int)) (by rw [rd_IEn (by omega)];exact List.getElem_mem _)
    rw [rd_IEn_drop (l:=l) (i:=i) (by omega)]
    have ih:=impl_LogOk_l0 l hl hs d (i+1) (rd_T105 l (i:Int)).f0 (by omega)
    refine Ev.step (f:=fun k=>(impl_EntryOk.f k (rd_T105 l (i:Int)).f0 (rd_T105 l (i:Int)).f1 (rd_T105 l (i:Int)).f2).bind fun t142=>(if t142=true then(if(rd_T105 l (i:Int)).f0<t then some false else impl_LogOk.l0 k (rd_T105 l (i:Int)).f0 l (l.length:Int) ((i+1:Nat):Int)) else some false)) (fun k=>?_) (Ev.bind (impl_EntryOk_ev _ _ _ hx) ?_)
    · simp only [impl_LogOk.l0]
      rw [if_pos (by omega),if_pos (by omega),if_pos (by omega),w64 (x:=(i:Int)+1) (by omega) (by omega)];rfl
    · generalize rd_T105 l (i:Int)=x at *
      simp only [entriesOk]
      by_cases h1:entryOk x.f0 x.f1 x.f2=true
      · refine Ev.pos h1 ?_
        by_cases h2:x.f0<t
        · refine Ev.pos h2 ((Ev.now _).eq ?_)
          rw [decide_eq_false (p:=t≤x.f0) (by omega)];simp
        · refine Ev.neg h2 (ih.eq ?_)
          rw [h1,decide_eq_true (p:=t≤x.f0) (by omega)];simp
      · refine Ev.neg h1 ((Ev.now _).eq ?_)
        rw [Bool.not_eq_true _ |>.mp h1];simp
theorem impl_LogOk_ev (a b:Int) (l:List IEn) (hl:l.length≤1048577) (hs:∀x∈l,x.f2.size≤17592186044416):Ev (fun k=>impl_LogOk.f k a b l) (logOk a b l):=by
  have no:∀x,logOk a b l=false→x=true→Ev (fun k=>impl_LogOk.j0 k x a b l) (logOk a b l):=by
    intro x h hx
    rw [h,hx]
    exact Ev.step (fun k=>rfl) (Ev.now _)
  have nf:¬logOk a b l=true→logOk a b l=false:=fun h=>Bool.not_eq_true _ |>.mp h
  unfold impl_LogOk.f
  refine Ev.bind0 (impl_within_is _ _ _) ?_
  by_cases h1:0≤a∧a≤1000000
  · refine Ev.pos (inR_iff.2 h1) (Ev.bind0 (impl_within_is _ _ _) ?_)
    by_cases h2:0≤b∧b≤100000
    · refine Ev.pos (inR_iff.2 h2) ?_
      by_cases h3:l.length≤60
      · refine Ev.neg (by omega) ?_
        rw [w64 (x:=a+(l.length:Int)) (by omega) (by omega)]
        by_cases h4:a+(l.length:Int)≤1000000
        · rw [decide_eq_false (p:=a+(l.length:Int)>1000000) (by omega)]
          refine Ev.step (fun k=>rfl) ?_
          refine(impl_LogOk_l0 l hl hs l.length 0 b (by omega)).eq ?_
          unfold logOk
          rw [decide_eq_true h1,decide_eq_true h2,decide_eq_true (p:=l.length≤60∧a+(l.length:Int)≤1000000) ⟨h3,h4⟩];simp
        · exact no _ (nf fun e=>h4 (logOk_iff.1 e).2.2.1.2) (decide_eq_true (by omega))
      · exact Ev.pos (by omega) (no _ (nf fun e=>h3 (logOk_iff.1 e).2.2.1.1) rfl)
    · exact Ev.neg (fun e=>h2 (inR_iff.1 e)) (no _ (nf fun e=>h2 (logOk_iff.1 e).2.1) rfl)
  · exact Ev.neg (fun e=>h1 (inR_iff.1 e)) (no _ (nf fun e=>h1 (logOk_iff.1 e).1) rfl)
theorem impl_JournalOk_ev (p q s a b:Int) (l:List IEn) (hl:l.length≤1048577) (hs:∀x∈l,x.f2.size≤17592186044416):Ev (fun k=>impl_JournalOk.f k p q s a b l) (journalOk p q s a b l):=by
  unfold impl_JournalOk.f journalOk
  refine Ev.bind0 (impl_within_is _ _ _) ?_
  by_cases h1:0≤p∧p≤999
  · rw [decide_eq_true h1,Bool.true_and]
    refine Ev.pos (inR_iff.2 h1) (Ev.bind0 (impl_within_is _ _ _) ?_)
    by_cases h2:0≤q∧q≤100000
    · rw [decide_eq_true h2,Bool.true_and]
      refine Ev.pos (inR_iff.2 h2) (Ev.bind0 (impl_within_is _ _ _) ?_)
      by_cases h3:0≤s∧s≤4
      · rw [decide_eq_true h3,Bool.true_and]
        exact Ev.pos (inR_iff.2 h3) (Ev.bind (impl_LogOk_ev a b l hl hs) (Ev.now _))
      · rw [decide_eq_false h3,Bool.false_and];exact Ev.neg (fun e=>h3 (inR_iff.1 e)) (Ev.now _)
    · rw [decide_eq_false h2,Bool.false_and];exact Ev.neg (fun e=>h2 (inR_iff.1 e)) (Ev.now _)
  · rw [decide_eq_false h1,Bool.false_and];exact Ev.neg (fun e=>h1 (inR_iff.1 e)) (Ev.now _)
theorem impl_ReadEntry_ev (s:ByteArray) (hs:s.size≤17592186044416):Ev (fun k=>impl_ReadEntry.f k s) (readEntry s):=by
  unfold impl_ReadEntry.f readEntry
  by_cases h0:s.size=0
  · rw [rvar_nil (by omega)]
    refine Ev.bind0 (impl_reader_byte_no (a:=0) (by omega)) ?_
    refine Ev.bind (impl_reader_num_ev s (by omega) _ true) ?_
    rw [varC_bad]
    refine Ev.bind (impl_reader_num_ev s (by omega) _ true) ?_
    rw [varC_bad]
    exact Ev.bind0 (impl_reader_byte_bad _ _) (Ev.pos rfl (Ev.step (fun k=>rfl) (Ev.now _)))
  · refine Ev.bind0 (impl_reader_byte_ok (a:=0) (by omega) (by omega)) ?_
    refine Ev.bind (impl_reader_num_ev s (by omega) ((1:Nat):Int) false) ?_
    cases e1:rvar ((bytesOf s).drop 1) with
    |none=>
      rw [varC_none (by omega) e1]
      refine Ev.bind (impl_reader_num_ev s (by omega) _ true) ?_
      rw [varC_bad]
      exact Ev.bind0 (impl_reader_byte_bad _ _) (Ev.pos rfl (Ev.step (fun k=>rfl) (Ev.now _)))
    |some p=>
      obtain⟨n,m⟩:=p
      have b1:=rvar_some e1
      rw [varC_some (by omega) e1]
      refine Ev.bind (impl_reader_num_ev s (by omega) ((1+m:Nat):Int) false) ?_
      simp only
      cases e2:rvar ((bytesOf s).drop (1+m)) with
      |none=>
        rw [varC_none (by omega) e2]
        exact Ev.bind0 (impl_reader_byte_bad _ _) (Ev.pos rfl (Ev.step (fun k=>rfl) (Ev.now _)))
      |some q=>
        obtain⟨t,m2⟩:=q
        have b2:=rvar_some e2
        rw [varC_some (by omega) e2]
        simp only
        by_cases h3:1+m+m2<s.size
        · rw [if_pos h3]
          refine Ev.bind0 (impl_reader_byte_ok (a:=1+m+m2) (by omega) (by omega)) ?_
          refine Ev.neg (by simp) ?_
          unfold rEnt
          by_cases hq:bt s 0=69
          · simp only [show(bt s ((0:Nat):Int) != 69)=false from by simpa using hq]
            refine Ev.step (f:=fun k=>(impl_EntryOk.f k t (bt s ((1+m+m2:Nat):Int)) (s.extract (1+m+m2+1) s.size)).bind fun t216=>(if t216=true then((impl_within.f n 1 1000000).bind fun t217=>(if t217=true then(some ((n:Int),(t:Int),bt s ((1+m+m2:Nat):Int),s.extract (1+m+m2+1) s.size,true)) else(some (0,0,0,(⟨#[]⟩:ByteArray),false)))) else(some (0,0,0,(⟨#[]⟩:ByteArray),false)))) (fun k=>?_) ?_
            · simp only [impl_ReadEntry.j0]
              rw [if_neg (by simp),if_pos (by omega),if_pos (by omega),Int.toNat_natCast]
            · refine Ev.bind (impl_EntryOk_ev _ _ _ (by rw [size_extract _ _ _ (by omega) (by omega)];omega)) ?_
              by_cases hk:entryOk (t:Int) (bt s ((1+m+m2:Nat):Int)) (s.extract (1+m+m2+1) s.size)=true
              · refine Ev.pos hk (Ev.bind0 (impl_within_is _ _ _) ?_)
                by_cases hn:(1:Int)≤n∧(n:Int)≤1000000
                · refine Ev.pos (inR_iff.2 hn) ((Ev.now _).eq ?_)
                  rw [if_pos ⟨hq,hk,by omega,by omega⟩]
                · refine Ev.neg (fun e=>hn (inR_iff.1 e)) ((Ev.now _).eq ?_)
                  rw [if_neg (fun e=>hn ⟨by omega,by omega⟩)]
              · refine Ev.neg hk ((Ev.now _).eq ?_)
                rw [if_neg (fun e=>hk e.2.1)]
          · simp only [show(bt s ((0:Nat):Int) != 69)=true from by simpa using hq]
            rw [if_neg (fun e=>hq e.1)]
            exact Ev.step (fun k=>rfl) (Ev.now _)
        · rw [if_neg h3]
          exact Ev.bind0 (impl_reader_byte_no (a:=1+m+m2) (by omega)) (Ev.pos rfl (Ev.step (fun k=>rfl) (Ev.now _)))
theorem impl_copyLog_is (a b:Int) (l:List IEn) (hl:l.length≤1048577):impl_copyLog.f a b l=some (a,b,l):=by
  unfold impl_copyLog.f
  rw [if_pos (by simp;omega),List.nil_append]
theorem impl_last_is (a b:Int) (l:List IEn) (h:0≤a∧a≤1000000) (hl:l.length≤60):impl_last.f a b l=some (a+(l.length:Int)):=by
  unfold impl_last.f;rw [w64 (by omega) (by omega)]
theorem impl_LogPut_ev (a b:Int) (l:List IEn) (hl:l.length≤1048577) (hs:∀x∈l,x.f2.size≤17592186044416) (i e0 e1:Int) (e2:ByteArray) (he:e2.size≤17592186044416):Ev (fun k=>impl_LogPut.f k a b l i e0 e1 e2) (putF a b l i ⟨e0,e1,e2⟩):=by
  have no:¬(logOk a b l=true∧(a+1≤i∧i≤a+(l.length:Int)+1)∧logOk a b (putE a l i ⟨e0,e1,e2⟩)=true)→Ev (fun k=>impl_LogPut.j0 k i true a b l e0 e1 e2) (putF a b l i ⟨e0,e1,e2⟩):=by
    intro h
    rw [putF,if_neg h]
    exact Ev.step (f:=fun k=>some (0,0,[],false)) (fun k=>by simp only [impl_LogPut.j0,if_true]) (Ev.now _)
  unfold impl_LogPut.f
  refine Ev.bind (impl_LogOk_ev a b l hl hs) ?_
  by_cases h1:logOk a b l=true
  · have k1:=logOk_iff.1 h1
    refine Ev.pos h1 (Ev.bind0 (impl_last_is a b l k1.1 k1.2.2.1.1) (Ev.bind0 (impl_within_is _ _ _) ?_))
    rw [w64 (x:=a+1) (by omega) (by omega),w64 (x:=a+(l.length:Int)+1) (by omega) (by omega)]
    by_cases h2:a+1≤i∧i≤a+(l.length:Int)+1
    · rw [inR_iff.2 h2]
      show Ev (fun k=>impl_LogPut.j0 k i false a b l e0 e1 e2) _
      refine Ev.step (f:=fun k=>(impl_LogOk.f k a b (putE a l i ⟨e0,e1,e2⟩)).bind fun t=>if t=true then some (a,b,putE a l i ⟨e0,e1,e2⟩,true) else some (0,0,[],false)) (fun k=>?_) (Ev.bind (impl_LogOk_ev a b _ (by simp [putE];omega) (putE_small hs he)) ?_)
      · simp only [impl_LogPut.j0,Bool.false_eq_true,if_false]
        rw [impl_copyLog_is a b l hl]
        simp only [Option.bind_some]
        rw [w64 (x:=i - a) (by omega) (by omega),w64 (x:=i - a - 1) (by omega) (by omega),if_pos (by omega),if_pos (by omega),if_pos (by simp;omega)]
        rfl
      · by_cases h3:logOk a b (putE a l i ⟨e0,e1,e2⟩)=true
        · exact Ev.pos h3 ((Ev.now _).eq (by rw [putF,if_pos ⟨h1,h2,h3⟩]))
        · exact Ev.neg h3 ((Ev.now _).eq (by rw [putF,if_neg (fun e=>h3 e.2.2)]))
    · have e:inR i (a+1) (a+(l.length:Int)+1)=false:=by
        cases e:inR i (a+1) (a+(l.length:Int)+1) with
        |true=>exact absurd (inR_iff.1 e) h2
        |false=>rfl
      rw [e]
      exact no (fun e=>h2 e.2.1)
  · exact Ev.neg h1 (no (fun e=>h1 e.1))
theorem impl_told_ev (p:JSt) (hp:jInv p) (t:ByteArray) (ht:t.size≤20000):∃r,Ev (fun k=>impl_told.f k p.1 p.2.1 p.2.2.1 p.2.2.2.1 p.2.2.2.2.1 p.2.2.2.2.2 t) r∧(match moreF p t with|some q=>r=(q.1,q.2.1,q.2.2.1,q.2.2.2.1,q.2.2.2.2.1,q.2.2.2.2.2,true)|none=>r.2.2.2.2.2.2=false):=by
  have hlen:=jInv_len hp
  obtain⟨r,hr,hb,hq⟩:=impl_head_ev t 72 (by omega) (by omega)
  unfold impl_told.f moreF
  by_cases h:(twoN t 72).2.2=true
  · have e:=hq (hb.trans h)
    subst e
    refine⟨_,Ev.bind hr (Ev.pos h (Ev.bind (impl_JournalOk_ev _ _ _ _ _ _ (by omega) hp.2.2) (Ev.now _))),?_⟩
    by_cases h1:(0≤(twoN t 72).1∧(twoN t 72).1≤100000)∧(0≤(twoN t 72).2.1∧(twoN t 72).2.1≤4)
    · rw [if_pos h,if_pos h1]
      have:journalOk p.1 (twoN t 72).1 (twoN t 72).2.1 p.2.2.2.1 p.2.2.2.2.1 p.2.2.2.2.2=true:=by
        unfold journalOk
        rw [decide_eq_true hp.1,decide_eq_true h1.1,decide_eq_true h1.2,hp.2.1];rfl
      rw [this]
    · rw [if_pos h,if_neg h1]
      show journalOk p.1 (twoN t 72).1 (twoN t 72).2.1 p.2.2.2.1 p.2.2.2.2.1 p.2.2.2.2.2=false
      unfold journalOk
      by_cases g1:0≤(twoN t 72).1∧(twoN t 72).1≤100000
      · rw [decide_eq_false (p:=0≤(twoN t 72).2.1∧(twoN t 72).2.1≤4) (fun e=>h1 ⟨g1,e⟩)];simp
      · rw [decide_eq_false g1];simp
  · have hf:¬r.2.2=true:=by rw [hb];exact h
    by_cases h1:(readEntry t).2.2.2.2=true
    · have hput:=impl_LogPut_ev p.2.2.2.1 p.2.2.2.2.1 p.2.2.2.2.2 (by omega) hp.2.2 (readEntry t).1 (readEntry t).2.1 (readEntry t).2.2.1 (readEntry t).2.2.2.1 (readEntry_small t ht)
      rw [if_neg h,if_pos h1]
      generalize putF p.2.2.2.1 p.2.2.2.2.1 p.2.2.2.2.2 (readEntry t).1 ⟨(readEntry t).2.1,(readEntry t).2.2.1,(readEntry t).2.2.2.1⟩=z at hput⊢
      refine⟨_,Ev.bind hr (Ev.neg hf (Ev.bind (impl_ReadEntry_ev t (by omega)) (Ev.pos h1 (Ev.bind hput (Ev.now _))))),?_⟩
      by_cases h2:z.2.2.2=true
      · rw [if_pos h2];simp only [h2]
      · rw [if_neg h2];simpa using h2
    · rw [if_neg h,if_neg h1]
      exact⟨_,Ev.bind hr (Ev.neg hf (Ev.bind (impl_ReadEntry_ev t (by omega)) (Ev.neg h1 (Ev.now _)))),rfl⟩
theorem impl_ReadJournal_l0 (ls:List ByteArray) (hl:ls.length≤20000) (hs:∀t∈ls,t.size≤20000):∀(d i:Nat) (p:JSt) (e:Int),i+1+d=ls.length→jInv p→0≤e→e≤10000*((i:Int)+1)→
    Ev (fun k=>impl_ReadJournal.l0 ls k (i:Int) p.1 p.2.1 p.2.2.1 p.2.2.2.1 p.2.2.2.2.1 p.2.2.2.2.2 e) ((foldJ p e (ls.drop (i+1))).1.1,(foldJ p e (ls.drop (i+1))).1.2.1,(foldJ p e (ls.drop (i+1))).1.2.2.1,(foldJ p e (ls.drop (i+1))).1.2.2.2.1,(foldJ p e (ls.drop (i+1))).1.2.2.2.2.1,(foldJ p e (ls.drop (i+1))).1.2.2.2.2.2,(foldJ p e (ls.drop (i+1))).2)
  |0,i,p,e,h,hp,h2,h3=>by
    rw [List.drop_of_length_le (by omega)]
    refine Ev.step (f:=fun k=>some (p.1,p.2.1,p.2.2.1,p.2.2.2.1,p.2.2.2.2.1,p.2.2.2.2.2,e)) (fun k=>?_) (Ev.now _)
    simp only [impl_ReadJournal.l0];rw [if_neg (by omega)]
  |d+1,i,p,e,h,hp,h2,h3=>by
    have hi:i+1<ls.length:=by omega
    have ht:=hs ls[i+1] (List.getElem_mem hi)
    have hF:=frame_len ls[i+1]
    rw [List.drop_eq_getElem_cons hi]
    obtain⟨r,hr,hm⟩:=impl_told_ev p hp ls[i+1] ht
    refine Ev.step (f:=fun k=>(impl_told.f k p.1 p.2.1 p.2.2.1 p.2.2.2.1 p.2.2.2.2.1 p.2.2.2.2.2 ls[i+1]).bind fun m=>if m.2.2.2.2.2.2=true then((impl_Frame.f k ls[i+1]).bind fun f=>impl_ReadJournal.l0 ls k ((i+1:Nat):Int) m.1 m.2.1 m.2.2.1 m.2.2.2.1 m.2.2.2.2.1 m.2.2.2.2.2.1 (wrap64 (e+(f.1.size:Int)))) else some (p.1,p.2.1,p.2.2.1,p.2.2.2.1,p.2.2.2.2.1,p.2.2.2.2.2,e)) (fun k=>?_) (Ev.bind hr ?_)
    · simp only [impl_ReadJournal.l0]
      have e1:(i:Int)+1=((i+1:Nat):Int):=by omega
      rw [if_pos (by omega),if_pos (by omega),e1,rdOf_nat _ _ (i+1) hi,w64 (x:=((i+1:Nat):Int)) (by omega) (by omega)]
    · simp only [foldJ]
      cases hmm:moreF p ls[i+1] with
      |none=>
        rw [hmm] at hm
        exact Ev.neg (by simp only at hm;rw [hm];simp) (Ev.now _)
      |some q=>
        rw [hmm] at hm
        simp only at hm
        subst hm
        have k:=moreF_inv hp ht hmm
        refine Ev.pos rfl (Ev.bind (impl_Frame_ev _ (by omega)) ?_)
        rw [w64 (x:=e+((frame ls[i+1]).1.size:Int)) (by omega) (by omega)]
        exact impl_ReadJournal_l0 ls hl hs d (i+1) q _ (by omega) k.1 (by omega) (by omega)
theorem impl_ReadJournal_ev (n:Int) (s:ByteArray):Ev (fun k=>impl_ReadJournal.f k n s) (readJ n s):=by
  have hlen:=(unframe_length s).1
  have hsm:=unframe_small s
  unfold impl_ReadJournal.f readJ
  refine Ev.bind (impl_Unframe_ev s) (Ev.bind0 (impl_within_is _ _ _) ?_)
  by_cases h:0≤n∧n≤999
  · rw [if_pos h]
    refine Ev.pos (inR_iff.2 h) ?_
    simp only
    cases e:(unframe s).1 with
    |nil=>exact Ev.pos (by simp) (Ev.now _)
    |cons t ts=>
      rw [e] at hlen hsm
      have ht:=hsm t (List.mem_cons_self ..)
      have hF:=frame_len t
      have r0:rdOf ByteArray.empty (t :: ts) 0=t:=rdOf_nat _ (t :: ts) 0 (by simp)
      show Ev _ (readR n t ts)
      rw [r0]
      obtain⟨r,hr,hb,hq⟩:=impl_head_ev t 66 (by omega) (by omega)
      refine Ev.neg (by simp;omega) (Ev.bind hr ?_)
      by_cases h2:(twoN t 66).2.2=true
      · have er:=hq (hb.trans h2)
        subst er
        refine Ev.pos h2 (Ev.bind (impl_JournalOk_ev _ _ _ _ _ [] (by simp) (by simp)) ?_)
        have hj:journalOk n 0 0 (twoN t 66).1 (twoN t 66).2.1 []=logOk (twoN t 66).1 (twoN t 66).2.1 []:=by
          unfold journalOk
          rw [decide_eq_true h];simp
        rw [hj]
        by_cases h3:logOk (twoN t 66).1 (twoN t 66).2.1 []=true
        · have hp:=jInv_first h h3
          have l1:=impl_ReadJournal_l0 (t :: ts) hlen hsm ts.length 0 (n,0,0,(twoN t 66).1,(twoN t 66).2.1,[]) ((frame t).1.size:Int) (by simp;omega) hp (by omega) (by omega)
          rw [show(t :: ts).drop (0+1)=ts from rfl] at l1
          have hv:readR n t ts=((foldJ (n,0,0,(twoN t 66).1,(twoN t 66).2.1,[]) ((frame t).1.size:Int) ts).1.1,(foldJ (n,0,0,(twoN t 66).1,(twoN t 66).2.1,[]) ((frame t).1.size:Int) ts).1.2.1,(foldJ (n,0,0,(twoN t 66).1,(twoN t 66).2.1,[]) ((frame t).1.size:Int) ts).1.2.2.1,(foldJ (n,0,0,(twoN t 66).1,(twoN t 66).2.1,[]) ((frame t).1.size:Int) ts).1.2.2.2.1,(foldJ (n,0,0,(twoN t 66).1,(twoN t 66).2.1,[]) ((frame t).1.size:Int) ts).1.2.2.2.2.1,(foldJ (n,0,0,(twoN t 66).1,(twoN t 66).2.1,[]) ((frame t).1.size:Int) ts).1.2.2.2.2.2,(foldJ (n,0,0,(twoN t 66).1,(twoN t 66).2.1,[]) ((frame t).1.size:Int) ts).2,true):=by unfold readR;rw [if_pos h2,if_pos h3]
          rw [hv]
          exact Ev.pos h3 (Ev.bind (impl_Frame_ev t (by omega)) (Ev.bind l1 (Ev.now _)))
        · refine(Ev.neg h3 (Ev.now _)).eq ?_
          unfold readR
          rw [if_pos h2,if_neg h3]
      · refine(Ev.neg (by rw [hb];exact h2) (Ev.now _)).eq ?_
        unfold readR
        rw [if_neg h2]
  · rw [if_neg h]
    exact Ev.neg (fun e=>h (inR_iff.1 e)) (Ev.now _)
theorem impl_vars_l0 (l:List Int) (hl:l.length≤1048576):∀(d i:Nat) (acc:List Int),i+d=l.length→acc.length≤5*i→
    Ev (fun k=>impl_vars.l0 k acc l (l.length:Int) (i:Int)) (match varsL (l.drop i) with|some m=>(strOfNums (acc++m),true)|none=>(⟨#[]⟩,false))
  |0,i,acc,h,ha=>by
    refine Ev.step (f:=fun k=>some (strOfNums acc,true)) (fun k=>?_) ((Ev.now _).eq ?_)
    · simp only [impl_vars.l0];rw [if_neg (by omega)]
    · rw [List.drop_of_length_le (by omega)];simp [varsL]
  |d+1,i,acc,h,ha=>by
    rw [rd_drop (l:=l) (i:=i) (by omega)]
    generalize hx:rd l (i:Int)=x
    refine Ev.step (f:=fun k=>(impl_VarText.f k x).bind fun bt=>(if bt.2=true then(if acc.length+bt.1.size<140737488355328 then(impl_vars.l0 k (acc++bytesOf bt.1) l (l.length:Int) ((i+1:Nat):Int)) else none) else some (⟨#[]⟩,false))) (fun k=>?_) (Ev.bind (impl_VarText_ev x) ?_)
    · simp only [impl_vars.l0]
      rw [if_pos (by omega),if_pos (by omega),if_pos (by omega),hx,w64 (x:=(i:Int)+1) (by omega) (by omega)];rfl
    · by_cases hr:0≤x∧x≤1000000000
      · have h5:=vt_size5 x.toNat (by omega)
        have hv:(varL x.toNat).length≤5:=by rw [←vt_size];exact h5
        rw [varText_ok hr.1 hr.2]
        refine Ev.pos rfl (Ev.pos (by show acc.length+(vt x.toNat).size<_;omega) ((impl_vars_l0 l hl d (i+1) (acc++bytesOf (vt x.toNat)) (by omega) (by rw [List.length_append,bytes_vt];omega)).eq ?_))
        simp only [varsL,if_pos hr]
        cases varsL (l.drop (i+1)) with
        |none=>rfl
        |some m=>simp [bytes_vt]
      · rw [varText_no hr]
        refine Ev.neg (by simp) ((Ev.now _).eq ?_)
        simp only [varsL,if_neg hr]
theorem impl_vars_two {a b:Int} (ha:0≤a∧a≤1000000000) (hb:0≤b∧b≤1000000000):Ev (fun k=>impl_vars.f k ([a,b]:List Int)) (vt a.toNat++vt b.toNat,true):=by
  have:=impl_vars_l0 [a,b] (by simp) 2 0 [] (by simp) (by simp)
  rw [List.drop_zero,varsL_two ha hb] at this
  simp only [List.nil_append,str_append] at this
  exact this
theorem impl_headFrame_ev (c:ByteArray) (hc:c.size=1) {a b:Int} (ha:0≤a∧a≤1000000000) (hb:0≤b∧b≤1000000000):Ev (fun k=>impl_headFrame.f k c a b) (headF c a b):=by
  unfold impl_headFrame.f headF
  have h1:=vt_size5 a.toNat (by omega)
  have h2:=vt_size5 b.toNat (by omega)
  have e:c++vt a.toNat++vt b.toNat=c++(vt a.toNat++vt b.toNat):=M.append_assoc _ _ _
  rw [e]
  refine Ev.bind (impl_vars_two ha hb) (Ev.pos (by simp only [size_append];omega) (Ev.bind (impl_Frame_ev _ (by rw [size_append,size_append];omega)) (Ev.now _)))
theorem impl_EntryText_ev (i t k:Int) (d:ByteArray) (hd:d.size≤17592186044416):Ev (fun n=>impl_EntryText.f n i t k d) (entryText i t k d):=by
  unfold impl_EntryText.f
  refine Ev.bind (impl_EntryOk_ev t k d hd) ?_
  by_cases h:entryOk t k d=true
  · refine Ev.pos h (Ev.bind0 (impl_within_is _ _ _) ?_)
    have ht:=entryOk_term h
    by_cases hi:1≤i∧i≤1000000
    · have h5:=vt_size5 i.toNat (by omega)
      have h6:=vt_size5 t.toNat (by omega)
      refine Ev.pos (inR_iff.2 hi) (Ev.bind (impl_vars_two (by omega) (by omega)) (Ev.pos (by simp only [size_append];omega) (Ev.bind0 rfl (Ev.is ?_))))
      simp only
      rw [if_pos (by rw [size_append,size_append,size_e,str_size];simp;omega),if_pos (by rw [size_append,size_append,size_append,size_e,str_size];simp;omega)]
      rw [entryText,if_pos ⟨h,hi.1,hi.2⟩,append_assoc _ (vt i.toNat) (vt t.toNat)]
    · refine Ev.neg (fun e=>hi (inR_iff.1 e)) (Ev.is ?_)
      rw [entryText,if_neg (fun e=>hi e.2)]
  · refine Ev.neg h (Ev.is ?_)
    rw [entryText,if_neg (fun e=>h e.1)]
theorem impl_entryFrames_l0 (a b:Int) (l:List IEn) (ha:0≤a∧a≤1000000) (hl:l.length≤60) (hs:∀x∈l,x.f2.size≤17592186044416):∀(d i:Nat) (acc:List Int),i+d=l.length→acc.length≤9009*i→
    Ev (fun k=>impl_entryFrames.l0 k acc (i:Int) a b l) (strOfNums (acc++framesL (a+1+i) (l.drop i)))
  |0,i,acc,h,hc=>by
    refine Ev.step (f:=fun k=>some (strOfNums acc)) (fun k=>?_) ((Ev.now _).eq ?_)
    · simp only [impl_entryFrames.l0];rw [if_neg (by omega)]
    · rw [List.drop_of_length_le (by omega)];simp [framesL]
  |d+1,i,acc,h,hc=>by
    have hx:=hs (rd_T105 l (i:Int)) (by rw [rd_IEn (by omega)];exact List.getElem_mem _)
    rw [rd_IEn_drop (by omega:i<l.length)]
    generalize hX:rd_T105 l (i:Int)=x at hx
    have w1:wrap64 ((wrap64 (a+(i:Int)))+1)=a+1+i:=by rw [w64 (x:=a+(i:Int)) (by omega) (by omega),w64 (by omega) (by omega)];omega
    have w4:wrap64 ((i:Int)+1)=((i+1:Nat):Int):=by rw [w64 (by omega) (by omega)];omega
    have hz:=frame_size (entryText (a+1+i) x.f0 x.f1 x.f2).1
    have he:=entryText_size (a+1+i) x.f0 x.f1 x.f2
    have ih:=impl_entryFrames_l0 a b l ha hl hs d (i+1) (acc++bytesOf (frameE (a+1+i) x)) (by omega) (by rw [List.length_append,bytesOf_length,frameE];omega)
    refine Ev.step (f:=fun k=>(impl_EntryText.f k (a+1+i) x.f0 x.f1 x.f2).bind fun bt186=>(impl_Frame.f k bt186.1).bind fun bt188=>if acc.length+bt188.1.size<140737488355328 then impl_entryFrames.l0 k (acc++bytesOf bt188.1) ((i+1:Nat):Int) a b l else none) (fun k=>?_) (Ev.bind (impl_EntryText_ev _ _ _ _ hx) (Ev.bind (impl_Frame_ev _ (by omega)) (Ev.pos (by omega) (ih.eq ?_))))
    · simp only [impl_entryFrames.l0,hX,w1,w4]
      rw [if_pos (by omega),if_pos (by omega)]
    · simp only [framesL]
      rw [List.append_assoc,show a+1+((i+1:Nat):Int)=a+1+(i:Int)+1 by omega]
theorem impl_entryFrames_ev (a b:Int) (l:List IEn) (ha:0≤a∧a≤1000000) (hl:l.length≤60) (hs:∀x∈l,x.f2.size≤17592186044416):Ev (fun k=>impl_entryFrames.f k a b l 0) (strOfNums (framesL (a+1) l)):=by
  have:=impl_entryFrames_l0 a b l ha hl hs l.length 0 [] (by omega) (by simp)
  unfold impl_entryFrames.f
  simpa using this
theorem impl_JournalText_ev (p q s a b:Int) (l:List IEn) (hl:l.length≤1048577) (hs:∀x∈l,x.f2.size≤17592186044416):Ev (fun k=>impl_JournalText.f k p q s a b l) (journalText p q s a b l):=by
  unfold impl_JournalText.f journalText
  refine Ev.bind (impl_JournalOk_ev p q s a b l hl hs) ?_
  by_cases h:journalOk p q s a b l=true
  · rw [if_pos h]
    obtain⟨hq,hss,ha,hb,h60⟩:=journalOk_range h
    have z:=journalT_size q s a b l h60
    have y1:=headF_size (⟨#[66]⟩:ByteArray) a b
    have y2:=headF_size (⟨#[72]⟩:ByteArray) q s
    refine Ev.pos h (Ev.bind (impl_headFrame_ev _ rfl (by omega) (by omega)) (Ev.bind (impl_headFrame_ev _ rfl (by omega) (by omega)) (Ev.pos (by omega) (Ev.bind (impl_entryFrames_ev a b l ha h60 hs) (Ev.pos (by omega) ?_)))))
    by_cases h3:(journalT q s a b l).size≤20000
    · rw [if_pos h3];exact Ev.neg (by unfold journalT at h3;omega) (Ev.now _)
    · rw [if_neg h3];exact Ev.pos (by unfold journalT at h3;omega) (Ev.now _)
  · rw [if_neg h];exact Ev.neg h (Ev.now _)
theorem impl_anew_ev (p q s a b:Int) (l:List IEn) (hp:0≤p∧p≤999) (hl:l.length≤1048577) (hs:∀x∈l,x.f2.size≤17592186044416) (p1:Int):
    Ev (fun k=>impl_anew.f k p p1 q s a b l) (if(journalText (p+1) q s a b l).2=true then(anewA p (journalText (p+1) q s a b l).1,p+1,q,s,a,b,l,true) else([],0,0,0,0,0,[],false)):=by
  unfold impl_anew.f
  rw [w64 (x:=p+1) (by omega) (by omega)]
  refine Ev.bind0 (impl_copyLog_is a b l hl) (Ev.bind (impl_JournalText_ev _ _ _ _ _ _ hl hs) (Ev.bind0 (impl_JournalName_is _) ?_))
  by_cases h:(journalText (p+1) q s a b l).2=true
  · have hr:=inR_iff.2 (journalText_ok h)
    refine Ev.pos h (Ev.eq (Ev.neg ?hne (Ev.bind0 (impl_JournalName_is _) (Ev.now _))) ?heq)
    case heq=>rw [if_pos h];rfl
    rw [if_pos hr]
    intro e
    have:=congrArg List.length e
    have e2:((⟨#[106]⟩:ByteArray)++decS (p+1)).toList.length=((⟨#[106]⟩:ByteArray)++decS (p+1)).size:=by rw [ByteArray.toList_eq];rfl
    rw [e2,size_append] at this
    have e3:(⟨#[106]⟩:ByteArray).size=1:=rfl
    simp only [List.length_nil] at this
    omega
  · exact(Ev.neg h (Ev.now _)).eq (if_neg h).symm
theorem impl_OpenJournal_l1 (l:List IFi) (hl:l.length≤30) (hs:∀x∈l,x.f0.size≤8) (b:Int) (t:ByteArray) (z:Int × Int × Int × Int × Int × List IEn × Int × Bool) (hz:jInv (z.1,z.2.1,z.2.2.1,z.2.2.2.1,z.2.2.2.2.1,z.2.2.2.2.2.1)) (hb:z.1=b):∀(d i:Nat) (acc:List IAc),i+d=l.length→acc.length≤i→
    Ev (fun k=>impl_OpenJournal.l1 k b t z.2.2.2.2.2.2.1 acc l (l.length:Int) (i:Int) z.1 z.2.1 z.2.2.1 z.2.2.2.1 z.2.2.2.2.1 z.2.2.2.2.2.1) (tailJ b (t.size:Int) z (acc++shedL (l.drop i) b)):=by
  have h60:z.2.2.2.2.2.1.length≤60:=jInv_len hz
  intro d
  induction d with
  |zero=>
    intro i acc h ha
    rw [List.drop_of_length_le (by omega),show shedL [] b= [] from rfl,List.append_nil]
    unfold tailJ
    by_cases he:z.2.2.2.2.2.2.1=(t.size:Int)
    · rw [if_pos he]
      refine Ev.step (f:=fun k=>some (z.1,z.2.1,z.2.2.1,z.2.2.2.1,z.2.2.2.2.1,z.2.2.2.2.2.1,acc,true)) (fun k=>?_) (Ev.now _)
      simp only [impl_OpenJournal.l1];rw [if_neg (by omega),if_pos he]
    · rw [if_neg he]
      have hz1:=hz.1
      simp only at hz1
      refine Ev.step (f:=fun k=>(impl_anew.f k b z.1 z.2.1 z.2.2.1 z.2.2.2.1 z.2.2.2.2.1 z.2.2.2.2.2.1).bind fun c=>if c.2.2.2.2.2.2.2=true then(if acc.length+c.1.length<2513169434916 then some (c.2.1,c.2.2.1,c.2.2.2.1,c.2.2.2.2.1,c.2.2.2.2.2.1,c.2.2.2.2.2.2.1,acc++c.1,true) else none) else some (0,0,0,0,0,[],[],false)) (fun k=>?_) (Ev.bind (impl_anew_ev b z.2.1 z.2.2.1 z.2.2.2.1 z.2.2.2.2.1 z.2.2.2.2.2.1 (by omega) (by omega) hz.2.2 _) ?_)
      · simp only [impl_OpenJournal.l1];rw [if_neg (by omega),if_neg he]
      · by_cases h2:(journalText (b+1) z.2.1 z.2.2.1 z.2.2.2.1 z.2.2.2.2.1 z.2.2.2.2.2.1).2=true
        · rw [if_pos h2,if_pos h2]
          exact Ev.pos rfl (Ev.pos (by simp only [anewA,List.length_cons,List.length_nil];omega) (Ev.now _))
        · rw [if_neg h2,if_neg h2]
          exact Ev.neg (by simp) (Ev.now _)
  |succ d ih=>
    intro i acc h ha
    have hi:i<l.length:=by omega
    have w4:wrap64 ((i:Int)+1)=((i+1:Nat):Int):=by rw [w64 (by omega) (by omega)];omega
    have er:rd_T49 l (i:Int)=l[i]:=rd_IFi hi
    have hx:=hs l[i] (List.getElem_mem _)
    rw [List.drop_eq_getElem_cons hi]
    have h1:=ih (i+1) acc (by omega) (by omega)
    have h2:=ih (i+1) (acc++ [⟨4,l[i].f0,⟨#[]⟩,⟨#[]⟩⟩]) (by omega) (by simp;omega)
    generalize l[i]=x at er h2 hx
    have hnum:impl_numberOf.f x.f0 (⟨#[106]⟩:ByteArray) 999=some (numIx 106 999 x.f0):=impl_numberOf_is x.f0 106 999 (by omega)
    have hkeep:∀(hc:shedI b x=true),acc++ [⟨4,x.f0,⟨#[]⟩,⟨#[]⟩⟩]++shedL (l.drop (i+1)) b=acc++shedL (x :: l.drop (i+1)) b:=fun hc=>by
      unfold shedL;rw [List.filter_cons_of_pos hc,List.map_cons,List.append_assoc];rfl
    have hskip:∀(hc:¬shedI b x=true),acc++shedL (l.drop (i+1)) b=acc++shedL (x :: l.drop (i+1)) b:=fun hc=>by
      unfold shedL;rw [List.filter_cons_of_neg hc]
    by_cases h5:x.f0.toList=([106,43]:List UInt8)
    · refine Ev.step (f:=fun k=>impl_OpenJournal.l1 k b t z.2.2.2.2.2.2.1 (acc++ [⟨4,x.f0,⟨#[]⟩,⟨#[]⟩⟩]) l (l.length:Int) ((i+1:Nat):Int) z.1 z.2.1 z.2.2.1 z.2.2.2.1 z.2.2.2.2.1 z.2.2.2.2.2.1) (fun k=>?_) (h2.eq (by rw [hkeep (by unfold shedI;rw [h5];simp)]))
      simp only [impl_OpenJournal.l1]
      rw [if_pos (by omega),if_pos (Int.natCast_nonneg i),if_pos (by omega),er,hnum,Option.bind_some,if_pos h5,if_pos (by omega),w4]
    · by_cases h3:0≤numIx 106 999 x.f0
      · by_cases h4:numIx 106 999 x.f0=b
        · refine Ev.step (f:=fun k=>impl_OpenJournal.l1 k b t z.2.2.2.2.2.2.1 acc l (l.length:Int) ((i+1:Nat):Int) z.1 z.2.1 z.2.2.1 z.2.2.2.1 z.2.2.2.2.1 z.2.2.2.2.2.1) (fun k=>?_) (h1.eq (by rw [hskip (by unfold shedI;simp [h4,h5])]))
          simp only [impl_OpenJournal.l1]
          rw [if_pos (by omega),if_pos (Int.natCast_nonneg i),if_pos (by omega),er,hnum,Option.bind_some,if_neg h5,if_pos h3,if_pos h4,w4]
        · refine Ev.step (f:=fun k=>impl_OpenJournal.l1 k b t z.2.2.2.2.2.2.1 (acc++ [⟨4,x.f0,⟨#[]⟩,⟨#[]⟩⟩]) l (l.length:Int) ((i+1:Nat):Int) z.1 z.2.1 z.2.2.1 z.2.2.2.1 z.2.2.2.2.1 z.2.2.2.2.2.1) (fun k=>?_) (h2.eq (by rw [hkeep (by unfold shedI;simp [h3,h4])]))
          simp only [impl_OpenJournal.l1]
          rw [if_pos (by omega),if_pos (Int.natCast_nonneg i),if_pos (by omega),er,hnum,Option.bind_some,if_neg h5,if_pos h3,if_neg h4,if_pos (by omega),w4]
      · refine Ev.step (f:=fun k=>impl_OpenJournal.l1 k b t z.2.2.2.2.2.2.1 acc l (l.length:Int) ((i+1:Nat):Int) z.1 z.2.1 z.2.2.1 z.2.2.2.1 z.2.2.2.2.1 z.2.2.2.2.2.1) (fun k=>?_) (h1.eq (by rw [hskip (by unfold shedI;simp [h3,h5])]))
        simp only [impl_OpenJournal.l1]
        rw [if_pos (by omega),if_pos (Int.natCast_nonneg i),if_pos (by omega),er,hnum,Option.bind_some,if_neg h5,if_neg h3,w4]
theorem impl_OpenJournal_fin (l:List IFi) (hk:diskOk l=true) (b:Int) (h0: -1≤b) (h1:b≤999):Ev (fun k=>impl_OpenJournal.j1 k b (decide (b<0)) l) (finJ l b):=by
  have hf:=disk_files hk
  have h30:=hf.1
  unfold finJ
  by_cases hb:b<0
  · rw [if_pos hb,decide_eq_true hb]
    exact Ev.step (f:=fun _=>some zeroJ) (fun k=>by simp only [impl_OpenJournal.j1];rfl) (Ev.now _)
  · rw [if_neg hb,decide_eq_false hb]
    refine Ev.step (f:=fun k=>(impl_JournalName.f b).bind fun t610=>((impl_FileAt.f l t610).bind fun bt611=>((impl_ReadJournal.f k b bt611.1).bind fun bt613=>(if bt613.2.2.2.2.2.2.2=true then(impl_OpenJournal.l1 k b bt611.1 bt613.2.2.2.2.2.2.1 [] l (l.length:Int) 0 bt613.1 bt613.2.1 bt613.2.2.1 bt613.2.2.2.1 bt613.2.2.2.2.1 bt613.2.2.2.2.2.1) else some zeroJ)))) (fun k=>?_) (Ev.bind0 (show impl_JournalName.f b=some (jnm b) from impl_JournalName_is b) (Ev.bind0 (impl_FileAt_is l (jnm b)) (Ev.bind (impl_ReadJournal_ev b _) ?_)))
    · simp only [impl_OpenJournal.j1];rw [if_neg (by simp)];rfl
    · show Ev (fun k=>if(readJ b (fileAt l (jnm b)).1).2.2.2.2.2.2.2=true then _ else _) _
      generalize hz:readJ b (fileAt l (jnm b)).1=z
      by_cases hr:z.2.2.2.2.2.2.2=true
      · rw [if_pos hr]
        have ho:z.1=b∧jInv (z.1,z.2.1,z.2.2.1,z.2.2.2.1,z.2.2.2.2.1,z.2.2.2.2.2.1):=by
          have:=readJ_ok (n:=b) (s:=(fileAt l (jnm b)).1) (by rw [hz];exact hr)
          rw [hz] at this;exact this
        have:=impl_OpenJournal_l1 l h30 (fun x hx=>(hf.2 x hx).1) b (fileAt l (jnm b)).1 z ho.2 ho.1 l.length 0 [] (by omega) (by simp)
        rw [List.drop_zero,List.nil_append,shed_eq b l ((diskOk_iff l).1 hk).2.2] at this
        exact Ev.pos hr this
      · rw [if_neg hr];exact Ev.neg hr (Ev.now _)
theorem impl_OpenJournal_l0 (l:List IFi) (hl:l.length≤1048577) (hs:∀x∈l,x.f0.size≤281474976710656):∀(d i:Nat) (b:Int),i+d=l.length→
    Ev (fun k=>impl_OpenJournal.l0 k b l (l.length:Int) (i:Int) l) (if diskOk l=true then finJ l (bestL (l.drop i) b) else zeroJ)∨¬(-1≤b∧b≤999):=by
  intro d
  induction d with
  |zero=>
    intro i b h
    by_cases hb: -1≤b∧b≤999
    · left
      rw [List.drop_of_length_le (by omega),show bestL [] b=b from rfl]
      refine Ev.step (f:=fun k=>(impl_DiskOk.f k l).bind fun t=>if t=true then impl_OpenJournal.j1 k b (decide (b<0)) l else impl_OpenJournal.j1 k b true l) (fun k=>?_) (Ev.bind (impl_DiskOk_ev l hl) ?_)
      · simp only [impl_OpenJournal.l0];rw [if_neg (by omega)]
      · by_cases hk:diskOk l=true
        · rw [if_pos hk];exact Ev.pos hk (impl_OpenJournal_fin l hk b hb.1 hb.2)
        · rw [if_neg hk]
          exact Ev.neg hk (Ev.step (f:=fun _=>some zeroJ) (fun k=>by simp only [impl_OpenJournal.j1];rfl) (Ev.now _))
    · right;exact hb
  |succ d ih=>
    intro i b h
    by_cases hb: -1≤b∧b≤999
    · left
      have hi:i<l.length:=by omega
      have w4:wrap64 ((i:Int)+1)=((i+1:Nat):Int):=by rw [w64 (by omega) (by omega)];omega
      have er:rd_T49 l (i:Int)=l[i]:=rd_IFi hi
      have hx:=hs l[i] (List.getElem_mem _)
      rw [List.drop_eq_getElem_cons hi]
      generalize l[i]=x at er hx
      have hnum:impl_numberOf.f x.f0 (⟨#[106]⟩:ByteArray) 999=some (numIx 106 999 x.f0):=impl_numberOf_is x.f0 106 999 hx
      have hn:numIx 106 999 x.f0≤999:=by
        by_cases h:0≤numIx 106 999 x.f0
        · obtain⟨n,e,hm,_⟩:=numIx_name h;omega
        · omega
      have hm:mx b (numIx 106 999 x.f0)=if numIx 106 999 x.f0>b then numIx 106 999 x.f0 else b:=by
        unfold mx;rfl
      refine Ev.step (f:=fun k=>impl_OpenJournal.l0 k (if numIx 106 999 x.f0>b then numIx 106 999 x.f0 else b) l (l.length:Int) ((i+1:Nat):Int) l) (fun k=>?_) ?_
      · simp only [impl_OpenJournal.l0]
        rw [if_pos (by omega),if_pos (Int.natCast_nonneg i),if_pos (by omega),er,hnum,Option.bind_some,w4,hm]
      · rcases ih (i+1) (if numIx 106 999 x.f0>b then numIx 106 999 x.f0 else b) (by omega) with h2|h2
        · exact h2
        · exact absurd (by split <;> omega) h2
    · right;exact hb
theorem impl_OpenJournal_ev (l:List IFi) (hl:l.length≤1048577) (hs:∀x∈l,x.f0.size≤281474976710656):Ev (fun k=>impl_OpenJournal.f k l) (openL l):=by
  unfold impl_OpenJournal.f openL
  rcases impl_OpenJournal_l0 l hl hs l.length 0 (-1) (by omega) with h|h
  · exact h
  · exact absurd ⟨by omega,by omega⟩ h
theorem laws_eqEntry_is (a b:Int) (c:ByteArray):laws_eqEntry.f a b c a b c=some true:=by
  unfold laws_eqEntry.f;simp
theorem laws_eqEntryS_l0 (l:List IEn) (hl:l.length≤1048577):∀(d i:Nat),i+d=l.length→Ev (fun k=>laws_eqEntryS.l0 k l l (i:Int)) true
  |0,i,h=>by
    refine Ev.step (f:=fun k=>some true) (fun k=>?_) (Ev.now _)
    simp only [laws_eqEntryS.l0];rw [if_neg (by omega)]
  |d+1,i,h=>by
    refine Ev.step (f:=fun k=>laws_eqEntryS.l0 k l l ((i+1:Nat):Int)) (fun k=>?_) (laws_eqEntryS_l0 l hl d (i+1) (by omega))
    simp only [laws_eqEntryS.l0]
    rw [if_pos (by omega),if_pos (by omega),if_pos (by omega),laws_eqEntry_is,Option.bind_some,if_pos rfl,w64 (x:=(i:Int)+1) (by omega) (by omega)];rfl
theorem laws_eqEntryS_ev (l:List IEn) (hl:l.length≤1048577):Ev (fun k=>laws_eqEntryS.f k l l) true:=by
  unfold laws_eqEntryS.f
  exact Ev.pos rfl (laws_eqEntryS_l0 l hl l.length 0 (by omega))
theorem laws_eqLog_ev (a b:Int) (l:List IEn) (hl:l.length≤1048577):Ev (fun k=>laws_eqLog.f k a b l a b l) true:=by
  unfold laws_eqLog.f
  exact Ev.pos rfl (Ev.pos rfl (Ev.bind (laws_eqEntryS_ev l hl) (Ev.pos rfl (Ev.now _))))
theorem laws_eqJournal_ev (p q s a b:Int) (l:List IEn) (hl:l.length≤1048577):Ev (fun k=>laws_eqJournal.f k p q s a b l p q s a b l) true:=by
  unfold laws_eqJournal.f
  exact Ev.pos rfl (Ev.pos rfl (Ev.pos rfl (Ev.bind (laws_eqLog_ev a b l hl) (Ev.pos rfl (Ev.now _)))))
theorem laws_eqAct_is (a:Int) (b c d:ByteArray):laws_eqAct.f a b c d a b c d=some true:=by
  unfold laws_eqAct.f;simp
theorem laws_eqActS_l0 (l:List IAc) (hl:l.length≤1048577):∀(d i:Nat),i+d=l.length→Ev (fun k=>laws_eqActS.l0 k l l (i:Int)) true
  |0,i,h=>by
    refine Ev.step (f:=fun k=>some true) (fun k=>?_) (Ev.now _)
    simp only [laws_eqActS.l0];rw [if_neg (by omega)]
  |d+1,i,h=>by
    refine Ev.step (f:=fun k=>laws_eqActS.l0 k l l ((i+1:Nat):Int)) (fun k=>?_) (laws_eqActS_l0 l hl d (i+1) (by omega))
    simp only [laws_eqActS.l0]
    rw [if_pos (by omega),if_pos (by omega),if_pos (by omega),laws_eqAct_is,Option.bind_some,if_pos rfl,w64 (x:=(i:Int)+1) (by omega) (by omega)];rfl
theorem laws_eqActS_ev (l:List IAc) (hl:l.length≤1048577):Ev (fun k=>laws_eqActS.f k l l) true:=by
  unfold laws_eqActS.f
  exact Ev.pos rfl (laws_eqActS_l0 l hl l.length 0 (by omega))
theorem laws_eqFile_is (a b:ByteArray) (c:Int):laws_eqFile.f a b c a b c=some true:=by
  unfold laws_eqFile.f;simp
theorem laws_eqFileS_l0 (l:List IFi) (hl:l.length≤1048577):∀(d i:Nat),i+d=l.length→Ev (fun k=>laws_eqFileS.l0 k l l (i:Int)) true
  |0,i,h=>by
    refine Ev.step (f:=fun k=>some true) (fun k=>?_) (Ev.now _)
    simp only [laws_eqFileS.l0];rw [if_neg (by omega)]
  |d+1,i,h=>by
    refine Ev.step (f:=fun k=>laws_eqFileS.l0 k l l ((i+1:Nat):Int)) (fun k=>?_) (laws_eqFileS_l0 l hl d (i+1) (by omega))
    simp only [laws_eqFileS.l0]
    rw [if_pos (by omega),if_pos (by omega),if_pos (by omega),laws_eqFile_is,Option.bind_some,if_pos rfl,w64 (x:=(i:Int)+1) (by omega) (by omega)];rfl
theorem laws_eqFileS_ev (l:List IFi) (hl:l.length≤1048577):Ev (fun k=>laws_eqFileS.f k l l) true:=by
  unfold laws_eqFileS.f
  exact Ev.pos rfl (laws_eqFileS_l0 l hl l.length 0 (by omega))
theorem laws_eqDisk_ev (l:List IFi) (hl:l.length≤1048577):Ev (fun k=>laws_eqDisk.f k l l) true:=by
  unfold laws_eqDisk.f
  exact Ev.bind (laws_eqFileS_ev l hl) (Ev.pos rfl (Ev.now _))
theorem laws_markText_l0:∀(n:Nat) (acc:ByteArray),n+acc.size≤1000000000000000→Ev (fun k=>laws_markText.l0 k (n:Int) acc) ((⟨#[109]⟩:ByteArray)++mtD n acc):=by
  intro n
  induction n using Nat.strongRecOn with
  |_ n ih=>
    intro acc ha
    by_cases h:0<n
    · have e1:(wrap64 (48+Int.tmod (n:Int) 10)) % 256=((48+n % 10:Nat):Int):=by
        rw [tm (by omega),w64 (by omega) (by omega)];omega
      have e2:wrap64 (Int.tdiv (n:Int) 10)=((n / 10:Nat):Int):=by rw [td (by omega),w64 (by omega) (by omega)];omega
      have hsz:(strOfNums [((48+n % 10:Nat):Int)]).size=1:=str_size _
      refine Ev.step (f:=fun k=>laws_markText.l0 k ((n / 10:Nat):Int) (strOfNums [((48+n % 10:Nat):Int)]++acc)) (fun k=>?_) ((ih (n / 10) (by omega) _ (by rw [size_append,hsz];omega)).eq ?_)
      · simp only [laws_markText.l0]
        rw [if_pos (by omega),Option.bind_some,e1,e2,if_pos (by rw [hsz];omega)]
      · rw [mtD.eq_def n acc,if_pos h]
    · obtain rfl:n=0:=by omega
      refine Ev.step (f:=fun k=>some ((⟨#[109]⟩:ByteArray)++acc)) (fun k=>?_) ((Ev.now _).eq ?_)
      · simp only [laws_markText.l0];rw [if_neg (by omega),if_pos (by omega)]
      · rw [mtD.eq_def 0 acc,if_neg (by omega)]
theorem laws_markText_ev (n:Int) (h:n≤1000000000000000):Ev (fun k=>laws_markText.f k n) (mkT n):=by
  unfold laws_markText.f mkT
  by_cases h0:n≤0
  · rw [if_pos h0];exact Ev.pos h0 (Ev.now _)
  · rw [if_neg h0]
    have:=laws_markText_l0 n.toNat ⟨#[]⟩ (by show n.toNat+0≤_;omega)
    rw [Int.toNat_of_nonneg (by omega)] at this
    exact Ev.neg h0 this
def mkFi (m:Int):IFi:=⟨mkT m,mkT (m+1),m+2⟩
def seqF (m:Int):Nat→List IFi
  |0=>[]
  |n+1=>mkFi m :: seqF (m+3) n
theorem seqF_length (m:Int) (n:Nat):(seqF m n).length=n:=by
  induction n generalizing m with
  |zero=>rfl
  |succ n ih=>simp [seqF,ih]
theorem seqF_get (m:Int) (n i:Nat) (h:i<(seqF m n).length):(seqF m n)[i]=mkFi (m+3*i):=by
  induction n generalizing m i with
  |zero=>simp [seqF] at h
  |succ n ih=>
    cases i with
    |zero=>simp [seqF]
    |succ i=>simp only [seqF,List.getElem_cons_succ];rw [ih];congr 1;omega
theorem rd_IFi_set {l:List IFi} {i:Nat} (v:IFi) (h:i<l.length):rd_T49 (l.set i v) (i:Int)=v:=by
  rw [rd_IFi (by simpa using h)];simp
theorem laws_markFileS_l0 (l:List IFi) (hl:l.length≤1048577) (m:Int) (h0:0≤m) (hm:m≤10000000000000):∀(d i:Nat),i+d=l.length→
    Ev (fun k=>laws_markFileS.l0 k ((seqF m l.length).take i++l.drop i) (m+3*i) (i:Int)) (m+3*l.length,seqF m l.length)
  |0,i,h=>by
    obtain rfl:i=l.length:=by omega
    have e:(seqF m l.length).take l.length++l.drop l.length=seqF m l.length:=by rw [List.drop_length,List.append_nil,List.take_of_length_le (by rw [seqF_length];omega)]
    rw [e]
    refine Ev.step (f:=fun k=>some (m+3*(l.length:Int),seqF m l.length)) (fun k=>?_) (Ev.now _)
    simp only [laws_markFileS.l0];rw [if_neg (by rw [seqF_length];omega)]
  |d+1,i,h=>by
    have hM:(seqF m l.length).length=l.length:=seqF_length _ _
    have hL:((seqF m l.length).take i++l.drop i).length=l.length:=by rw [List.length_append,List.length_take,List.length_drop,hM];omega
    have em:=mark_step (seqF m l.length) l i (by omega) hM
    rw [seqF_get] at em
    generalize hX:(seqF m l.length).take i++l.drop i=X at hL em⊢
    have hi:i<X.length:=by omega
    refine Ev.step (f:=fun k=>(laws_markText.f k (m+3*i)).bind fun t=>(laws_markText.f k (m+3*i+1)).bind fun u=>laws_markFileS.l0 k (X.set i ⟨t,u,m+3*i+2⟩) (m+3*((i+1:Nat):Int)) ((i+1:Nat):Int)) (fun k=>?_) (Ev.bind (laws_markText_ev _ (by omega)) (Ev.bind (laws_markText_ev _ (by omega)) ((laws_markFileS_l0 l hl m h0 hm d (i+1) (by omega)).congr' ?_)))
    · simp only [laws_markFileS.l0]
      rw [if_pos (by omega)]
      have w1:wrap64 (m+3*(i:Int)+1)=m+3*i+1:=w64 (by omega) (by omega)
      have w2:wrap64 (m+3*(i:Int)+1+1)=m+3*i+2:=by rw [w64 (by omega) (by omega)];omega
      have w3:wrap64 (m+3*(i:Int)+2+1)=m+3*((i+1:Nat):Int):=by rw [w64 (by omega) (by omega)];omega
      have w4:wrap64 ((i:Int)+1)=((i+1:Nat):Int):=by rw [w64 (by omega) (by omega)];omega
      simp only [Option.bind_some,Int.toNat_natCast,w1,w2,w3,w4,if_pos (show(0:Int)≤(i:Int) from by omega)]
      have r1:∀v:IFi,rd_T49 (X.set i v) (i:Int)=v:=fun v=>rd_IFi_set v hi
      have r2:∀v u:IFi,rd_T49 ((X.set i v).set i u) (i:Int)=u:=fun v u=>rd_IFi_set u (by simpa using hi)
      simp only [r1,r2,List.set_set]
    · intro k
      have e2:(⟨mkT (m+3*(i:Int)),mkT (m+3*(i:Int)+1),m+3*(i:Int)+2⟩:IFi)=mkFi (m+3*i):=rfl
      rw [e2,em]
theorem laws_markFileS_ev (l:List IFi) (hl:l.length≤1048577) (m:Int) (h0:0≤m) (hm:m≤10000000000000):Ev (fun k=>laws_markFileS.f k l m) (m+3*l.length,seqF m l.length):=by
  have:=laws_markFileS_l0 l hl m h0 hm l.length 0 (by omega)
  show Ev (fun k=>laws_markFileS.l0 k l m 0) _
  simpa using this
theorem laws_markDisk_ev (l:List IFi) (hl:l.length≤1048577) (m:Int) (h0:0≤m) (hm:m≤10000000000000):Ev (fun k=>laws_markDisk.f k l m) (m+3*(l.length:Int),seqF m l.length):=by
  unfold laws_markDisk.f
  exact Ev.bind (laws_markFileS_ev l hl m h0 hm) (Ev.now _)
def mkEn (m:Int):IEn:=⟨m,m+1,mkT (m+2)⟩
def seq3 (m:Int):Nat→List IEn
  |0=>[]
  |n+1=>mkEn m :: seq3 (m+3) n
theorem seq3_length (m:Int) (n:Nat):(seq3 m n).length=n:=by
  induction n generalizing m with
  |zero=>rfl
  |succ n ih=>simp [seq3,ih]
theorem seq3_get (m:Int) (n i:Nat) (h:i<(seq3 m n).length):(seq3 m n)[i]=mkEn (m+3*i):=by
  induction n generalizing m i with
  |zero=>simp [seq3] at h
  |succ n ih=>
    cases i with
    |zero=>simp [seq3]
    |succ i=>simp only [seq3,List.getElem_cons_succ];rw [ih];congr 1;omega
theorem rd_IEn_set {l:List IEn} {i:Nat} (v:IEn) (h:i<l.length):rd_T105 (l.set i v) (i:Int)=v:=by
  rw [rd_IEn (by simpa using h)];simp
theorem laws_markEntryS_l0 (l:List IEn) (hl:l.length≤1048577) (m:Int) (h0:0≤m) (hm:m≤10000000000000):∀(d i:Nat),i+d=l.length→
    Ev (fun k=>laws_markEntryS.l0 k ((seq3 m l.length).take i++l.drop i) (m+3*i) (i:Int)) (m+3*l.length,seq3 m l.length)
  |0,i,h=>by
    obtain rfl:i=l.length:=by omega
    have e:(seq3 m l.length).take l.length++l.drop l.length=seq3 m l.length:=by rw [List.drop_length,List.append_nil,List.take_of_length_le (by rw [seq3_length];omega)]
    rw [e]
    refine Ev.step (f:=fun k=>some (m+3*(l.length:Int),seq3 m l.length)) (fun k=>?_) (Ev.now _)
    simp only [laws_markEntryS.l0];rw [if_neg (by rw [seq3_length];omega)]
  |d+1,i,h=>by
    have hM:(seq3 m l.length).length=l.length:=seq3_length _ _
    have hL:((seq3 m l.length).take i++l.drop i).length=l.length:=by rw [List.length_append,List.length_take,List.length_drop,hM];omega
    have em:=mark_step (seq3 m l.length) l i (by omega) hM
    rw [seq3_get] at em
    generalize hX:(seq3 m l.length).take i++l.drop i=X at hL em⊢
    have hi:i<X.length:=by omega
    refine Ev.step (f:=fun k=>(laws_markText.f k (m+3*i+2)).bind fun t=>laws_markEntryS.l0 k (X.set i ⟨m+3*i,m+3*i+1,t⟩) (m+3*((i+1:Nat):Int)) ((i+1:Nat):Int)) (fun k=>?_) (Ev.bind (laws_markText_ev _ (by omega)) ((laws_markEntryS_l0 l hl m h0 hm d (i+1) (by omega)).congr' ?_))
    · simp only [laws_markEntryS.l0]
      rw [if_pos (by omega),if_pos (by omega)]
      have w1:wrap64 (m+3*(i:Int)+1)=m+3*i+1:=w64 (by omega) (by omega)
      have w2:wrap64 (m+3*(i:Int)+1+1)=m+3*i+2:=by rw [w64 (by omega) (by omega)];omega
      have w3:wrap64 (m+3*(i:Int)+2+1)=m+3*((i+1:Nat):Int):=by rw [w64 (by omega) (by omega)];omega
      have w4:wrap64 ((i:Int)+1)=((i+1:Nat):Int):=by rw [w64 (by omega) (by omega)];omega
      simp only [Option.bind_some,Int.toNat_natCast,w1,w2,w3,w4]
      have r1:∀v:IEn,rd_T105 (X.set i v) (i:Int)=v:=fun v=>rd_IEn_set v hi
      have r2:∀v u:IEn,rd_T105 ((X.set i v).set i u) (i:Int)=u:=fun v u=>rd_IEn_set u (by simpa using hi)
      simp only [r1,r2,List.set_set]
    · intro k
      have e2:(⟨m+3*(i:Int),m+3*(i:Int)+1,mkT (m+3*(i:Int)+2)⟩:IEn)=mkEn (m+3*i):=rfl
      rw [e2,em]
theorem laws_markEntryS_ev (l:List IEn) (hl:l.length≤1048577) (m:Int) (h0:0≤m) (hm:m≤10000000000000):Ev (fun k=>laws_markEntryS.f k l m) (m+3*l.length,seq3 m l.length):=by
  have:=laws_markEntryS_l0 l hl m h0 hm l.length 0 (by omega)
  show Ev (fun k=>laws_markEntryS.l0 k l m 0) _
  simpa using this
theorem laws_markLog_ev (a b:Int) (l:List IEn) (hl:l.length≤1048577):Ev (fun k=>laws_markLog.f k a b l 1) (1+3*(l.length:Int),seq3 1 l.length):=by
  unfold laws_markLog.f
  exact Ev.bind (laws_markEntryS_ev l hl 1 (by omega) (by omega)) (Ev.now _)
theorem laws_markJournal_ev (p q s a b:Int) (l:List IEn) (hl:l.length≤1048577):Ev (fun k=>laws_markJournal.f k p q s a b l 1) (1+3*(l.length:Int),seq3 1 l.length):=by
  unfold laws_markJournal.f
  exact Ev.bind (laws_markLog_ev a b l hl) (Ev.now _)
theorem laws_markActS_l0 (l:List IAc) (hl:l.length≤1048577) (m:Int) (h0:0≤m) (hm:m≤10000000000000):∀(d i:Nat),i+d=l.length→
    Ev (fun k=>laws_markActS.l0 k ((seqA m l.length).take i++l.drop i) (m+4*i) (i:Int)) (m+4*l.length,seqA m l.length):=by
  intro d
  induction d with
  |zero=>
    intro i h
    obtain rfl:i=l.length:=by omega
    have e:(seqA m l.length).take l.length++l.drop l.length=seqA m l.length:=by rw [List.drop_length,List.append_nil,List.take_of_length_le (by rw [seqA_length];omega)]
    rw [e]
    refine Ev.step (f:=fun k=>some (m+4*(l.length:Int),seqA m l.length)) (fun k=>?_) (Ev.now _)
    simp only [laws_markActS.l0];rw [if_neg (by rw [seqA_length];omega)]
  |succ d ih=>
    intro i h
    have hM:(seqA m l.length).length=l.length:=seqA_length _ _
    have hL:((seqA m l.length).take i++l.drop i).length=l.length:=by rw [List.length_append,List.length_take,List.length_drop,hM];omega
    have em:=mark_step (seqA m l.length) l i (by omega) hM
    rw [seqA_get] at em
    generalize hX:(seqA m l.length).take i++l.drop i=X at hL em⊢
    have hi:i<X.length:=by omega
    refine Ev.step (f:=fun k=>(laws_markText.f k (m+4*i+1)).bind fun t=>(laws_markText.f k (m+4*i+2)).bind fun u=>(laws_markText.f k (m+4*i+3)).bind fun v=>laws_markActS.l0 k (X.set i ⟨m+4*i,t,u,v⟩) (m+4*((i+1:Nat):Int)) ((i+1:Nat):Int)) (fun k=>?_) (Ev.bind (laws_markText_ev _ (by omega)) (Ev.bind (laws_markText_ev _ (by omega)) (Ev.bind (laws_markText_ev _ (by omega)) ((ih (i+1) (by omega)).congr' ?_))))
    · simp only [laws_markActS.l0]
      rw [if_pos (by omega)]
      have w1:wrap64 (m+4*(i:Int)+1)=m+4*i+1:=w64 (by omega) (by omega)
      have w2:wrap64 (m+4*(i:Int)+1+1)=m+4*i+2:=by rw [w64 (by omega) (by omega)];omega
      have w3:wrap64 (m+4*(i:Int)+2+1)=m+4*i+3:=by rw [w64 (by omega) (by omega)];omega
      have w5:wrap64 (m+4*(i:Int)+3+1)=m+4*((i+1:Nat):Int):=by rw [w64 (by omega) (by omega)];omega
      have w4:wrap64 ((i:Int)+1)=((i+1:Nat):Int):=by rw [w64 (by omega) (by omega)];omega
      have r1:∀v:IAc,rd_T57 (X.set i v) (i:Int)=v:=fun v=>rd_IAc_set v hi
      have r2:∀v u:IAc,rd_T57 ((X.set i v).set i u) (i:Int)=u:=fun v u=>rd_IAc_set u (by simpa using hi)
      rw [if_pos (show(0:Int)≤(i:Int) from Int.natCast_nonneg i),Option.bind_some,Int.toNat_natCast]
      simp only [r1,r2,List.set_set,w1,w2,w3,w5,w4]
      simp only [Option.bind_some,r1,r2,List.set_set]
    · intro k
      have e2:(⟨m+4*(i:Int),mkT (m+4*(i:Int)+1),mkT (m+4*(i:Int)+2),mkT (m+4*(i:Int)+3)⟩:IAc)=mkAc (m+4*i):=rfl
      rw [e2,em]
theorem laws_markActS_ev (l:List IAc) (hl:l.length≤1048577) (m:Int) (h0:0≤m) (hm:m≤10000000000000):Ev (fun k=>laws_markActS.f k l m) (m+4*l.length,seqA m l.length):=by
  have:=laws_markActS_l0 l hl m h0 hm l.length 0 (by omega)
  show Ev (fun k=>laws_markActS.l0 k l m 0) _
  simpa using this
theorem laws_heldEntryS_l0 (n:Nat) (hl:n≤1048577) (m:Int) (h0:0≤m) (hm:m≤10000000000000):∀(d i:Nat),i+d=n→
    Ev (fun k=>laws_heldEntryS.l0 k (seq3 m n) (m+3*i) (i:Int)) (m+3*n)
  |0,i,h=>by
    obtain rfl:i=n:=by omega
    refine Ev.step (f:=fun k=>some (m+3*(i:Int))) (fun k=>?_) (Ev.now _)
    simp only [laws_heldEntryS.l0];rw [if_neg (by rw [seq3_length];omega)]
  |d+1,i,h=>by
    have er:rd_T105 (seq3 m n) (i:Int)=mkEn (m+3*i):=by rw [rd_IEn (by rw [seq3_length];omega),seq3_get]
    refine Ev.step (f:=fun k=>(laws_markText.f k (m+3*i+2)).bind fun t=>if(mkT (m+3*i+2)).toList=t.toList then laws_heldEntryS.l0 k (seq3 m n) (m+3*((i+1:Nat):Int)) ((i+1:Nat):Int) else some (-1)) (fun k=>?_) (Ev.bind (laws_markText_ev _ (by omega)) (Ev.pos rfl (laws_heldEntryS_l0 n hl m h0 hm d (i+1) (by omega))))
    simp only [laws_heldEntryS.l0]
    have w1:wrap64 (m+3*(i:Int)+1)=m+3*i+1:=w64 (by omega) (by omega)
    have w2:wrap64 (m+3*(i:Int)+1+1)=m+3*i+2:=by rw [w64 (by omega) (by omega)];omega
    have w3:wrap64 (m+3*(i:Int)+2+1)=m+3*((i+1:Nat):Int):=by rw [w64 (by omega) (by omega)];omega
    have w4:wrap64 ((i:Int)+1)=((i+1:Nat):Int):=by rw [w64 (by omega) (by omega)];omega
    rw [if_pos (by rw [seq3_length];omega),if_pos (by omega),er]
    simp only [mkEn,w1,w2,w3,w4,if_true]
theorem laws_heldEntryS_ev (n:Nat) (hl:n≤1048577) (m:Int) (h0:0≤m) (hm:m≤10000000000000):Ev (fun k=>laws_heldEntryS.f k (seq3 m n) m) (m+3*n):=by
  have:=laws_heldEntryS_l0 n hl m h0 hm n 0 (by omega)
  show Ev (fun k=>laws_heldEntryS.l0 k (seq3 m n) m 0) _
  simpa using this
theorem laws_heldLog_ev (a b:Int) (n:Nat) (hl:n≤1048577):Ev (fun k=>laws_heldLog.f k a b (seq3 1 n) 1) (1+3*(n:Int)):=by
  unfold laws_heldLog.f
  exact Ev.bind (laws_heldEntryS_ev n hl 1 (by omega) (by omega)) (Ev.neg (by omega) (Ev.now _))
theorem laws_heldJournal_ev (p q s a b:Int) (n:Nat) (hl:n≤1048577):Ev (fun k=>laws_heldJournal.f k p q s a b (seq3 1 n) 1) (1+3*(n:Int)):=by
  unfold laws_heldJournal.f
  exact Ev.bind (laws_heldLog_ev a b n hl) (Ev.neg (by omega) (Ev.now _))
theorem laws_heldActS_l0 (n:Nat) (hl:n≤1048577) (m:Int) (h0:0≤m) (hm:m≤10000000000000):∀(d i:Nat),i+d=n→
    Ev (fun k=>laws_heldActS.l0 k (seqA m n) (m+4*i) (i:Int)) (m+4*n)
  |0,i,h=>by
    obtain rfl:i=n:=by omega
    refine Ev.step (f:=fun k=>some (m+4*(i:Int))) (fun k=>?_) (Ev.now _)
    simp only [laws_heldActS.l0];rw [if_neg (by rw [seqA_length];omega)]
  |d+1,i,h=>by
    have er:rd_T57 (seqA m n) (i:Int)=mkAc (m+4*i):=by rw [rd_IAc (by rw [seqA_length];omega),seqA_get]
    refine Ev.step (f:=fun k=>(laws_markText.f k (m+4*i+1)).bind fun t=>if(mkT (m+4*i+1)).toList=t.toList then((laws_markText.f k (m+4*i+2)).bind fun u=>if(mkT (m+4*i+2)).toList=u.toList then((laws_markText.f k (m+4*i+3)).bind fun v=>if(mkT (m+4*i+3)).toList=v.toList then laws_heldActS.l0 k (seqA m n) (m+4*((i+1:Nat):Int)) ((i+1:Nat):Int) else some (-1)) else some (-1)) else some (-1)) (fun k=>?_) (Ev.bind (laws_markText_ev _ (by omega)) (Ev.pos rfl (Ev.bind (laws_markText_ev _ (by omega)) (Ev.pos rfl (Ev.bind (laws_markText_ev _ (by omega)) (Ev.pos rfl (laws_heldActS_l0 n hl m h0 hm d (i+1) (by omega))))))))
    simp only [laws_heldActS.l0]
    have w1:wrap64 (m+4*(i:Int)+1)=m+4*i+1:=w64 (by omega) (by omega)
    have w2:wrap64 (m+4*(i:Int)+1+1)=m+4*i+2:=by rw [w64 (by omega) (by omega)];omega
    have w3:wrap64 (m+4*(i:Int)+2+1)=m+4*i+3:=by rw [w64 (by omega) (by omega)];omega
    have w5:wrap64 (m+4*(i:Int)+3+1)=m+4*((i+1:Nat):Int):=by rw [w64 (by omega) (by omega)];omega
    have w4:wrap64 ((i:Int)+1)=((i+1:Nat):Int):=by rw [w64 (by omega) (by omega)];omega
    rw [if_pos (by rw [seqA_length];omega),if_pos (by omega),er]
    simp only [mkAc,w1,w2,w3,w5,w4,if_true]
theorem laws_heldActS_ev (n:Nat) (hl:n≤1048577) (m:Int) (h0:0≤m) (hm:m≤10000000000000):Ev (fun k=>laws_heldActS.f k (seqA m n) m) (m+4*n):=by
  have:=laws_heldActS_l0 n hl m h0 hm n 0 (by omega)
  show Ev (fun k=>laws_heldActS.l0 k (seqA m n) m 0) _
  simpa using this
theorem FnExactOpenJournal:laws_FnExactOpenJournal.Pure:=by
  intro d hd
  obtain⟨hl,hx⟩:=hd
  apply Ev.rounds
  unfold laws_FnExactOpenJournal.f
  obtain⟨z,hz,hy⟩:=laws_szDisk_ev d 1048576 hl (fun x h=>⟨(hx x h).1,(hx x h).2.1⟩) (by omega) (by omega)
  refine Ev.bind hz ?_
  rcases hy with hy|⟨h0,h1,h2,h3⟩
  · exact Ev.pos hy (Ev.now _)
  · have hm:(d.map toFi).length≤1048576:=by simpa using h2
    have hs:∀x∈d.map toFi,x.f0.size≤281474976710656:=fun x h=>by
      obtain⟨y,hy,rfl⟩:=List.mem_map.1 h
      have:=h3 y hy
      show y.f0.size≤_
      omega
    have td:=laws_toDisk_ev d h2
    have es:=spec_OpenJournal_ev (d.map toFi)
    have ei:=impl_OpenJournal_ev (d.map toFi) (by omega) hs
    have hn:=openL_len (d.map toFi)
    generalize openL (d.map toFi)=q at es ei hn
    have e1:=laws_eqJournal_ev q.1 q.2.1 q.2.2.1 q.2.2.2.1 q.2.2.2.2.1 q.2.2.2.2.2.1 (by omega)
    have e2:=laws_eqActS_ev q.2.2.2.2.2.2.1 (by omega)
    have mk:=laws_markJournal_ev q.1 q.2.1 q.2.2.1 q.2.2.2.1 q.2.2.2.2.1 q.2.2.2.2.2.1 (by omega)
    have hj:=laws_heldJournal_ev q.1 q.2.1 q.2.2.1 q.2.2.2.1 q.2.2.2.2.1 q.2.2.2.2.2.1.length (by omega)
    have ma:=laws_markActS_ev q.2.2.2.2.2.2.1 (by omega) (1+3*(q.2.2.2.2.2.1.length:Int)) (by omega) (by omega)
    have ha:=laws_heldActS_ev q.2.2.2.2.2.2.1.length (by omega) (1+3*(q.2.2.2.2.2.1.length:Int)) (by omega) (by omega)
    refine Ev.neg (by omega) (Ev.bind td (Ev.bind es (Ev.bind td (Ev.bind ei (Ev.bind e1 (Ev.pos rfl (Ev.bind e2 (Ev.pos rfl ?_))))))))
    rw [show(q.2.2.2.2.2.2.2 != q.2.2.2.2.2.2.2)=false from by simp]
    refine Ev.step (fun k=>laws_FnExactOpenJournal.j0.eq_2 ..) (Ev.neg (by simp) (Ev.bind td (Ev.bind (laws_eqDisk_ev (d.map toFi) (by omega)) (Ev.pos rfl (Ev.bind (laws_markDisk_ev (d.map toFi) (by omega) 1 (by omega) (by omega)) (Ev.neg (by simp only;omega) (Ev.bind e1 (Ev.pos rfl (Ev.bind e2 (Ev.pos rfl ?_))))))))))
    rw [show(q.2.2.2.2.2.2.2 != q.2.2.2.2.2.2.2)=false from by simp]
    refine Ev.step (fun k=>laws_FnExactOpenJournal.j1.eq_2 ..) (Ev.neg (by simp) (Ev.bind mk (Ev.bind ma (Ev.bind hj (Ev.neg (by omega) (Ev.bind ha (Ev.neg (by omega) (Ev.pos rfl (Ev.bind td (Ev.bind ei (Ev.bind e1 (Ev.pos rfl (Ev.bind e2 (Ev.pos rfl ?_))))))))))))))
    rw [show(q.2.2.2.2.2.2.2 != q.2.2.2.2.2.2.2)=false from by simp]
    exact Ev.step (fun k=>laws_FnExactOpenJournal.j2.eq_2 ..) (Ev.neg (by simp) (Ev.bind hj (Ev.neg (by omega) (Ev.bind ha (Ev.neg (by omega) (Ev.pos rfl (Ev.now _)))))))
end Go.Proofs.YtolakamimfhcjaaGreatDoor.Pure
