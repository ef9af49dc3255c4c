/- Of the print's words (YtolakamimfhcjaaGreatDoorMath) those that this claim's texts name. -/
import Derived.Test.YtolakamimfhcjaaGreatDoorTMore
import Derived.Test.YtolakamimfhcjaaGreatDoorTSized
import Derived.Lib.Bytealg
namespace Go.Proofs.YtolakamimfhcjaaGreatDoorW.PrintWords
section
variable {α β:Type}
theorem Ev.pos {c:Prop} [Decidable c] {A B:Nat→Option α} {r:α} (h:c) (k:Ev A r):Ev (fun n=>if c then A n else B n) r:=by
  simpa only [if_pos h] using k
theorem Ev.neg {c:Prop} [Decidable c] {A B:Nat→Option α} {r:α} (h:¬c) (k:Ev B r):Ev (fun n=>if c then A n else B n) r:=by
  simpa only [if_neg h] using k
theorem Ev.is {x:Option α} {r:α} (h:x=some r):Ev (fun _=>x) r:=⟨0,fun _ _=>h⟩
theorem Ev.bind0 {x:Option β} {a:β} {f:Nat→β→Option α} {r:α} (h:x=some a) (k:Ev (fun n=>f n a) r):Ev (fun n=>x.bind (f n)) r:=by
  subst h;exact k
theorem Ev.congr' {g f:Nat→Option α} {r:α} (k:Ev f r) (h:∀n,g n=f n):Ev g r:=Ev.congr h k
theorem Ev.eq {g:Nat→Option α} {r r':α} (h:Ev g r) (e:r=r'):Ev g r':=e▸h
end
end Go.Proofs.YtolakamimfhcjaaGreatDoorW.PrintWords
namespace Go.Proofs.YtolakamimfhcjaaGreatDoor
end Go.Proofs.YtolakamimfhcjaaGreatDoor
namespace Go.Proofs.YtolakamimfhcjaaGreatDoor.M
open Go.RowKit Go.Proofs.YtolakamimfhcjaaGreatDoorW.PrintWords Go.Proofs.YtolakamimfhcjaaGreatDoorW.PrintLast Go.Proofs.YtolakamimfhcjaaGreatDoorW.PrintMore
set_option linter.unusedVariables false
set_option linter.unusedSimpArgs false
theorem w64 {x:Int} (h0: -9223372036854775808≤x) (h1:x≤9223372036854775807):wrap64 x=x:=by
  unfold wrap64;omega
theorem td {x:Int} (h:0≤x) (y:Int):Int.tdiv x y=x / y:=Int.tdiv_eq_ediv_of_nonneg h
theorem tm {x:Int} (h:0≤x) (y:Int):Int.tmod x y=x % y:=Int.tmod_eq_emod_of_nonneg h
theorem bytes_append (a b:ByteArray):bytesOf (a++b)=bytesOf a++bytesOf b:=by simp [bytesOf,ByteArray.data_append]
theorem bytes_extract (s:ByteArray) (i j:Nat):bytesOf (s.extract i j)=((bytesOf s).drop i).take (j - i):=by
  simp [bytesOf,ByteArray.data_extract,List.map_take,List.map_drop]
theorem ofNat_inj:∀l m:List UInt8,(l.map fun b=>(b.toNat:Int))=m.map (fun b=>(b.toNat:Int))→l=m
  | [],[],_=>rfl
  | [],b :: m,h=>by simp at h
  |a :: l,[],h=>by simp at h
  |a :: l,b :: m,h=>by
    simp only [List.map_cons,List.cons.injEq] at h
    have e:a=b:=UInt8.toNat_inj.1 (by omega)
    rw [e,ofNat_inj l m h.2]
theorem bytes_inj {a b:ByteArray} (h:bytesOf a=bytesOf b):a=b:=by
  have:=ofNat_inj _ _ h
  cases a;cases b;simp at this⊢;cases ‹Array UInt8›;cases ‹Array UInt8›;simp_all
theorem toList_iff (a b:ByteArray):a.toList=b.toList↔a=b:=by
  rw [ByteArray.toList_eq,ByteArray.toList_eq]
  constructor
  · intro h
    cases a;cases b;simp at h⊢;cases ‹Array UInt8›;cases ‹Array UInt8›;simp_all
  · intro h;rw [h]
theorem str_size (xs:List Int):(strOfNums xs).size=xs.length:=by simp [strOfNums,ByteArray.size]
theorem bytes_str {xs:List Int} (h:∀x∈xs,0≤x∧x≤255):bytesOf (strOfNums xs)=xs:=by
  simp only [bytesOf,strOfNums,List.map_map]
  rw [List.map_congr_left (g:=id)]
  · simp
  · intro x hx
    have:=h x hx
    simp only [Function.comp,id]
    rw [UInt8.toNat_ofNat']
    omega
theorem str_append (xs ys:List Int):strOfNums (xs++ys)=strOfNums xs++strOfNums ys:=by
  apply ByteArray.ext;simp [strOfNums,ByteArray.data_append]
theorem bytes_range (s:ByteArray):∀x∈bytesOf s,0≤x∧x≤255:=by
  intro x hx
  simp only [bytesOf,List.mem_map] at hx
  obtain⟨b,_,rfl⟩:=hx
  have:=b.toNat_lt
  omega
theorem bytes_get (s:ByteArray) (i:Nat) (h:i<(bytesOf s).length):(bytesOf s)[i]=bt s i:=by
  rw [←rd_bytesOf];simp [rd,List.getD_eq_getElem?_getD,List.getElem?_eq_getElem h]
theorem bytes_drop {s:ByteArray} {i:Nat} (h:i<s.size):(bytesOf s).drop i=bt s i :: (bytesOf s).drop (i+1):=by
  have h':i<(bytesOf s).length:=by rw [bytesOf_length];exact h
  rw [List.drop_eq_getElem_cons h',bytes_get]
theorem bytes_nil:bytesOf (⟨#[]⟩:ByteArray)= []:=rfl
theorem size_append (a b:ByteArray):(a++b).size=a.size+b.size:=by
  rw [←bytesOf_length,bytes_append,List.length_append,bytesOf_length,bytesOf_length]
theorem size_extract (s:ByteArray) (i j:Nat) (h:i≤j) (h':j≤s.size):(s.extract i j).size=j - i:=by
  rw [←bytesOf_length,bytes_extract,List.length_take,List.length_drop,bytesOf_length];omega
theorem nil_append (a:ByteArray):(⟨#[]⟩:ByteArray)++a=a:=bytes_inj (by simp [bytes_append,bytes_nil])
theorem append_nil (a:ByteArray):a++(⟨#[]⟩:ByteArray)=a:=bytes_inj (by simp [bytes_append,bytes_nil])
theorem append_assoc (a b c:ByteArray):a++b++c=a++(b++c):=bytes_inj (by simp [bytes_append])
theorem extract_all (s:ByteArray):s.extract 0 s.size=s:=bytes_inj (by
  rw [bytes_extract,List.drop_zero,List.take_of_length_le];rw [bytesOf_length];omega)
theorem rd_nat (l:List Int) (i:Nat) (h:i<l.length):rd l (i:Int)=l[i]:=by
  simp [rd,List.getD_eq_getElem?_getD,List.getElem?_eq_getElem h]
theorem rd_drop {l:List Int} {i:Nat} (h:i<l.length):l.drop i=rd l (i:Int) :: l.drop (i+1):=by
  rw [List.drop_eq_getElem_cons h,rd_nat l i h]
theorem fill_step {α:Type} (l:List α) (z:α) (i n:Nat) (h:i<l.length) (hn:n=l.length):
    (l.take i++List.replicate (n - i) z).set i l[i]=l.take (i+1)++List.replicate (n - (i+1)) z:=by
  subst hn
  rw [List.set_append_right _ _ (by simp [List.length_take];omega)]
  have e:i - (l.take i).length=0:=by simp [List.length_take];omega
  rw [e]
  have e2:l.length - i=(l.length - (i+1))+1:=by omega
  rw [e2,List.replicate_succ,List.set_cons_zero,List.take_succ_eq_append_getElem h,List.append_assoc]
  rfl
def inR (a b c:Int):Bool:=decide (b≤a∧a≤c)
theorem inR_iff {a b c:Int} :inR a b c=true↔b≤a∧a≤c:=by simp [inR]
def varL (n:Nat):List Int:=if 127<n then((n % 128+128:Nat):Int) :: varL (n / 128) else [(n:Int)]
termination_by n
decreasing_by omega
theorem varL_big {n:Nat} (h:127<n):varL n=((n % 128+128:Nat):Int) :: varL (n / 128):=by rw [varL,if_pos h]
theorem varL_small {n:Nat} (h:¬127<n):varL n= [(n:Int)]:=by rw [varL,if_neg h]
theorem varL_range (n:Nat):∀x∈varL n,0≤x∧x≤255:=by
  induction n using Nat.strongRecOn with
  |_ n ih=>
    intro x hx
    by_cases h:127<n
    · rw [varL_big h] at hx
      rcases List.mem_cons.1 hx with rfl|hx
      · omega
      · exact ih (n / 128) (by omega) x hx
    · rw [varL_small h] at hx
      simp at hx;omega
theorem varL_len (n d:Nat) (h:n<128 ^ (d+1)):(varL n).length≤d+1:=by
  induction d generalizing n with
  |zero=>rw [varL_small (by omega)];simp
  |succ d ih=>
    by_cases h1:127<n
    · rw [varL_big h1]
      have:=ih (n / 128) (by rw [Nat.div_lt_iff_lt_mul (by omega)];rw [Nat.pow_succ] at h;omega)
      simp;omega
    · rw [varL_small h1];simp
def vt (n:Nat):ByteArray:=strOfNums (varL n)
theorem bytes_vt (n:Nat):bytesOf (vt n)=varL n:=bytes_str (varL_range n)
theorem vt_size (n:Nat):(vt n).size=(varL n).length:=str_size _
theorem vt_size5 (n:Nat) (h:n≤30000000000):(vt n).size≤5:=by rw [vt_size];exact varL_len n 4 (by omega)
def varText (n:Int):ByteArray × Bool:=if 0≤n∧n≤1000000000 then(vt n.toNat,true) else(⟨#[]⟩,false)
theorem varText_ok {n:Int} (h0:0≤n) (h1:n≤1000000000):varText n=(vt n.toNat,true):=by rw [varText,if_pos ⟨h0,h1⟩]
theorem varText_no {n:Int} (h:¬(0≤n∧n≤1000000000)):varText n=(⟨#[]⟩,false):=by rw [varText,if_neg h]
def valL:List Int→Nat
  | []=>0
  |b :: l=>b.toNat % 128+128*valL l
theorem valL_snoc (l:List Int) (c:Int):valL (l++ [c])=valL l+c.toNat % 128*128 ^ l.length:=by
  induction l with
  |nil=>simp [valL]
  |cons b l ih=>
    simp only [List.cons_append,valL,ih,List.length_cons,Nat.pow_succ,Nat.mul_add]
    have:128*(c.toNat % 128*128 ^ l.length)=c.toNat % 128*(128 ^ l.length*128):=by
      rw [Nat.mul_comm 128,Nat.mul_assoc]
    omega
theorem valL_lt (l:List Int):valL l<128 ^ l.length:=by
  induction l with
  |nil=>simp [valL]
  |cons b l ih=>
    simp only [valL,List.length_cons,Nat.pow_succ]
    have:b.toNat % 128<128:=Nat.mod_lt _ (by omega)
    omega
theorem varL_val (p:List Int) (hp:∀x∈p,128≤x∧x<256) (c:Int) (h0:0≤c) (h1:c<128)
    (hl:(varL (valL (p++ [c]))).length=p.length+1):varL (valL (p++ [c]))=p++ [c]:=by
  induction p with
  |nil=>
    have e:valL ([]++ [c])=c.toNat:=by simp [valL];omega
    rw [e,varL_small (by omega)];simp;omega
  |cons b p ih=>
    have hb:=hp b (by simp)
    have e:valL (b :: p++ [c])=b.toNat % 128+128*valL (p++ [c]):=rfl
    by_cases hm:127<valL (b :: p++ [c])
    · rw [varL_big hm] at hl⊢
      have d:valL (b :: p++ [c]) / 128=valL (p++ [c]):=by rw [e];omega
      rw [d] at hl⊢
      have m:valL (b :: p++ [c]) % 128=b.toNat % 128:=by rw [e];omega
      rw [m,ih (fun x hx=>hp x (by simp [hx])) (by simpa using hl)]
      simp only [List.cons_append,List.cons.injEq,and_true];omega
    · rw [varL_small hm] at hl
      simp at hl
def rvL:Nat→Nat→Nat→List Int→Option (Nat × Nat)
  |0,_,_,_=>none
  |_+1,_,_,[]=>none
  |f+1,i,n,c :: l=>
    if c<128 then(if n+c.toNat % 128*128 ^ i≤1000000000∧(varL (n+c.toNat % 128*128 ^ i)).length=i+1 then some (n+c.toNat % 128*128 ^ i,i+1) else none)
    else rvL f (i+1) (n+c.toNat % 128*128 ^ i) l
def rvar (l:List Int):Option (Nat × Nat):=rvL 5 0 0 l
def readVar (s:ByteArray) (at_:Int):Int × Int × Bool:=
  if 0≤at_∧at_≤(s.size:Int) then(match rvar ((bytesOf s).drop at_.toNat) with|some (n,m)=>((n:Int),at_+m,true)|none=>(0,0,false)) else(0,0,false)
def Led (s:ByteArray) (a i n:Nat):Prop:=a+i≤s.size∧(∀x∈((bytesOf s).drop a).take i,128≤x∧x<256)∧n=valL (((bytesOf s).drop a).take i)
theorem Led.take_succ {s:ByteArray} {a i:Nat} (h:a+i<s.size):((bytesOf s).drop a).take (i+1)=((bytesOf s).drop a).take i++ [bt s ((a+i:Nat):Int)]:=by
  have hl:i<((bytesOf s).drop a).length:=by rw [List.length_drop,bytesOf_length];omega
  rw [List.take_succ_eq_append_getElem hl]
  congr 2
  rw [List.getElem_drop,bytes_get]
theorem Led.len {s:ByteArray} {a i n:Nat} (h:Led s a i n):(((bytesOf s).drop a).take i).length=i:=by
  rw [List.length_take,List.length_drop,bytesOf_length];have:=h.1;omega
theorem Led.lt {s:ByteArray} {a i n:Nat} (h:Led s a i n):n<128 ^ i:=by
  have:=valL_lt (((bytesOf s).drop a).take i)
  rw [h.len] at this;rw [h.2.2];exact this
theorem Led.next {s:ByteArray} {a i n:Nat} (h:Led s a i n) (hs:a+i<s.size) (hb:128≤bt s ((a+i:Nat):Int)):
    Led s a (i+1) (n+(bt s ((a+i:Nat):Int)).toNat % 128*128 ^ i):=by
  have hr:=bt_range s ((a+i:Nat):Int)
  refine⟨by omega,?_,?_⟩
  · rw [Led.take_succ hs]
    intro x hx
    rcases List.mem_append.1 hx with hx|hx
    · exact h.2.1 x hx
    · rw [List.mem_singleton.1 hx];omega
  · rw [Led.take_succ hs,valL_snoc,h.len,←h.2.2]
theorem Led.start (s:ByteArray) (a:Nat) (h:a≤s.size):Led s a 0 0:=⟨by omega,by simp,by simp [valL]⟩
theorem Led.cut {s:ByteArray} {a i:Nat} (h:a+i<s.size):bytesOf (s.extract a (a+i+1))=((bytesOf s).drop a).take i++ [bt s ((a+i:Nat):Int)]:=by
  rw [bytes_extract,←Led.take_succ h];congr 1;omega
theorem Led.same {s:ByteArray} {a i n:Nat} (h:Led s a i n) (hs:a+i<s.size) (hb:bt s ((a+i:Nat):Int)<128):
    (vt (n+(bt s ((a+i:Nat):Int)).toNat % 128*128 ^ i)).toList=(s.extract a (a+i+1)).toList↔(varL (n+(bt s ((a+i:Nat):Int)).toNat % 128*128 ^ i)).length=i+1:=by
  have hv:n+(bt s ((a+i:Nat):Int)).toNat % 128*128 ^ i=valL (((bytesOf s).drop a).take i++ [bt s ((a+i:Nat):Int)]):=by
    rw [valL_snoc,h.len,←h.2.2]
  have hr:=bt_range s ((a+i:Nat):Int)
  rw [toList_iff]
  constructor
  · intro e
    rw [←bytes_vt,e,Led.cut hs,List.length_append,h.len];rfl
  · intro e
    apply bytes_inj
    rw [bytes_vt,Led.cut hs]
    rw [hv] at e⊢
    exact varL_val _ h.2.1 _ (by omega) hb (by rw [h.len];exact e)
theorem pow_bound {i:Nat} (h:i<5):128 ^ i≤268435456∧1≤128 ^ i:=by
  have:i=0∨i=1∨i=2∨i=3∨i=4:=by omega
  rcases this with rfl|rfl|rfl|rfl|rfl <;> decide
theorem mul_bound (c p:Nat) (h:p≤268435456):c % 128*p≤34091302912:=by
  have h1:c % 128≤127:=by omega
  exact Nat.le_trans (Nat.mul_le_mul h1 h) (by omega)
def half (x:Int):Int:=if Int.tmod x 2=1 then Go.bits .xor .u32 ((Int.tdiv x 2) % 4294967296) 3558460437 else(Int.tdiv x 2) % 4294967296
def halves:Nat→Int→Int
  |0,x=>x
  |n+1,x=>halves n (half x)
def sumL:Int→List Int→Int
  |s,[]=>s
  |s,b :: l=>sumL (halves 8 (Go.bits .xor .u32 s (b % 4294967296))) l
def sumOf (s:ByteArray):Int:=sumL 4294967295 (bytesOf s)
def fourL (x:Int):List Int:=[(x / 16777216) % 256,(x / 65536) % 256,(x / 256) % 256,x % 256]
def four (x:Int):ByteArray:=strOfNums (fourL x)
theorem four_size (x:Int):(four x).size=4:=str_size _
def fig (x:Int):Int:=if x<10 then 48+x else 87+x
def riseF:Int→List Int→Bool
  |_,[]=>true
  |p,x :: l=>decide (1≤x∧x≤4∧p<x) && riseF x l
def confOk (l:List Int):Bool:=decide (1≤l.length∧l.length≤4) && riseF 0 l
theorem rvL_some:∀(f i n:Nat) (l:List Int) (n' m:Nat),rvL f i n l=some (n',m)→n'≤1000000000∧i+1≤m∧m≤i+l.length
  |0,_,_,_,_,_,h=>by simp [rvL] at h
  |_+1,_,_,[],_,_,h=>by simp [rvL] at h
  |f+1,i,n,c :: l,n',m,h=>by
    simp only [rvL] at h
    by_cases hc:c<128
    · rw [if_pos hc] at h
      by_cases hq:n+c.toNat % 128*128 ^ i≤1000000000∧(varL (n+c.toNat % 128*128 ^ i)).length=i+1
      · rw [if_pos hq] at h
        simp only [Option.some.injEq,Prod.mk.injEq] at h
        obtain⟨rfl,rfl⟩:=h
        exact⟨hq.1,Nat.le_refl _,by simp⟩
      · rw [if_neg hq] at h;cases h
    · rw [if_neg hc] at h
      have:=rvL_some f (i+1) _ l n' m h
      simp only [List.length_cons]
      omega
theorem readVar_cases (s:ByteArray) (a:Int):readVar s a=(0,0,false)∨∃n m:Nat,readVar s a=((n:Int),a+m,true)∧n≤1000000000∧1≤m∧0≤a∧a+m≤(s.size:Int)∧rvar ((bytesOf s).drop a.toNat)=some (n,m):=by
  unfold readVar
  by_cases h:0≤a∧a≤(s.size:Int)
  · rw [if_pos h]
    cases e:rvar ((bytesOf s).drop a.toNat) with
    |none=>exact .inl rfl
    |some p=>
      obtain⟨n,m⟩:=p
      have:=rvL_some 5 0 0 _ n m e
      rw [List.length_drop,bytesOf_length] at this
      exact .inr ⟨n,m,rfl,this.1,by omega,h.1,by omega,rfl⟩
  · rw [if_neg h];exact .inl rfl
def readConf (s:ByteArray):List Int × Bool:=if confOk (bytesOf s)=true then(bytesOf s,true) else([],false)
theorem confOk_len {l:List Int} (h:confOk l=true):1≤l.length∧l.length≤4:=by
  simp [confOk] at h;omega
def frame (s:ByteArray):ByteArray × Bool:=if 1≤s.size∧s.size≤9000 then(vt s.size++four (sumOf s)++s,true) else(⟨#[]⟩,false)
def inCount (l m:List Int):Nat:=l.countP fun x=>decide (x∈m)
def most (l m:List Int):Bool:=confOk l && decide (2*inCount l m>l.length)
def varsL:List Int→Option (List Int)
  | []=>some []
  |n :: l=>if 0≤n∧n≤1000000000 then(varsL l).map (varL n.toNat++ ·) else none
theorem varsL_two {a b:Int} (ha:0≤a∧a≤1000000000) (hb:0≤b∧b≤1000000000):varsL [a,b]=some (varL a.toNat++varL b.toNat):=by
  simp only [varsL,if_pos ha,if_pos hb,Option.map_some,List.append_nil]
def nextF (s:ByteArray) (a:Nat):Option (ByteArray × Nat):=
  match rvar ((bytesOf s).drop a) with
  |none=>none
  |some (n,m)=>
    if n+(a+m+4)≤s.size then
      (if(frame (s.extract (a+m+4) (a+m+4+n))).2=true∧(frame (s.extract (a+m+4) (a+m+4+n))).1=s.extract a (a+m+4+n) then some (s.extract (a+m+4) (a+m+4+n),a+m+4+n) else none)
    else none
theorem nextF_some {s t:ByteArray} {a b:Nat} (h:nextF s a=some (t,b)):a<b∧b≤s.size∧frame t=(s.extract a b,true)∧t.size≤9000:=by
  unfold nextF at h
  cases e:rvar ((bytesOf s).drop a) with
  |none=>rw [e] at h;cases h
  |some p=>
    obtain⟨n,m⟩:=p
    rw [e] at h
    simp only at h
    by_cases h1:n+(a+m+4)≤s.size
    · rw [if_pos h1] at h
      split at h
      · rename_i h2
        simp only [Option.some.injEq,Prod.mk.injEq] at h
        obtain⟨rfl,rfl⟩:=h
        refine⟨by omega,by omega,Prod.ext h2.2 h2.1,?_⟩
        have h3:=h2.1
        unfold frame at h3
        split at h3
        · omega
        · cases h3
      · cases h
    · rw [if_neg h1] at h;cases h
def unf:Nat→ByteArray→List ByteArray→Nat→List ByteArray × Nat
  |0,_,acc,a=>(acc,a)
  |f+1,s,acc,a=>match nextF s a with|none=>(acc,a)|some (t,b)=>unf f s (acc++ [t]) b
theorem unf_enough (s:ByteArray):∀(f g:Nat) (acc:List ByteArray) (a:Nat),s.size≤a+f→s.size≤a+g→a≤s.size→unf f s acc a=unf g s acc a:=by
  have none_at:∀a,s.size≤a→nextF s a=none:=by
    intro a ha
    unfold nextF
    rw [List.drop_of_length_le (by rw [bytesOf_length];exact ha)];rfl
  intro f
  induction f with
  |zero=>
    intro g acc a h1 h2 h3
    cases g with
    |zero=>rfl
    |succ g=>simp only [unf];rw [none_at a (by omega)]
  |succ f ih=>
    intro g acc a h1 h2 h3
    cases g with
    |zero=>simp only [unf];rw [none_at a (by omega)]
    |succ g=>
      simp only [unf]
      cases e:nextF s a with
      |none=>rfl
      |some p=>
        obtain⟨t,b⟩:=p
        have:=nextF_some e
        exact ih g _ b (by omega) (by omega) (by omega)
def unframe (s:ByteArray):List ByteArray × Nat:=if s.size≤20000 then unf s.size s [] 0 else([],0)
theorem unf_length (s:ByteArray):∀(f:Nat) (acc:List ByteArray) (a:Nat),a≤s.size→acc.length≤a→(unf f s acc a).1.length≤s.size∧(unf f s acc a).2≤s.size:=by
  intro f
  induction f with
  |zero=>intro acc a h1 h2;simp only [unf];omega
  |succ f ih=>
    intro acc a h1 h2
    simp only [unf]
    cases e:nextF s a with
    |none=>simp only;omega
    |some p=>
      obtain⟨t,b⟩:=p
      have:=nextF_some e
      exact ih _ b (by omega) (by simp;omega)
theorem unframe_length (s:ByteArray):(unframe s).1.length≤20000∧(unframe s).2≤20000:=by
  unfold unframe
  by_cases h:s.size≤20000
  · rw [if_pos h]
    have:=unf_length s s.size [] 0 (by omega) (by simp)
    omega
  · rw [if_neg h];simp
def mtD (n:Nat) (acc:ByteArray):ByteArray:=if 0<n then mtD (n / 10) (strOfNums [((48+n % 10:Nat):Int)]++acc) else acc
termination_by n
decreasing_by omega
def mkT (n:Int):ByteArray:=if n≤0 then⟨#[109,48]⟩ else(⟨#[109]⟩:ByteArray)++mtD n.toNat ⟨#[]⟩
theorem rdOf_nat {α:Type} (d:α) (l:List α) (i:Nat) (h:i<l.length):rdOf d l (i:Int)=l[i]:=by
  simp [rdOf,List.getD_eq_getElem?_getD,List.getElem?_eq_getElem h]
theorem mark_step {α:Type} (M l:List α) (i:Nat) (h:i<l.length) (hM:M.length=l.length):
    (M.take i++l.drop i).set i (M[i]'(by omega))=M.take (i+1)++l.drop (i+1):=by
  rw [List.set_append_right _ _ (by simp [List.length_take];omega)]
  have e:i - (M.take i).length=0:=by simp [List.length_take];omega
  rw [e,List.drop_eq_getElem_cons h,List.set_cons_zero,List.take_succ_eq_append_getElem (by omega),List.append_assoc]
  rfl
def idxP {α:Type} (p:α→Bool):List α→Int→Int
  | [],_=>-1
  |x :: l,i=>if p x=true then i else idxP p l (i+1)
theorem idxP_cases {α:Type} (p:α→Bool):∀(l:List α) (i:Int),(idxP p l i= -1∧∀x∈l,p x=false)∨∃(k:Nat) (h:k<l.length),idxP p l i=i+k∧p l[k]=true
  | [],_=> .inl ⟨rfl,by simp⟩
  |x :: l,i=>by
    by_cases h:p x=true
    · exact .inr ⟨0,by simp,by simp [idxP,h],by simpa using h⟩
    · rcases idxP_cases p l (i+1) with ⟨h1,h2⟩|⟨k,hk,h1,h2⟩
      · refine .inl ⟨by simp only [idxP,if_neg h];exact h1,?_⟩
        intro y hy
        rcases List.mem_cons.1 hy with rfl|hy
        · simpa using h
        · exact h2 y hy
      · refine .inr ⟨k+1,by simpa using hk,?_,by simpa using h2⟩
        simp only [idxP,if_neg h,h1]
        omega
theorem rvL_text:∀(f:Nat) (p l:List Int) (n m:Nat),(∀x∈p,128≤x∧x<256)→(∀x∈l,0≤x∧x≤255)→rvL f p.length (valL p) l=some (n,m)→p.length<m∧varL n=p++l.take (m - p.length)
  |0,_,_,_,_,_,_,h=>by simp [rvL] at h
  |_+1,_,[],_,_,_,_,h=>by simp [rvL] at h
  |f+1,p,c :: l,n,m,hp,hl,h=>by
    have hc:=hl c (by simp)
    simp only [rvL] at h
    rw [←valL_snoc] at h
    by_cases hlt:c<128
    · rw [if_pos hlt] at h
      split at h
      · rename_i hq
        simp only [Option.some.injEq,Prod.mk.injEq] at h
        obtain⟨rfl,rfl⟩:=h
        refine⟨by omega,?_⟩
        rw [varL_val p hp c hc.1 hlt hq.2]
        simp
      · cases h
    · rw [if_neg hlt] at h
      have ih:=rvL_text f (p++ [c]) l n m (by
        intro x hx
        rcases List.mem_append.1 hx with hx|hx
        · exact hp x hx
        · rw [List.mem_singleton.1 hx];omega) (fun x hx=>hl x (by simp [hx])) (by rw [List.length_append];exact h)
      rw [List.length_append,List.length_singleton] at ih
      refine⟨by omega,?_⟩
      rw [ih.2,List.append_assoc]
      have e:m - p.length=(m - (p.length+1))+1:=by omega
      rw [e,List.take_succ_cons];rfl
theorem rvar_text {s:ByteArray} {a n m:Nat} (h:rvar ((bytesOf s).drop a)=some (n,m)):varL n=((bytesOf s).drop a).take m:=by
  have:=rvL_text 5 [] ((bytesOf s).drop a) n m (by simp) (fun x hx=>bytes_range s x (List.mem_of_mem_drop hx)) h
  simpa using this.2
theorem rvar_vt {s:ByteArray} {a n m:Nat} (h:rvar ((bytesOf s).drop a)=some (n,m)):vt n=s.extract a (a+m):=bytes_inj (by
  rw [bytes_vt,rvar_text h,bytes_extract];congr 1;omega)
theorem rvar_some {s:ByteArray} {a n m:Nat} (h:rvar ((bytesOf s).drop a)=some (n,m)):n≤1000000000∧1≤m∧a+m≤s.size:=by
  have:=rvL_some 5 0 0 _ n m h
  rw [List.length_drop,bytesOf_length] at this
  omega
theorem extract_extract_append (s:ByteArray) (a b c:Nat) (h:a≤b) (h':b≤c):s.extract a b++s.extract b c=s.extract a c:=bytes_inj (by
  rw [bytes_append,bytes_extract,bytes_extract,bytes_extract]
  have e:c - a=(b - a)+(c - b):=by omega
  rw [e,List.take_add,List.drop_drop]
  congr 3;omega)
end Go.Proofs.YtolakamimfhcjaaGreatDoor.M
