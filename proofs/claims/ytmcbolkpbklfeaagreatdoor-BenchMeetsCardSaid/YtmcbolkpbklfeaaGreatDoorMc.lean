import Derived.Test.YtmcbolkpbklfeaaGreatDoorShort
import Derived.Test.YtmcbolkpbklfeaaGreatDoorNumParse
import Derived.Test.YtmcbolkpbklfeaaGreatDoorNumPlain
import Derived.Test.YtmcbolkpbklfeaaGreatDoorBase
import Derived.Test.YtmcbolkpbklfeaaGreatDoorShelf
import Derived.Lib.LaidTab
import Derived.Lib.ItoaLen
/- merged by wip/merge.py from: NumIs NumMay Tab NumText NumCanon -/
set_option maxRecDepth 100000
set_option maxHeartbeats 51200000
namespace Go.Proofs.YtmcbolkpbklfeaaGreatDoor
section
open Go.RowKit
theorem isNum_iff {l:List UInt8}:isNum l=true ↔ l≠[]/\(1 < l.length->l.getD 0 0≠48)/\(∀ c ∈ l,isDig c=true):=by
 unfold isNum
 cases l with
 | nil=>simp
 | cons a l =>
  simp only [List.isEmpty_cons,Bool.not_false,Bool.true_and,Bool.and_eq_true,List.all_eq_true,Bool.not_eq_true',Bool.and_eq_false_iff,decide_eq_false_iff_not,beq_eq_false_iff_ne,ne_eq,reduceCtorEq,not_false_eq_true,true_and]
  constructor
  ·rintro ⟨h1,h2⟩;exact⟨fun h=>by rcases h1 with h1 | h1;exact absurd h h1;exact h1,h2⟩
  ·rintro ⟨h1,h2⟩;refine⟨?_,h2⟩
   by_cases h:1 < (a :: l).length
   ·exact .inr (h1 h)
   ·exact .inl h
theorem may_any (n:Int) (h:I64 n) (w:World) :
  Calls Tryz.prog 290 #[.int .i64 n] w fun e w'=>e=.returned (.bool (mayB n))/\w=w':=by
 have h1:=h.lo;have h2:=h.hi;clear h
 go_enter Tryz.func290,Tryz.ntmps290
 go_wp2
 all_goals go_ret
 all_goals refine⟨ret_bool ?_,rfl⟩
 ·symm;rw [mayB_iff];omega
 ·symm;rw [mayB_iff];omega
 ·rw [Bool.eq_iff_iff,mayB_iff];simp;omega
def TabOk (w : World) : Prop := Lib.TabIs Tryz.prog w "internal/strconv.uint64pow10" .u64 Lib.pow10Tab
theorem gTab : Tryz.prog.globalNamed "internal/strconv.uint64pow10" = some 3 := by kernel_rfl
theorem TabOk.keep {w w':World} (h:TabOk w) (hk:w'.heap[3]?=w.heap[3]?):TabOk w':=by
 unfold TabOk Lib.TabIs World.var? at *;rw [gTab] at *;simp only [Option.bind_some] at *;rw [hk];exact h
theorem TabOk.lt {w:World} (h:TabOk w):3 < w.heap.size:=by
 unfold TabOk Lib.TabIs World.var? at h;rw [gTab] at h;simp only [Option.bind_some] at h;rcases Nat.lt_or_ge 3 w.heap.size with h1 | h1
 ·exact h1
 ·rw [Array.getElem?_eq_none h1] at h;cases h
theorem TabOk.on {w w':World} (h:TabOk w) (hb:Below w.heap.size w w'):TabOk w':=h.keep (hb.block _ h.lt)
theorem grow_below (w:World) (k:Nat) (os:Array Obj):Below w.heap.size w (Go.Sort.grow (w.drewN k) os) :=
 ⟨rfl,rfl,rfl,by simp [Go.Sort.grow,World.drewN],fun i hi=>by
  show(w.heap ++ os)[i]?=_;rw [Array.getElem?_append_left hi]⟩
theorem itoa_any (n:Int) (hn:I64 n) (w:World) (ht:TabOk w) :
  Calls Tryz.prog 18 #[.int .i64 n] w fun e w'=>e=.returned (.string ⟨(Lib.itoa n).toArray⟩)/\Below w.heap.size w w' :=
 (Tryz.strconv_Itoa n hn.1 hn.2 w ht).mono fun _ _ ⟨he,k,os,hw⟩=>⟨he,by rw [hw];exact grow_below w k os⟩
def textL (n:Int):List UInt8:=if mayB n then(if n < 0 then [40,45,32] ++ Lib.itoa (-n) ++ [41] else Lib.itoa n) else []
def textE (n:Int):Int:=if mayB n then 0 else 10
theorem text_neg {n:Int} (hm:mayB n=true) (h:n < 0):textL n=[40,45,32] ++ Lib.itoa (-n) ++ [41]/\textE n=0:=by simp [textL,textE,hm,h]
theorem text_pos {n:Int} (hm:mayB n=true) (h:¬ n < 0):textL n=Lib.itoa n/\textE n=0:=by simp [textL,textE,hm,h]
theorem text_no {n:Int} (hm:mayB n=false):textL n=[]/\textE n=10:=by simp [textL,textE,hm]
theorem text_any (n:Int) (hn:I64 n) (w:World) (ht:TabOk w) :
  Calls Tryz.prog 205 #[.int .i64 n] w fun e w'=>e=.returned (.tuple #[.string ⟨(textL n).toArray⟩,.int .i64 (textE n)])/\Below w.heap.size w w':=by
 have HT:=kp ht;clear ht
 cases hm:mayB n with
 | true =>
  have hb:=mayB_iff.1 hm;obtain ⟨hb0,hb1⟩:=hb
  by_cases h0:n < 0
  ·have HX:=kp (text_neg hm h0);have HM:=kp hm;clear hm
   go_enter Tryz.func205,Tryz.ntmps205
   go_wp2_with (go_at_call 290;refine(may_any n hn _).mono ?_;rw [HM.out];rintro e w' ⟨rfl,rfl⟩)
   refine(itoa_any (-n) ⟨by omega,by omega⟩ w HT.out).mono ?_;rintro e w1 ⟨rfl,hb⟩;have HB:=kp hb;clear hb;have hlen:=Lib.itoa_length_le (-n) (by omega) (by omega);generalize Lib.itoa (-n)=L at *;go_wp2_with fail
   have hx:=HX.out;go_ret2;exact⟨pair_str_int ⟨by rw [hx.1];show ByteArray.mk [40,45,32].toArray ++ ByteArray.mk L.toArray ++ ByteArray.mk [41].toArray=_;rw [ByteArray.mk_append_mk,ByteArray.mk_append_mk],hx.2.symm⟩,HB.out⟩
  ·have HX:=kp (text_pos hm h0);have HM:=kp hm;clear hm
   go_enter Tryz.func205,Tryz.ntmps205
   go_wp2_with (go_at_call 290;refine(may_any n hn _).mono ?_;rw [HM.out];rintro e w' ⟨rfl,rfl⟩)
   refine(itoa_any n hn w HT.out).mono ?_;rintro e w1 ⟨rfl,hb⟩;have HB:=kp hb;clear hb;go_wp2_with fail
   have hx:=HX.out;go_ret2;exact⟨pair_str_int ⟨by rw [hx.1],hx.2.symm⟩,HB.out⟩
 | false =>
  have HX:=kp (text_no hm);have HM:=kp hm;clear hm
  go_enter Tryz.func205,Tryz.ntmps205
  go_wp2_with (go_at_call 290;refine(may_any n hn _).mono ?_;rw [HM.out];rintro e w' ⟨rfl,rfl⟩)
  have hx:=HX.out;go_ret2;exact⟨pair_str_int ⟨by rw [hx.1],hx.2.symm⟩,Below.refl _ _⟩
theorem dig16 {c:UInt8} (h:isDig c=true):(c.toNat:Int) % 16=(c.toNat:Int) - 48:=by
 have:=isDig_iff.1 h;omega
theorem byte_of_dig {c:UInt8} (h:isDig c=true) {d:Nat} (hd:(c.toNat:Int) - 48=d):c=UInt8.ofNat (48+d):=by
 have:=isDig_iff.1 h
 apply UInt8.toNat_inj.1
 rw [UInt8.toNat_ofNat',Nat.mod_eq_of_lt (by omega)];omega
theorem digits_of_put (l:List UInt8) (hn:isNum l=true) (n:Int) (h:putAll (0,false) l=(n,false)) :
  0<=n/\n<=4611686018427387904/\Lib.decDigits n.toNat=l/\(l.getD 0 0≠48->1<=n):=by
 induction hk:l.length generalizing l n with
 | zero =>
  have:=List.length_eq_zero_iff.1 hk;subst this;exact absurd hn (by decide)
 | succ k ih =>
  obtain ⟨hne,hz,hd⟩:=isNum_iff.1 hn;have hle:=putAll_le l (List.all_eq_true.2 hd);rw [h] at hle;refine⟨hle.1,hle.2,?_⟩;obtain ⟨l',c,rfl⟩:∃ l' c,l=l' ++ [c]:=⟨l.dropLast,l.getLast hne,(List.dropLast_concat_getLast hne).symm⟩;have hc:isDig c=true:=hd c (by simp);have hc9:=isDig_iff.1 hc;rw [putAll_snoc,dig16 hc] at h
  by_cases h0:l'=[]
  ·subst h0;have e:putAll (0,false) []=(0,false):=rfl;rw [e] at h;unfold putN at h;rw [if_neg (by simp;omega)] at h;simp only [Prod.mk.injEq] at h;have hnn:n=((n.toNat:Nat):Int):=by omega
   refine⟨?_,?_⟩
   ·rw [Lib.decDigits_one (by omega)];simp only [List.nil_append,List.cons.injEq,and_true];exact(byte_of_dig hc (by omega)).symm
   ·intro h48;simp at h48
    have:(c.toNat:Int)≠48:=fun e2=>h48 (by
     have:=byte_of_dig hc (d:=0) (by omega)
     simpa using this)
    omega
  ·have hl2:1 < (l' ++ [c]).length:=by
    have:0 < l'.length:=List.length_pos_iff.2 h0;simp;omega
   have h48:=hz hl2
   have hg:(l' ++ [c]).getD 0 0=l'.getD 0 0:=by
    cases l' with
    | nil=>exact absurd rfl h0
    | cons a r=>rfl
   rw [hg] at h48;have hn':isNum l'=true:=isNum_iff.2 ⟨h0,fun _=>h48,fun x hx=>hd x (by simp [hx])⟩;obtain ⟨m,o,hp⟩:∃ m o,putAll (0,false) l'=(m,o):=⟨_,_,rfl⟩;rw [hp] at h
   have ho:o=false:=by
    unfold putN at h
    split at h <;> simp only [Prod.mk.injEq] at h
    ·exact absurd h.2 (by decide)
    ·exact h.2
   subst ho;obtain ⟨m0,m1,hdg,hm1⟩:=ih l' hn' m hp (by simp at hk;omega);have hm:=hm1 h48;unfold putN at h
   split at h
   ·simp only [Prod.mk.injEq] at h;exact absurd h.2 (by decide)
   ·simp only [Prod.mk.injEq] at h;have e10:n.toNat / 10=m.toNat:=by omega
    refine⟨?_,fun _=>by omega⟩;rw [Lib.decDigits,dif_neg (by omega),e10,hdg]
    congr 1
    simp only [List.cons.injEq,and_true];exact(byte_of_dig hc (by omega)).symm
theorem parse_split (l:List UInt8):(parseE l=20/\parseV l=0)\/(parseE l=10/\parseV l=0) \/
  (parseE l=0/\isNum l=true/\0<=parseV l/\parseV l<=4611686018427387904/\Lib.decDigits (parseV l).toNat=l):=by
 cases hn:isNum l with
 | false=>left;simp [parseE,parseV,hn]
 | true =>
  right
  cases ho:(putAll (0,false) l).2 with
  | true=>left;simp [parseE,parseV,hn,ho]
  | false =>
   right
   have hp:=parse_fits hn ho;have:=digits_of_put l hn (putAll (0,false) l).1 (Prod.ext rfl ho);rw [hp.1];exact⟨hp.2,rfl,this.1,this.2.1,this.2.2.1⟩
theorem text_of_parse {l:List UInt8} (h:parseE l=0):0<=parseV l/\textE (parseV l)=0/\textL (parseV l)=l:=by
 rcases parse_split l with h1 | h1 | ⟨_,_,h0,h1,h2⟩
 ·omega
 ·omega
 ·have hm:mayB (parseV l)=true:=by rw [mayB_iff];omega
  have ht:=text_pos hm (by omega);refine⟨h0,ht.2,?_⟩;rw [ht.1];have:parseV l=((parseV l).toNat:Int):=by omega
  rw [this,Lib.itoa_nonneg];exact h2
end
end Go.Proofs.YtmcbolkpbklfeaaGreatDoor
