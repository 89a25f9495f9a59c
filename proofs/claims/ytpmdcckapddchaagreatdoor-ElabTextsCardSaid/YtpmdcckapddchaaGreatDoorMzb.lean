import Derived.Test.YtpmdcckapddchaaGreatDoorShort
import Derived.Test.YtpmdcckapddchaaGreatDoorMh
import Derived.Test.YtpmdcckapddchaaGreatDoorMx
import Derived.Test.YtpmdcckapddchaaGreatDoorMe
import Derived.Test.YtpmdcckapddchaaGreatDoorMi
import Derived.Test.YtpmdcckapddchaaGreatDoorMc
/- merged by wip/merge.py from: ElTop ElSorts ElSorts2 ElBackP ElWake -/
set_option maxRecDepth 100000
set_option maxHeartbeats 51200000
namespace Go.Proofs.YtpmdcckapddchaaGreatDoor
namespace El
open Go.RowKit Dt Sg
def st0 (t:List Node):St:=⟨t,0,0⟩
def sortP (g:Sig) (env:Env) (x:Sexp):V × St:=termP ⟨g,0,false⟩ g.macros.length x env (st0 [])
def sortO (g:Sig) (env:Env) (x:Sexp):Int × Int :=
 if checkE g≠0\/x.may=false then(0,2)
 else if(sortP g env x).2.e=0 then((sortP g env x).1.1,0) else(0,(sortP g env x).2.e)
def envOf (vars:List Param):Env:=(vars.map fun p=>(p.name,(p.sort,(0:Int)))).reverse
def makeP (g:Sig) (most:Int) (x:Sexp) (t:List Node):V × St:=termP ⟨g,most,true⟩ g.macros.length x [] (st0 t)
def termO (g:Sig) (t:List Node) (x:Sexp) (most:Int):List Node × Int × Int :=
 if tableE g t≠0 then([],0,2)
 else if(sortO g [] x).2≠0 then([],0,(sortO g [] x).2)
 else if(makeP g most x t).2.e≠0 then([],0,(makeP g most x t).2.e)
 else((makeP g most x t).2.t,(makeP g most x t).1.2,0)
def symX (s:ByteArray):Sexp:=.mk 0 s []
theorem table_parts {g:Sig} {t:List Node}:tableE g t=0 ↔ checkE g=0/\checkT t=true/\sortedB g t=true:=by
 unfold tableE checkTE
 by_cases h1:checkE g=0
 ·cases h2:checkT t with
  | true=>cases h3:sortedB g t <;> simp [h1]
  | false=>simp [h1]
 ·simp [h1]
theorem checkT_parts {t:List Node}:checkT t=true ↔ t.take 2=newT/\standsTo t t.length=true/\t.Nodup:=by
 unfold checkT;simp [Bool.and_eq_true,and_assoc]
theorem standsTo_at {t:List Node} {k:Nat} (h:standsTo t t.length=true) {n:Node} (hn:t[k]?=some n):standsN n k=true:=by
 unfold standsTo at h;rw [List.all_eq_true] at h;have:=h k (List.mem_range.2 (gqs hn).1)
 rwa [hn] at this
def ValIn (t:List Node) (v:V):Prop:=∃ (k:Nat) (x:Node),v.2=(k:Int)/\t[k]?=some x/\x.sort=v.1
theorem ValIn.more {t u:List Node} {v:V} (h:ValIn t v) (hu:t <+: u):ValIn u v:=by
 obtain ⟨k,x,h1,h2,h3⟩:=h;obtain ⟨r,rfl⟩:=hu;exact⟨k,x,h1,by rw [List.getElem?_append_left (gqs h2).1];exact h2,h3⟩
theorem ValIn.sorts {t:List Node} {v:V} (h:ValIn t v) (hc:checkT t=true):0<=v.1/\v.1 < 6:=by
 obtain ⟨k,x,h1,h2,h3⟩:=h;have hs:=standsTo_at (checkT_parts.1 hc).2.1 h2;rw [stands_split] at hs;unfold headOkB at hs;simp only [Bool.and_eq_true,decide_eq_true_eq] at hs;rw [← h3];exact⟨hs.1.1.1.1.2,hs.1.1.1.2⟩
section
variable {g:Sig} {t:List Node} {k:Nat} {n:Node}
theorem table_node (h:tableE g t=0) (hn:t[k]?=some n):standsN n k=true/\sortProg g t n=(n.sort,0):=by
 obtain ⟨h1,h2,h3⟩:=table_parts.1 h;refine⟨standsTo_at (checkT_parts.1 h2).2.1 hn,?_⟩;unfold sortedB at h3;rw [List.all_eq_true] at h3;have:=h3 n (mgq hn);unfold sortedN at this;simp only [Bool.and_eq_true,decide_eq_true_eq] at this;exact Prod.ext this.2 this.1
structure NodeOk (n:Node) (k:Nat):Prop where
 len:0<=n.len/\n.len<=3
 arg:∀ i:Nat,(i:Int) < n.len->0<=n.arg i/\n.arg i < k
 rest:∀ i:Nat,i < 3->n.len<=(i:Int)->n.arg i=0
 fn:n.op≠13->n.fn=0
 num:n.op=10\/n.op=11\/n.op=12->mayB n.n=true
 zero:¬ (n.op=10\/n.op=11\/n.op=12)->n.n=0
theorem node_ok (h:standsN n k=true):NodeOk n k:=by
 unfold standsN at h
 cases ha:arityN n.op with
 | none=>rw [ha] at h;cases h
 | some q =>
  obtain ⟨lo,hi⟩:=q;rw [ha] at h;simp only [Bool.and_eq_true,decide_eq_true_eq,Bool.or_eq_true] at h;obtain ⟨⟨⟨⟨⟨⟨⟨hlen,hsort⟩,a0⟩,a1⟩,a2⟩,hfn⟩,hf13⟩,hnum⟩:=h
  have hb:0<=lo/\hi<=3:=by
   unfold arityN at ha
   repeat' split at ha
   all_goals first
    | (cases ha;done)
    | (simp only [Option.some.injEq,Prod.mk.injEq] at ha;omega)
  have harg:∀ i,i < 3->argOkB n k i=true:=fun i hi=>by
   match i,hi with
   | 0,_=>exact a0
   | 1,_=>exact a1
   | 2,_=>exact a2
  refine⟨⟨by omega,by omega⟩,fun i hi=>?_,fun i hi hl=>?_,fun h13=>?_,fun hk=>?_,fun hk=>?_⟩
  ·have:=harg i (by omega);unfold argOkB at this;rw [if_pos hi] at this;exact of_decide_eq_true this
  ·have:=harg i hi;unfold argOkB at this;rw [if_neg (by omega)] at this;exact of_decide_eq_true this
  ·rcases hf13 with h | h
   ·exact h
   ·exact absurd h h13
  ·rwa [if_pos hk] at hnum
  ·rw [if_neg hk] at hnum;exact of_decide_eq_true hnum
theorem args_get {i:Nat} (h:NodeOk n k) (hi:(i:Int) < n.len):(argsOf n)[i]?=some (n.arg i):=by
 have h3:=h.len;unfold argsOf;rw [List.getElem?_take,if_pos (by omega)];have:i < 3:=by omega
 match i,this with
 | 0,_=>rfl
 | 1,_=>rfl
 | 2,_=>rfl
theorem args_len (h:NodeOk n k):(argsOf n).length=n.len.toNat:=by
 have:=h.len;unfold argsOf;rw [List.length_take];simp
 omega
theorem args_mem (h:NodeOk n k) {a:Int} (ha:a ∈ argsOf n):0<=a/\a < k:=by
 obtain ⟨i,hi⟩:=List.getElem?_of_mem ha;have hl:=(gqs hi).1;rw [args_len h] at hl;have h3:=h.len;rw [args_get h (by omega)] at hi
 cases hi
 exact h.arg i (by omega)
theorem ahead_of (h:tableE g t=0):Ahead t:=fun _ _ hn _ ha=>args_mem (node_ok (table_node h hn).1) ha
def valN (c:Cx) (t:List Node) (a:Int):V:=((nodeAt t a).sort,if c.build=true then a else 0)
def valsN (c:Cx) (t:List Node) (n:Node):List V:=(argsOf n).map (valN c t)
end
end El
namespace El
open Go.RowKit Dt Sg
inductive RdAll:List UInt8->List Sexp->List UInt8->Prop
 | nil {l rest:List UInt8} (h:nextL (skipL false l)=.tok 1 [] rest):RdAll l [] rest
 | cons {l m rest:List UInt8} {x:Sexp} {xs:List Sexp} (hc:∀ t q,nextL (skipL false l)≠.tok 1 t q) (hx:Rd l x m) (hr:RdAll m xs rest):RdAll l (x :: xs) rest
theorem RdAll.places {l rest:List UInt8} {xs:List Sexp} (h:RdAll l xs rest):∃ f:Nat->List UInt8,f 0=l/\(∀ i,i < xs.length->∀ t q,nextL (skipL false (f i))≠.tok 1 t q)/\(∀ i x,xs[i]?=some x->Rd (f i) x (f (i+1)))/\nextL (skipL false (f xs.length))=.tok 1 [] rest:=by
 induction h with
 | @nil l rest h=>exact⟨fun _=>l,rfl,fun i hi=>by simp at hi,fun i x hx=>by simp at hx,h⟩
 | @cons l m rest x xs hc hx hr ih =>
  obtain ⟨f,h0,h1,h2,h3⟩:=ih;refine⟨fun i=>match i with | 0=>l | j+1=>f j,rfl,fun i hi=>?_,fun i y hy=>?_,h3⟩
  ·cases i with
   | zero=>exact hc
   | succ j=>exact h1 j (by simp at hi;omega)
  ·cases i with
   | zero =>
    obtain rfl:x=y:=by simpa using hy
    show Rd l x (f 0);rw [h0];exact hx
   | succ j=>exact h2 j y (by simpa using hy)
theorem Rd.of_all {l r rest:List UInt8} {xs:List Sexp} (h:nextL (skipL false l)=.tok 0 [] r) (ha:RdAll r xs rest):Rd l (.mk 3 { data:=#[] } xs) rest:=by
 obtain ⟨f,h0,h1,h2,h3⟩:=ha.places;exact .list f h h0 h1 h2 h3
def bX:ByteArray:={ data:=#[120] }
def bY:ByteArray:={ data:=#[121] }
def bF:ByteArray:={ data:=#[102] }
def bP:ByteArray:={ data:=#[112] }
def bS:ByteArray:={ data:=#[115] }
def b3:ByteArray:={ data:=#[51] }
def smallG:Sig:=⟨[{ data:=#[83] }],[⟨bX,0,0,0,0,1⟩,⟨bY,0,0,0,0,1⟩,⟨bF,1,1,0,0,1⟩,⟨bP,0,0,0,0,0⟩,⟨bS,0,0,0,0,2⟩],[]⟩
def txA:ByteArray:={ data:=#[40,60,61,32,40,45,32,120,32,121,41,32,51,41] }
def txB:ByteArray:={ data:=#[40,100,105,115,116,105,110,99,116,32,120,32,121,41] }
def txC:ByteArray:={ data:=#[40,43,32,120,32,121,41] }
def xA:Sexp:=.mk 3 { data:=#[] } [symX sLe,.mk 3 { data:=#[] } [symX sMinus,symX bX,symX bY],.mk 1 b3 []]
def xB:Sexp:=.mk 3 { data:=#[] } [symX sDistinct,symX bX,symX bY]
def xC:Sexp:=.mk 3 { data:=#[] } [symX sPlus,symX bX,symX bY]
theorem not_close {l:List UInt8} {k:Int} {t r:List UInt8} (h:nextL (skipL false l)=.tok k t r) (hk:k≠1):∀ t q,nextL (skipL false l)≠.tok 1 t q:=by
 intro t q e;rw [h] at e;simp only [Tk.tok.injEq] at e;exact hk e.1
theorem RdAll.sym {l t r rest:List UInt8} {s:ByteArray} {xs:List Sexp} (h:nextL (skipL false l)=.tok 2 t r) (hs:Lx.bs s=t) (hr:RdAll r xs rest):RdAll l (symX s :: xs) rest:=.cons (not_close h (by decide)) (.name h hs) hr
theorem rdA:Rd (from_ txA 0) xA []:=by
 refine Rd.of_all (r:=[60,61,32,40,45,32,120,32,121,41,32,51,41]) (by kernel_rfl) ?_;refine RdAll.sym (t:=[60,61]) (r:=[32,40,45,32,120,32,121,41,32,51,41]) (by kernel_rfl) (by kernel_rfl) ?_;refine .cons (m:=[32,51,41]) (not_close (k:=0) (t:=[]) (r:=[45,32,120,32,121,41,32,51,41]) (by kernel_rfl) (by decide)) ?_ ?_
 ·refine Rd.of_all (r:=[45,32,120,32,121,41,32,51,41]) (by kernel_rfl) ?_;refine RdAll.sym (t:=[45]) (r:=[32,120,32,121,41,32,51,41]) (by kernel_rfl) (by kernel_rfl) ?_;refine RdAll.sym (t:=[120]) (r:=[32,121,41,32,51,41]) (by kernel_rfl) (by kernel_rfl) ?_;refine RdAll.sym (t:=[121]) (r:=[41,32,51,41]) (by kernel_rfl) (by kernel_rfl) ?_;exact .nil (by kernel_rfl)
 ·refine .cons (m:=[41]) (not_close (k:=3) (t:=[51]) (r:=[41]) (by kernel_rfl) (by decide)) (.num (t:=[51]) (by kernel_rfl) (by kernel_rfl)) ?_;exact .nil (by kernel_rfl)
theorem rdB:Rd (from_ txB 0) xB []:=by
 refine Rd.of_all (r:=[100,105,115,116,105,110,99,116,32,120,32,121,41]) (by kernel_rfl) ?_;refine RdAll.sym (t:=[100,105,115,116,105,110,99,116]) (r:=[32,120,32,121,41]) (by kernel_rfl) (by kernel_rfl) ?_;refine RdAll.sym (t:=[120]) (r:=[32,121,41]) (by kernel_rfl) (by kernel_rfl) ?_;refine RdAll.sym (t:=[121]) (r:=[41]) (by kernel_rfl) (by kernel_rfl) ?_;exact .nil (by kernel_rfl)
theorem rdC:Rd (from_ txC 0) xC []:=by
 refine Rd.of_all (r:=[43,32,120,32,121,41]) (by kernel_rfl) ?_;refine RdAll.sym (t:=[43]) (r:=[32,120,32,121,41]) (by kernel_rfl) (by kernel_rfl) ?_;refine RdAll.sym (t:=[120]) (r:=[32,121,41]) (by kernel_rfl) (by kernel_rfl) ?_;refine RdAll.sym (t:=[121]) (r:=[41]) (by kernel_rfl) (by kernel_rfl) ?_;exact .nil (by kernel_rfl)
def ansB (o:List Node × Int × Int) (p:Node->Bool):Bool:=decide (o.2.2=0) && decide (0<=o.2.1) && (match o.1[o.2.1.toNat]? with | some n=>p n | none=>false)
theorem ansB_out {o:List Node × Int × Int} {p:Node->Bool} (h:ansB o p=true):o.2.2=0/\∃ k:Nat,o.2.1=k/\∃ n,o.1[k]?=some n/\p n=true:=by
 unfold ansB at h;simp only [Bool.and_eq_true,decide_eq_true_eq] at h;obtain ⟨⟨h1,h2⟩,h3⟩:=h;obtain ⟨k,hk⟩:=Int.eq_ofNat_of_zero_le h2;rw [hk] at h3;refine⟨h1,k,hk,?_⟩
 cases hn:o.1[k]? with
 | none=>simp [hn] at h3
 | some n=>exact⟨n,rfl,by simpa [hn] using h3⟩
theorem ansA:ansB (termO smallG newT xA 200) (fun n=>decide (n.op=12) && decide (n.n=3))=true:=by decide +kernel
theorem ansBd:ansB (termO smallG newT xB 200) (fun n=>decide (n.op=1))=true:=by decide +kernel
theorem ansC:(termO smallG newT xC 200).2.2=34:=by decide +kernel
end El
end Go.Proofs.YtpmdcckapddchaaGreatDoor
