import Derived.Test.YtpmdcckapddchaaGreatDoorShort
import Derived.Test.YtpmdcckapddchaaGreatDoorMb
import Derived.Test.YtpmdcckapddchaaGreatDoorRows
import Derived.Deep.Cut
import Derived.Deep.RegionHeld3
import Derived.Deep.RegionWith
import Derived.Lib.ItoaLen
import Derived.Deep.RegionLaw
import Derived.StillTailTactics
/- merged by wip/merge.py from: SexpSize Bulk SexpHead SexpRMay SigA SigF SigFree SigR SigMac SigCheckS ElPlain ElNeed ElNum SigChkA SexpStands SexpStand2 ElText ElTextP ElFind Great4 ElTreeP SigChk R3Size -/
set_option maxRecDepth 100000
set_option maxHeartbeats 51200000
namespace Go.Proofs.YtpmdcckapddchaaGreatDoor
namespace Dt
open Go.RowKit
mutual
def Sexp.full:Sexp->Nat
 | .mk _ t l=>1+t.size+Sexp.fullL l
def Sexp.fullL:List Sexp->Nat
 | []=>0
 | x :: r=>Sexp.full x+Sexp.fullL r
end
theorem Sexp.full_eq (x:Sexp):x.full=1+x.text.size+Sexp.fullL x.l:=by cases x;rw [Sexp.full];rfl
theorem Sexp.fullL_cons (x:Sexp) (r:List Sexp):Sexp.fullL (x :: r)=x.full+Sexp.fullL r:=by rw [Sexp.fullL]
theorem Sexp.fullL_nil:Sexp.fullL []=0:=by rw [Sexp.fullL]
theorem Sexp.fullL_append:∀ (l m:List Sexp),Sexp.fullL (l ++ m)=Sexp.fullL l+Sexp.fullL m
 | [],m=>by rw [List.nil_append,Sexp.fullL_nil,Nat.zero_add]
 | x :: r,m=>by rw [List.cons_append,Sexp.fullL_cons,Sexp.fullL_cons,Sexp.fullL_append r m];omega
theorem Sexp.fullL_take {l:List Sexp} {k:Nat} {y:Sexp} (h:l[k]?=some y):Sexp.fullL (l.take (k+1))=Sexp.fullL (l.take k)+y.full:=by
 rw [List.take_add_one,h];show Sexp.fullL (l.take k ++ [y])=_;rw [Sexp.fullL_append,Sexp.fullL_cons,Sexp.fullL_nil,Nat.add_zero]
end Dt
namespace Dt
open Go.RowKit Go.ChangeShapes Go.WideShapes Go.Deep
section
variable {H:Type} {enc:TypeId × Value->H}
def sumOf {α:Type} (sz:α->Nat):List α->Nat
 | []=>0
 | x :: r=>sz x+sumOf sz r
theorem sumOf_mem {α:Type} {sz:α->Nat}:∀ {l:List α} {x:α},x ∈ l->sz x<=sumOf sz l
 | [],_,h=>by cases h
 | y :: r,x,h=>by
  unfold sumOf;rcases List.mem_cons.1 h with h | h
  ·subst h;omega
  ·have:=sumOf_mem (sz:=sz) h;omega
theorem bulk_agg (l:List (DataW H)):Rows.uptoBulk (.agg l)=Rows.uptoBulkAll l+1:=by simp [Rows.uptoBulk]
theorem bulk_cons (d:DataW H) (l:List (DataW H)):Rows.uptoBulkAll (d :: l)=Rows.uptoBulk d+Rows.uptoBulkAll l:=by simp [Rows.uptoBulkAll]
theorem bulk_nil:Rows.uptoBulkAll ([]:List (DataW H))=0:=by simp [Rows.uptoBulkAll]
theorem bulk_slice (l m:List (DataW H)):Rows.uptoBulk (.slice l m)=Rows.uptoBulkAll l+Rows.uptoBulkAll m+1:=by simp [Rows.uptoBulk]
theorem bulk_sum {α:Type} {sz:α->Nat}:∀ {xs:List α} {ds:List (DataW H)},xs.length=ds.length->(∀ (i:Nat) x d,xs[i]?=some x->ds[i]?=some d->sz x<=Rows.uptoBulk d)->sumOf sz xs<=Rows.uptoBulkAll ds
 | [],[],_,_=>by unfold sumOf;exact Nat.zero_le _
 | x :: xs,d :: ds,hl,h=>by
  rw [bulk_cons];unfold sumOf;have h1:=h 0 x d rfl rfl;have h2:=bulk_sum (xs:=xs) (ds:=ds) (by simpa using hl) (fun i y e hy he=>h (i+1) y e (by simpa using hy) (by simpa using he))
  omega
 | [],d :: ds,hl,_=>by simp at hl
 | x :: xs,[],hl,_=>by simp at hl
theorem bulk_append (l m:List (DataW H)):Rows.uptoBulkAll (l ++ m)=Rows.uptoBulkAll l+Rows.uptoBulkAll m:=by
 induction l with
 | nil=>rw [List.nil_append,bulk_nil,Nat.zero_add]
 | cons d l ih=>rw [List.cons_append,bulk_cons,bulk_cons,ih];omega
theorem bulk_le {ds gs:List (DataW H)} (hk:Rows.uptoSmall H (ds ++ gs)=true):Rows.uptoBulkAll ds<=1048576:=by
 have h:Rows.uptoBulkAll (ds ++ gs)<=1048576:=of_decide_eq_true hk;rw [bulk_append] at h
 omega
def Weighs {α:Type} (H:Type) (enc:TypeId × Value->H) (t:TypeId) (R:World->List Value->α->Prop) (sz:α->Nat) (fuel:Nat):Prop :=
 ∀ (W:World) (cs:List Value) (y:DataW H × List MemPlace) (x:α),DataW.trod enc Tryz.prog W 0 (fun _=>true) true fuel t cs=some y->R W cs x->sz x<=Rows.uptoBulk y.1
def RowR' {α:Type} (n:Nat) (R:World->List Value->α->Prop) (W:World) (cs:List Value) (xs:List α):Prop:=∃ A cap,cs=[.slice A xs.length cap]/\Lies n R W A xs
theorem weighs_str (fuel:Nat):Weighs H enc 9 StrR (fun s=>s.size+1) fuel:=by
 intro W cs y x h hx;obtain ⟨s,h1,h2,_⟩:=DataW.trod_string Tryz.underlying9 h;rw [hx.1] at h1;simp only [List.cons.injEq,and_true,Value.string.injEq] at h1;subst h1;rw [h2];simp [Rows.uptoBulk]
theorem weighs_slice {α:Type} {R:World->List Value->α->Prop} {sz:α->Nat} {t e:TypeId} {n fuel:Nat} (ht:Tryz.prog.underlying t=some (.slice e)) (hn:Tryz.prog.cellsOf e=n)
  (hR:∀ fuel',fuel' < fuel->Weighs H enc e R sz fuel'):Weighs H enc t (RowR' n R) (fun xs=>sumOf sz xs+1) fuel:=by
 intro W cs y xs h hx;obtain ⟨A,cap,hcs,hl⟩:=hx;rcases DataW.trod_slice ht h with⟨e1,e2⟩ | ⟨a,len,cap',elems,rest,m,hfu,hcs',e2,_,_,_,hlen,hel,_⟩
 ·rw [hcs] at e1;simp only [List.cons.injEq,and_true,Value.slice.injEq] at e1;have:xs=[]:=List.length_eq_zero_iff.1 e1.2.1;subst this;rw [e2];simp [Rows.uptoBulk,sumOf]
 ·rw [hcs] at hcs';simp only [List.cons.injEq,and_true,Value.slice.injEq] at hcs';obtain ⟨hA,hxl,_⟩:=hcs';rw [e2];show sumOf sz xs+1<=Rows.uptoBulk (.slice _ _);rw [bulk_slice]
  have hs:sumOf sz xs<=Rows.uptoBulkAll (elems.map (·.1)):=by
   rcases hl with h0 | ⟨b,o,hA',hlt,hr⟩
   ·subst h0;unfold sumOf;exact Nat.zero_le _
   ·rw [hA] at hA';simp only [Option.some.injEq] at hA';subst hA';refine bulk_sum (by rw [List.length_map];omega) (fun i x d hx hd=>?_);rw [List.getElem?_map] at hd;have hi:i < len:=by have:=(gqs hx).1;omega
    obtain ⟨vs,h1,h2,h3⟩:=hr i x hx;have h4:=hel i hi
    cases hq:elems[i]? with
    | none=>rw [hq] at hd;cases hd
    | some el =>
     rw [hq] at hd h4;obtain rfl:el.1=d:=by simpa using hd
     obtain ⟨vs',hv,ht'⟩:=Option.bind_eq_some_iff.1 h4;rw [hn] at hv;obtain ⟨_,hvl,hat⟩:=World.cells?_some hv
     have hadd:∀ j,((⟨b,o,none⟩:Addr).add (i * n)).add j=⟨b,o+i * n+j,none⟩:=fun j=>by
      rw [Go.Deep.add_add];unfold Addr.add
      split
      ·simp_all
      ·simp [Nat.add_assoc]
     have:vs'=vs:=by
      apply List.ext_getElem?
      intro j;rcases Nat.lt_or_ge j n with hj | hj
      ·rw [← hat j hj,hadd];have hu:=gqe (show j < vs.length by omega);rw [hu];exact h2 j _ hu
      ·rw [List.getElem?_eq_none (by omega),List.getElem?_eq_none (by omega)]
     subst this;exact hR m (by omega) W _ _ x ht' h3
  omega
theorem fullL_sum:∀ l:List Sexp,Sexp.fullL l=sumOf Sexp.full l
 | []=>by rw [Sexp.fullL_nil];rfl
 | x :: r=>by rw [Sexp.fullL_cons,fullL_sum r];rfl
theorem weighs_sexp (fuel:Nat):Weighs H enc 40 SexpR Sexp.full fuel:=by
 induction fuel using Nat.strongRecOn with
 | _ fuel ih =>
  intro W cs y x h hx;obtain ⟨f0,f1,f2,hu,o0,o1,o2,t0,t1,t2⟩:=fSx;obtain ⟨ys,n,hfu,hy,_,hyl,hg⟩:=DataW.trod_struct hu h;obtain ⟨y0,y1,y2,rfl⟩:=list3 (show ys.length=3 from hyl);obtain ⟨A,c,rfl,hl,_,_,ht,_⟩:=hx.open';have g1:=hg 1 f1 rfl;have g2:=hg 2 f2 rfl;rw [o1,t1,cS] at g1;rw [o2,t2,cLSx] at g2;have b1:=weighs_str n W _ _ x.text g1 ⟨rfl,ht⟩;have b2:=weighs_slice (sz:=Sexp.full) (fuel:=n) Tryz.underlying38 cSx (fun m hm=>ih m (by omega)) W _ _ x.l g2 ⟨A,c,rfl,hl⟩;rw [hy];show x.full<=Rows.uptoBulk (.agg [y0.1,y1.1,y2.1]);rw [bulk_agg,bulk_cons,bulk_cons,bulk_cons,Sexp.full_eq,fullL_sum];simp only at b1 b2
  omega
theorem weighs_macro (fuel:Nat):Weighs H enc 58 MacroR (fun m=>m.body.full) fuel:=by
 intro W cs y m h hm;obtain ⟨f0,f1,f2,f3,hu,o0,o1,o2,o3,t0,t1,t2,t3⟩:=fMacro;obtain ⟨ys,n,hfu,hy,_,hyl,hg⟩:=DataW.trod_struct hu h;obtain ⟨y0,y1,y2,y3,rfl⟩:=list4 (show ys.length=4 from hyl);obtain ⟨A,c,bv,rfl,hb,_⟩:=hm;have g3:=hg 3 f3 rfl;rw [o3,t3,cSx] at g3;obtain ⟨A',c',rfl,_⟩:=hb.open';have b3:=weighs_sexp n W _ _ m.body g3 hb;rw [hy];show m.body.full<=Rows.uptoBulk (.agg [y0.1,y1.1,y2.1,y3.1]);rw [bulk_agg,bulk_cons,bulk_cons,bulk_cons,bulk_cons]
 omega
theorem weighs_sig (fuel:Nat):Weighs H enc 26 SigR (fun g=>sumOf (fun m=>m.body.full) g.macros) fuel:=by
 intro W cs y g h hg;obtain ⟨f0,f1,f2,hu,o0,o1,o2,t0,t1,t2⟩:=fSig;obtain ⟨ys,n,hfu,hy,_,hyl,hgg⟩:=DataW.trod_struct hu h;obtain ⟨y0,y1,y2,rfl⟩:=list3 (show ys.length=3 from hyl);obtain ⟨A1,c1,A2,c2,A3,c3,rfl,hS⟩:=hg;have g2:=hgg 2 f2 rfl;rw [o2,t2,cLMacro] at g2;have b2:=weighs_slice (sz:=fun m:Macro=>m.body.full) (fuel:=n) Tryz.underlying24 cMacro (fun m _=>weighs_macro m) W _ _ g.macros g2 ⟨A3,c3,rfl,hS.macros⟩;rw [hy];show _<=Rows.uptoBulk (.agg [y0.1,y1.1,y2.1]);rw [bulk_agg,bulk_cons,bulk_cons,bulk_cons];simp only at b2;show sumOf (fun m:Macro=>m.body.full) g.macros<=_
 omega
theorem bulk_sig {W:World} {cs:Array Value} {d:DataW H} {ps:List MemPlace} {g:Sig} (h:DataW.Trod enc Tryz.prog W 0 (fun _=>true) true 26 (.agg cs) d ps) (hg:SigR W cs.toList g):sumOf (fun m:Macro=>m.body.full) g.macros<=Rows.uptoBulk d:=by
 obtain ⟨fuel,ht⟩:=h;exact weighs_sig fuel W _ _ g ht hg
theorem bulk_sexp {W:World} {cs:Array Value} {d:DataW H} {ps:List MemPlace} {x:Sexp} (h:DataW.Trod enc Tryz.prog W 0 (fun _=>true) true 40 (.agg cs) d ps) (hx:SexpR W cs.toList x):x.full<=Rows.uptoBulk d:=by
 obtain ⟨fuel,ht⟩:=h;exact weighs_sexp fuel W _ _ x ht hx
theorem open_sx {W:World} {base:Nat} {v:Value} {d:DataW H} {ps:List MemPlace} (hval:Value.okWide Tryz.prog W .any base 40 v) (h:DataW.Trod enc Tryz.prog W 0 (fun _=>true) true 40 v d ps) (hf:Fits Tryz.prog 40 d) :
  ∃ x A c,v=.agg #[.int .i8 x.kind,.string x.text,.slice A x.l.length c]/\SexpR W [.int .i8 x.kind,.string x.text,.slice A x.l.length c] x:=by
 obtain ⟨f0,f1,f2,hu,_⟩:=fSx;obtain ⟨cs,rfl,hsz⟩:=okWide_struct hu hval;obtain ⟨fuel,ht⟩:=h;obtain ⟨x,hx⟩:=opens_sexp fuel W _ _ ht hf;have hx':=hx;obtain ⟨A,c,e,_⟩:=hx'.open';rw [e] at hx;refine⟨x,A,c,?_,hx⟩;have e2:cs.toList=_:=e
 congr 1
 exact Array.toList_inj.1 e2
end
end Dt
namespace Dt
open Go.RowKit
def headS (x:Sexp):ByteArray:=match x.l with
 | []=>{ data:=#[] }
 | y :: _=>if x.kind=3/\y.kind=0 then y.text else { data:=#[] }
theorem head_any {w:World} {A:Option Addr} {c:Nat} {x:Sexp} (h:SexpR w [.int .i8 x.kind,.string x.text,.slice A x.l.length c] x) :
  Calls Tryz.prog 138 #[.agg #[.int .i8 x.kind,.string x.text,.slice A x.l.length c]] w fun e w'=>e=.returned (.string (headS x))/\Below w.heap.size w w':=by
 obtain ⟨A0,c0,e0,hl,hc,hcm,_,hlb,_⟩:=h.open';simp only [List.cons.injEq,Value.slice.injEq,and_true,true_and] at e0;obtain ⟨rfl,rfl⟩:=e0;have HB:=kp ((brq w).alloc nlq (.cells #[.int .i8 x.kind,.string x.text,.slice A x.l.length c] 40))
 have HS:=kp (show headS x=match x.l with
  | []=>{ data:=#[] }
  | y :: _=>if x.kind=3/\y.kind=0 then y.text else { data:=#[] } from rfl)
 have HL:=kp hl;generalize headS x=hd at *;generalize x.text=t at *;generalize x.l=l at *;clear h hl
 by_cases hk:x.kind=3
 ·rw [hk] at HS HB ⊢
  cases l with
  | nil =>
   replace HS:=HS.out;subst HS
   go_enter Tryz.func138,Tryz.ntmps138
   go_wp2_with fail
   go_ret;exact⟨rfl,HB.out⟩
  | cons y r =>
   obtain ⟨b,o,A',c',rfl,hbl,e0,e1,e2,hr⟩:=sexp_cells HL.out (k:=0) (y:=y) rfl;have HC:=kp (show ∀ j u,w.cell? ⟨b,o+0 * 3+j,none⟩=some u->∀ w',Below w.heap.size w w'->w'.cell? ⟨b,o+0 * 3+j,none⟩=some u from fun j u hu w' hb=>(hb.cell (p:=⟨b,o+0 * 3+j,none⟩) hbl).trans hu);have hn:(((y :: r).length:Int) == 0)=false:=by rw [beq_eq_false_iff_ne,List.length_cons];omega
   have hn2:(0:Int) < ((y :: r).length:Int):=by rw [List.length_cons];omega
   generalize (y :: r).length=n at *;clear hr HL e2
   by_cases h0:y.kind=0
   ·replace HS:hd=y.text:=HS.out.trans (if_pos ⟨rfl,h0⟩);subst HS;rw [h0] at e0
    go_enter Tryz.func138,Tryz.ntmps138
    go_upto_region 1 with fail
    have d0:=HC.out 0 _ e0 _ HB.out;have d1:=HC.out 1 _ e1 _ HB.out;simp only [Nat.add_zero,Nat.zero_mul] at d0;simp only [Nat.add_zero,Nat.zero_mul] at d1;obtain ⟨q0,q1,q2,_⟩:=box_cells w (.int .i8 3) (.string t) (.slice (some ⟨b,o,none⟩) n c) 40;generalize w.alloc (.cells #[.int .i8 3,.string t,.slice (some ⟨b,o,none⟩) n c] 40)=w1 at *;go_wp2_with fail
    go_ret;exact⟨rfl,HB.out⟩
   ·replace HS:hd={ data:=#[] }:=HS.out.trans (if_neg (fun h=>h0 h.2));subst HS;have h0':(y.kind == 0)=false:=beq_eq_false_iff_ne.2 h0;have h0'':(y.kind != 0)=true:=by rw [bne,h0'];rfl
    generalize y.kind=yk at *
    go_enter Tryz.func138,Tryz.ntmps138
    go_upto_region 1 with fail
    have d0:=HC.out 0 _ e0 _ HB.out;simp only [Nat.add_zero,Nat.zero_mul] at d0;obtain ⟨q0,q1,q2,_⟩:=box_cells w (.int .i8 3) (.string t) (.slice (some ⟨b,o,none⟩) n c) 40;generalize w.alloc (.cells #[.int .i8 3,.string t,.slice (some ⟨b,o,none⟩) n c] 40)=w1 at *;go_wp2_with fail
    go_ret;exact⟨rfl,HB.out⟩
 ·have hk':(x.kind == 3)=false:=beq_eq_false_iff_ne.2 hk;have hk'':(x.kind != 3)=true:=by rw [bne,hk'];rfl
  replace HS:hd={ data:=#[] }:=by
   rw [HS.out]
   cases l with
   | nil=>rfl
   | cons y r=>exact if_neg (fun h=>hk h.1)
  subst HS;generalize x.kind=k at *;generalize l.length=n at *
  go_enter Tryz.func138,Tryz.ntmps138
  go_wp2_with fail
  go_ret;exact⟨rfl,HB.out⟩
end Dt
namespace Sg
open Go.RowKit Dt
def usableB (l:List UInt8):Bool:=Lx.mayB l && !Lx.resB l
theorem usable_any (s:ByteArray) (w:World) (hs:(s.size:Int)<=140737488351232) :
  Calls Tryz.prog 65 #[.string s] w fun e w'=>e=.returned (.bool (usableB (Lx.bs s)))/\w=w':=by
 have HM:=kp (Lx.may_any s w (by omega));have HR:=kp (Lx.reserved_any s w);unfold usableB;generalize Lx.mayB (Lx.bs s)=m at *;generalize Lx.resB (Lx.bs s)=r at *
 cases m with
 | false =>
  go_enter Tryz.func65,Tryz.ntmps65
  go_wp2_with fail
  refine(HM.out).mono ?_;rintro e w' ⟨rfl,rfl⟩;go_wp2_with fail
  go_ret;exact⟨rfl,rfl⟩
 | true =>
  go_enter Tryz.func65,Tryz.ntmps65
  go_wp2_with fail
  refine(HM.out).mono ?_;rintro e w' ⟨rfl,rfl⟩;go_wp2_with fail
  refine(HR.out).mono ?_;rintro e w' ⟨rfl,rfl⟩;go_wp2_with fail
  go_ret;exact⟨rfl,rfl⟩
def coreL:List (List UInt8):=[[116,114,117,101],[102,97,108,115,101],[110,111,116],[97,110,100],[111,114],[120,111,114],[61,62],[61],[100,105,115,116,105,110,99,116],[105,116,101],[43],[45],[60,61],[60],[62,61],[62]]
def coreB (l:List UInt8):Bool:=coreL.contains l
theorem core_any (s:ByteArray) (w:World) :
  Calls Tryz.prog 66 #[.string s] w fun e w'=>e=.returned (.bool (coreB (Lx.bs s)))/\w=w':=by
 go_enter Tryz.func66,Tryz.ntmps66
 go_wp2_with fail
 all_goals
  go_ret;exact⟨ret_bool (by rw [← Lx.bs_toList];simp_all [coreB,coreL]),rfl⟩
def thereB (n:Nat) (s:Int):Bool:=decide (0<=s/\s < 2+(n:Int))
theorem there_any (A1 A2 A3:Option Addr) (n1 c1 n2 c2 n3 c3:Nat) (s:Int) (w:World) (hn:(n1:Int)<=140737488351232) :
  Calls Tryz.prog 111 #[.agg #[.slice A1 n1 c1,.slice A2 n2 c2,.slice A3 n3 c3],.int .i64 s] w fun e w'=>e=.returned (.bool (thereB n1 s))/\Below w.heap.size w w':=by
 have HB:=kp ((brq w).alloc nlq (.cells #[.slice A1 n1 c1,.slice A2 n2 c2,.slice A3 n3 c3] 26));have HT:=kp (show thereB n1 s=decide (0<=s/\s < 2+(n1:Int)) from rfl)
 by_cases h0:0<=s
 ·by_cases h1:s < 2+(n1:Int)
  ·go_enter Tryz.func111,Tryz.ntmps111
   go_wp2_with fail
   go_ret;exact⟨ret_bool (by rw [HT.out];simp [h0,h1]),HB.out⟩
  ·have h1':=dfq h1
   go_enter Tryz.func111,Tryz.ntmps111
   go_wp2_with fail
   go_ret;exact⟨ret_bool (by rw [HT.out];simp [h1]),HB.out⟩
 ·have h0':=dfq h0
  go_enter Tryz.func111,Tryz.ntmps111
  go_wp2_with fail
  go_ret;exact⟨ret_bool (by rw [HT.out];simp;omega),HB.out⟩
def argB (n:Nat) (len:Int) (i:Nat) (a:Int):Bool:=if(i:Int) < len then thereB n a else a == 0
def funB (n:Nat) (f:Fun4):Bool:=decide (0<=f.len/\f.len<=3) && thereB n f.res && argB n f.len 0 f.a0 && argB n f.len 1 f.a1 && argB n f.len 2 f.a2
def argOf (f:Fun4) (i:Nat):Int:=if i=0 then f.a0 else if i=1 then f.a1 else f.a2
def okTo (n:Nat) (f:Fun4) (k:Nat):Bool:=(List.range k).all fun i=>argB n f.len i (argOf f i)
theorem okTo_succ (n:Nat) (f:Fun4) (k:Nat):okTo n f (k+1)=(okTo n f k && argB n f.len k (argOf f k)):=by unfold okTo;rw [List.range_succ,List.all_append];simp
theorem funB_eq (n:Nat) (f:Fun4):funB n f=(decide (0<=f.len/\f.len<=3) && thereB n f.res && okTo n f 3):=by
 have h:okTo n f 3=(argB n f.len 0 f.a0 && argB n f.len 1 f.a1 && argB n f.len 2 f.a2):=by
  rw [okTo_succ,okTo_succ,okTo_succ];rfl
 rw [h];unfold funB;simp only [Bool.and_assoc]
theorem okTo_stop {n:Nat} {f:Fun4} {k:Nat} (hk:k < 3) (h:argB n f.len k (argOf f k)=false):okTo n f 3=false:=by
 unfold okTo;rw [List.all_eq_false];exact⟨k,List.mem_range.2 hk,by rw [h];simp⟩
theorem sig_cells (w:World) (a b c:Value) (t:TypeId):(w.alloc (.cells #[a,b,c] t)).cell? ⟨w.heap.size,0,none⟩=some a/\(w.alloc (.cells #[a,b,c] t)).cell? ⟨w.heap.size,1,none⟩=some b/\(w.alloc (.cells #[a,b,c] t)).cell? ⟨w.heap.size,2,none⟩=some c:=by
 refine⟨?_,?_,?_⟩ <;> rw [World.cell?_alloc_mark] <;> rfl
theorem fun_any (A1 A2 A3:Option Addr) (n1 c1 n2 c2 n3 c3:Nat) (f:Fun4) (w:World) (hn:(n1:Int)<=140737488351232) :
  Calls Tryz.prog 67 #[.agg #[.slice A1 n1 c1,.slice A2 n2 c2,.slice A3 n3 c3],.agg #[.string f.name,.int .i64 f.len,.int .i64 f.a0,.int .i64 f.a1,.int .i64 f.a2,.int .i64 f.res]] w fun e w'=>e=.returned (.bool (funB n1 f))/\Below w.heap.size w w':=by
 have HI:=kp (show ∀ k,k < 3->∀ w,(Instr.index 47 (.agg #[.int .i64 f.a0,.int .i64 f.a1,.int .i64 f.a2]) (.int .i64 (k:Nat))).run Tryz.prog w=.ok (.int .i64 (argOf f k)) w from fun k hk w=>by
  have:k=0\/k=1\/k=2:=by omega
  rcases this with rfl | rfl | rfl
  ·exact(show(Instr.index 47 (.agg #[.int .i64 f.a0,.int .i64 f.a1,.int .i64 f.a2]) (.int .i64 0)).run Tryz.prog w=.ok (.int .i64 f.a0) w by kernel_rfl)
  ·exact(show(Instr.index 47 (.agg #[.int .i64 f.a0,.int .i64 f.a1,.int .i64 f.a2]) (.int .i64 1)).run Tryz.prog w=.ok (.int .i64 f.a1) w by kernel_rfl)
  ·exact(show(Instr.index 47 (.agg #[.int .i64 f.a0,.int .i64 f.a1,.int .i64 f.a2]) (.int .i64 2)).run Tryz.prog w=.ok (.int .i64 f.a2) w by kernel_rfl))
 have HF:=kp (funB_eq n1 f);have HS:=kp (okTo_succ n1 f);have HX:=kp (fun k hk h=>okTo_stop (n:=n1) (f:=f) (k:=k) hk h);have HTh:=kp (fun s W=>there_any A1 A2 A3 n1 c1 n2 c2 n3 c3 s W hn);have HArg:=kp (show ∀ k a,argB n1 f.len k a=if(k:Int) < f.len then thereB n1 a else a == 0 from fun _ _=>rfl);generalize funB n1 f=fb at *;generalize hokk:okTo n1 f=ok at *;have HZ:=kp (show ok 0=true by rw [← hokk];rfl);clear hokk;generalize hagg:argOf f=ag at *;clear hagg;generalize f.len=len at *;generalize f.res=res at *;generalize f.name=name at *;generalize f.a0=a0 at *;generalize f.a1=a1 at *;generalize f.a2=a2 at *
 by_cases h0:len < 0
 ·go_enter Tryz.func67,Tryz.ntmps67
  go_wp2_with fail
  go_ret;exact⟨ret_bool (by rw [HF.out,dfq (show ¬ (0<=len/\len<=3) by omega)];rfl),((Below.refl _ _).alloc nlq _).alloc (by simp) _⟩
 ·have h0':=dfq h0
  by_cases h1:3 < len
  ·go_enter Tryz.func67,Tryz.ntmps67
   go_wp2_with fail
   go_ret;exact⟨ret_bool (by rw [HF.out,dfq (show ¬ (0<=len/\len<=3) by omega)];rfl),((Below.refl _ _).alloc nlq _).alloc (by simp) _⟩
  ·have h1':=dfq h1;replace HF:=kp (show fb=(thereB n1 res && ok 3) by rw [HF.out,decide_eq_true (show 0<=len/\len<=3 by omega)];rfl);obtain ⟨g0,g1,g2⟩:=sig_cells w (.slice A1 n1 c1) (.slice A2 n2 c2) (.slice A3 n3 c3) 26;have hz1:(w.alloc (.cells #[.slice A1 n1 c1,.slice A2 n2 c2,.slice A3 n3 c3] 26)).heap.size=w.heap.size+1:=by simp
   have B1:=kp ((brq w).alloc nlq (.cells #[.slice A1 n1 c1,.slice A2 n2 c2,.slice A3 n3 c3] 26))
   go_enter Tryz.func67,Tryz.ntmps67
   go_wp2_with fail
   generalize w.alloc (.cells #[.slice A1 n1 c1,.slice A2 n2 c2,.slice A3 n3 c3] 26)=w1 at *;have B2:=kp ((brq w1).alloc nlq (.cells #[.string name,.int .i64 len,.int .i64 a0,.int .i64 a1,.int .i64 a2,.int .i64 res] 108));have f1:(w1.alloc (.cells #[.string name,.int .i64 len,.int .i64 a0,.int .i64 a1,.int .i64 a2,.int .i64 res] 108)).cell? ⟨w1.heap.size,1,none⟩=some (.int .i64 len):=by rw [World.cell?_alloc_mark];rfl
   have f2:(w1.alloc (.cells #[.string name,.int .i64 len,.int .i64 a0,.int .i64 a1,.int .i64 a2,.int .i64 res] 108)).cell? ⟨w1.heap.size,2,none⟩=some (.int .i64 a0):=by rw [World.cell?_alloc_mark];rfl
   have f3:(w1.alloc (.cells #[.string name,.int .i64 len,.int .i64 a0,.int .i64 a1,.int .i64 a2,.int .i64 res] 108)).cell? ⟨w1.heap.size,3,none⟩=some (.int .i64 a1):=by rw [World.cell?_alloc_mark];rfl
   have f4:(w1.alloc (.cells #[.string name,.int .i64 len,.int .i64 a0,.int .i64 a1,.int .i64 a2,.int .i64 res] 108)).cell? ⟨w1.heap.size,4,none⟩=some (.int .i64 a2):=by rw [World.cell?_alloc_mark];rfl
   have hz2:(w1.alloc (.cells #[.string name,.int .i64 len,.int .i64 a0,.int .i64 a1,.int .i64 a2,.int .i64 res] 108)).heap.size=w1.heap.size+1:=by simp
   have hg0:=((bcell B2.out).1 w.heap.size 0 (by omega)).trans g0;have hg1:=((bcell B2.out).1 w.heap.size 1 (by omega)).trans g1;have hg2:=((bcell B2.out).1 w.heap.size 2 (by omega)).trans g2;generalize w1.alloc (.cells #[.string name,.int .i64 len,.int .i64 a0,.int .i64 a1,.int .i64 a2,.int .i64 res] 108)=w2 at *;clear g0 g1 g2;rw [hz1] at f1 f2 f3 f4 hz2;have B02:=kp (B1.out.trans (B2.out.mono (by omega)));have hcall:=HTh.out res w2
   cases hres:thereB n1 res with
   | false =>
    replace HF:=kp (show fb=false by rw [HF.out,hres];rfl);rw [hres] at hcall;clear hres;refine hcall.mono ?_;rintro e w3 ⟨rfl,hb⟩;have B3:=kp (B02.out.trans (hb.mono B02.out.size));clear hb;go_wp2_with fail
    go_ret;exact⟨ret_bool HF.out.symm,B3.out⟩
   | true =>
    replace HF:=kp (show fb=ok 3 by rw [HF.out,hres];rfl);rw [hres] at hcall;clear hres;refine hcall.mono ?_;rintro e w3 ⟨rfl,hb⟩;have B3:=kp (B02.out.trans (hb.mono B02.out.size));have k0:=((bcell hb).1 w.heap.size 0 (by omega)).trans hg0;have k1:=((bcell hb).1 w.heap.size 1 (by omega)).trans hg1;have k2:=((bcell hb).1 w.heap.size 2 (by omega)).trans hg2;have j1:=((bcell hb).1 (w.heap.size+1) 1 (by omega)).trans f1;have j2:=((bcell hb).1 (w.heap.size+1) 2 (by omega)).trans f2;have j3:=((bcell hb).1 (w.heap.size+1) 3 (by omega)).trans f3;have j4:=((bcell hb).1 (w.heap.size+1) 4 (by omega)).trans f4;have hz3:w.heap.size+2<=w3.heap.size:=by have:=hb.size;omega
    clear hb hg0 hg1 hg2 f1 f2 f3 f4;go_wp2_with fail
    go_loopw [24] (fun v wr=>∃ k:Nat,k<=3/\v=.int .i64 k/\ok k=true/\Below w3.heap.size w3 wr) (fun v _=>3 - (intOf v).toNat)
    case atStart=>exact⟨0,by omega,rfl,HZ.out,Below.refl _ _⟩
    case round =>
     obtain ⟨k,hk,rfl,hok,hb⟩:=hrel;have HO:=kp hok;have HB:=kp hb;have p0:=((bcell hb).1 w.heap.size 0 (by omega)).trans k0;have p1:=((bcell hb).1 w.heap.size 1 (by omega)).trans k1;have p2:=((bcell hb).1 w.heap.size 2 (by omega)).trans k2;have q1:=((bcell hb).1 (w.heap.size+1) 1 (by omega)).trans j1;clear hok hb
     by_cases hlt:k < 3
     ·have hlt2:(k:Int) < 3:=by omega
      have ik:=HI.out k hlt;have HA:=kp (HArg.out k (ag k));have HN:=kp (HS.out k);have HE:=kp (HX.out k hlt);generalize ag k=x at *
      by_cases hl:(k:Int) < len
      ·replace HA:=kp (HA.out.trans (if_pos hl));have hc:=HTh.out x wr
       cases ht:thereB n1 x with
       | true =>
        replace HN:=kp (show ok (k+1)=true by rw [HN.out,HO.out,HA.out,ht];rfl);rw [ht] at hc;clear ht;have hge:decide (len<=(k:Int))=false:=dfq (by omega);go_wp2_with fail
        refine hc.mono ?_;rintro e w4 ⟨rfl,hb⟩;have HB4:=kp (HB.out.trans (hb.mono HB.out.size));have hq:=((bcell hb).1 (w.heap.size+1) 1 (by have:=HB.out.size;omega)).trans q1;clear hb;go_wp2_with fail
        go_roundw
        case rel=>exact⟨k+1,by omega,by go_num,HN.out,HB4.out⟩
        case measure=>simp [intOf];omega
       | false =>
        replace HE:=kp (show fb=false by rw [HF.out];exact HE.out (by rw [HA.out,ht]));rw [ht] at hc;clear ht;go_wp2_with fail
        refine hc.mono ?_;rintro e w4 ⟨rfl,hb⟩;have HB4:=kp (B3.out.trans ((HB.out.trans (hb.mono HB.out.size)).mono (by omega)));clear hb;go_wp2_with fail
        go_ret;exact⟨ret_bool HE.out.symm,HB4.out⟩
      ·have hl':=dfq hl;have hge:len<=(k:Int):=by omega
       replace HA:=kp (HA.out.trans (if_neg hl))
       by_cases hx:x=0
       ·replace HN:=kp (show ok (k+1)=true by rw [HN.out,HO.out,HA.out,hx];rfl);rw [hx] at ik;clear hx;go_wp2_with fail
        go_roundw
        case rel=>exact⟨k+1,by omega,by go_num,HN.out,HB.out⟩
        case measure=>simp [intOf];omega
       ·have hx':(x == 0)=false:=beq_eq_false_iff_ne.2 hx;have hx'':(x != 0)=true:=by rw [bne,hx'];rfl
        replace HE:=kp (show fb=false by rw [HF.out];exact HE.out (by rw [HA.out,hx']));have HB4:=kp (B3.out.trans (HB.out.mono (by omega)));go_wp2_with fail
        go_ret;exact⟨ret_bool HE.out.symm,HB4.out⟩
     ·obtain rfl:k=3:=by omega
      have HB4:=kp (B3.out.trans (HB.out.mono (by omega)));have HR:=kp (HF.out.trans HO.out);go_wp2_with fail
      go_ret;exact⟨ret_bool HR.out.symm,HB4.out⟩
theorem text_ne {a b:ByteArray} (h:¬ a=b):(a.toList == b.toList)=false:=by
 refine beq_eq_false_iff_ne.2 fun e=>h ?_;rw [Lx.bs_toList,Lx.bs_toList] at e;exact ByteArray.ext (Array.toList_inj.1 e)
theorem map_at {α β:Type} {l:List α} {nm:α->β} {k:Nat} {x:α} (h:l[k]?=some x):(l.map nm)[k]?=some (nm x):=by rw [List.getElem?_map,h];rfl
def hasB (l:List ByteArray) (s:ByteArray):Bool:=l.any fun x=>decide (x=s)
def findAt (l:List ByteArray) (s:ByteArray):Nat:=if hasB l s then l.findIdx (fun x=>decide (x=s)) else 0
theorem hasB_iff {l:List ByteArray} {s:ByteArray}:hasB l s=true ↔ s ∈ l:=by simp [hasB]
theorem hasB_not {l:List ByteArray} {s:ByteArray}:hasB l s=false ↔ s ∉ l:=by rw [← hasB_iff];simp
section
variable {l:List ByteArray} {s:ByteArray} {k:Nat}
theorem findAt_stop (hk:l[k]?=some s) (h:hasB (l.take k) s=false):findAt l s=k/\hasB l s=true:=by
 have hc:hasB l s=true:=hasB_iff.2 (mgq hk);refine⟨?_,hc⟩;unfold findAt;rw [if_pos hc];obtain ⟨hlt,he⟩:=gqs hk;have hn:=hasB_not.1 h;rw [List.findIdx_eq hlt];refine⟨by simp [he],fun j hj=>?_⟩;simp only [decide_eq_false_iff_not];intro e;exact hn (List.mem_take_iff_getElem.2 ⟨j,by omega,e⟩)
theorem findAt_none (h:hasB l s=false):findAt l s=0/\hasB l s=false:=by
 refine⟨?_,h⟩;unfold findAt;rw [h];rfl
theorem find_step {x:ByteArray} (hk:l[k]?=some x) (h:hasB (l.take k) s=false) (hx:x≠s):hasB (l.take (k+1)) s=false:=by
 rw [hasB_not] at h ⊢;rw [List.take_add_one,hk];intro hc;rcases List.mem_append.1 hc with h1 | h1
 ·exact h h1
 ·simp at h1;exact hx h1.symm
end
def allSorts (l:List ByteArray):List ByteArray:={ data:=#[66,111,111,108] } :: { data:=#[73,110,116] } :: l
end Sg
namespace Sg
open Go.RowKit Dt
theorem ret_int {a b:Int} (h:a=b):Ending.returned (.int .i64 a)=.returned (.int .i64 b):=by rw [h]
def paramB (n:Nat) (ps:List Param) (i:Nat):Bool:=match ps[i]? with
 | none=>true
 | some p=>usableB (Lx.bs p.name) && thereB n p.sort && !hasB ((ps.map Param.name).take i) p.name
def paramsTo (n:Nat) (ps:List Param) (k:Nat):Bool:=(List.range k).all (paramB n ps)
def macroB (n:Nat) (m:Macro):Bool:=decide (m.params.length<=3) && thereB n m.res && m.body.may && paramsTo n m.params m.params.length
theorem paramsTo_succ (n:Nat) (ps:List Param) (k:Nat):paramsTo n ps (k+1)=(paramsTo n ps k && paramB n ps k):=by unfold paramsTo;rw [List.range_succ,List.all_append];simp
theorem paramsTo_stop {n:Nat} {ps:List Param} {k:Nat} (hk:k < ps.length) (h:paramB n ps k=false):paramsTo n ps ps.length=false:=by
 unfold paramsTo;rw [List.all_eq_false];exact⟨k,List.mem_range.2 hk,by rw [h];simp⟩
theorem paramB_at {n:Nat} {ps:List Param} {k:Nat} {p:Param} (h:ps[k]?=some p):paramB n ps k=(Lx.mayB (Lx.bs p.name) && !Lx.resB (Lx.bs p.name) && thereB n p.sort && !hasB ((ps.map Param.name).take k) p.name):=by unfold paramB;rw [h];rfl
theorem mac_cells (w:World) (a b c d e f:Value) (t:TypeId):(w.alloc (.cells #[a,b,c,d,e,f] t)).cell? ⟨w.heap.size,1,none⟩=some b/\(w.alloc (.cells #[a,b,c,d,e,f] t)).cell? ⟨w.heap.size,2,none⟩=some c/\(w.alloc (.cells #[a,b,c,d,e,f] t)).cell? ⟨w.heap.size,3,none⟩=some d/\(w.alloc (.cells #[a,b,c,d,e,f] t)).cell? ⟨w.heap.size,4,none⟩=some e/\(w.alloc (.cells #[a,b,c,d,e,f] t)).cell? ⟨w.heap.size,5,none⟩=some f:=by
 refine⟨?_,?_,?_,?_,?_⟩ <;> rw [World.cell?_alloc_mark] <;> rfl
structure Boxes (w:World) (b:Nat) (u0 u1 u2 m1 m2 m3 m4 m5:Value):Prop where
 lt:b+1 < w.heap.size
 u0:w.cell? ⟨b,0,none⟩=some u0
 u1:w.cell? ⟨b,1,none⟩=some u1
 u2:w.cell? ⟨b,2,none⟩=some u2
 m1:w.cell? ⟨b+1,1,none⟩=some m1
 m2:w.cell? ⟨b+1,2,none⟩=some m2
 m3:w.cell? ⟨b+1,3,none⟩=some m3
 m4:w.cell? ⟨b+1,4,none⟩=some m4
 m5:w.cell? ⟨b+1,5,none⟩=some m5
theorem Boxes.on {w w':World} {b:Nat} {u0 u1 u2 m1 m2 m3 m4 m5:Value} (h:Boxes w b u0 u1 u2 m1 m2 m3 m4 m5) (hb:Below w.heap.size w w'):Boxes w' b u0 u1 u2 m1 m2 m3 m4 m5:=by
 have l0:b < w.heap.size:=by have:=h.lt;omega
 exact⟨Nat.lt_of_lt_of_le h.lt hb.size,((bcell hb).1 b 0 l0).trans h.u0,((bcell hb).1 b 1 l0).trans h.u1,((bcell hb).1 b 2 l0).trans h.u2,((bcell hb).1 (b+1) 1 h.lt).trans h.m1,((bcell hb).1 (b+1) 2 h.lt).trans h.m2,((bcell hb).1 (b+1) 3 h.lt).trans h.m3,((bcell hb).1 (b+1) 4 h.lt).trans h.m4,((bcell hb).1 (b+1) 5 h.lt).trans h.m5⟩
theorem boxes_made (w:World) (u0 u1 u2 m0 m1 m2 m3 m4 m5:Value) (t t':TypeId):Boxes ((w.alloc (.cells #[u0,u1,u2] t)).alloc (.cells #[m0,m1,m2,m3,m4,m5] t')) w.heap.size u0 u1 u2 m1 m2 m3 m4 m5:=by
 obtain ⟨g0,g1,g2⟩:=sig_cells w u0 u1 u2 t;obtain ⟨k1,k2,k3,k4,k5⟩:=mac_cells (w.alloc (.cells #[u0,u1,u2] t)) m0 m1 m2 m3 m4 m5 t';have hz:(w.alloc (.cells #[u0,u1,u2] t)).heap.size=w.heap.size+1:=by simp
 have hb:=(Below.refl (w.alloc (.cells #[u0,u1,u2] t)).heap.size (w.alloc (.cells #[u0,u1,u2] t))).alloc nlq (.cells #[m0,m1,m2,m3,m4,m5] t');have e:=fun o=>(bcell hb).1 w.heap.size o (by omega);rw [hz] at k1 k2 k3 k4 k5;exact⟨by simp,(e 0).trans g0,(e 1).trans g1,(e 2).trans g2,k1,k2,k3,k4,k5⟩
def allTo (p:Nat->Bool) (k:Nat):Bool:=(List.range k).all p
theorem allTo_zero (p:Nat->Bool):allTo p 0=true:=rfl
theorem allTo_succ (p:Nat->Bool) (k:Nat):allTo p (k+1)=(allTo p k && p k):=by unfold allTo;rw [List.range_succ,List.all_append];simp
theorem allTo_stop {p:Nat->Bool} {k n:Nat} (hk:k < n) (h:p k=false):allTo p n=false:=by
 unfold allTo;rw [List.all_eq_false];exact⟨k,List.mem_range.2 hk,by rw [h];simp⟩
def sortOk (l:List ByteArray) (i:Nat):Bool:=match l[i]? with
 | none=>true
 | some s=>usableB (Lx.bs s) && !hasB (allSorts (l.take i)) s
def funOk (g:Sig) (i:Nat):Bool:=match g.funs[i]? with
 | none=>true
 | some f=>usableB (Lx.bs f.name) && !(hasB ((g.funs.map Fun4.name).take i) f.name || coreB (Lx.bs f.name)) && funB g.sorts.length f
def macOk (g:Sig) (i:Nat):Bool:=match g.macros[i]? with
 | none=>true
 | some m=>usableB (Lx.bs m.name) && !(hasB (g.funs.map Fun4.name) m.name || hasB ((g.macros.map Macro.name).take i) m.name || coreB (Lx.bs m.name)) && macroB g.sorts.length m
def checkB (g:Sig):Bool :=
 (decide (g.sorts.length<=4) && decide (g.funs.length<=12) && decide (g.macros.length<=12)) && (allTo (sortOk g.sorts) g.sorts.length && allTo (funOk g) g.funs.length && allTo (macOk g) g.macros.length)
def checkE (g:Sig):Int:=if checkB g then 0 else 2
theorem checkE_true {g:Sig} (h:checkB g=true):checkE g=0:=by unfold checkE;rw [h];rfl
theorem checkE_false {g:Sig} (h:checkB g=false):checkE g=2:=by unfold checkE;rw [h];rfl
end Sg
namespace El
open Go.RowKit Dt Sg
structure Node where
 op:Int
 len:Int
 a0:Int
 a1:Int
 a2:Int
 sort:Int
 fn:Int
 n:Int
deriving DecidableEq
def Node.arg (x:Node) (i:Nat):Int:=if i=0 then x.a0 else if i=1 then x.a1 else x.a2
abbrev V:=Int × Int
structure St where
 t:List Node
 calls:Int
 e:Int
structure Cx where
 g:Sig
 most:Int
 build:Bool
abbrev Env:=List (ByteArray × V)
def v0:V:=(0,0)
def sLet:ByteArray:={ data:=#[108,101,116] }
def sTrue:ByteArray:={ data:=#[116,114,117,101] }
def sFalse:ByteArray:={ data:=#[102,97,108,115,101] }
def sNot:ByteArray:={ data:=#[110,111,116] }
def sAnd:ByteArray:={ data:=#[97,110,100] }
def sOr:ByteArray:={ data:=#[111,114] }
def sXor:ByteArray:={ data:=#[120,111,114] }
def sImp:ByteArray:={ data:=#[61,62] }
def sEq:ByteArray:={ data:=#[61] }
def sDistinct:ByteArray:={ data:=#[100,105,115,116,105,110,99,116] }
def sIte:ByteArray:={ data:=#[105,116,101] }
def sLe:ByteArray:={ data:=#[60,61] }
def sLt:ByteArray:={ data:=#[60] }
def sGe:ByteArray:={ data:=#[62,61] }
def sGt:ByteArray:={ data:=#[62] }
def sPlus:ByteArray:={ data:=#[43] }
def sMinus:ByteArray:={ data:=#[45] }
def arityN (op:Int):Option (Int × Int) :=
 if op=13 then some (0,3)
 else if op=0\/op=10 then some (0,0)
 else if op=1\/op=11 then some (1,1)
 else if op=2\/op=3\/op=4\/op=5\/op=6\/op=8\/op=9\/op=12 then some (2,2)
 else if op=7 then some (3,3)
 else none
def argOkB (n:Node) (at':Int) (i:Nat):Bool:=if(i:Int) < n.len then decide (0<=n.arg i/\n.arg i < at') else decide (n.arg i=0)
def standsN (n:Node) (at':Int):Bool :=
 match arityN n.op with
 | none=>false
 | some (lo,hi)=>decide (lo<=n.len/\n.len<=hi) && decide (0<=n.sort/\n.sort < 6) && argOkB n at' 0 && argOkB n at' 1 && argOkB n at' 2
  && decide (0<=n.fn/\n.fn < 12) && (decide (n.fn=0) || decide (n.op=13)) && (if n.op=10\/n.op=11\/n.op=12 then mayB n.n else decide (n.n=0))
def nodeTrue:Node:=⟨0,0,0,0,0,0,0,0⟩
def nodeZero:Node:=⟨10,0,0,0,0,1,0,0⟩
def newT:List Node:=[nodeTrue,nodeZero]
def standsTo (t:List Node) (k:Nat):Bool:=(List.range k).all fun i=>match t[i]? with
 | some n=>standsN n i
 | none=>true
def checkT (t:List Node):Bool:=decide (t.take 2=newT) && standsTo t t.length && decide t.Nodup
def putT (t:List Node) (n:Node) (most:Int):List Node × Int × Int :=
 if checkT t && standsN n t.length then
  if n ∈ t then(t,(t.findIdx (fun x=>decide (x=n)):Nat),0)
  else if most<=t.length then([],0,40)
  else(t ++ [n],t.length,0)
 else([],0,2)
def opS (op:Int) (l:List Int):Option Int :=
 if op=0 then(if l=[] then some 0 else none)
 else if op=1 then(if l=[0] then some 0 else none)
 else if op=2\/op=3\/op=4\/op=5 then(if l=[0,0] then some 0 else none)
 else if op=6 then(match l with | [a,b]=>if 0<=a/\a=b then some 0 else none | _=>none)
 else if op=7 then(match l with | [a,b,c]=>if a=0/\0<=b/\b=c then some b else none | _=>none)
 else if op=8\/op=9\/op=12 then(if l=[1,1] then some 0 else none)
 else if op=10 then(if l=[] then some 1 else none)
 else if op=11 then(if l=[1] then some 1 else none)
 else none
def numN (x:Sexp):Option (Int × Int) :=
 if x.kind=1 then some (parseV (Lx.bs x.text),parseE (Lx.bs x.text))
 else if headS x=sMinus then match x.l with
  | [_,y]=>if y.kind=1 then some (- parseV (Lx.bs y.text),parseE (Lx.bs y.text)) else none
  | _=>none
 else none
def isNumX (x:Sexp):Bool:=(numN x).isSome
def findE (env:Env) (s:ByteArray):Option V:=(env.find? fun p=>decide (p.1=s)).map Prod.snd
def failS (e:Int) (st:St):St:=if st.e=0 then { st with e:=e } else st
def putM (c:Cx) (n:Node) (st:St):V × St :=
 if st.e≠0\/c.build=false then((n.sort,0),st)
 else if(putT st.t n c.most).2.2=0 then((n.sort,(putT st.t n c.most).2.1),{ st with t:=(putT st.t n c.most).1 })
 else(v0,{ st with e:=(putT st.t n c.most).2.2 })
def nthN (l:List V) (i:Nat):Int:=(l.getD i v0).2
def opM (c:Cx) (op n:Int) (l:List V) (st:St):V × St :=
 if st.e≠0 then(v0,st)
 else match opS op (l.map Prod.fst) with
  | none=>(v0,{ st with e:=33 })
  | some s=>putM c ⟨op,l.length,nthN l 0,nthN l 1,nthN l 2,s,0,if c.build then n else 0⟩ st
def numberM (c:Cx) (x:Sexp) (st:St):Int × St:=match numN x with
 | none=>(0,st)
 | some (n,e)=>(n,if e≠0/\c.build=true then failS e st else st)
abbrev Rec:=Nat->Sexp->Env->St->V × St
def allM (r:Sexp->St->V × St):List Sexp->St->List V × St
 | [],st=>([],st)
 | x :: l,st=>((r x st).1 :: (allM r l (r x st).2).1,(allM r l (r x st).2).2)
def sortsM:List V->List Int->St->St
 | v :: l,s :: q,st=>sortsM l q (if st.e=0/\v.1≠s then { st with e:=33 } else st)
 | _,_,st=>st
def applyM (c:Cx) (r:Sexp->St->V × St) (f:Fun4) (k:Nat) (l:List Sexp) (st:St):V × St :=
 if(l.length:Int)≠f.len then(v0,failS 30 st)
 else
  let a:=allM r l st
  putM c ⟨13,f.len,nthN a.1 0,nthN a.1 1,nthN a.1 2,f.res,k,0⟩ (sortsM a.1 [f.a0,f.a1,f.a2] a.2)
def macroM (c:Cx) (rec:Rec) (m:Macro) (k:Nat) (vs:List V) (st:St):V × St :=
 let st2:=sortsM vs (m.params.map Param.sort) st
 if st2.e≠0\/c.build=false then((m.res,0),st2)
 else if 300 < st2.calls+1 then(v0,{ st2 with calls:=st2.calls+1,e:=40 })
 else
  let p:=rec k m.body ((m.params.map Param.name).zip vs).reverse { st2 with calls:=st2.calls+1 }
  if p.2.e=0/\p.1.1≠m.res then(v0,{ p.2 with e:=33 }) else p
def callM (c:Cx) (rec:Rec) (known:Nat) (name:ByteArray) (l:List Sexp) (env:Env) (st:St):V × St :=
 if hasB (c.g.funs.map Fun4.name) name then match c.g.funs[findAt (c.g.funs.map Fun4.name) name]? with
  | some f=>applyM c (fun x=>rec known x env) f (findAt (c.g.funs.map Fun4.name) name) l st
  | none=>(v0,st)
 else if hasB (c.g.macros.map Macro.name) name/\findAt (c.g.macros.map Macro.name) name < known then match c.g.macros[findAt (c.g.macros.map Macro.name) name]? with
  | some m =>
   if l.length≠m.params.length then(v0,failS 30 st)
   else macroM c rec m (findAt (c.g.macros.map Macro.name) name) (allM (fun x=>rec known x env) l st).1 (allM (fun x=>rec known x env) l st).2
  | none=>(v0,st)
 else(v0,failS 31 st)
def bindN (b:Sexp):Option ByteArray:=if b.kind=3 then match b.l with
  | [y,_]=>if y.kind=0/\Lx.resB (Lx.bs y.text)=false then some y.text else none
  | _=>none
 else none
def boundN (x:Sexp):Option (List ByteArray):=match x.l with
 | [_,b,_] =>
  if b.kind=3/\b.l≠[] then b.l.foldl (fun(o:Option (List ByteArray)) y=>o.bind fun ns=>(bindN y).bind fun s=>if hasB ns s then none else some (ns ++ [s])) (some []) else none
 | _=>none
def secondX (b:Sexp):Sexp:=b.l.getD 1 (.mk 0 { data:=#[] } [])
def nthX (x:Sexp) (i:Nat):Sexp:=x.l.getD i (.mk 0 { data:=#[] } [])
def letM (rec:Rec) (known:Nat) (x:Sexp) (env:Env) (st:St):V × St:=match boundN x with
 | none=>(v0,failS 30 st)
 | some names =>
  let a:=allM (fun y=>rec known y env) ((nthX x 1).l.map secondX) st
  rec known (nthX x 2) ((names.zip a.1).reverse ++ env) a.2
def leftM (c:Cx) (op:Int) (v:V):List V->St->V × St
 | [],st=>(v,st)
 | x :: l,st=>leftM c op (opM c op 0 [v,x] st).1 l (opM c op 0 [v,x] st).2
def headM (c:Cx) (op:Int) (l:List V) (st:St):V × St:=leftM c op (l.getD 0 v0) l.tail st
def impM (c:Cx) (v:V):List V->St->V × St
 | [],st=>(v,st)
 | x :: l,st=>impM c (opM c 5 0 [x,v] st).1 l (opM c 5 0 [x,v] st).2
def alikeB (l:List V):Bool:=l.all fun v=>v.1 == (l.getD 0 v0).1
def eqsM (c:Cx):V->List V->St->List V × St
 | _,[],st=>([],st)
 | v,x :: l,st=>let p:=opM c 6 0 [v,x] st;((p.1 :: (eqsM c x l p.2).1),(eqsM c x l p.2).2)
def neqsM (c:Cx) (v:V):List V->St->List V × St
 | [],st=>([],st)
 | x :: l,st =>
  let p:=opM c 6 0 [v,x] st
  let q:=opM c 1 0 [p.1] p.2
  (q.1 :: (neqsM c v l q.2).1,(neqsM c v l q.2).2)
def distinctL (c:Cx):List V->St->List V × St
 | [],st=>([],st)
 | v :: l,st=>let a:=neqsM c v l st;(a.1 ++ (distinctL c l a.2).1,(distinctL c l a.2).2)
def equalM (c:Cx) (l:List V) (st:St):V × St :=
 let st1:=if alikeB l then st else failS 33 st
 if st1.e≠0 then(v0,st1) else headM c 2 (eqsM c (l.getD 0 v0) l.tail st1).1 (eqsM c (l.getD 0 v0) l.tail st1).2
def distinctM (c:Cx) (l:List V) (st:St):V × St :=
 let st1:=if alikeB l then st else failS 33 st
 if st1.e≠0 then(v0,st1) else headM c 2 (distinctL c l st1).1 (distinctL c l st1).2
def wayN (s:ByteArray):Option (Nat × Nat × Nat) :=
 if s=sNot then some (0,1,1) else if s=sAnd then some (1,2,1048576) else if s=sOr then some (2,2,1048576) else if s=sXor then some (3,2,1048576)
 else if s=sImp then some (4,2,1048576) else if s=sEq then some (5,2,1048576) else if s=sDistinct then some (6,2,1048576) else if s=sIte then some (7,3,3)
 else if s=sLe then some (8,2,2) else if s=sLt then some (9,2,2) else if s=sGe then some (10,2,2) else if s=sGt then some (11,2,2) else none
def makeM (c:Cx) (way:Nat) (l:List V) (st:St):V × St :=
 if way=0 then opM c 1 0 l st
 else if way=1 then headM c 2 l st
 else if way=2 then headM c 3 l st
 else if way=3 then headM c 4 l st
 else if way=4 then impM c (l.reverse.getD 0 v0) l.reverse.tail st
 else if way=5 then equalM c l st
 else if way=6 then distinctM c l st
 else if way=7 then opM c 7 0 l st
 else if way=8 then opM c 8 0 l st
 else if way=9 then opM c 9 0 l st
 else if way=10 then opM c 8 0 [l.getD 1 v0,l.getD 0 v0] st
 else opM c 9 0 [l.getD 1 v0,l.getD 0 v0] st
def minusB (x:Sexp):Bool:=decide (headS x=sMinus) && decide (x.l.length=3) && !isNumX (nthX x 2)
def diffM (c:Cx) (x y:V) (n:Int) (st:St):V × St :=
 if c.build=true/\st.e=0/\mayB n=false then(v0,{ st with e:=10 }) else opM c 12 n [x,y] st
def heldM (c:Cx) (name:ByteArray) (a b:V) (n:Int) (st:St):V × St :=
 if name=sLe then diffM c a b n st
 else if name=sLt then diffM c a b (n - 1) st
 else if name=sGe then diffM c b a (-n) st
 else if name=sGt then diffM c b a (-n - 1) st
 else
  let p:=diffM c a b n st
  let q:=diffM c b a (-n) p.2
  opM c 2 0 [p.1,q.1] q.2
def turnN (s:ByteArray):ByteArray:=if s=sLe then sGe else if s=sLt then sGt else if s=sGe then sLe else if s=sGt then sLt else s
def comparesB (s:ByteArray):Bool:=decide (s=sLe) || decide (s=sLt) || decide (s=sGe) || decide (s=sGt) || decide (s=sEq)
def differsN (name:ByteArray) (x:Sexp):Nat :=
 if x.l.length=3/\comparesB name=true then
  if minusB (nthX x 1) && isNumX (nthX x 2) then 1 else if minusB (nthX x 2) && isNumX (nthX x 1) then 2 else 0
 else 0
def diffLM (c:Cx) (r:Sexp->St->V × St) (name:ByteArray) (x:Sexp) (st:St):V × St :=
 let a:=r (nthX (nthX x 1) 1) st
 let b:=r (nthX (nthX x 1) 2) a.2
 let n:=numberM c (nthX x 2) b.2
 heldM c name a.1 b.1 n.1 n.2
def diffRM (c:Cx) (r:Sexp->St->V × St) (name:ByteArray) (x:Sexp) (st:St):V × St :=
 let n:=numberM c (nthX x 1) st
 let a:=r (nthX (nthX x 2) 1) n.2
 let b:=r (nthX (nthX x 2) 2) a.2
 heldM c (turnN name) a.1 b.1 n.1 b.2
def sumM (c:Cx) (r:Sexp->St->V × St) (name:ByteArray) (x:Sexp) (st:St):V × St :=
 if x.l.length=2/\name=sMinus then(v0,failS 34 (r (nthX x 1) st).2)
 else if x.l.length≠3 then(v0,failS 30 st)
 else if isNumX (nthX x 2) then
  let v:=r (nthX x 1) st
  let n:=numberM c (nthX x 2) v.2
  opM c 11 (if name=sMinus then - n.1 else n.1) [v.1] n.2
 else if name=sPlus/\isNumX (nthX x 1)=true then
  let n:=numberM c (nthX x 1) st
  let v:=r (nthX x 2) n.2
  opM c 11 n.1 [v.1] v.2
 else(v0,failS 34 (allM r x.l.tail st).2)
def listM (c:Cx) (rec:Rec) (known:Nat) (x:Sexp) (env:Env) (st:St):V × St :=
 if headS x=sLet then letM rec known x env st
 else if Lx.resB (Lx.bs (headS x))=true\/headS x=sTrue\/headS x=sFalse then(v0,failS 30 st)
 else if headS x=sPlus\/headS x=sMinus then sumM c (fun y=>rec known y env) (headS x) x st
 else match wayN (headS x) with
  | none=>if x.l.tail.length=0 then(v0,failS 30 st) else callM c rec known (headS x) x.l.tail env st
  | some (way,least,most) =>
   if x.l.tail.length < least\/most < x.l.tail.length then(v0,failS 30 st)
   else if differsN (headS x) x=1 then diffLM c (fun y=>rec known y env) (headS x) x st
   else if differsN (headS x) x=2 then diffRM c (fun y=>rec known y env) (headS x) x st
   else
    let a:=allM (fun y=>rec known y env) x.l.tail st
    if a.2.e≠0 then(v0,a.2) else makeM c way a.1 a.2
def isListB (x:Sexp):Bool:=decide (x.kind=3) && (match x.l with | []=>false | y :: _=>decide (y.kind=0))
def termStep (c:Cx) (rec:Rec) (known:Nat) (x:Sexp) (env:Env) (st:St):V × St :=
 if st.e≠0 then(v0,st)
 else if isNumX x then opM c 10 (numberM c x st).1 [] (numberM c x st).2
 else if isListB x then listM c rec known x env st
 else if x.kind≠0 then(v0,failS 30 st)
 else match findE env x.text with
  | some v=>(v,st)
  | none =>
   if x.text=sTrue then opM c 0 0 [] st
   else if x.text=sFalse then opM c 1 0 [(opM c 0 0 [] st).1] (opM c 0 0 [] st).2
   else if Lx.resB (Lx.bs x.text)=true then(v0,failS 30 st)
   else callM c rec known x.text [] env st
def termF (c:Cx):Nat->Rec
 | 0=>fun _ _ _ st=>(v0,st)
 | f+1=>termStep c (termF c f)
def sumB (ms:List Macro) (k:Nat):Nat:=((ms.take k).map fun m=>1+m.body.full).sum
def need (g:Sig) (known:Nat) (x:Sexp):Nat:=x.full+sumB g.macros known
theorem full_pos (x:Sexp):1<=x.full:=by rw [Sexp.full_eq];omega
theorem fullL_mem:∀ {l:List Sexp} {y:Sexp},y ∈ l->y.full<=Sexp.fullL l
 | [],y,h=>by cases h
 | x :: r,y,h=>by
  rw [Sexp.fullL_cons];rcases List.mem_cons.1 h with h | h
  ·subst h;omega
  ·have:=fullL_mem h;omega
theorem full_mem {x y:Sexp} (h:y ∈ x.l):y.full < x.full:=by
 have:=fullL_mem h;rw [Sexp.full_eq x];omega
theorem full_two {x:Sexp} (h:x.l≠[]):2<=x.full:=by
 cases hl:x.l with
 | nil=>exact absurd hl h
 | cons y r =>
  have h1:=full_mem (x:=x) (y:=y) (by rw [hl];simp);have h2:=full_pos y
  omega
theorem full_nth {x:Sexp} (h:x.l≠[]) (i:Nat):(nthX x i).full < x.full:=by
 unfold nthX;rw [List.getD_eq_getElem?_getD]
 cases hy:x.l[i]? with
 | none =>
  have h1:=full_two h;have h2:((none:Option Sexp).getD (.mk 0 { data:=#[] } [])).full=1:=by show(Sexp.mk 0 { data:=#[] } []).full=1;rw [Sexp.full_eq];show 1+(0:Nat)+Sexp.fullL []=1;rw [Sexp.fullL_nil]
  omega
 | some y=>exact full_mem (mgq hy)
theorem full_nth_le {x:Sexp} (i:Nat):(nthX x i).full<=x.full:=by
 by_cases h:x.l=[]
 ·unfold nthX;rw [h];have h2:(Sexp.mk 0 { data:=#[] } []).full=1:=by rw [Sexp.full_eq];show 1+(0:Nat)+Sexp.fullL []=1;rw [Sexp.fullL_nil]
  show(Sexp.mk 0 { data:=#[] } []).full<=_;rw [h2];exact full_pos x
 ·exact Nat.le_of_lt (full_nth h i)
theorem sumB_succ {ms:List Macro} {k:Nat} {m:Macro} (h:ms[k]?=some m):sumB ms (k+1)=sumB ms k+(1+m.body.full):=by
 unfold sumB;rw [List.take_add_one,h];simp
theorem sumB_mono (ms:List Macro) {j k:Nat} (h:j<=k):sumB ms j<=sumB ms k:=by
 induction k with
 | zero => obtain rfl : j = 0 := by omega
           exact nlq
 | succ k ih =>
  rcases Nat.lt_or_ge j (k+1) with h1 | h1
  ·have:=ih (by omega)
   have h2:sumB ms k<=sumB ms (k+1):=by
    cases hm:ms[k]? with
    | none=>unfold sumB;rw [List.take_of_length_le (show ms.length<=k by rw [List.getElem?_eq_none_iff] at hm;exact hm),List.take_of_length_le (show ms.length<=k+1 by rw [List.getElem?_eq_none_iff] at hm;omega)];exact nlq
    | some m=>rw [sumB_succ hm];omega
   omega
  ·obtain rfl:j=k+1:=by omega
   exact nlq
theorem sumB_lt {ms:List Macro} {k known:Nat} {m:Macro} (h:ms[k]?=some m) (hk:k < known):m.body.full+sumB ms k < sumB ms known:=by
 have h1:=sumB_succ h;have h2:=sumB_mono ms (show k+1<=known by omega)
 omega
def Agree (g:Sig) (r1 r2:Rec) (N:Nat):Prop:=∀ known y env st,need g known y < N->r1 known y env st=r2 known y env st
theorem allM_congr {r1 r2:Sexp->St->V × St}:∀ {l:List Sexp} {st:St},(∀ y ∈ l,∀ st,r1 y st=r2 y st)->allM r1 l st=allM r2 l st
 | [],st,_=>rfl
 | x :: l,st,h=>by
  unfold allM;rw [h x (by simp)];rw [allM_congr (l:=l) (fun y hy st=>h y (by simp [hy]) st)]
section
variable {c:Cx} {r1 r2:Rec} {known:Nat} {x:Sexp} {env:Env} {st:St}
theorem tail_full {y:Sexp} (h:y ∈ x.l.tail):y.full < x.full:=full_mem (List.mem_of_mem_tail h)
theorem callM_congr {l:List Sexp} {name:ByteArray} (h:Agree c.g r1 r2 (need c.g known x)) (hl:∀ y ∈ l,y.full < x.full):callM c r1 known name l env st=callM c r2 known name l env st:=by
 have hall:∀ st,allM (fun x=>r1 known x env) l st=allM (fun x=>r2 known x env) l st:=fun st=>allM_congr fun y hy st=>h _ _ _ _ (by have:=hl y hy;unfold need;omega);unfold callM
 split
 ·split
  ·unfold applyM;simp only [hall]
  ·rfl
 ·split
  ·rename_i hk
   split
   ·rename_i m hm
    split
    ·rfl
    ·unfold macroM;simp only [hall];rw [show ∀ e s,r1 (findAt (c.g.macros.map Macro.name) name) m.body e s=r2 (findAt (c.g.macros.map Macro.name) name) m.body e s from fun e s=>h _ _ _ _ (by have:=sumB_lt hm hk.2;unfold need;omega)]
   ·rfl
  ·rfl
theorem listM_congr (h:Agree c.g r1 r2 (need c.g known x)) (hx:x.l≠[]):listM c r1 known x env st=listM c r2 known x env st:=by
 have hr:∀ y,y.full < x.full->∀ e s,r1 known y e s=r2 known y e s:=fun y hy e s=>h _ _ _ _ (by unfold need;omega);have hall:∀ st,allM (fun y=>r1 known y env) x.l.tail st=allM (fun y=>r2 known y env) x.l.tail st:=fun st=>allM_congr fun y hy st=>hr y (tail_full hy) _ _;have h1:∀ i e s,r1 known (nthX x i) e s=r2 known (nthX x i) e s:=fun i=>hr _ (full_nth hx i);have h2:∀ i j e s,r1 known (nthX (nthX x i) j) e s=r2 known (nthX (nthX x i) j) e s:=fun i j=>hr _ (Nat.lt_of_le_of_lt (full_nth_le j) (full_nth hx i));unfold listM
 split
 ·unfold letM
  split
  ·rfl
  ·have ha:∀ st,allM (fun y=>r1 known y env) ((nthX x 1).l.map secondX) st=allM (fun y=>r2 known y env) ((nthX x 1).l.map secondX) st:=fun st=>allM_congr fun y hy st=>by
    obtain ⟨b,hb,rfl⟩:=List.mem_map.1 hy;refine hr _ ?_ _ _;have h3:=full_mem hb;have h4:=full_nth hx 1;have h5:(secondX b).full<=b.full:=full_nth_le (x:=b) 1
    omega
   simp only [ha,h1]
 split
 ·rfl
 split
 ·unfold sumM;simp only [h1,hall]
 split
 ·split
  ·rfl
  ·exact callM_congr h fun y hy=>tail_full hy
 split
 ·rfl
 split
 ·unfold diffLM;simp only [h2]
 split
 ·unfold diffRM;simp only [h2]
 ·simp only [hall]
theorem isList_ne (h:isListB x=true):x.l≠[]:=by
 intro e;unfold isListB at h;rw [e] at h;simp at h
theorem step_congr (h:Agree c.g r1 r2 (need c.g known x)):termStep c r1 known x env st=termStep c r2 known x env st:=by
 unfold termStep
 split
 ·rfl
 split
 ·rfl
 split
 ·rename_i hl
  exact listM_congr h (isList_ne hl)
 split
 ·rfl
 split
 ·rfl
 split
 ·rfl
 split
 ·rfl
 split
 ·rfl
 ·exact callM_congr h fun y hy=>by cases hy
end
theorem termF_more (c:Cx):∀ (f1 f2:Nat),∀ known x env st,need c.g known x < f1->need c.g known x < f2->termF c f1 known x env st=termF c f2 known x env st
 | 0,_,_,_,_,_,h,_=>by omega
 | _+1,0,_,_,_,_,_,h=>by omega
 | f1+1,f2+1,known,x,env,st,h1,h2=>step_congr fun k y e s hy=>termF_more c f1 f2 k y e s (by omega) (by omega)
def termP (c:Cx):Rec:=fun known x env st=>termF c (need c.g known x+1) known x env st
theorem termP_of {c:Cx} {f known:Nat} {x:Sexp} {env:Env} {st:St} (h:need c.g known x < f):termF c f known x env st=termP c known x env st:=termF_more c _ _ _ _ _ _ h (Nat.lt_succ_self _)
theorem termP_eq (c:Cx) (known:Nat) (x:Sexp) (env:Env) (st:St):termP c known x env st=termStep c (termP c) known x env st:=by
 show termStep c (termF c (need c.g known x)) known x env st=_;exact step_congr fun k y e s hy=>termP_of hy
end El
namespace El
open Go.RowKit Dt Sg
def XAt (w:World) (A:Option Addr) (c:Nat) (x:Sexp):Prop:=SexpR w [.int .i8 x.kind,.string x.text,.slice A x.l.length c] x
theorem XAt.on {w w':World} {A:Option Addr} {c:Nat} {x:Sexp} (h:XAt w A c x) (hb:Below w.heap.size w w'):XAt w' A c x:=SexpR.lasts _ _ _ _ hb h
theorem XAt.opens {w:World} {A:Option Addr} {c:Nat} {x:Sexp} (h:XAt w A c x):Lies 3 SexpR w A x.l/\x.l.length<=c/\c<=maxLen/\(x.text.size:Int)<=140737488351232/\x.l.length * 48<=140737488351232/\(Lit.int .i8 x.kind).wf=true:=by
 obtain ⟨A0,c0,e0,hl,h2,h3,h4,h5,h6⟩:=SexpR.open' h;simp only [List.cons.injEq,Value.slice.injEq,and_true,true_and] at e0;obtain ⟨rfl,rfl⟩:=e0;exact⟨hl,h2,h3,h4,h5,h6⟩
def numR (x:Sexp):Int × Bool × Int:=match numN x with
 | some (n,e)=>(n,true,e)
 | none=>(0,false,0)
theorem parseV_lim (l:List UInt8):0<=parseV l/\parseV l<=4611686018427387904:=by
 unfold parseV
 split
 ·rename_i hn
  unfold isNum at hn;simp only [Bool.and_eq_true] at hn;have:=putAll_le l hn.2
  split <;> omega
 ·omega
theorem tl_true {t:ByteArray} {l:List UInt8} (h:t=⟨l.toArray⟩):(t.toList == l)=true:=by
 rw [h,Lx.bs_toList];unfold Lx.bs;simp
theorem tl_false {t:ByteArray} {l:List UInt8} (h:t≠⟨l.toArray⟩):(t.toList == l)=false:=by
 rw [beq_eq_false_iff_ne];intro e;rw [Lx.bs_toList] at e;unfold Lx.bs at e;exact h (ByteArray.ext (Array.toList_inj.1 (by rw [e])))
def NumPost (x:Sexp) (w:World) (e:Ending) (w':World):Prop:=e=.returned (.tuple #[.int .i64 (numR x).1,.bool (numR x).2.1,.int .i64 (numR x).2.2])/\Below w.heap.size w w'
theorem numeralX_any {w:World} {A:Option Addr} {c:Nat} {x:Sexp} (h:XAt w A c x) :
  Calls Tryz.prog 90 #[.agg #[.int .i8 x.kind,.string x.text,.slice A x.l.length c]] w (NumPost x w):=by
 have HP:=kp (show ∀ n b e w',numR x=(n,b,e)->Below w.heap.size w w'->NumPost x w (.returned (.tuple #[.int .i64 n,.bool b,.int .i64 e])) w' from fun n b e w' h1 h2=>by unfold NumPost;rw [h1];exact⟨rfl,h2⟩);obtain ⟨hl,hc,hcm,ht,hlb,hk⟩:=h.opens;have HL:=kp hl;have HX:=kp h;have HN:=kp (show numR x=match numN x with | some (n,e)=>(n,true,e) | none=>(0,false,0) from rfl)
 have HNN:=kp (show numN x=if x.kind=1 then some (parseV (Lx.bs x.text),parseE (Lx.bs x.text))
  else if headS x=sMinus then match x.l with
   | [_,y]=>if y.kind=1 then some (- parseV (Lx.bs y.text),parseE (Lx.bs y.text)) else none
   | _=>none
  else none from rfl)
 have HH:=kp (fun W (hW:Below w.heap.size w W)=>head_any (h.on hW));have XB:=kp (Bk.new w (.cells #[.int .i8 x.kind,.string x.text,.slice A x.l.length c] 40));have B1:=kp ((brq w).alloc nlq (.cells #[.int .i8 x.kind,.string x.text,.slice A x.l.length c] 40));have hk128:-128<=x.kind/\x.kind<=127:=by simp [Lit.wf] at hk;exact hk
 clear h hl;generalize NumPost x w=PP at *;generalize numR x=res at *;generalize numN x=nx at *
 go_enter Tryz.func90,Tryz.ntmps90
 go_upto_region 1 with fail
 generalize w.alloc (.cells #[.int .i8 x.kind,.string x.text,.slice A x.l.length c] 40)=w1 at *;obtain ⟨q0,q1,q2,qf⟩:=Bk.c3 XB.out
 by_cases h1:x.kind=1
 ·have h1':(x.kind == 1)=true:=by simp [h1]
  replace HNN:=kp (HNN.out.trans (if_pos h1));rw [HNN.out] at HN;have HPr:=kp (fun W=>parse_any x.text (by omega) W);clear h1;go_wp2_with fail
  refine(HPr.out w1).mono ?_;rintro e w2 ⟨rfl,hb⟩;have B2:=kp (B1.out.trans (hb.mono B1.out.size));clear hb;go_wp2_with fail
  go_ret3;exact HP.out _ _ _ _ HN.out B2.out
 ·have h1':(x.kind == 1)=false:=by simp [h1]
  replace HNN:=kp (HNN.out.trans (if_neg h1));clear h1;go_wp2_with fail
  refine(HH.out w1 B1.out).mono ?_;rintro e w2 ⟨rfl,hb⟩;have B2:=kp (B1.out.trans (hb.mono B1.out.size));have X2:=kp (Bk.on XB.out hb);clear hb q0 q1 q2 qf;obtain ⟨q0,q1,q2,qf⟩:=Bk.c3 X2.out
  by_cases h2:headS x=sMinus
  ·replace HNN:=kp (HNN.out.trans (if_pos h2))
   by_cases h3:x.l.length=2
   ·obtain ⟨y0,y,hxl⟩:∃ y0 y,x.l=[y0,y]:=by
     match hx:x.l,h3 with
     | [y0,y],_=>exact⟨y0,y,rfl⟩
    obtain ⟨b,o,A',c',rfl,hbl,e0,e1,e2,hr⟩:=sexp_cells (HL.out.on SexpR.lasts B2.out) (k:=1) (y:=y) (by rw [hxl];rfl);rw [hxl] at HNN;replace HNN:=kp (show nx=if y.kind=1 then some (- parseV (Lx.bs y.text),parseE (Lx.bs y.text)) else none from HNN.out);obtain ⟨_,_,_,hyt,_,hyk⟩:=XAt.opens hr;have h2':((headS x).toList == [45])=true:=tl_true h2;have h3':((x.l.length:Int) == 2)=true:=by rw [h3];rfl
    have h3'':(1:Int) < (x.l.length:Int):=by omega
    clear h2 h3;rw [Nat.one_mul] at e0 e1 e2;clear hxl
    by_cases h4:y.kind=1
    ·have h4':(y.kind == 1)=true:=by simp [h4]
     replace HNN:=kp (HNN.out.trans (if_pos h4));rw [HNN.out] at HN;have HPr:=kp (fun W=>parse_any y.text (by omega) W);have hlim:=parseV_lim (Lx.bs y.text);unfold Lx.bs at hlim HN;generalize parseV y.text.data.toList=v at *;generalize parseE y.text.data.toList=ve at *;clear h4;go_wp2_with fail
     refine(HPr.out w2).mono ?_;rintro e w3 ⟨rfl,hb⟩;have B3:=kp (B2.out.trans (hb.mono B2.out.size));clear hb;go_wp2_with fail
     go_ret3;exact HP.out _ _ _ _ HN.out B3.out
    ·have h4':(y.kind == 1)=false:=by simp [h4]
     replace HNN:=kp (HNN.out.trans (if_neg h4));rw [HNN.out] at HN;clear h4;go_wp2_with fail
     go_ret3;exact HP.out _ _ _ _ HN.out B2.out
   ·have h3':((x.l.length:Int) == 2)=false:=by rw [beq_eq_false_iff_ne];omega
    have HNo:=kp (show nx=none by
     rw [HNN.out]
     match hx:x.l,h3 with
     | [],_=>rfl
     | [_],_=>rfl
     | _ :: _ :: _ :: _,_=>rfl)
    rw [HNo.out] at HN;have h2':((headS x).toList == [45])=true:=tl_true h2;clear h2;go_wp2_with fail
    go_ret3;exact HP.out _ _ _ _ HN.out B2.out
  ·replace HNN:=kp (HNN.out.trans (if_neg h2));rw [HNN.out] at HN;have h2':((headS x).toList == [45])=false:=tl_false h2;go_wp2_with fail
   go_ret3;exact HP.out _ _ _ _ HN.out B2.out
end El
namespace Sg
open Go.RowKit Dt
structure RC (g:Sig) (w:World) (u0 u1 u2:Value) (wr:World) (v1 v2 v3:Value) (k1 k2 k3:Nat):Prop where
 keep:Below w.heap.size w wr
 g0:wr.cell? ⟨w.heap.size,0,none⟩=some u0
 g1:wr.cell? ⟨w.heap.size,1,none⟩=some u1
 g2:wr.cell? ⟨w.heap.size,2,none⟩=some u2
 ob:wr.heap[w.heap.size+1]?=some (.cells #[v1,v2,v3] 26 (0,0))
 r1:Grows 1 StrR 9 w (w.heap.size+2) wr v1 (g.sorts.take k1)
 r2:Grows 6 FunR 108 w (w.heap.size+2) wr v2 (g.funs.take k2)
 r3:Grows 6 MacroR 58 w (w.heap.size+2) wr v3 (g.macros.take k3)
 d12:∀ k,v1.ownBlock=some k->v2.ownBlock≠some k
 d13:∀ k,v1.ownBlock=some k->v3.ownBlock≠some k
 d23:∀ k,v2.ownBlock=some k->v3.ownBlock≠some k
section
variable {g:Sig} {w wr w':World} {u0 u1 u2 v1 v2 v3:Value} {k1 k2 k3:Nat}
theorem RC.lt (h:RC g w u0 u1 u2 wr v1 v2 v3 k1 k2 k3):w.heap.size+1 < wr.heap.size:=lt_of_block h.ob
theorem RC.below (h:RC g w u0 u1 u2 wr v1 v2 v3 k1 k2 k3) (hb:Below wr.heap.size wr w'):RC g w u0 u1 u2 w' v1 v2 v3 k1 k2 k3:=by
 have l:=h.lt;have e:=fun o=>(bcell hb).1 w.heap.size o (by omega);exact⟨h.keep.trans (hb.mono h.keep.size),(e 0).trans h.g0,(e 1).trans h.g1,(e 2).trans h.g2,(hb.block _ l).trans h.ob,h.r1.below hb,h.r2.below hb,h.r3.below hb,h.d12,h.d13,h.d23⟩
theorem RC.drew (h:RC g w u0 u1 u2 wr v1 v2 v3 k1 k2 k3):RC g w u0 u1 u2 wr.drew v1 v2 v3 k1 k2 k3:=h.below (Below.refl _ _).drew
theorem RC.alloc (h:RC g w u0 u1 u2 wr v1 v2 v3 k1 k2 k3) (o:Obj):RC g w u0 u1 u2 (wr.alloc o) v1 v2 v3 k1 k2 k3:=h.below ((Below.refl _ _).alloc nlq o)
theorem RC.o (h:RC g w u0 u1 u2 wr v1 v2 v3 k1 k2 k3):wr.cell? ⟨w.heap.size+1,0,none⟩=some v1/\wr.cell? ⟨w.heap.size+1,1,none⟩=some v2/\wr.cell? ⟨w.heap.size+1,2,none⟩=some v3/\∀ j,wr.frozen? ⟨w.heap.size+1,j,none⟩=false :=
 ⟨by rw [cell_of_cells h.ob];rfl,by rw [cell_of_cells h.ob];rfl,by rw [cell_of_cells h.ob];rfl,fun j=>frozen_of_cells h.ob j⟩
theorem take_len {α:Type} {l:List α} {k:Nat} (h:k<=l.length):(l.take k).length=k:=by rw [List.length_take];omega
theorem RC.shape (h:RC g w u0 u1 u2 wr v1 v2 v3 k1 k2 k3) (h1:k1<=g.sorts.length) (h2:k2<=g.funs.length) (h3:k3<=g.macros.length) :
  (∃ A c,v1=.slice A k1 c/\k1<=c/\c<=maxLen)/\(∃ A c,v2=.slice A k2 c/\k2<=c/\c<=maxLen)/\(∃ A c,v3=.slice A k3 c/\k3<=c/\c<=maxLen):=by
 have a:=h.r1.shape;have b:=h.r2.shape;have c:=h.r3.shape;rw [take_len h1] at a;rw [take_len h2] at b;rw [take_len h3] at c;exact⟨a,b,c⟩
theorem RC.sig {A1 A2 A3:Option Addr} {c1 c2 c3:Nat} (h:RC g w u0 u1 u2 wr (.slice A1 k1 c1) (.slice A2 k2 c2) (.slice A3 k3 c3) k1 k2 k3) (h1:k1<=g.sorts.length) (h2:k2<=g.funs.length) (h3:k3<=g.macros.length) :
  SigAt wr A1 c1 A2 c2 A3 c3 ⟨g.sorts.take k1,g.funs.take k2,g.macros.take k3⟩:=by
 obtain ⟨⟨a,b,e1,p1,q1⟩,⟨a',b',e2,p2,q2⟩,⟨a'',b'',e3,p3,q3⟩⟩:=h.shape h1 h2 h3;simp only [Value.slice.injEq] at e1 e2 e3;have r1:=h.r1;have r2:=h.r2;have r3:=h.r3;have t1:=take_len h1;have t2:=take_len h2;have t3:=take_len h3;have x1:Value.slice A1 k1 c1=.slice A1 (g.sorts.take k1).length c1:=by rw [t1]
 have x2:Value.slice A2 k2 c2=.slice A2 (g.funs.take k2).length c2:=by rw [t2]
 have x3:Value.slice A3 k3 c3=.slice A3 (g.macros.take k3).length c3:=by rw [t3]
 rw [x1] at r1;rw [x2] at r2;rw [x3] at r3;exact⟨r1.lies StrR.lasts h.keep,r2.lies FunR.lasts h.keep,r3.lies MacroR.lasts h.keep,by rw [t1];omega,by rw [t2];omega,by rw [t3];omega,by omega,by omega,by omega⟩
theorem RC.frame {v v':Value} {j:Nat} (h:RC g w u0 u1 u2 wr v1 v2 v3 k1 k2 k3) (hg:wr.grownBy w' v.ownBlock) (hv:∀ k,v.ownBlock=some k->w.heap.size+2<=k) :
  Below w.heap.size w (w'.setCell ⟨w.heap.size+1,j,none⟩ v')/\(w'.setCell ⟨w.heap.size+1,j,none⟩ v').cell? ⟨w.heap.size,0,none⟩=some u0/\(w'.setCell ⟨w.heap.size+1,j,none⟩ v').cell? ⟨w.heap.size,1,none⟩=some u1/\(w'.setCell ⟨w.heap.size+1,j,none⟩ v').cell? ⟨w.heap.size,2,none⟩=some u2 /\
   (w'.setCell ⟨w.heap.size+1,j,none⟩ v').heap[w.heap.size+1]?=some (.cells ((#[v1,v2,v3]:Array Value).setIfInBounds j v') 26 (0,0)):=by
 have l:=h.lt;have hbk:∀ k,k < w.heap.size+2->some k≠v.ownBlock:=fun k hk e=>by have:=hv k e.symm;omega
 have hgb:(w'.setCell ⟨w.heap.size+1,j,none⟩ v').heap[w.heap.size]?=wr.heap[w.heap.size]?:=(Below.heap_setCell w' ⟨w.heap.size+1,j,none⟩ v' w.heap.size (by simp)).trans (hg.block _ (by omega) (hbk _ (by omega)));have e:=fun o=>World.cell?_of_block (w:=wr) (w':=w'.setCell ⟨w.heap.size+1,j,none⟩ v') (a:=⟨w.heap.size,o,none⟩) hgb;refine⟨?_,(e 0).trans h.g0,(e 1).trans h.g1,(e 2).trans h.g2,?_⟩
 ·exact(h.keep.grown hg h.keep.size (fun k hk=>by have:=hv k hk;omega)).setCell (by simp) _
 ·have:=(hg.block _ l (hbk _ (by omega))).trans h.ob;simp [World.setCell,Array.getElem?_modify,this]
theorem RC.grown {v:Value} (h:RC g w u0 u1 u2 wr v1 v2 v3 k1 k2 k3) (hg:wr.grownBy w' v.ownBlock) (hv:∀ k,v.ownBlock=some k->w.heap.size+2<=k) :
  w'.cell? ⟨w.heap.size+1,0,none⟩=some v1/\w'.cell? ⟨w.heap.size+1,1,none⟩=some v2/\w'.cell? ⟨w.heap.size+1,2,none⟩=some v3/\∀ j,w'.frozen? ⟨w.heap.size+1,j,none⟩=false:=by
 have e:=(hg.block _ h.lt (fun e=>by have:=hv _ e.symm;omega)).trans h.ob;exact⟨by rw [cell_of_cells e];rfl,by rw [cell_of_cells e];rfl,by rw [cell_of_cells e];rfl,fun j=>frozen_of_cells e j⟩
end
end Sg
namespace Dt
open Go.RowKit
structure PtrAt (w:World) (b:Nat) (A:Option Addr) (c:Nat) (x:Sexp):Prop where
 c0:w.cell? ⟨b,0,none⟩=some (.int .i8 x.kind)
 c1:w.cell? ⟨b,1,none⟩=some (.string x.text)
 c2:w.cell? ⟨b,2,none⟩=some (.slice A x.l.length c)
 lt:b < w.heap.size
 rep:SexpR w [.int .i8 x.kind,.string x.text,.slice A x.l.length c] x
theorem PtrAt.on {w w':World} {b:Nat} {A:Option Addr} {c:Nat} {x:Sexp} (h:PtrAt w b A c x) (hb:Below w.heap.size w w'):PtrAt w' b A c x :=
 ⟨((bcell hb).1 b 0 h.lt).trans h.c0,((bcell hb).1 b 1 h.lt).trans h.c1,((bcell hb).1 b 2 h.lt).trans h.c2,Nat.lt_of_lt_of_le h.lt hb.size,SexpR.lasts _ _ _ _ hb h.rep⟩
theorem PtrAt.text {w:World} {b:Nat} {A:Option Addr} {c:Nat} {x:Sexp} (h:PtrAt w b A c x):(x.text.size:Int)<=140737488351232:=by
 obtain ⟨_,_,_,_,_,_,h1,_⟩:=h.rep.open';exact h1
theorem PtrAt.len {w:World} {b:Nat} {A:Option Addr} {c:Nat} {x:Sexp} (h:PtrAt w b A c x):x.l.length * 48<=140737488351232:=by
 obtain ⟨_,_,_,_,_,_,_,h1,_⟩:=h.rep.open';exact h1
theorem symbol_any {w:World} {b:Nat} {A:Option Addr} {c:Nat} {x:Sexp} (h:PtrAt w b A c x) :
  Calls Tryz.prog 133 #[.pointer (some ⟨b,0,none⟩)] w fun e w'=>e=.returned (.bool (x.l.isEmpty && Lx.mayB (Lx.bs x.text)))/\w=w':=by
 have HM:=kp (Lx.may_any x.text w (by have:=h.text;omega));have c1:=h.c1;have c2:=h.c2;have hl:=h.len;generalize Lx.mayB (Lx.bs x.text)=m at *;generalize x.text=t at *;generalize x.l=l at *;clear h
 cases l with
 | nil =>
  simp only [List.length_nil] at c2
  go_enter Tryz.func133,Tryz.ntmps133
  go_wp2_with fail
  refine(HM.out).mono ?_;rintro e w' ⟨rfl,rfl⟩;go_wp2_with fail
  go_ret;exact⟨rfl,rfl⟩
 | cons y r =>
  have hn:(((y :: r).length:Int) == 0)=false:=by rw [beq_eq_false_iff_ne,List.length_cons];omega
  generalize (y :: r).length=n at *
  go_enter Tryz.func133,Tryz.ntmps133
  go_wp2_with fail
  go_ret;exact⟨rfl,rfl⟩
theorem numB_iff (l:List UInt8):numB l=(decide (parseE l≠20) && decide (l.length<=100)):=by
 unfold numB parseE
 cases isNum l <;> simp
 split <;> simp
theorem numeral_any {w:World} {b:Nat} {A:Option Addr} {c:Nat} {x:Sexp} (h:PtrAt w b A c x) :
  Calls Tryz.prog 134 #[.pointer (some ⟨b,0,none⟩)] w fun e w'=>e=.returned (.bool (x.l.isEmpty && numB (Lx.bs x.text)))/\Below w.heap.size w w':=by
 have HM:=kp (parse_any x.text (by have:=h.text;omega) w);have HP:=kp (fun W (hW:Below w.heap.size w W)=>show W.cell? ⟨b,1,none⟩=some (.string x.text)/\W.cell? ⟨b,2,none⟩=some (.slice A x.l.length c) from⟨(h.on hW).c1,(h.on hW).c2⟩);have HN:=kp (show numB (Lx.bs x.text)=(decide (parseE x.text.data.toList≠20) && decide (x.text.size<=100)) by rw [← Lx.bs_length x.text];exact numB_iff _);have c1:=h.c1;have hl:=h.len;have ht:=h.text;generalize parseE x.text.data.toList=pe at *;generalize parseV x.text.data.toList=pv at *;generalize numB (Lx.bs x.text)=nb at *;generalize x.text=t at *;generalize x.l=l at *;clear h
 go_enter Tryz.func134,Tryz.ntmps134
 go_wp2_with fail
 refine HM.out.mono ?_;rintro e w1 ⟨rfl,hb⟩;have HB1:=kp hb;obtain ⟨d1,d2⟩:=HP.out w1 hb;clear hb
 cases l with
 | nil =>
  simp only [List.length_nil] at d2
  by_cases h1:pe=20
  ·subst h1;go_wp2_with fail
   go_ret;exact⟨ret_bool (by rw [HN.out];simp),HB1.out⟩
  ·have h1':(pe == 20)=false:=beq_eq_false_iff_ne.2 h1;have h1'':(pe != 20)=true:=by rw [bne,h1'];rfl
   by_cases h2:t.size<=100
   ·have h2':(t.size:Int)<=100:=by omega
    go_wp2_with fail
    go_ret;exact⟨ret_bool (by rw [HN.out];simp [h1,h2]),HB1.out⟩
   ·have h2':decide ((t.size:Int)<=100)=false:=dfq (by omega);go_wp2_with fail
    go_ret;exact⟨ret_bool (by rw [HN.out];simp [h2]),HB1.out⟩
 | cons y r =>
  have hn:(((y :: r).length:Int) == 0)=false:=by rw [beq_eq_false_iff_ne,List.length_cons];omega
  generalize (y :: r).length=n at *;go_wp2_with fail
  go_ret;exact⟨rfl,HB1.out⟩
def IdxPost (b:Bool) (e:Ending):Prop:=∃ r:Int,e=.returned (.int .i64 r)/\decide (0<=r)=b
def byteV (c:UInt8):Value:=.int .u8 c.toNat
def noSign (c:UInt8):Bool:=!Lx.signI c.toNat
theorem keyword1_any (c:UInt8) (w:World) :
  Calls Tryz.prog 172 #[byteV c] w fun e w'=>e=.returned (.bool (noSign c))/\w=w':=by
 have HS:=kp (Lx.sign_any (c.toNat:Int) w (by omega) (by have:=c.toNat_lt;omega));unfold byteV noSign;generalize Lx.signI (c.toNat:Int)=b at *
 go_enter Tryz.func172,Tryz.ntmps172
 go_wp2_with fail
 refine(HS.out).mono ?_;rintro e w' ⟨rfl,rfl⟩;go_wp2_with fail
 go_ret;exact⟨rfl,rfl⟩
theorem idx_bytes (xs:List UInt8) (w:World) (A:Option Addr) (c:Nat) (hc:Cells w A (xs.map byteV)) (hl:(xs.length:Int)<=9223372036854775807) :
  Calls Tryz.prog 189 #[.slice A xs.length c,.func (Fn.func 172) #[] #[]] w fun e w'=>IdxPost (xs.any noSign) e/\w=w':=by
 go_enter Tryz.func189,Tryz.ntmps189
 go_wp2_with fail
 go_loop [8] (fun v=>∃ k:Nat,k<=xs.length/\v=.int .i64 k/\(xs.take k).any noSign=false) (fun v=>xs.length - (intOf v).toNat)
 case atStart=>exact⟨0,Nat.zero_le _,rfl,rfl⟩
 case round =>
  obtain ⟨k,hk,rfl,hn⟩:=hrel;have HN:=kp hn;clear hn
  by_cases hlt:k < xs.length
  ·have hlt2:(k:Int) < (xs.length:Int):=by omega
   have hx:=gqe hlt;generalize xs[k]=x at hx;rcases hc with h0 | ⟨b,o,rfl,hbl,hcell⟩
   ·simp at h0;rw [h0] at hlt;simp at hlt
   ·have c0:=hcell k (byteV x) (by simp [hx]);have HC:=kp (keyword1_any x w);have HX:=kp hx;clear hcell hx
    cases hq:noSign x with
    | true =>
     have HQ:=kp (show xs.any noSign=true from List.any_eq_true.2 ⟨x,mgq HX.out,hq⟩);rw [hq] at HC;clear hq;go_wp2_with fail
     refine HC.out.mono ?_;rintro e w' ⟨rfl,rfl⟩;go_wp2_with fail
     go_ret;exact⟨⟨k,rfl,by rw [HQ.out];exact decide_eq_true (by omega)⟩,rfl⟩
    | false =>
     have HQ:=kp (show(xs.take (k+1)).any noSign=false by rw [List.take_add_one,HX.out,List.any_append,HN.out];simpa using hq);rw [hq] at HC;clear hq;go_wp2_with fail
     refine HC.out.mono ?_;rintro e w' ⟨rfl,rfl⟩;go_wp2_with fail
     go_round
     case rel=>exact⟨k+1,by omega,by go_num,HQ.out⟩
     case measure=>simp [intOf];omega
  ·obtain rfl:k=xs.length:=by omega
   have HQ:=kp (show xs.any noSign=false by have h:=HN.out;rwa [List.take_length] at h);go_wp2_with fail
   go_ret;exact⟨⟨-1,rfl,by rw [HQ.out];exact dfq (by omega)⟩,rfl⟩
theorem contains_bytes (xs:List UInt8) (w:World) (A:Option Addr) (c:Nat) (hc:Cells w A (xs.map byteV)) (hl:(xs.length:Int)<=9223372036854775807) :
  Calls Tryz.prog 171 #[.slice A xs.length c,.func (Fn.func 172) #[] #[]] w fun e w'=>e=.returned (.bool (xs.any noSign))/\w=w':=by
 have HI:=kp (idx_bytes xs w A c hc hl);generalize xs.any noSign=b at *;clear hc
 go_enter Tryz.func171,Tryz.ntmps171
 go_wp2_with fail
 refine HI.out.mono ?_;rintro e w' ⟨⟨r,rfl,hr⟩,rfl⟩;have HR:=kp hr;clear hr;go_wp2_with fail
 go_ret;exact⟨ret_bool HR.out,rfl⟩
theorem bytes_conv (W:World) (s:ByteArray):∃ cap W1,(convert 9 66 (.string s)).run Tryz.prog W=.ok (.slice (some ⟨W.heap.size,0,none⟩) s.size cap) W1/\Below W.heap.size W W1/\Cells W1 (some ⟨W.heap.size,0,none⟩) ((Lx.bs s).map byteV):=by
 refine⟨_,_,run_bytes_of_string (P:=Tryz.prog) W 9 66 5 s Tryz.underlying9 Tryz.underlying66 Tryz.underlying5,((Below.refl _ _).drew).alloc nlq _,.inr ⟨W.heap.size,0,rfl,by simp,fun j u hu=>?_⟩⟩;have hj:j < s.data.size:=by have:=(gqs hu).1;rw [List.length_map,Lx.bs_length] at this;exact this
 have h1:=World.cell?_alloc_mark W.drew (bytesRow s (grownCap W s.size 0 5)) 5 ((bytesRow s (grownCap W s.size 0 5)).size,(bytesRow s (grownCap W s.size 0 5)).size+1) j;rw [bytesRow_at _ _ _ hj] at h1;rw [Nat.zero_add];refine h1.trans ?_;rw [← hu,List.getElem?_map,Lx.bs_at (by exact hj)]
 rfl
theorem keyB_iff (s:ByteArray):keyB (Lx.bs s)=(!(Lx.bs s).any noSign && !(Lx.bs s).isEmpty && decide (s.size<=100)):=by
 unfold keyB;rw [Lx.bs_length]
 congr 2
 rw [Bool.eq_iff_iff];simp [noSign]
theorem keyword_any {w:World} {b:Nat} {A:Option Addr} {c:Nat} {x:Sexp} (h:PtrAt w b A c x) :
  Calls Tryz.prog 135 #[.pointer (some ⟨b,0,none⟩)] w fun e w'=>e=.returned (.bool (x.l.isEmpty && keyB (Lx.bs x.text)))/\Below w.heap.size w w':=by
 obtain ⟨cap,w1,hconv,hb1,hcs⟩:=bytes_conv w x.text;have HC:=kp (contains_bytes (Lx.bs x.text) w1 _ cap hcs (by rw [Lx.bs_length];have:=h.text;omega));have HB1:=kp hb1;have HN:=kp (keyB_iff x.text);have d1:=(h.on hb1).c1;have d2:=(h.on hb1).c2;have HE:=kp (show(Lx.bs x.text).isEmpty=x.text.toList.isEmpty by rw [Lx.bs_toList]);have HL:=kp (Lx.bs_length x.text);have c1:=h.c1;have hl:=h.len;have ht:=h.text;rw [Lx.bs_length] at HC;generalize keyB (Lx.bs x.text)=kb at *;generalize (Lx.bs x.text).any noSign=nb at *;generalize x.text=t at *;generalize x.l=l at *;clear h hb1 hcs
 cases l with
 | nil =>
  simp only [List.length_nil] at d2
  cases nb with
  | true =>
   go_enter Tryz.func135,Tryz.ntmps135
   go_wp2_with fail
   refine(HC.out).mono ?_;rintro e w' ⟨rfl,rfl⟩;go_wp2_with fail
   go_ret;exact⟨ret_bool (by rw [HN.out];simp),HB1.out⟩
  | false =>
   cases he:t.toList.isEmpty with
   | true =>
    have he2:t.toList=[]:=List.isEmpty_iff.1 he;have HE2:=kp (show(Lx.bs t).isEmpty=true by rw [HE.out,he])
    go_enter Tryz.func135,Tryz.ntmps135
    go_wp2_with fail
    refine(HC.out).mono ?_;rintro e w' ⟨rfl,rfl⟩;go_wp2_with fail
    go_ret;exact⟨ret_bool (by rw [HN.out,HE2.out];simp),HB1.out⟩
   | false =>
    have HE2:=kp (show(Lx.bs t).isEmpty=false by rw [HE.out,he]);have he3:(!t.toList.isEmpty)=true:=by rw [he];rfl
    by_cases h2:t.size<=100
    ·have h2':(t.size:Int)<=100:=by omega
     go_enter Tryz.func135,Tryz.ntmps135
     go_wp2_with fail
     refine(HC.out).mono ?_;rintro e w' ⟨rfl,rfl⟩;go_wp2_with fail
     go_ret;exact⟨ret_bool (by rw [HN.out,HE2.out];simp [h2]),HB1.out⟩
    ·have h2':decide ((t.size:Int)<=100)=false:=dfq (by omega)
     go_enter Tryz.func135,Tryz.ntmps135
     go_wp2_with fail
     refine(HC.out).mono ?_;rintro e w' ⟨rfl,rfl⟩;go_wp2_with fail
     go_ret;exact⟨ret_bool (by rw [HN.out,HE2.out];simp [h2]),HB1.out⟩
 | cons y r =>
  have hn:(((y :: r).length:Int) == 0)=false:=by rw [beq_eq_false_iff_ne,List.length_cons];omega
  have HI:=kp (show(y :: r).isEmpty=false from rfl);generalize (y :: r).length=n at *
  go_enter Tryz.func135,Tryz.ntmps135
  go_wp2_with fail
  refine(HC.out).mono ?_;rintro e w' ⟨rfl,rfl⟩;go_wp2_with fail
  go_ret;exact⟨ret_bool (by rw [HI.out];rfl),HB1.out⟩
def StandsAt (y:Sexp):Prop:=∀ (W:World) (b:Nat) (A:Option Addr) (c:Nat),PtrAt W b A c y->Calls Tryz.prog 89 #[.pointer (some ⟨b,0,none⟩)] W fun e w'=>e=.returned (.bool y.stands)/\Below W.heap.size W w'
theorem ptr_box {w:World} {A:Option Addr} {c:Nat} {x:Sexp} (h:SexpR w [.int .i8 x.kind,.string x.text,.slice A x.l.length c] x) :
  PtrAt (w.alloc (.cells #[.int .i8 x.kind,.string x.text,.slice A x.l.length c] 40)) w.heap.size A c x:=by
 obtain ⟨q0,q1,q2,z⟩:=box_cells w (.int .i8 x.kind) (.string x.text) (.slice A x.l.length c) 40;exact⟨q0,q1,q2,by omega,SexpR.lasts _ _ _ _ ((Below.refl _ _).alloc nlq _) h⟩
theorem list1_any {y:Sexp} (hs:StandsAt y) {w:World} {A:Option Addr} {c:Nat} (h:SexpR w [.int .i8 y.kind,.string y.text,.slice A y.l.length c] y) :
  Calls Tryz.prog 174 #[.agg #[.int .i8 y.kind,.string y.text,.slice A y.l.length c]] w fun e w'=>e=.returned (.bool (!y.stands))/\Below w.heap.size w w':=by
 have HP:=kp (hs _ _ A c (ptr_box h));have HB:=kp ((brq w).alloc nlq (.cells #[.int .i8 y.kind,.string y.text,.slice A y.l.length c] 40));generalize y.stands=b at *;clear hs h
 go_enter Tryz.func174,Tryz.ntmps174
 go_wp2_with fail
 refine HP.out.mono ?_;rintro e w1 ⟨rfl,hb⟩;have HB1:=kp (HB.out.trans (hb.mono HB.out.size));clear hb;go_wp2_with fail
 go_ret;exact⟨rfl,HB1.out⟩
theorem idx_sexp (l:List Sexp) (hs:∀ y ∈ l,StandsAt y) (w:World) (A:Option Addr) (c:Nat) (hl:Lies 3 SexpR w A l) (hlen:(l.length:Int)<=140737488351232) :
  Calls Tryz.prog 190 #[.slice A l.length c,.func (Fn.func 174) #[] #[]] w fun e w'=>IdxPost (!Sexp.standsL l) e/\Below w.heap.size w w':=by
 have HS:=kp hs;have HL:=kp hl;have HA:=kp (Sexp.standsL_all l);clear hs hl
 go_enter Tryz.func190,Tryz.ntmps190
 go_wp2_with fail
 go_loopw [8] (fun v wr=>∃ k:Nat,k<=l.length/\v=.int .i64 k/\(l.take k).all Sexp.stands=true/\Below w.heap.size w wr) (fun v _=>l.length - (intOf v).toNat)
 case atStart=>exact⟨0,Nat.zero_le _,rfl,rfl,Below.refl _ _⟩
 case round =>
  obtain ⟨k,hk,rfl,hn,hb⟩:=hrel;have HN:=kp hn;have HB:=kp hb;clear hn
  by_cases hlt:k < l.length
  ·have hlt2:(k:Int) < (l.length:Int):=by omega
   have hy:=gqe hlt;have hym:=List.getElem_mem hlt;generalize l[k]=y at hy hym;obtain ⟨b,o,A',c',rfl,hbl,e0,e1,e2,hr⟩:=sexp_cells (HL.out.on SexpR.lasts hb) hy;have HC:=kp (list1_any (HS.out y hym) hr);have HY:=kp hy;have HM:=kp hym;clear hb hr hy hym
   cases hq:y.stands with
   | true =>
    have HQ:=kp (show(l.take (k+1)).all Sexp.stands=true by rw [List.take_add_one,HY.out,List.all_append,HN.out];simpa using hq);rw [hq] at HC;clear hq;go_wp2_with fail
    refine HC.out.mono ?_;rintro e w2 ⟨rfl,hb2⟩;have HB2:=kp (HB.out.trans (hb2.mono HB.out.size));clear hb2;go_wp2_with fail
    go_roundw
    case rel=>exact⟨k+1,by omega,by go_num,HQ.out,HB2.out⟩
    case measure=>simp [intOf];omega
   | false =>
    have HQ:=kp (show Sexp.standsL l=false by rw [HA.out,List.all_eq_false];exact⟨y,HM.out,by rw [hq];simp⟩);rw [hq] at HC;clear hq;go_wp2_with fail
    refine HC.out.mono ?_;rintro e w2 ⟨rfl,hb2⟩;have HB2:=kp (HB.out.trans (hb2.mono HB.out.size));clear hb2;go_wp2_with fail
    go_ret;exact⟨⟨k,rfl,by rw [HQ.out];exact decide_eq_true (by omega)⟩,HB2.out⟩
  ·obtain rfl:k=l.length:=by omega
   have HQ:=kp (show Sexp.standsL l=true by have h:=HN.out;rw [List.take_length] at h;rw [HA.out];exact h);clear hb;go_wp2_with fail
   go_ret;exact⟨⟨-1,rfl,by rw [HQ.out];exact dfq (by omega)⟩,HB.out⟩
theorem contains_sexp_of {w:World} {A:Option Addr} {n c:Nat} {q:Bool} {fv:Value} (h:Calls Tryz.prog 190 #[.slice A n c,fv] w fun e w'=>IdxPost q e/\Below w.heap.size w w') :
  Calls Tryz.prog 173 #[.slice A n c,fv] w fun e w'=>e=.returned (.bool q)/\Below w.heap.size w w':=by
 have HI:=kp h;clear h
 go_enter Tryz.func173,Tryz.ntmps173
 go_wp2_with fail
 refine HI.out.mono ?_;rintro e w1 ⟨⟨r,rfl,hr⟩,hb⟩;have HR:=kp hr;have HB:=kp hb;clear hr hb;go_wp2_with fail
 go_ret;exact⟨ret_bool HR.out,HB.out⟩
theorem list_any {w:World} {b:Nat} {A:Option Addr} {c:Nat} {x:Sexp} (h:PtrAt w b A c x) (hs:∀ y ∈ x.l,StandsAt y) :
  Calls Tryz.prog 136 #[.pointer (some ⟨b,0,none⟩)] w fun e w'=>e=.returned (.bool ((Lx.bs x.text).isEmpty && Sexp.standsL x.l))/\Below w.heap.size w w':=by
 obtain ⟨A0,c0,e0,hl,hc,hcm,htx,hlb,_⟩:=h.rep.open';simp only [List.cons.injEq,Value.slice.injEq,and_true,true_and] at e0;obtain ⟨rfl,rfl⟩:=e0;have HI:=kp (idx_sexp x.l hs w A c hl (by omega));have c1:=h.c1;have c2:=h.c2;have HE:=kp (show(Lx.bs x.text).isEmpty=x.text.toList.isEmpty by rw [Lx.bs_toList]);generalize Sexp.standsL x.l=sl at *;generalize x.text=t at *;generalize x.l=l at *;clear h hs hl
 cases he:t.toList.isEmpty with
 | true =>
  have he2:t.toList=[]:=List.isEmpty_iff.1 he;replace HE:=kp (show(Lx.bs t).isEmpty=true by rw [HE.out,he])
  go_enter Tryz.func136,Tryz.ntmps136
  go_wp2_with fail
  refine(Calls.mono (contains_sexp_of HI.out) ?_);rintro e w1 ⟨rfl,hb⟩;have HB:=kp hb;clear hb;go_wp2_with fail
  go_ret;exact⟨ret_bool (by rw [HE.out];cases sl <;> rfl),HB.out⟩
 | false =>
  replace HE:=kp (show(Lx.bs t).isEmpty=false by rw [HE.out,he])
  go_enter Tryz.func136,Tryz.ntmps136
  go_wp2_with fail
  go_ret;exact⟨ret_bool (by rw [HE.out];rfl),Below.refl _ _⟩
end Dt
namespace El
open Go.RowKit Dt Sg
def bytesN (l:List UInt8):ByteArray:=⟨l.toArray⟩
def posX (n:Int):Sexp:=.mk 1 (bytesN (Lib.itoa n)) []
def symT (s:ByteArray):Sexp:=.mk 0 s []
def listT (l:List Sexp):Sexp:=.mk 3 { data:=#[] } l
def numX (n:Int):Sexp:=if n < 0 then listT [symT sMinus,posX (-n)] else posX n
def nodeAt (t:List Node) (id:Int):Node:=t.getD id.toNat nodeTrue
def argsOf (n:Node):List Int:=[n.a0,n.a1,n.a2].take n.len.toNat
def opName (op:Int):ByteArray :=
 if op=1 then sNot else if op=2 then sAnd else if op=3 then sOr else if op=4 then sXor else if op=5 then sImp else if op=6 then sEq else if op=7 then sIte else if op=8 then sLe else sLt
def funName (g:Sig) (k:Int):ByteArray:=(g.funs[k.toNat]?.map Fun4.name).getD { data:=#[] }
def exprN (g:Sig) (n:Node) (xs:List Sexp):Sexp :=
 if n.op=0 then symT sTrue
 else if n.op=10 then numX n.n
 else if n.op=11 then(if n.n < 0 then listT (symT sMinus :: (xs ++ [posX (-n.n)])) else listT (symT sPlus :: (xs ++ [posX n.n])))
 else if n.op=12 then listT [symT sLe,listT (symT sMinus :: xs),numX n.n]
 else if n.op=13 then(if n.len=0 then symT (funName g n.fn) else listT (symT (funName g n.fn) :: xs))
 else listT (symT (opName n.op) :: xs)
def exprF (g:Sig) (t:List Node):Nat->Int->Sexp
 | 0,_=>symT sTrue
 | f+1,id=>exprN g (nodeAt t id) ((argsOf (nodeAt t id)).map (exprF g t f))
def exprX (g:Sig) (t:List Node) (id:Int):Sexp:=exprF g t (id.toNat+1) id
def Ahead (t:List Node):Prop:=∀ (k:Nat) n,t[k]?=some n->∀ a ∈ argsOf n,0<=a/\a < k
theorem nodeAt_get {t:List Node} {k:Nat} {n:Node} (h:t[k]?=some n):nodeAt t k=n:=by
 unfold nodeAt;rw [List.getD_eq_getElem?_getD];simp [h]
theorem exprF_more {g:Sig} {t:List Node} (ha:Ahead t):∀ (f1 f2:Nat) (id:Int),id.toNat < t.length->id.toNat < f1->id.toNat < f2->exprF g t f1 id=exprF g t f2 id
 | 0,_,_,_,h,_=>by omega
 | _+1,0,_,_,_,h=>by omega
 | f1+1,f2+1,id,hl,h1,h2=>by
  unfold exprF
  congr 1
  refine List.map_congr_left fun a hm=>?_;obtain ⟨n,hn⟩:∃ n,t[id.toNat]?=some n:=⟨_,gqe hl⟩;have hnn:nodeAt t id=n:=by unfold nodeAt;rw [List.getD_eq_getElem?_getD,hn];rfl
  rw [hnn] at hm;have hb:=ha _ n hn a hm;exact exprF_more ha f1 f2 a (by omega) (by omega) (by omega)
theorem exprX_eq {g:Sig} {t:List Node} (ha:Ahead t) {k:Nat} {n:Node} (h:t[k]?=some n):exprX g t k=exprN g n ((argsOf n).map (exprX g t)):=by
 have hk:=(gqs h).1;unfold exprX;show exprF g t (k+1) (k:Int)=_;unfold exprF;rw [nodeAt_get h]
 congr 1
 refine List.map_congr_left fun a hm=>?_;have hb:=ha k n h a hm;exact exprF_more ha k (a.toNat+1) a (by omega) (by omega) (by omega)
def treeStep (l:List Int) (n:Node):Int:=min ((((argsOf n).map fun a=>l.getD a.toNat 0).foldl (·+·) 0)+1) 1073741824
def trees (t:List Node):Nat->List Int
 | 0=>[]
 | k+1=>trees t k ++ [treeStep (trees t k) (nodeAt t k)]
def treeN (t:List Node) (id:Int):Int:=(trees t t.length).getD id.toNat 0
theorem trees_succ (t:List Node) (k:Nat):trees t (k+1)=trees t k ++ [treeStep (trees t k) (nodeAt t k)]:=rfl
theorem trees_len (t:List Node):∀ k,(trees t k).length=k
 | 0=>rfl
 | k+1=>by rw [trees_succ,List.length_append,trees_len t k];rfl
theorem trees_get (t:List Node) {k:Nat}:∀ {m:Nat},k < m->(trees t m)[k]?=some (treeStep (trees t k) (nodeAt t k))
 | 0,h=>by omega
 | m+1,h=>by
  rw [trees_succ]
  by_cases hk:k < m
  ·rw [List.getElem?_append_left (by rw [trees_len];exact hk)];exact trees_get t hk
  ·obtain rfl:k=m:=by omega
   rw [List.getElem?_append_right (by rw [trees_len];exact nlq),trees_len];simp
theorem trees_at (t:List Node) {k m:Nat} (hk:k < m):(trees t m).getD k 0=treeStep (trees t k) (nodeAt t k):=by
 rw [List.getD_eq_getElem?_getD,trees_get t hk]
 rfl
theorem sym_text (s:ByteArray):(symT s).textL=Lx.quoteL (Lx.bs s):=by rw [Sexp.textL_eq];rfl
theorem pos_text (n:Int):(posX n).textL=Lib.itoa n:=by
 rw [Sexp.textL_eq];exact Lx.bs_mk _
theorem list_text (s:ByteArray) (xs:List Sexp):(listT (symT s :: xs)).textL=40 :: (Lx.quoteL (Lx.bs s) ++ Sexp.restsL xs ++ [41]):=by
 rw [Sexp.textL_eq];have e1:(listT (symT s :: xs)).kind=3:=rfl;have e2:(listT (symT s :: xs)).l=symT s :: xs:=rfl;rw [e1,e2,if_neg (by decide),if_neg (by decide),if_pos rfl,Sexp.textsL,sym_text]
theorem rests_end (l:List Sexp) (y:Sexp):Sexp.restsL (l ++ [y])=Sexp.restsL l ++ 32 :: y.textL:=by
 induction l with
 | nil=>rw [List.nil_append,Sexp.restsL];simp [Sexp.restsL]
 | cons x r ih=>rw [List.cons_append,Sexp.restsL,ih,Sexp.restsL];simp
theorem num_text (n:Int):(numX n).textL=if n < 0 then [40,45,32] ++ Lib.itoa (-n) ++ [41] else Lib.itoa n:=by
 unfold numX
 split
 ·rw [list_text,Sexp.restsL,Sexp.restsL,pos_text];have:Lx.quoteL (Lx.bs sMinus)=[45]:=by decide
  rw [this];simp
 ·exact pos_text n
def wordL (op:Int):List UInt8:=Lx.bs (opName op)
theorem word_quote (op:Int):Lx.quoteL (Lx.bs (opName op))=wordL op:=by
 unfold wordL opName
 repeat' split
 all_goals decide
section
variable {g:Sig} {n:Node} {xs:List Sexp}
theorem text_true (h:n.op=0):(exprN g n xs).textL=[116,114,117,101]:=by
 unfold exprN;rw [if_pos h,sym_text]
 decide
theorem text_num (h:n.op=10):(exprN g n xs).textL=(numX n.n).textL:=by
 unfold exprN;rw [if_neg (by rw [h];decide),if_pos h]
theorem text_sub (h:n.op=11) (hn:n.n < 0):(exprN g n xs).textL=40 :: 45 :: (Sexp.restsL xs ++ 32 :: Lib.itoa (-n.n) ++ [41]):=by
 unfold exprN;rw [if_neg (by rw [h];decide),if_neg (by rw [h];decide),if_pos h,if_pos hn,list_text,rests_end,pos_text,show Lx.quoteL (Lx.bs sMinus)=[45] by decide]
 rfl
theorem text_add (h:n.op=11) (hn:¬ n.n < 0):(exprN g n xs).textL=40 :: 43 :: (Sexp.restsL xs ++ 32 :: Lib.itoa n.n ++ [41]):=by
 unfold exprN;rw [if_neg (by rw [h];decide),if_neg (by rw [h];decide),if_pos h,if_neg hn,list_text,rests_end,pos_text,show Lx.quoteL (Lx.bs sPlus)=[43] by decide]
 rfl
theorem text_diff (h:n.op=12):(exprN g n xs).textL=[40,60,61,32,40,45] ++ Sexp.restsL xs ++ [41,32] ++ (numX n.n).textL ++ [41]:=by
 unfold exprN;rw [if_neg (by rw [h];decide),if_neg (by rw [h];decide),if_neg (by rw [h];decide),if_pos h,list_text,Sexp.restsL,Sexp.restsL,Sexp.restsL,list_text,show Lx.quoteL (Lx.bs sLe)=[60,61] by decide,show Lx.quoteL (Lx.bs sMinus)=[45] by decide];simp
theorem text_name (h:n.op=13) (h0:n.len=0):(exprN g n xs).textL=Lx.quoteL (Lx.bs (funName g n.fn)):=by
 unfold exprN;rw [if_neg (by rw [h];decide),if_neg (by rw [h];decide),if_neg (by rw [h];decide),if_neg (by rw [h];decide),if_pos h,if_pos h0,sym_text]
theorem text_app (h:n.op=13) (h0:n.len≠0):(exprN g n xs).textL=40 :: (Lx.quoteL (Lx.bs (funName g n.fn)) ++ Sexp.restsL xs ++ [41]):=by
 unfold exprN;rw [if_neg (by rw [h];decide),if_neg (by rw [h];decide),if_neg (by rw [h];decide),if_neg (by rw [h];decide),if_pos h,if_neg h0,list_text]
theorem text_op (h0:n.op≠0) (h10:n.op≠10) (h11:n.op≠11) (h12:n.op≠12) (h13:n.op≠13):(exprN g n xs).textL=40 :: (wordL n.op ++ Sexp.restsL xs ++ [41]):=by
 unfold exprN;rw [if_neg h0,if_neg h10,if_neg h11,if_neg h12,if_neg h13,list_text,word_quote]
end
def textO (g:Sig) (te:Int) (t:List Node) (id:Int):ByteArray × Int :=
 if te≠0\/id < 0\/(t.length:Int)<=id then({ data:=#[] },2)
 else if 4096 < treeN t id then({ data:=#[] },41)
 else if 8192 < (exprX g t id).textL.length then({ data:=#[] },41)
 else(bytesN (exprX g t id).textL,0)
end El
namespace El
open Go.RowKit Go.Maps Dt Sg
theorem ofFun_any {w:World} (nm:ByteArray) (v1 v2 v3 v4 v5:Int) :
  Calls Tryz.prog 157 #[.agg #[.string nm,.int .i64 v1,.int .i64 v2,.int .i64 v3,.int .i64 v4,.int .i64 v5]] w fun e w'=>e=.returned (.string nm)/\Below w.heap.size w w':=by
 have XB:=kp (Bk.new w (.cells #[.string nm,.int .i64 v1,.int .i64 v2,.int .i64 v3,.int .i64 v4,.int .i64 v5] 108));have B1:=kp ((brq w).alloc nlq (.cells #[.string nm,.int .i64 v1,.int .i64 v2,.int .i64 v3,.int .i64 v4,.int .i64 v5] 108))
 go_enter Tryz.func157,Tryz.ntmps157
 go_upto_region 1 with fail
 generalize w.alloc (.cells #[.string nm,.int .i64 v1,.int .i64 v2,.int .i64 v3,.int .i64 v4,.int .i64 v5] 108)=w1 at *;obtain ⟨q0,q1,q2,q3,q4,q5,qf⟩:=Bk.c6 XB.out;go_wp2_with fail
 go_ret;exact⟨rfl,B1.out⟩
theorem clFun_any {w:World} {ob nb:Nat} {s:ByteArray} (nm:ByteArray) (v1 v2 v3 v4 v5:Int) (ho:w.heap[ob]?=some (.cells #[.func (.func 157) #[] #[]] 201 (0,0))) (hn:w.heap[nb]?=some (.cells #[.string s] 9 (0,0))) :
  Calls Tryz.prog 181 #[.agg #[.string nm,.int .i64 v1,.int .i64 v2,.int .i64 v3,.int .i64 v4,.int .i64 v5],.pointer (some ⟨ob,0,none⟩),.pointer (some ⟨nb,0,none⟩)] w fun e w'=>e=.returned (.bool (decide (nm=s)))/\Below w.heap.size w w':=by
 have XB:=kp (Bk.new w (.cells #[.string nm,.int .i64 v1,.int .i64 v2,.int .i64 v3,.int .i64 v4,.int .i64 v5] 108));have B1:=kp ((brq w).alloc nlq (.cells #[.string nm,.int .i64 v1,.int .i64 v2,.int .i64 v3,.int .i64 v4,.int .i64 v5] 108));have OB:=kp (Bk.on ho B1.out);have NB:=kp (Bk.on hn B1.out);have HOf:=kp (fun W=>ofFun_any (w:=W) nm v1 v2 v3 v4 v5)
 have HQ:=kp (show(nm.toList == s.toList)=decide (nm=s) by
  by_cases h:nm=s
  ·subst h;simp
  ·rw [text_ne h,dfq h])
 clear ho hn
 go_enter Tryz.func181,Tryz.ntmps181
 go_upto_region 1 with fail
 generalize w.alloc (.cells #[.string nm,.int .i64 v1,.int .i64 v2,.int .i64 v3,.int .i64 v4,.int .i64 v5] 108)=w1 at *;have B0:=kp (brq w1).drew;refine wp_region_held_drew (S:=fun W=>Below w1.heap.size w1 W) (by kernel_rfl) (B0.out) (fun hHeld=>?_);refine plz [0,1,3] ?_;iterate 3 (refine tnz (v:=?_) ?_ ?_;rotate_left;(focus first | ((intro w hSw;(obtain ⟨q0,qf⟩:=Bk.c1 (Bk.on OB.out hSw);go_simp;try with_reducible rfl));done) | ((intro w hSw;(obtain ⟨q0,q1,q2,q3,q4,q5,qf⟩:=Bk.c6 (Bk.on XB.out hSw);go_simp;try with_reducible rfl));done) | ((intro w hSw;(obtain ⟨q0,qf⟩:=Bk.c1 (Bk.on NB.out hSw);go_simp;try with_reducible rfl));done));try simp only [pt])
 refine pzz ?_;refine rd 2 fun K hK=>?_;go_simp;refine(HOf.out _).mono ?_;rintro e w2 ⟨rfl,hb2⟩;have B2:=kp (B0.out.trans (hb2.mono B0.out.size));clear hb2;refine hK.out _ _ B2.out (fun hHeld=>?_);clear hK K;refine plz [4,5] ?_;iterate 2 (refine tnz (v:=?_) ?_ ?_;rotate_left;(focus (intro w hSw;go_simp;try with_reducible rfl));try simp only [pt])
 refine pzz ?_;refine dnz ?_;go_wp2_with fail
 go_ret;exact⟨by rw [← HQ.out];rfl,B1.out.trans (B2.out.mono B1.out.size)⟩
theorem ofMac_any {w:World} (nm:ByteArray) (v1:Option Addr) (n1 c1:Nat) (v2 v3:Int) (v4:ByteArray) (v5:Option Addr) (n5 c5:Nat) :
  Calls Tryz.prog 159 #[.agg #[.string nm,.slice v1 n1 c1,.int .i64 v2,.int .i8 v3,.string v4,.slice v5 n5 c5]] w fun e w'=>e=.returned (.string nm)/\Below w.heap.size w w':=by
 have XB:=kp (Bk.new w (.cells #[.string nm,.slice v1 n1 c1,.int .i64 v2,.int .i8 v3,.string v4,.slice v5 n5 c5] 58));have B1:=kp ((brq w).alloc nlq (.cells #[.string nm,.slice v1 n1 c1,.int .i64 v2,.int .i8 v3,.string v4,.slice v5 n5 c5] 58))
 go_enter Tryz.func159,Tryz.ntmps159
 go_upto_region 1 with fail
 generalize w.alloc (.cells #[.string nm,.slice v1 n1 c1,.int .i64 v2,.int .i8 v3,.string v4,.slice v5 n5 c5] 58)=w1 at *;obtain ⟨q0,q1,q2,q3,q4,q5,qf⟩:=Bk.c6 XB.out;go_wp2_with fail
 go_ret;exact⟨rfl,B1.out⟩
theorem clMac_any {w:World} {ob nb:Nat} {s:ByteArray} (nm:ByteArray) (v1:Option Addr) (n1 c1:Nat) (v2 v3:Int) (v4:ByteArray) (v5:Option Addr) (n5 c5:Nat) (ho:w.heap[ob]?=some (.cells #[.func (.func 159) #[] #[]] 204 (0,0))) (hn:w.heap[nb]?=some (.cells #[.string s] 9 (0,0))) :
  Calls Tryz.prog 183 #[.agg #[.string nm,.slice v1 n1 c1,.int .i64 v2,.int .i8 v3,.string v4,.slice v5 n5 c5],.pointer (some ⟨ob,0,none⟩),.pointer (some ⟨nb,0,none⟩)] w fun e w'=>e=.returned (.bool (decide (nm=s)))/\Below w.heap.size w w':=by
 have XB:=kp (Bk.new w (.cells #[.string nm,.slice v1 n1 c1,.int .i64 v2,.int .i8 v3,.string v4,.slice v5 n5 c5] 58));have B1:=kp ((brq w).alloc nlq (.cells #[.string nm,.slice v1 n1 c1,.int .i64 v2,.int .i8 v3,.string v4,.slice v5 n5 c5] 58));have OB:=kp (Bk.on ho B1.out);have NB:=kp (Bk.on hn B1.out);have HOf:=kp (fun W=>ofMac_any (w:=W) nm v1 n1 c1 v2 v3 v4 v5 n5 c5)
 have HQ:=kp (show(nm.toList == s.toList)=decide (nm=s) by
  by_cases h:nm=s
  ·subst h;simp
  ·rw [text_ne h,dfq h])
 clear ho hn
 go_enter Tryz.func183,Tryz.ntmps183
 go_upto_region 1 with fail
 generalize w.alloc (.cells #[.string nm,.slice v1 n1 c1,.int .i64 v2,.int .i8 v3,.string v4,.slice v5 n5 c5] 58)=w1 at *;have B0:=kp (brq w1).drew;refine wp_region_held_drew (S:=fun W=>Below w1.heap.size w1 W) (by kernel_rfl) (B0.out) (fun hHeld=>?_);refine plz [0,1,3] ?_;iterate 3 (refine tnz (v:=?_) ?_ ?_;rotate_left;(focus first | ((intro w hSw;(obtain ⟨q0,qf⟩:=Bk.c1 (Bk.on OB.out hSw);go_simp;try with_reducible rfl));done) | ((intro w hSw;(obtain ⟨q0,q1,q2,q3,q4,q5,qf⟩:=Bk.c6 (Bk.on XB.out hSw);go_simp;try with_reducible rfl));done) | ((intro w hSw;(obtain ⟨q0,qf⟩:=Bk.c1 (Bk.on NB.out hSw);go_simp;try with_reducible rfl));done));try simp only [pt])
 refine pzz ?_;refine rd 2 fun K hK=>?_;go_simp;refine(HOf.out _).mono ?_;rintro e w2 ⟨rfl,hb2⟩;have B2:=kp (B0.out.trans (hb2.mono B0.out.size));clear hb2;refine hK.out _ _ B2.out (fun hHeld=>?_);clear hK K;refine plz [4,5] ?_;iterate 2 (refine tnz (v:=?_) ?_ ?_;rotate_left;(focus (intro w hSw;go_simp;try with_reducible rfl));try simp only [pt])
 refine pzz ?_;refine dnz ?_;go_wp2_with fail
 go_ret;exact⟨by rw [← HQ.out];rfl,B1.out.trans (B2.out.mono B1.out.size)⟩
theorem idxFun_any {w:World} {ob nb c:Nat} {s:ByteArray} {A:Option Addr} {l:List Fun4} (hl:Lies 6 FunR w A l) (hlen:(l.length:Int)<=140737488351232) (ho:w.heap[ob]?=some (.cells #[.func (.func 157) #[] #[]] 201 (0,0))) (hn:w.heap[nb]?=some (.cells #[.string s] 9 (0,0))) :
  Calls Tryz.prog 180 #[.slice A l.length c,.func (.func 181) #[] #[.pointer (some ⟨ob,0,none⟩),.pointer (some ⟨nb,0,none⟩)]] w fun e w'=>e=.returned (.int .i64 (if hasB (l.map Fun4.name) s then(findAt (l.map Fun4.name) s:Nat) else -1))/\Below w.heap.size w w':=by
 have HL:=kp hl;have OB:=kp ho;have NB:=kp hn;have HX:=kp (fun k hk h=>findAt_stop (l:=l.map Fun4.name) (s:=s) (k:=k) hk h);have HN:=kp (fun h=>findAt_none (l:=l.map Fun4.name) (s:=s) h);have HS:=kp (fun k x hk h h'=>find_step (l:=l.map Fun4.name) (s:=s) (k:=k) (x:=x) hk h h');have HM:=kp (fun k x=>map_at (l:=l) (nm:=Fun4.name) (k:=k) (x:=x));have hln:(l.map Fun4.name).length=l.length:=by simp
 clear hl ho hn;generalize l.map Fun4.name=ns at *;generalize hres:(if hasB ns s then((findAt ns s:Nat):Int) else -1)=res;have HR:=kp hres;clear hres
 go_enter Tryz.func180,Tryz.ntmps180
 go_wp2_with fail
 go_loopw [8] (fun v wr=>∃ k:Nat,k<=l.length/\v=.int .i64 k/\hasB (ns.take k) s=false/\Below w.heap.size w wr) (fun v _=>l.length - (intOf v).toNat)
 case atStart=>exact⟨0,Nat.zero_le _,rfl,rfl,Below.refl _ _⟩
 case round =>
  obtain ⟨k,hk,rfl,hn,hb⟩:=hrel;have HK:=kp hn;have HB:=kp hb;clear hn hb
  by_cases hlt:k < l.length
  ·have hlt2:(k:Int) < (l.length:Int):=by omega
   obtain ⟨y,hy⟩:∃ y,l[k]?=some y:=⟨_,gqe hlt⟩;obtain ⟨b,o,vs,rfl,hbl,_,hcell,hr⟩:=(HL.out.on FunR.lasts HB.out).at' hy;obtain ⟨rfl,_⟩:=hr;have c0:=hcell 0 _ rfl;have c1:=hcell 1 _ rfl;have c2:=hcell 2 _ rfl;have c3:=hcell 3 _ rfl;have c4:=hcell 4 _ rfl;have c5:=hcell 5 _ rfl;rw [Nat.add_zero] at c0;have HX2:=kp (HM.out k y hy);have HC:=kp (clFun_any (w:=wr) y.name y.len y.a0 y.a1 y.a2 y.res (Bk.on OB.out HB.out) (Bk.on NB.out HB.out));clear hcell hy
   by_cases hq:Fun4.name y=s
   ·have HQ:=kp (HX.out k (by rw [← hq];exact HX2.out) HK.out);rw [decide_eq_true hq] at HC;clear hq;go_wp2_with fail
    refine HC.out.mono ?_;rintro e w2 ⟨rfl,hb2⟩;have HB2:=kp (HB.out.trans (hb2.mono HB.out.size));clear hb2;go_wp2_with fail
    go_ret;exact⟨by rw [← HR.out,HQ.out.2,HQ.out.1];rfl,HB2.out⟩
   ·have HQ:=kp (HS.out k _ HX2.out HK.out hq);rw [dfq hq] at HC;clear hq;go_wp2_with fail
    refine HC.out.mono ?_;rintro e w2 ⟨rfl,hb2⟩;have HB2:=kp (HB.out.trans (hb2.mono HB.out.size));clear hb2;go_wp2_with fail
    go_roundw
    case rel=>exact⟨k+1,by omega,by go_num,HQ.out,HB2.out⟩
    case measure=>simp [intOf];omega
  ·obtain rfl:k=l.length:=by omega
   have HQ:=kp (HN.out (by have:=HK.out;rwa [List.take_of_length_le (by omega)] at this));go_wp2_with fail
   go_ret;exact⟨by rw [← HR.out,HQ.out.2];rfl,HB.out⟩
theorem findFun_any {w:World} {c:Nat} (s:ByteArray) {A:Option Addr} {l:List Fun4} (hl:Lies 6 FunR w A l) (hlen:(l.length:Int)<=140737488351232) :
  Calls Tryz.prog 156 #[.slice A l.length c,.func (.func 157) #[] #[],.string s] w fun e w'=>e=.returned (.tuple #[.int .i64 (findAt (l.map Fun4.name) s:Nat),.bool (hasB (l.map Fun4.name) s)])/\Below w.heap.size w w':=by
 have B1:=kp ((brq w).alloc nlq (.cells #[.func (.func 157) #[] #[]] 201));have Z1:=kp (show(w.alloc (.cells #[.func (.func 157) #[] #[]] 201)).heap.size=w.heap.size+1 by simp);have OB:=kp (Bk.keep (Bk.new w (.cells #[.func (.func 157) #[] #[]] 201)) (.cells #[.string s] 9));have NB:=kp (Bk.new (w.alloc (.cells #[.func (.func 157) #[] #[]] 201)) (.cells #[.string s] 9));have B2:=kp (B1.out.alloc B1.out.size (.cells #[.string s] 9));rw [Z1.out] at NB;have HI:=kp (idxFun_any (c:=c) (hl.on FunR.lasts B2.out) hlen OB.out NB.out);have HE:=kp (show hasB (l.map Fun4.name) s=false->findAt (l.map Fun4.name) s=0 from fun h=>(findAt_none h).1)
 have hfl:((findAt (l.map Fun4.name) s:Nat):Int)<=140737488351232:=by
  have h1:findAt (l.map Fun4.name) s<=l.length:=by
   unfold findAt
   split
   ·exact Nat.le_trans List.findIdx_le_length (by simp)
   ·omega
  omega
 clear hl;generalize findAt (l.map Fun4.name) s=fa at *;generalize hasB (l.map Fun4.name) s=hb at *
 go_enter Tryz.func156,Tryz.ntmps156
 go_upto_region 1 with fail
 generalize (w.alloc (.cells #[.func (.func 157) #[] #[]] 201)).alloc (.cells #[.string s] 9)=w1 at *
 cases hb with
 | true =>
  go_wp2_with fail
  refine HI.out.mono ?_;rintro e w2 ⟨rfl,hb2⟩;have B3:=kp (B2.out.trans (hb2.mono B2.out.size));clear hb2;have hmx:max ((fa:Nat):Int) 0=(fa:Int):=by omega
  go_wp2_with fail
  go_ret2;exact⟨rfl,B3.out⟩
 | false =>
  obtain rfl:=HE.out rfl;go_wp2_with fail
  refine HI.out.mono ?_;rintro e w2 ⟨rfl,hb2⟩;have B3:=kp (B2.out.trans (hb2.mono B2.out.size));clear hb2;go_wp2_with fail
  go_ret2;exact⟨rfl,B3.out⟩
theorem idxMac_any {w:World} {ob nb c:Nat} {s:ByteArray} {A:Option Addr} {l:List Macro} (hl:Lies 6 MacroR w A l) (hlen:(l.length:Int)<=140737488351232) (ho:w.heap[ob]?=some (.cells #[.func (.func 159) #[] #[]] 204 (0,0))) (hn:w.heap[nb]?=some (.cells #[.string s] 9 (0,0))) :
  Calls Tryz.prog 182 #[.slice A l.length c,.func (.func 183) #[] #[.pointer (some ⟨ob,0,none⟩),.pointer (some ⟨nb,0,none⟩)]] w fun e w'=>e=.returned (.int .i64 (if hasB (l.map Macro.name) s then(findAt (l.map Macro.name) s:Nat) else -1))/\Below w.heap.size w w':=by
 have HL:=kp hl;have OB:=kp ho;have NB:=kp hn;have HX:=kp (fun k hk h=>findAt_stop (l:=l.map Macro.name) (s:=s) (k:=k) hk h);have HN:=kp (fun h=>findAt_none (l:=l.map Macro.name) (s:=s) h);have HS:=kp (fun k x hk h h'=>find_step (l:=l.map Macro.name) (s:=s) (k:=k) (x:=x) hk h h');have HM:=kp (fun k x=>map_at (l:=l) (nm:=Macro.name) (k:=k) (x:=x));have hln:(l.map Macro.name).length=l.length:=by simp
 clear hl ho hn;generalize l.map Macro.name=ns at *;generalize hres:(if hasB ns s then((findAt ns s:Nat):Int) else -1)=res;have HR:=kp hres;clear hres
 go_enter Tryz.func182,Tryz.ntmps182
 go_wp2_with fail
 go_loopw [8] (fun v wr=>∃ k:Nat,k<=l.length/\v=.int .i64 k/\hasB (ns.take k) s=false/\Below w.heap.size w wr) (fun v _=>l.length - (intOf v).toNat)
 case atStart=>exact⟨0,Nat.zero_le _,rfl,rfl,Below.refl _ _⟩
 case round =>
  obtain ⟨k,hk,rfl,hn,hb⟩:=hrel;have HK:=kp hn;have HB:=kp hb;clear hn hb
  by_cases hlt:k < l.length
  ·have hlt2:(k:Int) < (l.length:Int):=by omega
   obtain ⟨y,hy⟩:∃ y,l[k]?=some y:=⟨_,gqe hlt⟩;obtain ⟨b,o,vs,rfl,hbl,_,hcell,hr⟩:=(HL.out.on MacroR.lasts HB.out).at' hy
   (obtain ⟨pA,pc,bv,rfl,hbv,_⟩:=hr;obtain ⟨bA,bc,rfl,_⟩:=hbv.open')
   have c0:=hcell 0 _ rfl;have c1:=hcell 1 _ rfl;have c2:=hcell 2 _ rfl;have c3:=hcell 3 _ rfl;have c4:=hcell 4 _ rfl;have c5:=hcell 5 _ rfl;rw [Nat.add_zero] at c0;have HX2:=kp (HM.out k y hy);have HC:=kp (clMac_any (w:=wr) y.name pA y.params.length pc y.res y.body.kind y.body.text bA y.body.l.length bc (Bk.on OB.out HB.out) (Bk.on NB.out HB.out));clear hcell hy
   by_cases hq:Macro.name y=s
   ·have HQ:=kp (HX.out k (by rw [← hq];exact HX2.out) HK.out);rw [decide_eq_true hq] at HC;clear hq;go_wp2_with fail
    refine HC.out.mono ?_;rintro e w2 ⟨rfl,hb2⟩;have HB2:=kp (HB.out.trans (hb2.mono HB.out.size));clear hb2;go_wp2_with fail
    go_ret;exact⟨by rw [← HR.out,HQ.out.2,HQ.out.1];rfl,HB2.out⟩
   ·have HQ:=kp (HS.out k _ HX2.out HK.out hq);rw [dfq hq] at HC;clear hq;go_wp2_with fail
    refine HC.out.mono ?_;rintro e w2 ⟨rfl,hb2⟩;have HB2:=kp (HB.out.trans (hb2.mono HB.out.size));clear hb2;go_wp2_with fail
    go_roundw
    case rel=>exact⟨k+1,by omega,by go_num,HQ.out,HB2.out⟩
    case measure=>simp [intOf];omega
  ·obtain rfl:k=l.length:=by omega
   have HQ:=kp (HN.out (by have:=HK.out;rwa [List.take_of_length_le (by omega)] at this));go_wp2_with fail
   go_ret;exact⟨by rw [← HR.out,HQ.out.2];rfl,HB.out⟩
theorem findMac_any {w:World} {c:Nat} (s:ByteArray) {A:Option Addr} {l:List Macro} (hl:Lies 6 MacroR w A l) (hlen:(l.length:Int)<=140737488351232) :
  Calls Tryz.prog 158 #[.slice A l.length c,.func (.func 159) #[] #[],.string s] w fun e w'=>e=.returned (.tuple #[.int .i64 (findAt (l.map Macro.name) s:Nat),.bool (hasB (l.map Macro.name) s)])/\Below w.heap.size w w':=by
 have B1:=kp ((brq w).alloc nlq (.cells #[.func (.func 159) #[] #[]] 204));have Z1:=kp (show(w.alloc (.cells #[.func (.func 159) #[] #[]] 204)).heap.size=w.heap.size+1 by simp);have OB:=kp (Bk.keep (Bk.new w (.cells #[.func (.func 159) #[] #[]] 204)) (.cells #[.string s] 9));have NB:=kp (Bk.new (w.alloc (.cells #[.func (.func 159) #[] #[]] 204)) (.cells #[.string s] 9));have B2:=kp (B1.out.alloc B1.out.size (.cells #[.string s] 9));rw [Z1.out] at NB;have HI:=kp (idxMac_any (c:=c) (hl.on MacroR.lasts B2.out) hlen OB.out NB.out);have HE:=kp (show hasB (l.map Macro.name) s=false->findAt (l.map Macro.name) s=0 from fun h=>(findAt_none h).1)
 have hfl:((findAt (l.map Macro.name) s:Nat):Int)<=140737488351232:=by
  have h1:findAt (l.map Macro.name) s<=l.length:=by
   unfold findAt
   split
   ·exact Nat.le_trans List.findIdx_le_length (by simp)
   ·omega
  omega
 clear hl;generalize findAt (l.map Macro.name) s=fa at *;generalize hasB (l.map Macro.name) s=hb at *
 go_enter Tryz.func158,Tryz.ntmps158
 go_upto_region 1 with fail
 generalize (w.alloc (.cells #[.func (.func 159) #[] #[]] 204)).alloc (.cells #[.string s] 9)=w1 at *
 cases hb with
 | true =>
  go_wp2_with fail
  refine HI.out.mono ?_;rintro e w2 ⟨rfl,hb2⟩;have B3:=kp (B2.out.trans (hb2.mono B2.out.size));clear hb2;have hmx:max ((fa:Nat):Int) 0=(fa:Int):=by omega
  go_wp2_with fail
  go_ret2;exact⟨rfl,B3.out⟩
 | false =>
  obtain rfl:=HE.out rfl;go_wp2_with fail
  refine HI.out.mono ?_;rintro e w2 ⟨rfl,hb2⟩;have B3:=kp (B2.out.trans (hb2.mono B2.out.size));clear hb2;go_wp2_with fail
  go_ret2;exact⟨rfl,B3.out⟩
theorem sigFun_any {w:World} {A1 A2 A3:Option Addr} {n1 c1 c2 n3 c3:Nat} (s:ByteArray) {l:List Fun4} (hl:Lies 6 FunR w A2 l) (hlen:(l.length:Int)<=140737488351232) :
  Calls Tryz.prog 97 #[.agg #[.slice A1 n1 c1,.slice A2 l.length c2,.slice A3 n3 c3],.string s] w fun e w'=>e=.returned (.tuple #[.int .i64 (findAt (l.map Fun4.name) s:Nat),.bool (hasB (l.map Fun4.name) s)])/\Below w.heap.size w w':=by
 have XB:=kp (Bk.new w (.cells #[.slice A1 n1 c1,.slice A2 l.length c2,.slice A3 n3 c3] 26));have B1:=kp ((brq w).alloc nlq (.cells #[.slice A1 n1 c1,.slice A2 l.length c2,.slice A3 n3 c3] 26));have HF:=kp (findFun_any (c:=c2) s (hl.on FunR.lasts B1.out) hlen);clear hl
 go_enter Tryz.func97,Tryz.ntmps97
 go_upto_region 1 with fail
 generalize w.alloc (.cells #[.slice A1 n1 c1,.slice A2 l.length c2,.slice A3 n3 c3] 26)=w1 at *;obtain ⟨q0,q1,q2,qf⟩:=Bk.c3 XB.out;go_wp2_with fail
 refine HF.out.mono ?_;rintro e w2 ⟨rfl,hb2⟩;have B2:=kp (B1.out.trans (hb2.mono B1.out.size));clear hb2;go_wp2_with fail
 go_ret2;exact⟨rfl,B2.out⟩
theorem sigMac_any {w:World} {A1 A2 A3:Option Addr} {n1 c1 n2 c2 c3:Nat} (s:ByteArray) {l:List Macro} (hl:Lies 6 MacroR w A3 l) (hlen:(l.length:Int)<=140737488351232) :
  Calls Tryz.prog 99 #[.agg #[.slice A1 n1 c1,.slice A2 n2 c2,.slice A3 l.length c3],.string s] w fun e w'=>e=.returned (.tuple #[.int .i64 (findAt (l.map Macro.name) s:Nat),.bool (hasB (l.map Macro.name) s)])/\Below w.heap.size w w':=by
 have XB:=kp (Bk.new w (.cells #[.slice A1 n1 c1,.slice A2 n2 c2,.slice A3 l.length c3] 26));have B1:=kp ((brq w).alloc nlq (.cells #[.slice A1 n1 c1,.slice A2 n2 c2,.slice A3 l.length c3] 26));have HF:=kp (findMac_any (c:=c3) s (hl.on MacroR.lasts B1.out) hlen);clear hl
 go_enter Tryz.func99,Tryz.ntmps99
 go_upto_region 1 with fail
 generalize w.alloc (.cells #[.slice A1 n1 c1,.slice A2 n2 c2,.slice A3 l.length c3] 26)=w1 at *;obtain ⟨q0,q1,q2,qf⟩:=Bk.c3 XB.out;go_wp2_with fail
 refine HF.out.mono ?_;rintro e w2 ⟨rfl,hb2⟩;have B2:=kp (B1.out.trans (hb2.mono B1.out.size));clear hb2;go_wp2_with fail
 go_ret2;exact⟨rfl,B2.out⟩
end El
namespace Gr
open Go.RowKit Dt Sg
def SomeInt (e:Ending):Prop:=∃ r:Int,I64 r/\e=.returned (.int .i64 r)
theorem someInt {r:Int} (h:I64 r):SomeInt (.returned (.int .i64 r)):=⟨r,h,rfl⟩
theorem size_any:∀ (n:Nat) (x:Sexp),SizeOf.sizeOf x < n->∀ (w:World) (A:Option Addr) (c:Nat) (most:Int),SexpR w [.int .i8 x.kind,.string x.text,.slice A x.l.length c] x ->
  Calls Tryz.prog 17 #[.agg #[.int .i8 x.kind,.string x.text,.slice A x.l.length c],.int .i64 most] w fun e w'=>SomeInt e/\Below w.heap.size w w':=by
 intro n
 induction n with
 | zero=>intro x hx;omega
 | succ n ih =>
  intro x hx w A c most hr;have IH:=kp ih;obtain ⟨A0,c0,e0,hl,hc,hcm,ht,hlb,_⟩:=hr.open';simp only [List.cons.injEq,Value.slice.injEq,and_true,true_and] at e0;obtain ⟨rfl,rfl⟩:=e0;have HL:=kp hl;have HX:=kp hx;have HM:=kp (fun y (hy:y ∈ x.l)=>Sexp.mem_lt hy);obtain ⟨g0,g1,g2⟩:=sig_cells w (.int .i8 x.kind) (.string x.text) (.slice A x.l.length c) 40;have B0:=kp ((brq w).alloc nlq (.cells #[.int .i8 x.kind,.string x.text,.slice A x.l.length c] 40));have hz:w.heap.size < (w.alloc (.cells #[.int .i8 x.kind,.string x.text,.slice A x.l.length c] 40)).heap.size:=by simp
  have hlb2:(x.l.length:Int)<=140737488351232:=by omega
  generalize x.l=l at *;generalize x.text=t at *;generalize x.kind=kd at *;clear hl hr hx ih hlb;have HC:=kp (fun W (hW:Below (w.alloc (.cells #[.int .i8 kd,.string t,.slice A l.length c] 40)).heap.size (w.alloc (.cells #[.int .i8 kd,.string t,.slice A l.length c] 40)) W)=>((bcell hW).1 w.heap.size 2 hz).trans g2);have HT:=kp (show I64 (1+(t.size:Int)) from⟨by omega,by omega⟩);have H5:=kp (show I64 5001 from⟨by omega,by omega⟩);have H6:=kp (show I64 (1+min (t.size:Int) 5000) from⟨by omega,by omega⟩);clear g0 g2 hz;have HZ:0 < 1:=by omega
  by_cases ht5:(5000:Int) < (t.size:Int)
  all_goals
   go_enter Tryz.func17,Tryz.ntmps17
   go_wp2_with fail
   generalize w.alloc (.cells #[.int .i8 kd,.string t,.slice A l.length c] 40)=w0 at *
   go_loopw [5,6] (fun v i wr=>∃ (k:Nat) (z:Int),k<=l.length/\i=.int .i64 k/\v=.int .i64 z/\I64 z/\Below w0.heap.size w0 wr) (fun _ i _=>l.length - (intOf i).toNat)
   case atStart=>first | exact⟨0,_,by omega,rfl,rfl,HT.out,Below.refl _ _⟩ | exact⟨0,_,by omega,rfl,rfl,H5.out,Below.refl _ _⟩ | exact⟨0,_,by omega,rfl,rfl,H6.out,Below.refl _ _⟩
   case round =>
    obtain ⟨k,z,hk,rfl,rfl,hzi,hb⟩:=hrel;have HZi:=kp hzi;have HB:=kp hb;have q2:=HC.out wr hb;have HBw:=kp (B0.out.trans (hb.mono B0.out.size));clear hzi hb
    by_cases hlt:k < l.length
    ·have hlt2:(k:Int) < (l.length:Int):=by omega
     by_cases hzm:z < most
     ·have hzm':=decide_eq_true hzm;have hy:=gqe hlt;have hym:=List.getElem_mem hlt;generalize l[k]=y at hy hym;obtain ⟨b,o,A',c',rfl,hbl,e0,e1,e2,hr⟩:=sexp_cells (HL.out.on SexpR.lasts HBw.out) hy;have HY:=kp (fun W m (hW:Below wr.heap.size wr W)=>IH.out y (by have h1:=HM.out y hym;have h2:=HX.out;omega) W A' c' m (SexpR.lasts _ _ _ _ hW hr));clear hr hy hym;go_wp2_with fail
      refine(HY.out _ _ (Below.refl _ _)).mono ?_;rintro e w2 ⟨⟨r,hri,rfl⟩,hb2⟩;have HB2:=kp (HB.out.trans (hb2.mono HB.out.size));have HI2:=kp (I64_wrap (z+r));clear hb2;go_wp2_with fail
      go_roundw
      case rel=>exact⟨k+1,_,by omega,by go_num,rfl,HI2.out,HB2.out⟩
      case measure=>simp [intOf];omega
     ·have hzm':=dfq hzm;have HS:=kp (someInt HZi.out);go_wp2_with fail
      go_ret;exact⟨HS.out,HBw.out⟩
    ·have hge:decide ((k:Int) < (l.length:Int))=false:=dfq (by omega);have HS:=kp (someInt HZi.out);go_wp2_with fail
     go_ret;exact⟨HS.out,HBw.out⟩
def GreatPost (P:Prop) (e:Ending):Prop:=∃ b:Bool,e=.returned (.bool b)/\(b=false->P)
theorem great_yes {P:Prop}:GreatPost P (.returned (.bool true)):=⟨true,rfl,fun h=>by cases h⟩
theorem great_no {P:Prop} (b:Bool) (h:P):GreatPost P (.returned (.bool b)):=⟨b,rfl,fun _=>h⟩
theorem macro_cells {w W:World} {A:Option Addr} {l:List Macro} (h:Lies 6 MacroR w A l) (hb:Below w.heap.size w W) {k:Nat} {m:Macro} (hm:l[k]?=some m) :
  ∃ b o Ap cp Ab cb,A=some ⟨b,o,none⟩/\W.cell? ⟨b,o+k * 6+1,none⟩=some (.slice Ap m.params.length cp)/\W.cell? ⟨b,o+k * 6+3,none⟩=some (.int .i8 m.body.kind)/\W.cell? ⟨b,o+k * 6+3+1,none⟩=some (.string m.body.text)/\W.cell? ⟨b,o+k * 6+3+2,none⟩=some (.slice Ab m.body.l.length cb) /\
   SexpR W [.int .i8 m.body.kind,.string m.body.text,.slice Ab m.body.l.length cb] m.body/\m.params.length<=maxLen:=by
 obtain ⟨b,o,vs,rfl,hbl,_,hcell,Ap,cp,bv,rfl,hsx,_,hpc,hcm,_⟩:=h.at' hm;obtain ⟨Ab,cb,rfl,_⟩:=hsx.open';have e:=fun j u (hu:_)=>((bcell hb).1 b (o+k * 6+j) hbl).trans (hcell j u hu);exact⟨b,o,Ap,cp,Ab,cb,rfl,e 1 _ rfl,e 3 _ rfl,e 4 _ rfl,e 5 _ rfl,SexpR.lasts _ _ _ _ hb hsx,by omega⟩
def Small (g:Sig):Prop:=g.sorts.length<=20/\g.funs.length<=40/\g.macros.length<=40
theorem great4_any {w:World} {A1 A2 A3:Option Addr} {c1 c2 c3:Nat} {g:Sig} (h:SigAt w A1 c1 A2 c2 A3 c3 g) :
  Calls Tryz.prog 6 #[.agg #[.slice A1 g.sorts.length c1,.slice A2 g.funs.length c2,.slice A3 g.macros.length c3]] w fun e w'=>GreatPost (Small g) e/\Below w.heap.size w w':=by
 have HMc:=kp (fun W (hW:Below w.heap.size w W) k m (hm:g.macros[k]?=some m)=>macro_cells h.macros hW hm);obtain ⟨g0,g1,g2⟩:=sig_cells w (.slice A1 g.sorts.length c1) (.slice A2 g.funs.length c2) (.slice A3 g.macros.length c3) 26;have B0:=kp ((brq w).alloc nlq (.cells #[.slice A1 g.sorts.length c1,.slice A2 g.funs.length c2,.slice A3 g.macros.length c3] 26));have hz:w.heap.size < (w.alloc (.cells #[.slice A1 g.sorts.length c1,.slice A2 g.funs.length c2,.slice A3 g.macros.length c3] 26)).heap.size:=by simp
 have HSm:=kp (show(g.sorts.length<=20/\g.funs.length<=40/\g.macros.length<=40)->Small g from id);have HY:=kp (great_yes (P:=Small g));have HN:=kp (fun b (h:Small g)=>great_no (P:=Small g) b h);clear h;generalize hn1:g.sorts.length=n1 at *;generalize hn2:g.funs.length=n2 at *;generalize hn3:g.macros.length=n3 at *
 by_cases h1:(20:Int) < (n1:Int)
 ·have h1':=decide_eq_true h1
  go_enter Tryz.func6,Tryz.ntmps6
  go_wp2_with fail
  go_ret;exact⟨HY.out,B0.out⟩
 ·have h1':=dfq h1
  by_cases h2:(40:Int) < (n2:Int)
  ·have h2':=decide_eq_true h2
   go_enter Tryz.func6,Tryz.ntmps6
   go_wp2_with fail
   go_ret;exact⟨HY.out,B0.out⟩
  ·have h2':=dfq h2
   by_cases h3:(40:Int) < (n3:Int)
   ·have h3':=decide_eq_true h3
    go_enter Tryz.func6,Tryz.ntmps6
    go_wp2_with fail
    go_ret;exact⟨HY.out,B0.out⟩
   ·have h3':=dfq h3;have HS:=kp (HSm.out ⟨by omega,by omega,by omega⟩)
    go_enter Tryz.func6,Tryz.ntmps6
    go_wp2_with fail
    generalize w.alloc (.cells #[.slice A1 n1 c1,.slice A2 n2 c2,.slice A3 n3 c3] 26)=w1 at *;have HC:=kp (fun W (hW:Below w1.heap.size w1 W)=>((bcell hW).1 w.heap.size 2 hz).trans g2);clear g0 g1 g2 hz
    go_loopw [3,4] (fun v i wr=>∃ (k:Nat) (z:Int),k<=n3/\i=.int .i64 k/\v=.int .i64 z/\I64 z/\Below w1.heap.size w1 wr) (fun _ i _=>n3 - (intOf i).toNat)
    case atStart=>exact⟨0,0,by omega,rfl,rfl,⟨by omega,by omega⟩,Below.refl _ _⟩
    case round =>
     obtain ⟨k,z,hk,rfl,rfl,hzi,hb⟩:=hrel;have HZi:=kp hzi;have HB:=kp hb;have q2:=HC.out wr hb;have HBw:=kp (B0.out.trans (hb.mono B0.out.size));clear hzi hb
     by_cases hlt:k < n3
     ·have hlt2:(k:Int) < (n3:Int):=by omega
      obtain ⟨m,hm⟩:∃ m,g.macros[k]?=some m:=⟨_,gqe (by omega)⟩;obtain ⟨b,o,Ap,cp,Ab,cb,rfl,m1,m3,m4,m5,hsx,hpl⟩:=HMc.out wr HBw.out k m hm;have HSz:=kp (size_any _ m.body (Nat.lt_succ_self _) wr Ab cb 4000 hsx);have HMd:=kp (fun W hW=>HMc.out W hW k m hm);have hpl2:(m.params.length:Int)<=9223372036854775807:=by unfold maxLen at hpl;omega
      clear hm hsx hpl;go_wp2_with fail
      refine HSz.out.mono ?_;rintro e w2 ⟨⟨r,hri,rfl⟩,hb2⟩;have HB2:=kp (HB.out.trans (hb2.mono HB.out.size));have HBw2:=kp (HBw.out.trans (hb2.mono HBw.out.size));have HI2:=kp (I64_wrap (z+r));obtain ⟨b',o',Ap',cp',_,_,hA,m1',_,_,_,_,_⟩:=HMd.out w2 HBw2.out;have hA2:b'=b/\o'=o:=by simp at hA;exact⟨hA.1.symm,hA.2.symm⟩
      obtain ⟨rfl,rfl⟩:=hA2;have q3:=HC.out w2 HB2.out;clear hb2 m1 m3 m4 m5 hA q2 hri
      by_cases hp:(20:Int) < (m.params.length:Int)
      ·have hp':=decide_eq_true hp;go_wp2_with fail
       go_ret;exact⟨HY.out,HBw2.out⟩
      ·have hp':=dfq hp;go_wp2_with fail
       go_roundw
       case rel=>exact⟨k+1,_,by omega,by go_num,rfl,HI2.out,HB2.out⟩
       case measure=>simp [intOf];omega
     ·obtain rfl:k=n3:=by omega
      have HR:=kp (HN.out (decide (6000 < z)) HS.out);go_wp2_with fail
      all_goals
       go_ret;exact⟨HN.out _ HS.out,HBw.out⟩
end Gr
namespace El
open Go.RowKit Dt Sg
def argSum (l ys:List Int):Int:=(ys.map fun a=>l.getD a.toNat 0).foldl (·+·) 0
theorem argSum_snoc (l ys:List Int) (a:Int):argSum l (ys ++ [a])=argSum l ys+l.getD a.toNat 0:=by
 unfold argSum;rw [List.map_append,List.foldl_append]
 rfl
theorem treeStep_eq (l:List Int) (n:Node):treeStep l n=min (argSum l (argsOf n)+1) 1073741824:=rfl
theorem argsOf_len (n:Node):(argsOf n).length=min n.len.toNat 3:=by
 unfold argsOf;rw [List.length_take]
 rfl
theorem argsOf_get {n:Node} {m:Nat} (h:m < (argsOf n).length):(argsOf n)[m]?=some (n.arg m):=by
 have h2:=h;rw [argsOf_len] at h2;unfold argsOf;rw [List.getElem?_take,if_pos (by omega)];have hm:m=0\/m=1\/m=2:=by omega
 rcases hm with rfl | rfl | rfl <;> rfl
theorem foldl_from:∀ (l:List Int) (s:Int),l.foldl (·+·) s=s+l.foldl (·+·) 0
 | [],s=>by simp
 | x :: l,s=>by
  simp only [List.foldl_cons];rw [foldl_from l (s+x),foldl_from l (0+x)]
  omega
theorem argSum_cons (l ys:List Int) (a:Int):argSum l (a :: ys)=l.getD a.toNat 0+argSum l ys:=by
 unfold argSum;rw [List.map_cons,List.foldl_cons,foldl_from]
 omega
theorem argSum_in {l:List Int} (h:∀ x ∈ l,0<=x/\x<=1073741824):∀ ys:List Int,0<=argSum l ys/\argSum l ys<=1073741824 * ys.length
 | []=>⟨Int.le_refl _,Int.le_refl _⟩
 | a :: ys=>by
  have ih:=argSum_in h ys
  have:0<=l.getD a.toNat 0/\l.getD a.toNat 0<=1073741824:=by
   rw [List.getD_eq_getElem?_getD]
   cases hx:l[a.toNat]? with
   | none=>exact⟨Int.le_refl _,by decide⟩
   | some x=>exact h x (mgq hx)
  rw [argSum_cons,List.length_cons]
  omega
theorem trees_le (t:List Node):∀ (m:Nat),∀ x ∈ trees t m,0<=x/\x<=1073741824
 | 0,_,h=>by cases h
 | m+1,x,h=>by
  rw [trees_succ] at h;rcases List.mem_append.1 h with h | h
  ·exact trees_le t m x h
  ·obtain rfl:x=treeStep (trees t m) (nodeAt t m):=by simpa using h
   have:=argSum_in (trees_le t m) (argsOf (nodeAt t m));rw [treeStep_eq]
   omega
theorem argSum_le (t:List Node) (m:Nat) (ys:List Int):0<=argSum (trees t m) ys/\argSum (trees t m) ys<=1073741824 * ys.length:=argSum_in (trees_le t m) ys
theorem treeN_at {t:List Node} {k:Nat} (hk:k < t.length):(trees t t.length)[k]?=some (treeN t k):=by
 unfold treeN;rw [show((k:Int)).toNat=k from rfl,List.getD_eq_getElem?_getD,trees_get t hk]
 rfl
end El
namespace Sg
open Go.RowKit Dt
theorem RC.made (g:Sig) (w:World) (u0 u1 u2:Value) (t:TypeId):RC g w u0 u1 u2 ((w.alloc (.cells #[u0,u1,u2] t)).alloc (.cells #[.slice none 0 0,.slice none 0 0,.slice none 0 0] 26)) (.slice none 0 0) (.slice none 0 0) (.slice none 0 0) 0 0 0:=by
 obtain ⟨g0,g1,g2⟩:=sig_cells w u0 u1 u2 t;have hz:(w.alloc (.cells #[u0,u1,u2] t)).heap.size=w.heap.size+1:=by simp
 have hb:=(Below.refl (w.alloc (.cells #[u0,u1,u2] t)).heap.size (w.alloc (.cells #[u0,u1,u2] t))).alloc nlq (.cells #[.slice none 0 0,.slice none 0 0,.slice none 0 0] 26);have e:=fun o=>(bcell hb).1 w.heap.size o (by omega);refine⟨((brq w).alloc nlq _).alloc (by simp) _,(e 0).trans g0,(e 1).trans g1,(e 2).trans g2,?_,Grows.nil _,Grows.nil _,Grows.nil _,fun k hk=>by simp [Value.ownBlock] at hk,fun k hk=>by simp [Value.ownBlock] at hk,fun k hk=>by simp [Value.ownBlock] at hk⟩;rw [← hz];show(Array.push _ _)[_]?=_;exact Array.getElem?_push_size
end Sg
namespace Dt
open Go.RowKit
def RSizePost (fx:Nat) (e:Ending):Prop:=∃ r:Int,(1<=r/\r<=fx/\(r<=4000->r=fx))/\e=.returned (.int .i64 r)
theorem rsize_any:∀ (n:Nat) (x:Sexp),SizeOf.sizeOf x < n->x.full<=3000000->∀ (w:World) (A:Option Addr) (c:Nat),SexpR w [.int .i8 x.kind,.string x.text,.slice A x.l.length c] x ->
  Calls Tryz.prog 28 #[.agg #[.int .i8 x.kind,.string x.text,.slice A x.l.length c]] w fun e w'=>RSizePost x.full e/\Below w.heap.size w w':=by
 intro n
 induction n with
 | zero=>intro x hx;omega
 | succ n ih =>
  intro x hx hf w A c hr;have IH:=kp ih;obtain ⟨A0,c0,e0,hl,hc,hcm,ht,hlb,_⟩:=hr.open';simp only [List.cons.injEq,Value.slice.injEq,and_true,true_and] at e0;obtain ⟨rfl,rfl⟩:=e0;have HL:=kp hl;have HX:=kp hx;have HM:=kp (fun y (hy:y ∈ x.l)=>Sexp.mem_lt hy);obtain ⟨g0,g1,g2,_⟩:=box_cells w (.int .i8 x.kind) (.string x.text) (.slice A x.l.length c) 40;have B0:=kp ((brq w).alloc nlq (.cells #[.int .i8 x.kind,.string x.text,.slice A x.l.length c] 40));have hz:w.heap.size < (w.alloc (.cells #[.int .i8 x.kind,.string x.text,.slice A x.l.length c] 40)).heap.size:=by simp
  have hlb2:(x.l.length:Int)<=140737488351232:=by omega
  have HFu:=kp (Sexp.full_eq x)
  have HTa:=kp (fun k=>show Sexp.fullL (x.l.take k)<=Sexp.fullL x.l by
   have h:=Sexp.fullL_append (x.l.take k) (x.l.drop k);rw [List.take_append_drop] at h
   omega)
  have hf2:x.full<=3000000:=hf;generalize hfx:x.full=fx at *;generalize x.l=l at *;generalize x.text=t at *;generalize x.kind=kd at *;have hts:(t.size:Int)<=3000000:=by have:=HFu.out;omega
  clear hl hr hx ih hlb hfx hf;have HC:=kp (fun W (hW:Below (w.alloc (.cells #[.int .i8 kd,.string t,.slice A l.length c] 40)).heap.size (w.alloc (.cells #[.int .i8 kd,.string t,.slice A l.length c] 40)) W)=>((bcell hW).1 w.heap.size 2 hz).trans g2);clear g0 g2 hz
  go_enter Tryz.func28,Tryz.ntmps28
  go_wp2_with fail
  generalize w.alloc (.cells #[.int .i8 kd,.string t,.slice A l.length c] 40)=w0 at *
  go_loopw [3,4] (fun v i wr=>∃ (k:Nat) (z:Int),k<=l.length/\i=.int .i64 k/\v=.int .i64 z/\(1<=z/\z<=1+(t.size:Int)+(Sexp.fullL (l.take k):Int)/\(z<=4000->z=1+(t.size:Int)+(Sexp.fullL (l.take k):Int)))/\Below w0.heap.size w0 wr) (fun _ i _=>l.length - (intOf i).toNat)
  case atStart=>exact⟨0,1+(t.size:Int),Nat.zero_le _,rfl,rfl,⟨by omega,by rw [List.take_zero,Sexp.fullL_nil];omega,fun _=>by rw [List.take_zero,Sexp.fullL_nil];omega⟩,Below.refl _ _⟩
  case round =>
   obtain ⟨k,z,hk,rfl,rfl,hzi,hb⟩:=hrel;have HZi:=kp hzi;have HB:=kp hb;have q2:=HC.out wr hb;have HBw:=kp (B0.out.trans (hb.mono B0.out.size));clear hzi hb
   by_cases hlt:k < l.length
   ·have hlt2:(k:Int) < (l.length:Int):=by omega
    by_cases hzm:z<=4000
    ·have hzm':=decide_eq_true hzm;have hy:=gqe hlt;have hym:=List.getElem_mem hlt;generalize l[k]=y at hy hym;obtain ⟨b,o,A',c',rfl,hbl,e0,e1,e2,hr⟩:=sexp_cells (HL.out.on SexpR.lasts HBw.out) hy;have HTk:=kp (Sexp.fullL_take hy);have hyf:y.full<=3000000:=by have h1:=HTk.out;have h2:=HTa.out (k+1);have h3:=HFu.out;omega
     have HY:=kp (IH.out y (by have h1:=HM.out y hym;have h2:=HX.out;omega) hyf wr A' c' hr);clear hr hy hym;go_wp2_with fail
     refine HY.out.mono ?_;rintro e w2 ⟨⟨r,hri,rfl⟩,hb2⟩;have HB2:=kp (HB.out.trans (hb2.mono HB.out.size));have hzr:wrap64 (z+r)=z+r:=IntWalk.wrap64_in _ (by have:=HZi.out;omega)
     have HI2:=kp (show 1<=z+r/\z+r<=1+(t.size:Int)+(Sexp.fullL (l.take (k+1)):Int)/\(z+r<=4000->z+r=1+(t.size:Int)+(Sexp.fullL (l.take (k+1)):Int)) from
      ⟨by have:=HZi.out;omega,by have h1:=HZi.out.2.1;rw [HTk.out];omega,fun h=>by have h1:=HZi.out.2.2 hzm;have h2:=hri.2.2 (by have:=HZi.out;omega);rw [HTk.out];omega⟩)
     clear hb2 hri;go_wp2_with fail
     go_roundw
     case rel=>exact⟨k+1,_,by omega,by go_num,rfl,by rw [hzr];exact HI2.out,HB2.out⟩
     case measure=>simp [intOf];omega
    ·have hzm':=dfq hzm;have HS:=kp (show RSizePost fx (.returned (.int .i64 z)) from⟨z,⟨HZi.out.1,by have h1:=HZi.out.2.1;have h2:=HTa.out k;have h3:=HFu.out;omega,fun h=>absurd h hzm⟩,rfl⟩);go_wp2_with fail
     go_ret;exact⟨HS.out,HBw.out⟩
   ·have hge:decide ((k:Int) < (l.length:Int))=false:=dfq (by omega);have hkl:k=l.length:=by omega
    have HS:=kp (show RSizePost fx (.returned (.int .i64 z)) from⟨z,⟨HZi.out.1,by have h1:=HZi.out.2.1;have h2:=HTa.out k;have h3:=HFu.out;omega,fun h=>by have h1:=HZi.out.2.2 h;rw [hkl,List.take_length] at h1;have:=HFu.out;omega⟩,rfl⟩);clear hkl;go_wp2_with fail
    go_ret;exact⟨HS.out,HBw.out⟩
def Great3Post (x:Sexp) (e:Ending):Prop:=∃ b:Bool,e=.returned (.bool b)/\(b=false->x.full<=4000)
theorem great3_any {w:World} {A:Option Addr} {c:Nat} {x:Sexp} (h:SexpR w [.int .i8 x.kind,.string x.text,.slice A x.l.length c] x) (hf:x.full<=3000000) :
  Calls Tryz.prog 10 #[.agg #[.int .i8 x.kind,.string x.text,.slice A x.l.length c]] w fun e w'=>Great3Post x e/\Below w.heap.size w w':=by
 have B1:=kp ((brq w).alloc nlq (.cells #[.int .i8 x.kind,.string x.text,.slice A x.l.length c] 40));have XB:=kp (Bk.new w (.cells #[.int .i8 x.kind,.string x.text,.slice A x.l.length c] 40));have HD:=kp (rdepth_any _ x (Nat.lt_succ_self _) _ A c (SexpR.lasts _ _ _ _ B1.out h));have HS:=kp (fun W (hW:Below w.heap.size w W)=>rsize_any _ x (Nat.lt_succ_self _) hf W A c (SexpR.lasts _ _ _ _ hW h));have HI:=kp (Sexp.depth_I64 x);clear h hf;generalize x.depth=d at *
 go_enter Tryz.func10,Tryz.ntmps10
 go_upto_region 1 with fail
 generalize w.alloc (.cells #[.int .i8 x.kind,.string x.text,.slice A x.l.length c] 40)=w1 at *;obtain ⟨q0,q1,q2,qf⟩:=Bk.c3 XB.out
 by_cases hd:(200:Int) < d
 ·have hd1:decide ((200:Int) < d)=true:=decide_eq_true hd;go_wp2_with fail
  refine HD.out.mono ?_;rintro e w2 ⟨rfl,hb2⟩;have B2:=kp (B1.out.trans (hb2.mono B1.out.size));clear hb2;go_wp2_with fail
  go_ret;exact⟨⟨true,rfl,fun h=>by cases h⟩,B2.out⟩
 ·have hd1:decide ((200:Int) < d)=false:=dfq hd;go_wp2_with fail
  refine HD.out.mono ?_;rintro e w2 ⟨rfl,hb2⟩;have B2:=kp (B1.out.trans (hb2.mono B1.out.size));have X2:=kp ((hb2.block w.heap.size (by have:=(Array.getElem?_eq_some_iff.1 XB.out).1;exact this)).trans XB.out);clear hb2 q0 q1 q2 qf;obtain ⟨q0,q1,q2,qf⟩:=Bk.c3 X2.out;go_wp2_with fail
  refine(HS.out w2 B2.out).mono ?_;rintro e w3 ⟨⟨r,hri,rfl⟩,hb3⟩;have B3:=kp (B2.out.trans (hb3.mono B2.out.size));have HR:=kp hri;clear hb3 hri
  by_cases hr:(4000:Int) < r
  ·have hr1:decide ((4000:Int) < r)=true:=decide_eq_true hr;go_wp2_with fail
   go_ret;exact⟨⟨true,rfl,fun h=>by cases h⟩,B3.out⟩
  ·have hr1:decide ((4000:Int) < r)=false:=dfq hr;go_wp2_with fail
   go_ret;exact⟨⟨false,rfl,fun _=>by have:=HR.out.2.2 (by omega);omega⟩,B3.out⟩
end Dt
end Go.Proofs.YtpmdcckapddchaaGreatDoor
