import Derived.Test.YtpmdcckapddchaaGreatDoorShort
import Derived.Test.YtpmdcckapddchaaGreatDoorMzc
import Derived.Test.YtpmdcckapddchaaGreatDoorMz
import Derived.Test.YtpmdcckapddchaaGreatDoorShelf
import Derived.Deep.RegionHeld3
import Derived.Test.YtpmdcckapddchaaGreatDoorMt
import Derived.Test.YtpmdcckapddchaaGreatDoorMx
/- merged by wip/merge.py from: ElDiffer ElApply ElBack2 -/
set_option maxRecDepth 100000
set_option maxHeartbeats 51200000
namespace Go.Proofs.YtpmdcckapddchaaGreatDoor
namespace El
open Go.RowKit Go.Maps Dt Sg
section
variable {F:Fix} {known:Int} {w wr W W7:World} {st' s7:St} {t:List Node} {At A' A7:Option Addr} {rb c' c7 ab bb:Nat} {pv qv:V}
structure Dm (F:Fix) (known:Int) (w:World) (t:List Node) (At:Option Addr) (rb:Nat) (wr W:World) (st':St) (A':Option Addr) (c':Nat):Prop where
 mid:Mid F known w t At rb W st' A' c'
 keepsW:Keeps (onMb F) wr W
 rlt:rb < wr.heap.size
 lew:w.heap.size<=wr.heap.size
theorem Dm.alloc (h:Dm F known w t At rb wr W st' A' c') (o:Obj):Dm F known w t At rb wr (W.alloc o) st' A' c':=⟨h.mid.alloc o,h.keepsW.alloc o,h.rlt,h.lew⟩
theorem Dm.call (h:Dm F known w t At rb wr W st' A' c') (hk:Keeps (onMb F) W W7) (hm:Mk F W7 known s7 A7 c7) (ht:TN W.heap.size st'.t A' s7.t A7):Dm F known w t At rb wr W7 s7 A7 c7:=⟨h.mid.call hk hm ht,h.keepsW.trans_same hk,h.rlt,h.lew⟩
structure Ab (wr W:World) (st':St) (A':Option Addr) (ab:Nat):Prop where
 cell:W.heap[ab]?=some (.cells #[.int .i64 0,.int .i64 0] 82 (0,0))
 le:wr.heap.size<=ab
 far:Far ab st'.t A'
theorem Ab.lt (h:Ab wr W st' A' ab):ab < W.heap.size:=lt_of_block h.cell
theorem Ab.new (h:Dm F known w t At rb wr W st' A' c'):Ab wr (W.alloc (.cells #[.int .i64 0,.int .i64 0] 82)) st' A' W.heap.size:=⟨Bk.new W _,h.keepsW.size,h.mid.fresh nlq⟩
theorem Ab.alloc (h:Ab wr W st' A' ab) (o:Obj):Ab wr (W.alloc o) st' A' ab:=⟨Bk.keep h.cell o,h.le,h.far⟩
theorem Ab.call (h:Ab wr W st' A' ab) (d:Dm F known w t At rb wr W st' A' c') (hk:Keeps (onMb F) W W7) (ht:TN W.heap.size st'.t A' s7.t A7):Ab wr W7 s7 A7 ab :=
 ⟨d.mid.blk hk h.cell (Nat.le_trans d.lew h.le),h.le,Far.of_tn h.far ht h.lt⟩
def DfQ (F:Fix) (known:Int) (w:World) (t:List Node) (At:Option Addr) (rb:Nat) (wr:World) (pv qv:V) (st':St) (ab bb:Nat) (W:World):Prop :=
 ∃ A' c',Mid F known w t At rb W st' A' c'/\Keeps (onMb F) wr W/\W.heap[ab]?=some (.cells #[.int .i64 pv.1,.int .i64 pv.2] 82 (0,0))/\W.heap[bb]?=some (.cells #[.int .i64 qv.1,.int .i64 qv.2] 82 (0,0))/\wr.heap.size<=ab/\wr.heap.size<=bb/\VI pv/\VI qv
theorem Dm.setK (h:Dm F known w t At rb wr W st' A' c') (ha:Ab wr W st' A' ab) (pv:V):Keeps (onMb F) wr ((W.setCell ⟨ab,0,none⟩ (.int .i64 pv.1)).setCell ⟨ab,1,none⟩ (.int .i64 pv.2)) :=
 (h.keepsW.setCell (p:=⟨ab,0,none⟩) (.inr ha.le) _).setCell (p:=⟨ab,1,none⟩) (.inr ha.le) _
theorem Dm.setK2 (h:Dm F known w t At rb wr W st' A' c') (ha:Ab wr W st' A' ab) (hb:Ab wr W st' A' bb) (pv qv:V):Keeps (onMb F) wr ((((W.setCell ⟨ab,0,none⟩ (.int .i64 pv.1)).setCell ⟨ab,1,none⟩ (.int .i64 pv.2)).setCell ⟨bb,0,none⟩ (.int .i64 qv.1)).setCell ⟨bb,1,none⟩ (.int .i64 qv.2)) :=
 ((h.setK ha pv).setCell (p:=⟨bb,0,none⟩) (.inr hb.le) _).setCell (p:=⟨bb,1,none⟩) (.inr hb.le) _
theorem Dm.fin (hF:FixOk F) (h:Dm F known w t At rb wr W st' A' c') (ha:Ab wr W st' A' ab) (hb:Ab wr W st' A' bb) (hne:ab≠bb) (hp:VI pv) (hq:VI qv):DfQ F known w t At rb wr pv qv st' ab bb ((((W.setCell ⟨ab,0,none⟩ (.int .i64 pv.1)).setCell ⟨ab,1,none⟩ (.int .i64 pv.2)).setCell ⟨bb,0,none⟩ (.int .i64 qv.1)).setCell ⟨bb,1,none⟩ (.int .i64 qv.2)):=by
 have h1:=h.rlt;have h2:=ha.le;have h3:=hb.le;have h4:=h.lew;refine⟨A',c',?_,h.setK2 ha hb pv qv,?_,?_,h2,h3,hp,hq⟩
 ·exact(((h.mid.other hF (by omega) (by omega) ha.far 0 _).other hF (by omega) (by omega) ha.far 1 _).other hF (by omega) (by omega) hb.far 0 _).other hF (by omega) (by omega) hb.far 1 _
 ·exact Bk.apart (Bk.apart (Bk.set_at (Bk.set_at ha.cell 0 _) 1 _) (p:=⟨bb,0,none⟩) hne _) (p:=⟨bb,1,none⟩) hne _
 ·exact Bk.set_at (Bk.set_at (Bk.apart (Bk.apart hb.cell (p:=⟨ab,0,none⟩) (Ne.symm hne) _) (p:=⟨ab,1,none⟩) (Ne.symm hne) _) 0 _) 1 _
end
def BxQ (w1:World) (A1:Option Addr) (c1:Nat) (y1:Sexp) (A2:Option Addr) (c2:Nat) (y2:Sexp) (lb rr:Nat) (W:World):Prop :=
 W.heap[lb]?=some (.cells #[.int .i8 y1.kind,.string y1.text,.slice A1 y1.l.length c1] 40 (0,0))/\W.heap[rr]?=some (.cells #[.int .i8 y2.kind,.string y2.text,.slice A2 y2.l.length c2] 40 (0,0))/\w1.heap.size<=lb/\w1.heap.size<=rr/\Below w1.heap.size w1 W
theorem box_made {w1 W:World} {A1 A2:Option Addr} {c1 c2:Nat} {y1 y2:Sexp} {lb rr:Nat} (hb:Below w1.heap.size w1 W) (h1:W.heap[lb]?=some (.cells #[.int .i8 0,.string { data:=#[] },.slice none 0 0] 40 (0,0))) (h2:W.heap[rr]?=some (.cells #[.int .i8 0,.string { data:=#[] },.slice none 0 0] 40 (0,0))) (hne:lb≠rr) (hl:w1.heap.size<=lb) (hr:w1.heap.size<=rr) :
  BxQ w1 A1 c1 y1 A2 c2 y2 lb rr ((((((W.setCell ⟨lb,0,none⟩ (.int .i8 y1.kind)).setCell ⟨lb,1,none⟩ (.string y1.text)).setCell ⟨lb,2,none⟩ (.slice A1 y1.l.length c1)).setCell ⟨rr,0,none⟩ (.int .i8 y2.kind)).setCell ⟨rr,1,none⟩ (.string y2.text)).setCell ⟨rr,2,none⟩ (.slice A2 y2.l.length c2)) :=
 ⟨Bk.apart (Bk.apart (Bk.apart (Bk.set_at (Bk.set_at (Bk.set_at h1 0 _) 1 _) 2 _) (p:=⟨rr,0,none⟩) hne _) (p:=⟨rr,1,none⟩) hne _) (p:=⟨rr,2,none⟩) hne _,
  Bk.set_at (Bk.set_at (Bk.set_at (Bk.apart (Bk.apart (Bk.apart h2 (p:=⟨lb,0,none⟩) (Ne.symm hne) _) (p:=⟨lb,1,none⟩) (Ne.symm hne) _) (p:=⟨lb,2,none⟩) (Ne.symm hne) _) 0 _) 1 _) 2 _,hl,hr,
  (((((hb.setCell (p:=⟨lb,0,none⟩) hl _).setCell (p:=⟨lb,1,none⟩) hl _).setCell (p:=⟨lb,2,none⟩) hl _).setCell (p:=⟨rr,0,none⟩) hr _).setCell (p:=⟨rr,1,none⟩) hr _).setCell (p:=⟨rr,2,none⟩) hr _⟩
theorem contains_cmp (name:ByteArray):Lib.containsS ([sLe,sLt,sGe,sGt,sEq].take 5) name=comparesB name:=by
 rw [Bool.eq_iff_iff,Lib.containsS_iff];unfold comparesB;simp only [List.take_succ_cons,List.take_zero,List.mem_cons,List.not_mem_nil,or_false,Bool.or_eq_true,decide_eq_true_eq,or_assoc]
def diffO (c:Cx) (r:Sexp->St->V × St) (name:ByteArray) (x:Sexp) (st:St):(V × Bool) × St :=
 if differsN name x=1 then(((diffLM c r name x st).1,true),(diffLM c r name x st).2)
 else if differsN name x=2 then(((diffRM c r name x st).1,true),(diffRM c r name x st).2)
 else((v0,false),st)
def DfPost (F:Fix) (known:Int) (w:World) (t:List Node) (At:Option Addr) (q:V × Bool) (st':St) (e:Ending) (w':World):Prop :=
 e=.returned (.tuple #[valV q.1,.bool q.2])/\VI q.1/\Keeps (onMb F) w w'/\∃ A' c',Mk F w' known st' A' c'/\TN w.heap.size t At st'.t A'
theorem Mid.ret2 {F:Fix} {known:Int} {w W:World} {st':St} {t:List Node} {At A':Option Addr} {rb c':Nat} (hF:FixOk F) (h:Mid F known w t At rb W st' A' c') {f:Func} {v:V} {o:Bool} {act:Act} (hf:f.results=#[.cell 8 82,.tmp 9]) (h2:act.tmps[8]?=some (.pointer (some ⟨rb,0,none⟩))) (h3:act.tmps[9]?=some (.bool o)) (hd:act.defers=[]) (hv:VI v) :
  bodyPost Tryz.prog f (DfPost F known w t At (v,o) st') .ret act ((W.setCell ⟨rb,0,none⟩ (.int .i64 v.1)).setCell ⟨rb,1,none⟩ (.int .i64 v.2)):=by
 have hb:=Bk.set_at (Bk.set_at h.cell 0 (.int .i64 v.1)) 1 (.int .i64 v.2);obtain ⟨y0,y1,_⟩:=Bk.c2 (a0:=.int .i64 v.1) (a1:=.int .i64 v.2) hb;refine bodyPost_ret (v:=.tuple #[.agg #[.int .i64 v.1,.int .i64 v.2],.bool o]) ?_ hd ?_
 ·simp [results,hf,go_sem,y0,y1,h2,h3]
 ·exact⟨rfl,hv,(h.keeps.setCell (p:=⟨rb,0,none⟩) (.inr h.le) _).setCell (p:=⟨rb,1,none⟩) (.inr h.le) _,A',c',(h.maker.other hF (by have:=h.lt;have:=h.le;omega) h.far 0 _).other hF (by have:=h.lt;have:=h.le;omega) h.far 1 _,h.tn⟩
theorem minus_len {x:Sexp} (h:minusB x=true):x.l.length=3:=by
 unfold minusB at h;simp only [Bool.and_eq_true,decide_eq_true_eq] at h;exact h.1.2
end El
namespace El
open Go.RowKit Go.Maps Dt Sg
theorem checkB_of {g:Sig} (h:checkE g=0):checkB g=true:=by
 cases hb:checkB g with
 | true=>rfl
 | false=>rw [checkE_false hb] at h;cases h
theorem allTo_get {p:Nat->Bool} {n k:Nat} (h:allTo p n=true) (hk:k < n):p k=true:=by
 cases hp:p k with
 | true=>rfl
 | false=>rw [allTo_stop hk hp] at h;cases h
theorem sig_lens {g:Sig} (h:checkE g=0):g.sorts.length<=4/\g.funs.length<=12/\g.macros.length<=12:=by
 have:=checkB_of h;unfold checkB at this;simp only [Bool.and_eq_true,decide_eq_true_eq] at this;exact⟨this.1.1.1,this.1.1.2,this.1.2⟩
theorem fun_small {g:Sig} (h:checkE g=0) {i:Nat} {f:Fun4} (hf:g.funs[i]?=some f):funB g.sorts.length f=true:=by
 have:=checkB_of h;unfold checkB at this;simp only [Bool.and_eq_true] at this;have h1:=allTo_get this.2.1.2 (gqs hf).1;unfold funOk at h1;rw [hf] at h1;simp only [Bool.and_eq_true] at h1;exact h1.2
theorem mac_small {g:Sig} (h:checkE g=0) {i:Nat} {m:Macro} (hm:g.macros[i]?=some m):macroB g.sorts.length m=true:=by
 have:=checkB_of h;unfold checkB at this;simp only [Bool.and_eq_true] at this;have h1:=allTo_get this.2.2 (gqs hm).1;unfold macOk at h1;rw [hm] at h1;simp only [Bool.and_eq_true] at h1;exact h1.2
theorem node_set {op ln srt fn n:Int} {l:List V} {k:Nat} {v:V} (hk:k < 3) (hv:l[k]?=some v) :
  #[Value.int .i8 op,.int .i8 ln,.int .i64 (argK l k 0),.int .i64 (argK l k 1),.int .i64 (argK l k 2),.int .i64 srt,.int .i64 fn,.int .i64 n].setIfInBounds (2+k) (.int .i64 v.2) =
  #[Value.int .i8 op,.int .i8 ln,.int .i64 (argK l (k+1) 0),.int .i64 (argK l (k+1) 1),.int .i64 (argK l (k+1) 2),.int .i64 srt,.int .i64 fn,.int .i64 n]:=by
 have hn:nthN l k=v.2:=by unfold nthN;rw [List.getD_eq_getElem?_getD,hv];rfl
 have hc:k=0\/k=1\/k=2:=by omega
 rcases hc with rfl | rfl | rfl <;> simp [argK,hn]
def sortStep (v:V) (s:Int) (st:St):St:=if st.e=0/\v.1≠s then { st with e:=33 } else st
theorem sortsM_step {vs:List V} {v:V} {k:Nat} {f:Fun4} {st:St} (hk:k < 3) (hv:vs[k]?=some v):sortsM (vs.drop k) ([f.a0,f.a1,f.a2].drop k) st=sortsM (vs.drop (k+1)) ([f.a0,f.a1,f.a2].drop (k+1)) (sortStep v (Fun4.arg f k) st):=by
 have hlt:=(gqs hv).1;rw [gqe hlt] at hv;have hd:vs.drop k=v :: vs.drop (k+1):=by rw [List.drop_eq_getElem_cons hlt];simp at hv;rw [hv]
 rw [hd];have hc:k=0\/k=1\/k=2:=by omega
 rcases hc with rfl | rfl | rfl <;> rfl
theorem apply_any {F:Fix} (hF:FixOk F) {known:Nat} {l:List Sexp} (hT:∀ y ∈ l,TermC F known y) {w:World} {st:St} {At:Option Addr} {ct:Nat} (hm:Mk F w known st At ct) {fi:Nat} {f:Fun4} (hf:F.c.g.funs[fi]?=some f) {A:Option Addr} (c:Nat) (hl:Lies 3 SexpR F.W0 A l) (hll:l.length<=3000000) {p:Option Addr} {env:Env} (he:EnvS F w p env) :
  Calls Tryz.prog 98 #[.pointer (some ⟨F.mb,0,none⟩),.int .i64 (fi:Int),.slice A l.length c,.pointer p] w (MkPost F known w st.t At (applyM F.c (fun y=>termP F.c known y env) f fi l st).1 (applyM F.c (fun y=>termP F.c known y env) f fi l st).2):=by
 have HL:=kp hl;have HE:=kp he;have hlt:=hm.lt;have D1:=kp (Mid.new hm);generalize hr:(fun y=>termP F.c known y env)=r
 have HS:=kp (show applyM F.c r f fi l st=if(l.length:Int)≠f.len then(v0,failS 30 st)
  else putM F.c ⟨13,f.len,nthN (allM r l st).1 0,nthN (allM r l st).1 1,nthN (allM r l st).1 2,f.res,fi,0⟩ (sortsM (allM r l st).1 [f.a0,f.a1,f.a2] (allM r l st).2) from rfl)
 have HAl:=kp (fun(W:World) (A':Option Addr) (c':Nat) (h:Mid F known w st.t At w.heap.size W st A' c')=>show Calls Tryz.prog 96 #[.pointer (some ⟨F.mb,0,none⟩),.slice A l.length c,.pointer p] W (AllPost F known W st.t A' (allM r l st).1 (allM r l st).2) by
  have:=all_any hF hT h.maker c hl hll (he.on h.keeps)
  rwa [hr] at this)
 have HVl:=kp (allM_len r l st);have hfb:=fun_small hF.ok hf;obtain ⟨hl1,hl2,hl3⟩:=sig_lens hF.ok
 have hfl:0<=f.len/\f.len<=3:=by
  unfold funB at hfb;simp only [Bool.and_eq_true,decide_eq_true_eq] at hfb;exact hfb.1.1.1.1
 obtain ⟨fb,fo,hA2,hfat,hfi⟩:=fun_get hF.sig.funs hf;have hflt:(fi:Int) < (F.c.g.funs.length:Int):=by have:=(gqs hf).1;omega
 have hfi2:(fi:Int)<=12:=by omega
 have HFA:=kp (fun W (hW:Below F.W0.heap.size F.W0 W)=>hfat.on hW);have HFI:=kp hfi;have hA2':=hA2;clear hm hl he hT hfb hfat hfi hr hf;generalize applyM F.c r f fi l st=res at *;generalize allM r l st=al at *
 go_enter Tryz.func98,Tryz.ntmps98
 go_upto_region 1 with fail
 generalize w.alloc (.cells #[.int .i64 0,.int .i64 0] 82)=w1 at *;have hblk:=D1.out.maker.blk;rw [hA2] at hblk;obtain ⟨m0,m1,m2,m3,m4,m5,m6,m7,m8,mf⟩:=Bk.c9 hblk;obtain ⟨hfl0,f0,f1,f2,f3,f4,f5⟩:=HFA.out w1 D1.out.maker.below
 by_cases h1:(l.length:Int)=f.len
 ·have g1:((l.length:Int) != f.len)=false:=by rw [h1];simp
  replace HS:=kp (HS.out.trans (if_neg (fun h=>h h1)));have hl3':l.length<=3:=by omega
  have hcv:IntKind.i8.wrap f.len=f.len:=IntWalk.i8_in _ (by omega);have HLn:=kp h1;clear h1;go_upto_region 4 with fail
  clear m0 m1 m2 m3 m4 m5 m6 m7 m8 mf f0 f1 f2 f3 f4 f5 hblk
  go_cut [10] from 29 to 39 (fun v10 W=>∃ xb,v10=.pointer (some ⟨xb,0,none⟩)/\W.heap[xb]?=some (.cells #[.int .i8 13,.int .i8 f.len,.int .i64 0,.int .i64 0,.int .i64 0,.int .i64 f.res,.int .i64 (fi:Int),.int .i64 0] 49 (0,0))/\w1.heap.size<=xb/\Below w1.heap.size w1 W)
  case first =>
   have B0:=kp (brq w1).drew;have HFw:=kp (fun W (hW:Below w1.heap.size w1 W)=>HFA.out W (D1.out.below hW).maker.below);refine wp_region_held_drew (S:=fun W=>Below w1.heap.size w1 W) (by kernel_rfl) (B0.out) (fun hHeld=>?_);refine plz [0,1,2,3,4,5,6,7,8,9,10] ?_;iterate 11 (refine tnz (v:=?_) ?_ ?_;rotate_left;(focus first | ((intro w hSw;go_simp;try with_reducible rfl);done) | ((intro w hSw;(obtain ⟨hfl0,f0,f1,f2,f3,f4,f5⟩:=HFw.out _ hSw;go_simp;try with_reducible rfl));done));try simp only [pt])
   refine pzz ?_;generalize hwd:World.drew _=wd at *;clear hwd;have BA:=kp (B0.out.alloc B0.out.size (.cells #[.int .i8 0,.int .i8 0,.int .i64 0,.int .i64 0,.int .i64 0,.int .i64 0,.int .i64 0,.int .i64 0] 49));have XA:=kp (Bk.new wd (.cells #[.int .i8 0,.int .i8 0,.int .i64 0,.int .i64 0,.int .i64 0,.int .i64 0,.int .i64 0,.int .i64 0] 49));have hxs:=B0.out.size;refine rd 11 fun K hK=>?_;go_simp;refine hK.out _ _ (BA.out) (fun hHeld=>?_);clear hK K;try simp only [pt]
   generalize wd.alloc (.cells #[.int .i8 0,.int .i8 0,.int .i64 0,.int .i64 0,.int .i64 0,.int .i64 0,.int .i64 0,.int .i64 0] 49)=wa at *;generalize wd.heap.size=xb at *;obtain ⟨x0,x1,x2,x3,x4,x5,x6,x7,xf⟩:=Bk.c8 XA.out;have BC:=kp ((((((((BA.out.setCell (p:=⟨xb,0,none⟩) hxs (.int .i8 13)).setCell (p:=⟨xb,1,none⟩) hxs (.int .i8 f.len)).setCell (p:=⟨xb,2,none⟩) hxs (.int .i64 0)).setCell (p:=⟨xb,3,none⟩) hxs (.int .i64 0)).setCell (p:=⟨xb,4,none⟩) hxs (.int .i64 0)).setCell (p:=⟨xb,5,none⟩) hxs (.int .i64 f.res)).setCell (p:=⟨xb,6,none⟩) hxs (.int .i64 (fi:Int))).setCell (p:=⟨xb,7,none⟩) hxs (.int .i64 0));refine rd 12 fun K hK=>?_;go_simp;refine hK.out _ _ (BC.out) (fun hHeld=>?_);clear hK K;try simp only [pt]
   refine dnz ?_;go_wp2_with fail
   go_meet;exact⟨_,rfl,Bk.set_at (Bk.set_at (Bk.set_at (Bk.set_at (Bk.set_at (Bk.set_at (Bk.set_at (Bk.set_at XA.out 0 _) 1 _) 2 _) 3 _) 4 _) 5 _) 6 _) 7 _,hxs,BC.out⟩
  case rest =>
   obtain ⟨xb,rfl,hx,hxs,hb⟩:=hcut;have D2:=kp (D1.out.below hb);have X2:=kp hx;have FX2:=kp (show Far xb st.t At from D1.out.fresh hxs);have hxb:w.heap.size+1<=xb:=Nat.le_trans D1.out.size hxs;have hxw:=lt_of_block hx;clear hx hb;generalize hwb:wc=wb at *;clear hwb;have HA2:=kp (HAl.out _ _ _ D2.out);obtain ⟨vs,sa⟩:=al;go_wp2_with fail
   refine HA2.out.mono ?_;rintro e w3 ⟨L3,cl3,rfl,hcl3,hcm3,hv3,hk3,A3,c3,hm3,ht3⟩;have D3:=kp (D2.out.call hk3 hm3 ht3);have X3:=kp (D2.out.blk hk3 X2.out (by omega));have FX3:=kp (Far.of_tn FX2.out ht3 (lt_of_block X2.out));have V3:=kp hv3;have hvl3:vs.length<=3:=by have:=HVl.out;omega
   clear hv3 hk3 hm3 ht3 HA2 HAl D1 D2 X2 FX2;go_wp2_with fail
   go_loopw [45] (fun i' wr=>∃ k:Nat,k<=vs.length/\i'=.int .i64 k/\∃ (st':St) (A':Option Addr) (c':Nat),sortsM vs [f.a0,f.a1,f.a2] sa=sortsM (vs.drop k) ([f.a0,f.a1,f.a2].drop k) st'/\Mid F known w st.t At w.heap.size wr st' A' c'/\wr.heap[xb]?=some (.cells #[.int .i8 13,.int .i8 f.len,.int .i64 (argK vs k 0),.int .i64 (argK vs k 1),.int .i64 (argK vs k 2),.int .i64 f.res,.int .i64 (fi:Int),.int .i64 0] 49 (0,0))/\Far xb st'.t A'/\ValsN wb.heap.size wr L3 vs) (fun i' _=>vs.length - (intOf i').toNat)
   case atStart=>exact⟨0,Nat.zero_le _,rfl,sa,A3,c3,rfl,D3.out,X3.out,FX3.out,V3.out⟩
   case round =>
    obtain ⟨k,hk,rfl,st',A',c',hso,hmid,hxr,hfx,hvs⟩:=hrel;have HSo:=kp hso;have DR:=kp hmid;have XR:=kp hxr;have FX:=kp hfx;have VR:=kp hvs;clear hso hmid hxr hfx hvs
    by_cases hkl:k < vs.length
    ·have hlt2:(k:Int) < (vs.length:Int):=by omega
     have hk3:k < 3:=by omega
     have hk3':(k:Int) < 3:=by omega
     obtain ⟨v,hv⟩:∃ v,vs[k]?=some v:=⟨_,gqe hkl⟩;obtain ⟨b,o,rfl,hbl,e0,e1,hvi⟩:=val_get VR.out.now hv;have HSt:=kp (sortsM_step (f:=f) (st:=st') hk3 hv);have HSet:=kp (node_set (op:=13) (ln:=f.len) (srt:=f.res) (fn:=(fi:Int)) (n:=0) hk3 hv);have BA:=kp ((brq wr).alloc nlq (.cells #[.int .i64 v.1,.int .i64 v.2] 82));have DA:=kp (DR.out.below BA.out);have XA:=kp (Bk.on XR.out BA.out);have VA:=kp (VR.out.below BA.out);have YA:=kp (Bk.new wr (.cells #[.int .i64 v.1,.int .i64 v.2] 82));have hvb:=DR.out.keeps.size;have hxv:=lt_of_block XR.out;clear hv BA hvi;go_upto_region 8 with fail
     generalize wr.alloc (.cells #[.int .i64 v.1,.int .i64 v.2] 82)=wa at *;generalize wr.heap.size=vb at *;clear e0 e1;have B0:=kp (brq wa).drew;have HMw:=kp (fun W (hW:Below wa.heap.size wa W)=>(DA.out.below hW).maker.blk);have HFw:=kp (fun W (hW:Below wa.heap.size wa W)=>show W.cell? ⟨fb,fo+fi * 6+2+k,none⟩=some (.int .i64 (Fun4.arg f k)) from FunAt.arg (HFA.out W (DA.out.below hW).maker.below) hk3);have DD:=kp DA.out.drew;have XD:=kp (Bk.on XA.out B0.out);have VD:=kp (VA.out.below B0.out);have YD:=kp (Bk.on YA.out B0.out)
     by_cases he:st'.e=0
     ·have he1:(st'.e == 0)=true:=by simp [he]
      refine wp_region_held_drew (S:=fun W=>Below wa.heap.size wa W) (by kernel_rfl) (B0.out) (fun hHeld=>?_);refine plz [0,1,2,3,4,5,6,7,8,9,10,11,12,13,14,15] ?_;iterate 16 (refine tnz (v:=?_) ?_ ?_;rotate_left;(focus first | ((intro w hSw;go_simp;try with_reducible rfl);done) | ((intro w hSw;(obtain ⟨m0,m1,m2,m3,m4,m5,m6,m7,m8,mf⟩:=Bk.c9 (HMw.out _ hSw);go_simp;try with_reducible rfl));done) | ((intro w hSw;(obtain ⟨y0,y1,yf⟩:=Bk.c2 (Bk.on YA.out hSw);go_simp;try with_reducible rfl));done) | ((intro w hSw;(have p0:=HFw.out _ hSw;go_simp;try with_reducible rfl));done));try simp only [pt])
      refine pzz ?_;refine dnz ?_
      by_cases hs:v.1=Fun4.arg f k
      ·have hs1:(v.1 != Fun4.arg f k)=false:=by simp [hs]
       have HN:=kp (show sortStep v (Fun4.arg f k) st'=st' by unfold sortStep;rw [if_neg (fun h=>h.2 hs)]);rw [HN.out,← HSo.out] at HSt;have D5:=DD;have X5:=XD;have V5:=VD;have Y5:=YD;have F5:=FX;clear he he1 hs;generalize World.drew _=w5 at *;have pk:=NodeAt.arg' (node_block (n:=⟨13,f.len,argK vs k 0,argK vs k 1,argK vs k 2,f.res,(fi:Int),0⟩) X5.out) hk3;rw [Nat.zero_add] at pk;obtain ⟨_,_,_,_,_,_,_,_,xf⟩:=Bk.c8 X5.out;obtain ⟨y0,y1,yf⟩:=Bk.c2 Y5.out;have D6:=kp (D5.out.other hF (k:=xb) (by omega) (by omega) F5.out (2+k) (.int .i64 v.2));have X6:=kp (Bk.set_at X5.out (2+k) (.int .i64 v.2));rw [HSet.out] at X6;have V6:=kp (V5.out.set (p:=⟨xb,2+k,none⟩) (.int .i64 v.2) hxw);go_wp2_with fail
       go_roundw
       case rel=>exact⟨k+1,by omega,by go_num,st',A',c',HSt.out,D6.out,X6.out,F5.out,V6.out⟩
       case measure=>simp [intOf];omega
      ·have hs1:(v.1 != Fun4.arg f k)=true:=by rw [bne_iff_ne];exact hs
       have HN:=kp (show sortStep v (Fun4.arg f k) st'=failS 33 st' by unfold sortStep failS;rw [if_pos ⟨he,hs⟩,if_pos he]);rw [HN.out,← HSo.out] at HSt;have HFl:=kp (fail_any hF DD.out.maker 33 (by decide));clear he he1 hs;generalize World.drew _=w4 at *;go_wp2_with fail
       refine HFl.out.mono ?_;rintro e w5 ⟨rfl,hv,hk5,A5,c5,hm5,ht5⟩;have D5:=kp (DD.out.call hk5 hm5 ht5);have X5:=kp (DD.out.blk hk5 XD.out (by omega));have V5:=kp (VD.out.keep hk5 (by omega));have Y5:=kp (DD.out.blk hk5 YD.out hvb);have F5:=kp (Far.of_tn FX.out ht5 (lt_of_block XD.out));clear hv hk5 hm5 ht5;have pk:=NodeAt.arg' (node_block (n:=⟨13,f.len,argK vs k 0,argK vs k 1,argK vs k 2,f.res,(fi:Int),0⟩) X5.out) hk3;rw [Nat.zero_add] at pk;obtain ⟨_,_,_,_,_,_,_,_,xf⟩:=Bk.c8 X5.out;obtain ⟨y0,y1,yf⟩:=Bk.c2 Y5.out;have D6:=kp (D5.out.other hF (k:=xb) (by omega) (by omega) F5.out (2+k) (.int .i64 v.2));have X6:=kp (Bk.set_at X5.out (2+k) (.int .i64 v.2));rw [HSet.out] at X6;have V6:=kp (V5.out.set (p:=⟨xb,2+k,none⟩) (.int .i64 v.2) hxw);go_wp2_with fail
       go_roundw
       case rel=>exact⟨k+1,by omega,by go_num,(failS 33 st'),A5,c5,HSt.out,D6.out,X6.out,F5.out,V6.out⟩
       case measure=>simp [intOf];omega
     ·have he1:(st'.e == 0)=false:=by simp [he]
      have HN:=kp (show sortStep v (Fun4.arg f k) st'=st' by unfold sortStep;rw [if_neg (fun h=>he h.1)]);rw [HN.out,← HSo.out] at HSt;refine wp_region_held_drew (S:=fun W=>Below wa.heap.size wa W) (by kernel_rfl) (B0.out) (fun hHeld=>?_);refine plz [0,1,2,3,4,5] ?_;iterate 6 (refine tnz (v:=?_) ?_ ?_;rotate_left;(focus first | ((intro w hSw;go_simp;try with_reducible rfl);done) | ((intro w hSw;(obtain ⟨m0,m1,m2,m3,m4,m5,m6,m7,m8,mf⟩:=Bk.c9 (HMw.out _ hSw);go_simp;try with_reducible rfl));done));try simp only [pt])
      refine pzz ?_;refine sk 6 ?_;try simp only [pt]
      refine sk 7 ?_;try simp only [pt]
      refine sk 8 ?_;try simp only [pt]
      refine sk 9 ?_;try simp only [pt]
      refine sk 10 ?_;try simp only [pt]
      refine sk 11 ?_;try simp only [pt]
      refine sk 12 ?_;try simp only [pt]
      refine sk 13 ?_;try simp only [pt]
      refine sk 14 ?_;try simp only [pt]
      refine tk 15 (v:=?_) ?_ ?_;rotate_left
      ·(intro w hSw;go_simp;try with_reducible rfl)
      try simp only [pt]
      refine dnz ?_;have D5:=DD;have X5:=XD;have V5:=VD;have Y5:=YD;have F5:=FX;clear he he1;generalize World.drew _=w5 at *;have pk:=NodeAt.arg' (node_block (n:=⟨13,f.len,argK vs k 0,argK vs k 1,argK vs k 2,f.res,(fi:Int),0⟩) X5.out) hk3;rw [Nat.zero_add] at pk;obtain ⟨_,_,_,_,_,_,_,_,xf⟩:=Bk.c8 X5.out;obtain ⟨y0,y1,yf⟩:=Bk.c2 Y5.out;have D6:=kp (D5.out.other hF (k:=xb) (by omega) (by omega) F5.out (2+k) (.int .i64 v.2));have X6:=kp (Bk.set_at X5.out (2+k) (.int .i64 v.2));rw [HSet.out] at X6;have V6:=kp (V5.out.set (p:=⟨xb,2+k,none⟩) (.int .i64 v.2) hxw);go_wp2_with fail
      go_roundw
      case rel=>exact⟨k+1,by omega,by go_num,st',A',c',HSt.out,D6.out,X6.out,F5.out,V6.out⟩
      case measure=>simp [intOf];omega
    ·obtain rfl:k=vs.length:=by omega
     have HSo2:=kp (show sortsM vs [f.a0,f.a1,f.a2] sa=st' by rw [HSo.out,List.drop_length];unfold sortsM;rfl);replace HS:=kp (show res=putM F.c ⟨13,f.len,argK vs vs.length 0,argK vs vs.length 1,argK vs vs.length 2,f.res,fi,0⟩ st' by rw [HS.out,argK_full,argK_full,argK_full,HSo2.out]);have HNi:=nthN_i64 (lies_vi VR.out.now);have HNI:=kp (show NodeI ⟨13,f.len,argK vs vs.length 0,argK vs vs.length 1,argK vs vs.length 2,f.res,fi,0⟩ from⟨I8.of (n:=13) (by decide) (by decide),I8.of (n:=f.len) hfl.1 (by omega),(argK_full vs 0).symm ▸ HNi 0,(argK_full vs 1).symm ▸ HNi 1,(argK_full vs 2).symm ▸ HNi 2,HFI.out.res,⟨by show -9223372036854775808<=(fi:Int);omega,by show(fi:Int)<=9223372036854775807;omega⟩,v0_VI.1⟩);have HPut:=kp (put_any hF DR.out.maker HNI.out);rw [← HS.out] at HPut;obtain ⟨x0,x1,x2,x3,x4,x5,x6,x7,xf⟩:=Bk.c8 XR.out;clear HNi;go_wp2_with fail
     refine HPut.out.mono ?_;rintro e w7 ⟨rfl,hv,hk7,A7,c7,hm7,ht7⟩;have D7:=kp (DR.out.call hk7 hm7 ht7);unfold valV;clear hk7 hm7 ht7 x0 x1 x2 x3 x4 x5 x6 x7 xf;obtain ⟨r0,r1,rf⟩:=Bk.c2 D7.out.cell;go_wp2_with fail
     refine D7.out.ret (v:=res.1) hF Tryz.results98 ?_ ?_ hv <;> rfl
 ·have g1:((l.length:Int) != f.len)=true:=by rw [bne_iff_ne];exact h1
  replace HS:=kp (HS.out.trans (if_pos h1));have HFl:=kp (fail_any hF D1.out.maker 30 (by decide));clear h1;go_wp2_with fail
  refine HFl.out.mono ?_;rintro e w7 ⟨rfl,hv,hk7,A7,c7,hm7,ht7⟩;have D7:=kp (D1.out.call hk7 hm7 ht7);unfold valV v0;clear hk7 hm7 ht7 m0 m1 m2 m3 m4 m5 m6 m7 m8 mf f0 f1 f2 f3 f4 f5;obtain ⟨r0,r1,rf⟩:=Bk.c2 D7.out.cell;go_wp2_with fail
  rw [HS.out];refine D7.out.ret (v:=v0) hF Tryz.results98 ?_ ?_ v0_VI <;> rfl
end El
namespace El
open Go.RowKit Dt Sg
theorem sorts_same:∀ (l:List V) (q:List Int) (st:St),(∀ (i:Nat) v s,l[i]?=some v->q[i]?=some s->v.1=s)->sortsM l q st=st
 | [],_,_,_=>by unfold sortsM;rfl
 | _ :: _,[],_,_=>by unfold sortsM;rfl
 | v :: l,s :: q,st,h=>by
  unfold sortsM;have h0:=h 0 v s rfl rfl;rw [if_neg (fun hh=>hh.2 h0)];exact sorts_same l q st (fun i v s h1 h2=>h (i+1) v s (by simpa using h1) (by simpa using h2))
theorem fun_name' {g:Sig} {k:Nat} {f:Fun4} (hg:checkE g=0) (hf:g.funs[k]?=some f):Lx.mayB (Lx.bs f.name)=true/\Lx.resB (Lx.bs f.name)=false/\coreB (Lx.bs f.name)=false/\hasB ((g.funs.map Fun4.name).take k) f.name=false:=by
 unfold checkE at hg
 split at hg
 ·rename_i hb
  unfold checkB at hb;simp only [Bool.and_eq_true] at hb;have h1:=hb.2.1.2;unfold allTo at h1;rw [List.all_eq_true] at h1;have h2:=h1 k (List.mem_range.2 (gqs hf).1);unfold funOk at h2;rw [hf] at h2;simp only [Bool.and_eq_true,Bool.not_eq_true',Bool.or_eq_false_iff] at h2;have h3:=h2.1.1;unfold usableB at h3;simp only [Bool.and_eq_true,Bool.not_eq_true'] at h3;exact⟨h3.1,h3.2,h2.1.2.2,h2.1.2.1⟩
 ·cases hg
section
variable {g:Sig} {t:List Node} {k:Nat} {n:Node} {c:Cx}
theorem app_fun (h:tableE g t=0) (hn:t[k]?=some n) (h13:n.op=13):∃ (j:Nat) (f:Fun4),n.fn=(j:Int)/\g.funs[j]?=some f/\n.len=f.len/\f.res=n.sort/\argsB f (sortsTo t n n.len.toNat)=true:=by
 obtain ⟨hst,hsp⟩:=table_node h hn;have ho:=node_ok hst;unfold sortProg at hsp;rw [if_pos h13] at hsp;unfold appProg at hsp;have h3:=ho.len
 by_cases hr:n.fn < 0\/(g.funs.length:Int)<=n.fn
 ·rw [if_pos hr] at hsp;exact absurd (congrArg Prod.snd hsp) (show ¬ (2:Int)=0 by decide)
 ·rw [if_neg hr] at hsp
  cases hf:g.funs[n.fn.toNat]? with
  | none =>
   rw [hf] at hsp;exact absurd (congrArg Prod.snd hsp) (show ¬ (2:Int)=0 by decide)
  | some f =>
   rw [hf] at hsp;simp only [sortsTo_len] at hsp
   by_cases hl:(n.len.toNat:Int)≠f.len
   ·rw [if_pos hl] at hsp;exact absurd (congrArg Prod.snd hsp) (show ¬ (2:Int)=0 by decide)
   ·rw [if_neg hl] at hsp
    by_cases ha:argsB f (sortsTo t n n.len.toNat)=true
    ·rw [if_pos ha] at hsp;exact⟨n.fn.toNat,f,by omega,hf,by omega,congrArg Prod.fst hsp,ha⟩
    ·rw [if_neg ha] at hsp;exact absurd (congrArg Prod.snd hsp) (show ¬ (33:Int)=0 by decide)
theorem appM_there (h:tableE g t=0) (hn:t[k]?=some n) (h13:n.op=13) {j:Nat} {f:Fun4} (hj:n.fn=(j:Int)) (hf:g.funs[j]?=some f) {st:St} (hs:StOk c t st) {r:Sexp->St->V × St} {l:List Sexp} (hr:allM r l st=(valsN c t n,st)) (hl:l.length=n.len.toNat) :
  applyM c r f j l st=((n.sort,if c.build=true then(k:Int) else 0),st):=by
 obtain ⟨j',f',hj',hf',hln,hres,hab⟩:=app_fun h hn h13;have ho:=node_ok (table_node h hn).1;obtain rfl:j=j':=by omega
 rw [hf] at hf';obtain rfl:f=f':=by simpa using hf'
 have h3:=ho.len;unfold applyM;rw [if_neg (by rw [hl];omega),hr]
 have hsm:sortsM (valsN c t n) [f.a0,f.a1,f.a2] st=st:=by
  refine sorts_same _ _ _ fun i v s hv hq=>?_;have hi:i < n.len.toNat:=by have:=(gqs hv).1;rwa [vals_len c ho] at this
  unfold argsB at hab;rw [List.all_eq_true] at hab;have h1:=hab i (List.mem_range.2 (by rw [sortsTo_len];exact hi));rw [← vals_fst c ho] at h1;have h2:((valsN c t n).map Prod.fst).getD i 0=v.1:=by rw [List.getD_eq_getElem?_getD,List.getElem?_map,hv];rfl
  rw [h2] at h1
  have h4:Fun4.arg f i=s:=by
   have:i < 3:=by omega
   match i,this with
   | 0,_=>simpa [Fun4.arg] using hq
   | 1,_=>simpa [Fun4.arg] using hq
   | 2,_=>simpa [Fun4.arg] using hq
  rw [← h4]
  simpa using h1
 show putM c ⟨13,f.len,nthN (valsN c t n) 0,nthN (valsN c t n) 1,nthN (valsN c t n) 2,f.res,j,0⟩ (sortsM (valsN c t n) [f.a0,f.a1,f.a2] st)=_;rw [hsm]
 cases hb:c.build with
 | false =>
  unfold putM;rw [if_pos (.inr hb),hres];simp
 | true =>
  have e:(⟨13,f.len,nthN (valsN c t n) 0,nthN (valsN c t n) 1,nthN (valsN c t n) 2,f.res,(j:Int),0⟩:Node)=n:=by
   rw [vals_nth hb ho (by omega),vals_nth hb ho (by omega),vals_nth hb ho (by omega),← hln,hres,← hj,← h13,← ho.zero (by rw [h13];decide)]
   rfl
  rw [e,putM_there h hn hs,hb]
theorem head_list (s:ByteArray) (l:List Sexp):headS (listT (symT s :: l))=s:=by unfold headS listT symT;simp [Sexp.kind,Sexp.l,Sexp.text]
theorem isList_T (s:ByteArray) (l:List Sexp):isListB (listT (symT s :: l))=true:=by unfold isListB listT symT;simp [Sexp.kind,Sexp.l]
theorem isNum_T {s:ByteArray} {l:List Sexp} (h:s≠sMinus\/l.length≠1):isNumX (listT (symT s :: l))=false:=by
 unfold isNumX numN;rw [if_neg (by show ¬ (3:Int)=1;decide),head_list]
 split
 ·rename_i hs
  rcases h with h | h
  ·exact absurd hs h
  ·have e:(listT (symT s :: l)).l=symT s :: l:=rfl;rw [e]
   match l,h with
   | [],_=>rfl
   | _ :: _ :: _,_=>rfl
 ·rfl
theorem isNum_symT (s:ByteArray):isNumX (symT s)=false:=isNum_sym s
theorem step_list {r:Rec} {known:Nat} {x:Sexp} {env:Env} {st:St} (h0:st.e=0) (h1:isNumX x=false) (h2:isListB x=true):termStep c r known x env st=listM c r known x env st:=by
 unfold termStep;rw [if_neg (by rw [h0];decide),h1,if_neg (by decide),if_pos h2]
theorem list_way {r:Rec} {known:Nat} {s:ByteArray} {l:List Sexp} {env:Env} {st:St} {way lo hi:Nat} (h1:s≠sLet) (h2:Lx.resB (Lx.bs s)=false) (h3:s≠sTrue) (h4:s≠sFalse) (h5:s≠sPlus) (h6:s≠sMinus) (hw:wayN s=some (way,lo,hi)) (hlo:lo<=l.length) (hhi:l.length<=hi) (hd:differsN s (listT (symT s :: l))=0) (ha:(allM (fun y=>r known y env) l st).2.e=0) :
  listM c r known (listT (symT s :: l)) env st=makeM c way (allM (fun y=>r known y env) l st).1 (allM (fun y=>r known y env) l st).2:=by
 unfold listM;rw [head_list,if_neg h1,if_neg (fun h=>by rcases h with h | h | h;rw [h2] at h;cases h;exact h3 h;exact h4 h),if_neg (fun h=>by rcases h with h | h;exact h5 h;exact h6 h),hw];have e:(listT (symT s :: l)).l.tail=l:=rfl;simp only [e];rw [if_neg (by omega),hd,if_neg (by decide),if_neg (by decide),if_neg (by rw [ha];decide)]
end
end El
end Go.Proofs.YtpmdcckapddchaaGreatDoor
