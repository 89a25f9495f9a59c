import Derived.Test.YtpmdcckapddchaaGreatShort
import Derived.Test.YtpmdcckapddchaaGreatMf
import Derived.Deep.RegionWith
import Derived.Test.YtpmdcckapddchaaGreatMd
import Derived.Test.YtpmdcckapddchaaGreatMb
import Derived.Deep.Cut
import Derived.Test.YtpmdcckapddchaaGreatMe
import Derived.Test.YtpmdcckapddchaaGreatMc
/- merged by wip/merge.py from: SigMac SigCheckS ElPlain ElNeed ElNum SigChkA SigMacP SigFresh SigSeen Great4 ElCut ElSim ElSim2 ElSim3 RdNum -/
set_option maxRecDepth 100000
set_option maxHeartbeats 51200000
namespace Go.Proofs.YtpmdcckapddchaaGreat
namespace Sg
open Go.RowKit Dt
def paramB (n:Nat) (ps:List Param) (i:Nat):Bool:=match ps[i]? with
 | none=>true
 | some p=>usableB (Lx.bs p.name) && thereB n p.sort && !hasB ((ps.map Param.name).take i) p.name
def paramsTo (n:Nat) (ps:List Param) (k:Nat):Bool:=(List.range k).all (paramB n ps)
def macroB (n:Nat) (m:Macro):Bool:=decide (m.params.length<=3) && thereB n m.res && m.body.may && paramsTo n m.params m.params.length
theorem paramsTo_succ (n:Nat) (ps:List Param) (k:Nat):paramsTo n ps (k+1)=(paramsTo n ps k && paramB n ps k):=by unfold paramsTo;rw [List.range_succ,List.all_append];simp
theorem paramsTo_stop {n:Nat} {ps:List Param} {k:Nat} (hk:k < ps.length) (h:paramB n ps k=false):paramsTo n ps ps.length=false:=by
 unfold paramsTo;rw [List.all_eq_false];exact⟨k,List.mem_range.2 hk,by rw [h];simp⟩
theorem paramB_at {n:Nat} {ps:List Param} {k:Nat} {p:Param} (h:ps[k]?=some p):paramB n ps k=(Lx.mayB (Lx.bs p.name) && !Lx.resB (Lx.bs p.name) && thereB n p.sort && !hasB ((ps.map Param.name).take k) p.name):=by unfold paramB;rw [h];rfl
theorem mac_cells (w:World) (a b c d e f:Value) (t:TypeId):(w.alloc (.cells #[a,b,c,d,e,f] t)).cell? ⟨w.heap.size,1,none⟩=some b/\(w.alloc (.cells #[a,b,c,d,e,f] t)).cell? ⟨w.heap.size,2,none⟩=some c/\(w.alloc (.cells #[a,b,c,d,e,f] t)).cell? ⟨w.heap.size,3,none⟩=some d/\(w.alloc (.cells #[a,b,c,d,e,f] t)).cell? ⟨w.heap.size,4,none⟩=some e/\(w.alloc (.cells #[a,b,c,d,e,f] t)).cell? ⟨w.heap.size,5,none⟩=some f:=by
 refine⟨?_,?_,?_,?_,?_⟩ <;> rw [World.cell?_alloc_mark] <;> rfl
theorem take_has {ns:List ByteArray} {j k:Nat} {x y:ByteArray} (h:ns[j]?=some x) (hj:j < k) (e:x=y):hasB (ns.take k) y=true :=
 hasB_iff.2 (mgq (i:=j) (by rw [List.getElem?_take,if_pos hj,h,e]))
structure Boxes (w:World) (b:Nat) (u0 u1 u2 m1 m2 m3 m4 m5:Value):Prop where
 lt:b+1 < w.heap.size
 u0:w.cell? ⟨b,0,none⟩=some u0
 u1:w.cell? ⟨b,1,none⟩=some u1
 u2:w.cell? ⟨b,2,none⟩=some u2
 m1:w.cell? ⟨b+1,1,none⟩=some m1
 m2:w.cell? ⟨b+1,2,none⟩=some m2
 m3:w.cell? ⟨b+1,3,none⟩=some m3
 m4:w.cell? ⟨b+1,4,none⟩=some m4
 m5:w.cell? ⟨b+1,5,none⟩=some m5
theorem Boxes.on {w w':World} {b:Nat} {u0 u1 u2 m1 m2 m3 m4 m5:Value} (h:Boxes w b u0 u1 u2 m1 m2 m3 m4 m5) (hb:Below w.heap.size w w'):Boxes w' b u0 u1 u2 m1 m2 m3 m4 m5:=by
 have l0:b < w.heap.size:=by have:=h.lt;omega
 exact⟨Nat.lt_of_lt_of_le h.lt hb.size,((bcell hb).1 b 0 l0).trans h.u0,((bcell hb).1 b 1 l0).trans h.u1,((bcell hb).1 b 2 l0).trans h.u2,((bcell hb).1 (b+1) 1 h.lt).trans h.m1,((bcell hb).1 (b+1) 2 h.lt).trans h.m2,((bcell hb).1 (b+1) 3 h.lt).trans h.m3,((bcell hb).1 (b+1) 4 h.lt).trans h.m4,((bcell hb).1 (b+1) 5 h.lt).trans h.m5⟩
theorem boxes_made (w:World) (u0 u1 u2 m0 m1 m2 m3 m4 m5:Value) (t t':TypeId):Boxes ((w.alloc (.cells #[u0,u1,u2] t)).alloc (.cells #[m0,m1,m2,m3,m4,m5] t')) w.heap.size u0 u1 u2 m1 m2 m3 m4 m5:=by
 obtain ⟨g0,g1,g2⟩:=sig_cells w u0 u1 u2 t;obtain ⟨k1,k2,k3,k4,k5⟩:=mac_cells (w.alloc (.cells #[u0,u1,u2] t)) m0 m1 m2 m3 m4 m5 t';have hz:(w.alloc (.cells #[u0,u1,u2] t)).heap.size=w.heap.size+1:=by simp
 have hb:=(Below.refl (w.alloc (.cells #[u0,u1,u2] t)).heap.size (w.alloc (.cells #[u0,u1,u2] t))).alloc nlq (.cells #[m0,m1,m2,m3,m4,m5] t');have e:=fun o=>(bcell hb).1 w.heap.size o (by omega);rw [hz] at k1 k2 k3 k4 k5;exact⟨by simp,(e 0).trans g0,(e 1).trans g1,(e 2).trans g2,k1,k2,k3,k4,k5⟩
theorem rmacro_any {w:World} {A1 A2 A3:Option Addr} {c1 n2 c2 n3 c3:Nat} {l:List ByteArray} (h:Lies 1 StrR w A1 l) (hc:l.length<=c1) (hcm:(l.length:Int)<=140737488351232)
  {Ap Ab:Option Addr} {cp cb:Nat} (m:Macro) (hp:Lies 2 ParamR w Ap m.params) (hpl:m.params.length<=maxLen) (hx:SexpR w [.int .i8 m.body.kind,.string m.body.text,.slice Ab m.body.l.length cb] m.body) (hres:I64 m.res) :
  Calls Tryz.prog 64 #[.agg #[.slice A1 l.length c1,.slice A2 n2 c2,.slice A3 n3 c3],.agg #[.string m.name,.slice Ap m.params.length cp,.int .i64 m.res,.int .i8 m.body.kind,.string m.body.text,.slice Ab m.body.l.length cb]] w fun e w'=>e=.returned (.bool (macroB l.length m))/\Below w.heap.size w w':=by
 have HTh:=kp (fun s hs W (hW:Below w.heap.size w W)=>rthere_any (A2:=A2) (A3:=A3) (n2:=n2) (c2:=c2) (n3:=n3) (c3:=c3) (h.on StrR.lasts hW) hc hcm s hs);have HSx:=kp (fun W (hW:Below w.heap.size w W)=>rsxmay_any (SexpR.lasts _ _ _ _ hW hx));have HLp:=kp (fun W (hW:Below w.heap.size w W)=>hp.on ParamR.lasts hW);have HP:=kp (fun k p=>paramB_at (n:=l.length) (ps:=m.params) (k:=k) (p:=p));have HPs:=kp (paramsTo_succ l.length m.params);have HPx:=kp (fun k hk h=>paramsTo_stop (n:=l.length) (ps:=m.params) (k:=k) hk h);have HNm:=kp (fun k x=>map_at (l:=m.params) (nm:=Param.name) (k:=k) (x:=x));have HPL:=kp hpl;have HRI:=kp hres;have HE:=kp (show macroB l.length m=(decide (m.params.length<=3) && thereB l.length m.res && m.body.may && paramsTo l.length m.params m.params.length) from rfl);have HZ:=kp (show paramsTo l.length m.params 0=true from rfl);clear h hp hx hc hpl hres;generalize macroB l.length m=mb at *;generalize paramsTo l.length m.params=pt at *;generalize paramB l.length m.params=pb at *;generalize m.params.map Param.name=ns at *;generalize m.body.may=bm at *;generalize m.body.kind=bk at *;generalize m.body.text=bt at *;generalize m.body.l.length=bl at *;generalize m.params=ps at *;generalize m.res=res at *;generalize m.name=nm at *;have B2:=kp (((brq w).alloc nlq (.cells #[.slice A1 l.length c1,.slice A2 n2 c2,.slice A3 n3 c3] 26)).alloc (by simp) (.cells #[.string nm,.slice Ap ps.length cp,.int .i64 res,.int .i8 bk,.string bt,.slice Ab bl cb] 47))
 have HX2:=kp (boxes_made w (.slice A1 l.length c1) (.slice A2 n2 c2) (.slice A3 n3 c3) (.string nm) (.slice Ap ps.length cp) (.int .i64 res) (.int .i8 bk) (.string bt) (.slice Ab bl cb) 26 47)
 by_cases h3:3 < (ps.length:Int)
 ·go_enter Tryz.func64,Tryz.ntmps64
  go_wp2_with fail
  go_ret;exact⟨ret_bool (by rw [HE.out,dfq (by omega)];rfl),B2.out⟩
 ·have h3':decide (3 < (ps.length:Int))=false:=dfq h3;replace HE:=kp (show mb=(thereB l.length res && bm && pt ps.length) by rw [HE.out,decide_eq_true (show ps.length<=3 by omega)];rfl);obtain ⟨hz2,x0,x1,x2,y1,y2,y3,y4,y5⟩:=HX2.out
  go_enter Tryz.func64,Tryz.ntmps64
  go_wp2_with fail
  generalize (w.alloc (.cells #[.slice A1 l.length c1,.slice A2 n2 c2,.slice A3 n3 c3] 26)).alloc (.cells #[.string nm,.slice Ap ps.length cp,.int .i64 res,.int .i8 bk,.string bt,.slice Ab bl cb] 47)=w2 at *;have hcall:=HTh.out res HRI.out w2 B2.out;clear x0 x1 x2 y1 y2 y3 y4 y5
  cases ht:thereB l.length res with
  | false =>
   replace HE:=kp (show mb=false by rw [HE.out,ht];rfl);rw [ht] at hcall;clear ht;refine hcall.mono ?_;rintro e w3 ⟨rfl,hb⟩;have B3:=kp (B2.out.trans (hb.mono B2.out.size));clear hb;go_wp2_with fail
   go_ret;exact⟨ret_bool HE.out.symm,B3.out⟩
  | true =>
   replace HE:=kp (show mb=(bm && pt ps.length) by rw [HE.out,ht];rfl);rw [ht] at hcall;clear ht;refine hcall.mono ?_;rintro e w3 ⟨rfl,hb⟩;have B3:=kp (B2.out.trans (hb.mono B2.out.size));have HX3:=kp (HX2.out.on hb);clear hb HX2;obtain ⟨hz3,x0,x1,x2,y1,y2,y3,y4,y5⟩:=HX3.out;have hcall:=HSx.out w3 B3.out;go_wp2_with fail
   clear x0 x1 x2 y1 y2 y3 y4 y5
   cases bm with
   | false =>
    replace HE:=kp (show mb=false by rw [HE.out];rfl);refine hcall.mono ?_;rintro e w4 ⟨rfl,hb⟩;have B4:=kp (B3.out.trans (hb.mono B3.out.size));clear hb;go_wp2_with fail
    go_ret;exact⟨ret_bool HE.out.symm,B4.out⟩
   | true =>
    replace HE:=kp (show mb=pt ps.length by rw [HE.out];rfl);refine hcall.mono ?_;rintro e w4 ⟨rfl,hb⟩;have B4:=kp (B3.out.trans (hb.mono B3.out.size));have HX4:=kp (HX3.out.on hb);clear hb HX3 hcall;go_wp2_with fail
    go_loopw [5] (fun v wr=>∃ k:Nat,k<=ps.length/\v=.int .i64 k/\pt k=true/\Below w4.heap.size w4 wr) (fun v _=>ps.length - (intOf v).toNat)
    case atStart=>exact⟨0,by omega,rfl,HZ.out,Below.refl _ _⟩
    case round =>
     obtain ⟨k,hk,rfl,hok,hb⟩:=hrel;have HO:=kp hok;have B5:=kp (B4.out.trans (hb.mono B4.out.size));have B45:=kp hb;have HX5:=kp (HX4.out.on hb);clear hok hb
     by_cases hlt:k < ps.length
     ·have hlt2:(k:Int) < (ps.length:Int):=by omega
      have hx:=gqe hlt;generalize ps[k]=p at hx;have HL5:=kp (HLp.out wr B5.out);obtain ⟨b,o,vs,rfl,hbl,_,hcell,hr⟩:=HL5.out.at' hx;obtain ⟨rfl,hps,hpi⟩:=hr;have c0:=hcell 0 _ rfl;have c1:=hcell 1 _ rfl;rw [Nat.add_zero] at c0;have HPk:=kp (HP.out k p hx);have HNk:=kp (HNm.out k p hx);clear hx hcell;generalize p.name=y at *;generalize p.sort=sr at *;obtain ⟨hz5,x0,x1,x2,y1,y2,y3,y4,y5⟩:=HX5.out;go_wp2_with fail
      have BA:=kp ((brq wr).alloc nlq (.cells #[.string y,.int .i64 sr] 59));have z6:wr.heap.size < (wr.alloc (.cells #[.string y,.int .i64 sr] 59)).heap.size:=by simp
      have q0:(wr.alloc (.cells #[.string y,.int .i64 sr] 59)).cell? ⟨wr.heap.size,0,none⟩=some (.string y):=by rw [World.cell?_alloc_mark];rfl
      have q1:(wr.alloc (.cells #[.string y,.int .i64 sr] 59)).cell? ⟨wr.heap.size,1,none⟩=some (.int .i64 sr):=by rw [World.cell?_alloc_mark];rfl
      generalize wr.alloc (.cells #[.string y,.int .i64 sr] 59)=w6 at *;have B6:=kp (B5.out.trans (BA.out.mono B5.out.size));have B46:=kp (B45.out.trans (BA.out.mono B45.out.size));have HX6:=kp (HX5.out.on BA.out);clear HX5 x0 x1 x2 y1 y2 y3 y4 y5 c0 c1 hz5;have hm:=Lx.rmay_any y w6 (by omega);generalize Lx.mayB (Lx.bs y)=bmay at *
      cases bmay with
      | false =>
       have HR:=kp (show mb=false by rw [HE.out];exact HPx.out k hlt (by rw [HPk.out];rfl));refine hm.mono ?_;rintro e w7 ⟨rfl,rfl⟩;go_wp2_with fail
       go_ret;exact⟨ret_bool HR.out.symm,B6.out⟩
      | true =>
       refine hm.mono ?_;rintro e w7 ⟨rfl,rfl⟩;have hm:=Lx.rreserved_any y w6;go_wp2_with fail
       generalize Lx.resB (Lx.bs y)=brs at *
       cases brs with
       | true =>
        have HR:=kp (show mb=false by rw [HE.out];exact HPx.out k hlt (by rw [HPk.out];rfl));refine hm.mono ?_;rintro e w7 ⟨rfl,rfl⟩;go_wp2_with fail
        go_ret;exact⟨ret_bool HR.out.symm,B6.out⟩
       | false =>
        replace HPk:=kp (show pb k=(thereB l.length sr && !hasB (List.take k ns) y) from HPk.out);refine hm.mono ?_;rintro e w7 ⟨rfl,rfl⟩;have hcall:=HTh.out sr hpi w6 B6.out;obtain ⟨hz6,x0,x1,x2,y1,y2,y3,y4,y5⟩:=HX6.out;go_wp2_with fail
        clear x0 x1 x2 y1 y2 y3 y4 y5
        cases ht:thereB l.length sr with
        | false =>
         have HR:=kp (show mb=false by rw [HE.out];exact HPx.out k hlt (by rw [HPk.out,ht];rfl));rw [ht] at hcall;clear ht;refine hcall.mono ?_;rintro e w7 ⟨rfl,hb⟩;have B7:=kp (B6.out.trans (hb.mono B6.out.size));clear hb;go_wp2_with fail
         go_ret;exact⟨ret_bool HR.out.symm,B7.out⟩
        | true =>
         replace HPk:=kp (show pb k=!hasB (List.take k ns) y by rw [HPk.out,ht];rfl);rw [ht] at hcall;clear ht;refine hcall.mono ?_;rintro e w7 ⟨rfl,hb⟩;have B7:=kp (B6.out.trans (hb.mono B6.out.size));have B47:=kp (B46.out.trans (hb.mono B46.out.size));have HX7:=kp (HX6.out.on hb);have r0:=((bcell hb).1 wr.heap.size 0 z6).trans q0;have z7:wr.heap.size < w7.heap.size:=by have:=hb.size;omega
         clear hb q0 q1 hcall HX6 hz6 z6;go_wp2_with fail
         generalize wr.heap.size=bp at r0 z7 ⊢
         go_loopw [7] (fun v wv=>∃ j:Nat,j<=k/\v=.int .i64 j/\hasB (ns.take j) y=false/\Below w7.heap.size w7 wv) (fun v _=>k - (intOf v).toNat)
         case atStart=>exact⟨0,by omega,rfl,rfl,Below.refl _ _⟩
         case round =>
          obtain ⟨j,hj,rfl,hno,hb⟩:=hrel;have HNo:=kp hno;have HB:=kp hb;clear hno
          by_cases hjl:j < k
          ·have hjl2:(j:Int) < (k:Int):=by omega
           have hxj:=gqe (show j < ps.length by omega);generalize ps[j]=pj at hxj;have HL8:=kp (HLp.out wr (B7.out.trans (hb.mono B7.out.size)));obtain ⟨b',o',vs',hbo,hbl',_,hcell,hr⟩:=HL8.out.at' hxj;have hbo1:b'=b/\o'=o:=by simp at hbo;exact⟨hbo.1.symm,hbo.2.symm⟩
           obtain ⟨rfl,rfl⟩:=hbo1;obtain ⟨rfl,_,_⟩:=hr;have d0:=hcell 0 _ rfl;rw [Nat.add_zero] at d0;have HNj:=kp (HNm.out j pj hxj);clear hxj hcell;generalize pj.name=yj at *;obtain ⟨hz8,x0,x1,x2,y1,y2,y3,y4,y5⟩:=HX7.out.on hb;have s0:=((bcell hb).1 bp 0 z7).trans r0;clear hb
           by_cases he:yj=y
           ·have HR:=kp (show mb=false by rw [HE.out];exact HPx.out k hlt (by rw [HPk.out,take_has HNj.out hjl he];rfl));subst he;go_wp2_with fail
            go_region
            all_goals go_wp2_with fail
            go_ret;have B9:=B7.out.trans (HB.out.mono B7.out.size);exact⟨ret_bool HR.out.symm,⟨B9.os,B9.tape,B9.output,B9.size,B9.block⟩⟩
           ·have he1:=text_ne he;have HQ:=kp (find_step HNj.out HNo.out he);go_wp2_with fail
            go_region
            all_goals go_wp2_with fail
            go_roundw
            case rel=>exact⟨j+1,by omega,by go_num,HQ.out,⟨HB.out.os,HB.out.tape,HB.out.output,HB.out.size,HB.out.block⟩⟩
            case measure=>simp [intOf];omega
          ·obtain rfl:j=k:=by omega
           have HR:=kp (show pt (j+1)=true by rw [HPs.out,HO.out,HPk.out,HNo.out];rfl);have B9:=kp (B47.out.trans (HB.out.mono B47.out.size));clear hb;go_wp2_with fail
           go_roundw
           case rel=>exact⟨j+1,by omega,by go_num,HR.out,B9.out⟩
           case measure=>simp [intOf];omega
     ·obtain rfl:k=ps.length:=by omega
      have HR:=kp (HE.out.trans HO.out);obtain ⟨hz5,x0,x1,x2,y1,y2,y3,y4,y5⟩:=HX5.out;go_wp2_with fail
      go_ret;exact⟨ret_bool HR.out.symm,B5.out⟩
def allTo (p:Nat->Bool) (k:Nat):Bool:=(List.range k).all p
theorem allTo_zero (p:Nat->Bool):allTo p 0=true:=rfl
theorem allTo_succ (p:Nat->Bool) (k:Nat):allTo p (k+1)=(allTo p k && p k):=by unfold allTo;rw [List.range_succ,List.all_append];simp
theorem allTo_stop {p:Nat->Bool} {k n:Nat} (hk:k < n) (h:p k=false):allTo p n=false:=by
 unfold allTo;rw [List.all_eq_false];exact⟨k,List.mem_range.2 hk,by rw [h];simp⟩
def sortOk (l:List ByteArray) (i:Nat):Bool:=match l[i]? with
 | none=>true
 | some s=>usableB (Lx.bs s) && !hasB (allSorts (l.take i)) s
def funOk (g:Sig) (i:Nat):Bool:=match g.funs[i]? with
 | none=>true
 | some f=>usableB (Lx.bs f.name) && !(hasB ((g.funs.map Fun4.name).take i) f.name || coreB (Lx.bs f.name)) && funB g.sorts.length f
def macOk (g:Sig) (i:Nat):Bool:=match g.macros[i]? with
 | none=>true
 | some m=>usableB (Lx.bs m.name) && !(hasB (g.funs.map Fun4.name) m.name || hasB ((g.macros.map Macro.name).take i) m.name || coreB (Lx.bs m.name)) && macroB g.sorts.length m
def checkB (g:Sig):Bool :=
 (decide (g.sorts.length<=4) && decide (g.funs.length<=12) && decide (g.macros.length<=12)) && (allTo (sortOk g.sorts) g.sorts.length && allTo (funOk g) g.funs.length && allTo (macOk g) g.macros.length)
def checkE (g:Sig):Int:=if checkB g then 0 else 2
theorem checkE_true {g:Sig} (h:checkB g=true):checkE g=0:=by unfold checkE;rw [h];rfl
theorem checkE_false {g:Sig} (h:checkB g=false):checkE g=2:=by unfold checkE;rw [h];rfl
theorem free_sort {l:List ByteArray} {i:Nat} {s:ByteArray} (h:l[i]?=some s):(freeE ⟨l.take i,[],[]⟩ s true=0) ↔ sortOk l i=true:=by
 unfold freeE sortOk;rw [h]
 cases hu:usableB (Lx.bs s) <;> cases hh:hasB (allSorts (l.take i)) s <;> simp [hu,hh]
theorem free_fun {g:Sig} {i:Nat} {f:Fun4} (h:g.funs[i]?=some f):funOk g i=(decide (freeE ⟨g.sorts,g.funs.take i,[]⟩ f.name false=0) && funB g.sorts.length f):=by
 unfold freeE funOk;rw [h];simp only [List.map_take,List.map_nil]
 cases hu:usableB (Lx.bs f.name) <;> cases hh:hasB ((g.funs.map Fun4.name).take i) f.name <;> cases hc:coreB (Lx.bs f.name) <;> simp [hasB]
theorem free_macro {g:Sig} {i:Nat} {m:Macro} (h:g.macros[i]?=some m):macOk g i=(decide (freeE ⟨g.sorts,g.funs,g.macros.take i⟩ m.name false=0) && macroB g.sorts.length m):=by
 unfold freeE macOk;rw [h];simp only [List.map_take]
 cases hu:usableB (Lx.bs m.name) <;> cases hh:hasB (g.funs.map Fun4.name) m.name <;> cases hk:hasB ((g.macros.map Macro.name).take i) m.name <;> cases hc:coreB (Lx.bs m.name) <;> simp
end Sg
namespace El
open Go.RowKit Dt Sg
structure Node where
 op:Int
 len:Int
 a0:Int
 a1:Int
 a2:Int
 sort:Int
 fn:Int
 n:Int
deriving DecidableEq
def Node.arg (x:Node) (i:Nat):Int:=if i=0 then x.a0 else if i=1 then x.a1 else x.a2
abbrev V:=Int × Int
structure St where
 t:List Node
 calls:Int
 e:Int
structure Cx where
 g:Sig
 most:Int
 build:Bool
abbrev Env:=List (ByteArray × V)
def v0:V:=(0,0)
def sLet:ByteArray:={ data:=#[108,101,116] }
def sTrue:ByteArray:={ data:=#[116,114,117,101] }
def sFalse:ByteArray:={ data:=#[102,97,108,115,101] }
def sNot:ByteArray:={ data:=#[110,111,116] }
def sAnd:ByteArray:={ data:=#[97,110,100] }
def sOr:ByteArray:={ data:=#[111,114] }
def sXor:ByteArray:={ data:=#[120,111,114] }
def sImp:ByteArray:={ data:=#[61,62] }
def sEq:ByteArray:={ data:=#[61] }
def sDistinct:ByteArray:={ data:=#[100,105,115,116,105,110,99,116] }
def sIte:ByteArray:={ data:=#[105,116,101] }
def sLe:ByteArray:={ data:=#[60,61] }
def sLt:ByteArray:={ data:=#[60] }
def sGe:ByteArray:={ data:=#[62,61] }
def sGt:ByteArray:={ data:=#[62] }
def sPlus:ByteArray:={ data:=#[43] }
def sMinus:ByteArray:={ data:=#[45] }
def arityN (op:Int):Option (Int × Int) :=
 if op=13 then some (0,3)
 else if op=0\/op=10 then some (0,0)
 else if op=1\/op=11 then some (1,1)
 else if op=2\/op=3\/op=4\/op=5\/op=6\/op=8\/op=9\/op=12 then some (2,2)
 else if op=7 then some (3,3)
 else none
def argOkB (n:Node) (at':Int) (i:Nat):Bool:=if(i:Int) < n.len then decide (0<=n.arg i/\n.arg i < at') else decide (n.arg i=0)
def standsN (n:Node) (at':Int):Bool :=
 match arityN n.op with
 | none=>false
 | some (lo,hi)=>decide (lo<=n.len/\n.len<=hi) && decide (0<=n.sort/\n.sort < 6) && argOkB n at' 0 && argOkB n at' 1 && argOkB n at' 2
  && decide (0<=n.fn/\n.fn < 12) && (decide (n.fn=0) || decide (n.op=13)) && (if n.op=10\/n.op=11\/n.op=12 then mayB n.n else decide (n.n=0))
def nodeTrue:Node:=⟨0,0,0,0,0,0,0,0⟩
def nodeZero:Node:=⟨10,0,0,0,0,1,0,0⟩
def newT:List Node:=[nodeTrue,nodeZero]
def standsTo (t:List Node) (k:Nat):Bool:=(List.range k).all fun i=>match t[i]? with
 | some n=>standsN n i
 | none=>true
def checkT (t:List Node):Bool:=decide (t.take 2=newT) && standsTo t t.length && decide t.Nodup
def putT (t:List Node) (n:Node) (most:Int):List Node × Int × Int :=
 if checkT t && standsN n t.length then
  if n ∈ t then(t,(t.findIdx (fun x=>decide (x=n)):Nat),0)
  else if most<=t.length then([],0,40)
  else(t ++ [n],t.length,0)
 else([],0,2)
def opS (op:Int) (l:List Int):Option Int :=
 if op=0 then(if l=[] then some 0 else none)
 else if op=1 then(if l=[0] then some 0 else none)
 else if op=2\/op=3\/op=4\/op=5 then(if l=[0,0] then some 0 else none)
 else if op=6 then(match l with | [a,b]=>if 0<=a/\a=b then some 0 else none | _=>none)
 else if op=7 then(match l with | [a,b,c]=>if a=0/\0<=b/\b=c then some b else none | _=>none)
 else if op=8\/op=9\/op=12 then(if l=[1,1] then some 0 else none)
 else if op=10 then(if l=[] then some 1 else none)
 else if op=11 then(if l=[1] then some 1 else none)
 else none
def numN (x:Sexp):Option (Int × Int) :=
 if x.kind=1 then some (parseV (Lx.bs x.text),parseE (Lx.bs x.text))
 else if headS x=sMinus then match x.l with
  | [_,y]=>if y.kind=1 then some (- parseV (Lx.bs y.text),parseE (Lx.bs y.text)) else none
  | _=>none
 else none
def isNumX (x:Sexp):Bool:=(numN x).isSome
def findE (env:Env) (s:ByteArray):Option V:=(env.find? fun p=>decide (p.1=s)).map Prod.snd
def failS (e:Int) (st:St):St:=if st.e=0 then { st with e:=e } else st
def putM (c:Cx) (n:Node) (st:St):V × St :=
 if st.e≠0\/c.build=false then((n.sort,0),st)
 else if(putT st.t n c.most).2.2=0 then((n.sort,(putT st.t n c.most).2.1),{ st with t:=(putT st.t n c.most).1 })
 else(v0,{ st with e:=(putT st.t n c.most).2.2 })
def nthN (l:List V) (i:Nat):Int:=(l.getD i v0).2
def opM (c:Cx) (op n:Int) (l:List V) (st:St):V × St :=
 if st.e≠0 then(v0,st)
 else match opS op (l.map Prod.fst) with
  | none=>(v0,{ st with e:=33 })
  | some s=>putM c ⟨op,l.length,nthN l 0,nthN l 1,nthN l 2,s,0,if c.build then n else 0⟩ st
def numberM (c:Cx) (x:Sexp) (st:St):Int × St:=match numN x with
 | none=>(0,st)
 | some (n,e)=>(n,if e≠0/\c.build=true then failS e st else st)
abbrev Rec:=Nat->Sexp->Env->St->V × St
def allM (r:Sexp->St->V × St):List Sexp->St->List V × St
 | [],st=>([],st)
 | x :: l,st=>((r x st).1 :: (allM r l (r x st).2).1,(allM r l (r x st).2).2)
def sortsM:List V->List Int->St->St
 | v :: l,s :: q,st=>sortsM l q (if st.e=0/\v.1≠s then { st with e:=33 } else st)
 | _,_,st=>st
def applyM (c:Cx) (r:Sexp->St->V × St) (f:Fun4) (k:Nat) (l:List Sexp) (st:St):V × St :=
 if(l.length:Int)≠f.len then(v0,failS 30 st)
 else
  let a:=allM r l st
  putM c ⟨13,f.len,nthN a.1 0,nthN a.1 1,nthN a.1 2,f.res,k,0⟩ (sortsM a.1 [f.a0,f.a1,f.a2] a.2)
def macroM (c:Cx) (rec:Rec) (m:Macro) (k:Nat) (vs:List V) (st:St):V × St :=
 let st2:=sortsM vs (m.params.map Param.sort) st
 if st2.e≠0\/c.build=false then((m.res,0),st2)
 else if 300 < st2.calls+1 then(v0,{ st2 with calls:=st2.calls+1,e:=40 })
 else
  let p:=rec k m.body ((m.params.map Param.name).zip vs).reverse { st2 with calls:=st2.calls+1 }
  if p.2.e=0/\p.1.1≠m.res then(v0,{ p.2 with e:=33 }) else p
def callM (c:Cx) (rec:Rec) (known:Nat) (name:ByteArray) (l:List Sexp) (env:Env) (st:St):V × St :=
 if hasB (c.g.funs.map Fun4.name) name then match c.g.funs[findAt (c.g.funs.map Fun4.name) name]? with
  | some f=>applyM c (fun x=>rec known x env) f (findAt (c.g.funs.map Fun4.name) name) l st
  | none=>(v0,st)
 else if hasB (c.g.macros.map Macro.name) name/\findAt (c.g.macros.map Macro.name) name < known then match c.g.macros[findAt (c.g.macros.map Macro.name) name]? with
  | some m =>
   if l.length≠m.params.length then(v0,failS 30 st)
   else macroM c rec m (findAt (c.g.macros.map Macro.name) name) (allM (fun x=>rec known x env) l st).1 (allM (fun x=>rec known x env) l st).2
  | none=>(v0,st)
 else(v0,failS 31 st)
def bindN (b:Sexp):Option ByteArray:=if b.kind=3 then match b.l with
  | [y,_]=>if y.kind=0/\Lx.resB (Lx.bs y.text)=false then some y.text else none
  | _=>none
 else none
def boundN (x:Sexp):Option (List ByteArray):=match x.l with
 | [_,b,_] =>
  if b.kind=3/\b.l≠[] then b.l.foldl (fun(o:Option (List ByteArray)) y=>o.bind fun ns=>(bindN y).bind fun s=>if hasB ns s then none else some (ns ++ [s])) (some []) else none
 | _=>none
def secondX (b:Sexp):Sexp:=b.l.getD 1 (.mk 0 { data:=#[] } [])
def nthX (x:Sexp) (i:Nat):Sexp:=x.l.getD i (.mk 0 { data:=#[] } [])
def letM (rec:Rec) (known:Nat) (x:Sexp) (env:Env) (st:St):V × St:=match boundN x with
 | none=>(v0,failS 30 st)
 | some names =>
  let a:=allM (fun y=>rec known y env) ((nthX x 1).l.map secondX) st
  rec known (nthX x 2) ((names.zip a.1).reverse ++ env) a.2
def leftM (c:Cx) (op:Int) (v:V):List V->St->V × St
 | [],st=>(v,st)
 | x :: l,st=>leftM c op (opM c op 0 [v,x] st).1 l (opM c op 0 [v,x] st).2
def headM (c:Cx) (op:Int) (l:List V) (st:St):V × St:=leftM c op (l.getD 0 v0) l.tail st
def impM (c:Cx) (v:V):List V->St->V × St
 | [],st=>(v,st)
 | x :: l,st=>impM c (opM c 5 0 [x,v] st).1 l (opM c 5 0 [x,v] st).2
def alikeB (l:List V):Bool:=l.all fun v=>v.1 == (l.getD 0 v0).1
def eqsM (c:Cx):V->List V->St->List V × St
 | _,[],st=>([],st)
 | v,x :: l,st=>let p:=opM c 6 0 [v,x] st;((p.1 :: (eqsM c x l p.2).1),(eqsM c x l p.2).2)
def neqsM (c:Cx) (v:V):List V->St->List V × St
 | [],st=>([],st)
 | x :: l,st =>
  let p:=opM c 6 0 [v,x] st
  let q:=opM c 1 0 [p.1] p.2
  (q.1 :: (neqsM c v l q.2).1,(neqsM c v l q.2).2)
def distinctL (c:Cx):List V->St->List V × St
 | [],st=>([],st)
 | v :: l,st=>let a:=neqsM c v l st;(a.1 ++ (distinctL c l a.2).1,(distinctL c l a.2).2)
def equalM (c:Cx) (l:List V) (st:St):V × St :=
 let st1:=if alikeB l then st else failS 33 st
 if st1.e≠0 then(v0,st1) else headM c 2 (eqsM c (l.getD 0 v0) l.tail st1).1 (eqsM c (l.getD 0 v0) l.tail st1).2
def distinctM (c:Cx) (l:List V) (st:St):V × St :=
 let st1:=if alikeB l then st else failS 33 st
 if st1.e≠0 then(v0,st1) else headM c 2 (distinctL c l st1).1 (distinctL c l st1).2
def wayN (s:ByteArray):Option (Nat × Nat × Nat) :=
 if s=sNot then some (0,1,1) else if s=sAnd then some (1,2,1048576) else if s=sOr then some (2,2,1048576) else if s=sXor then some (3,2,1048576)
 else if s=sImp then some (4,2,1048576) else if s=sEq then some (5,2,1048576) else if s=sDistinct then some (6,2,1048576) else if s=sIte then some (7,3,3)
 else if s=sLe then some (8,2,2) else if s=sLt then some (9,2,2) else if s=sGe then some (10,2,2) else if s=sGt then some (11,2,2) else none
def makeM (c:Cx) (way:Nat) (l:List V) (st:St):V × St :=
 if way=0 then opM c 1 0 l st
 else if way=1 then headM c 2 l st
 else if way=2 then headM c 3 l st
 else if way=3 then headM c 4 l st
 else if way=4 then impM c (l.reverse.getD 0 v0) l.reverse.tail st
 else if way=5 then equalM c l st
 else if way=6 then distinctM c l st
 else if way=7 then opM c 7 0 l st
 else if way=8 then opM c 8 0 l st
 else if way=9 then opM c 9 0 l st
 else if way=10 then opM c 8 0 [l.getD 1 v0,l.getD 0 v0] st
 else opM c 9 0 [l.getD 1 v0,l.getD 0 v0] st
def minusB (x:Sexp):Bool:=decide (headS x=sMinus) && decide (x.l.length=3) && !isNumX (nthX x 2)
def diffM (c:Cx) (x y:V) (n:Int) (st:St):V × St :=
 if c.build=true/\st.e=0/\mayB n=false then(v0,{ st with e:=10 }) else opM c 12 n [x,y] st
def heldM (c:Cx) (name:ByteArray) (a b:V) (n:Int) (st:St):V × St :=
 if name=sLe then diffM c a b n st
 else if name=sLt then diffM c a b (n - 1) st
 else if name=sGe then diffM c b a (-n) st
 else if name=sGt then diffM c b a (-n - 1) st
 else
  let p:=diffM c a b n st
  let q:=diffM c b a (-n) p.2
  opM c 2 0 [p.1,q.1] q.2
def turnN (s:ByteArray):ByteArray:=if s=sLe then sGe else if s=sLt then sGt else if s=sGe then sLe else if s=sGt then sLt else s
def comparesB (s:ByteArray):Bool:=decide (s=sLe) || decide (s=sLt) || decide (s=sGe) || decide (s=sGt) || decide (s=sEq)
def differsN (name:ByteArray) (x:Sexp):Nat :=
 if x.l.length=3/\comparesB name=true then
  if minusB (nthX x 1) && isNumX (nthX x 2) then 1 else if minusB (nthX x 2) && isNumX (nthX x 1) then 2 else 0
 else 0
def diffLM (c:Cx) (r:Sexp->St->V × St) (name:ByteArray) (x:Sexp) (st:St):V × St :=
 let a:=r (nthX (nthX x 1) 1) st
 let b:=r (nthX (nthX x 1) 2) a.2
 let n:=numberM c (nthX x 2) b.2
 heldM c name a.1 b.1 n.1 n.2
def diffRM (c:Cx) (r:Sexp->St->V × St) (name:ByteArray) (x:Sexp) (st:St):V × St :=
 let n:=numberM c (nthX x 1) st
 let a:=r (nthX (nthX x 2) 1) n.2
 let b:=r (nthX (nthX x 2) 2) a.2
 heldM c (turnN name) a.1 b.1 n.1 b.2
def sumM (c:Cx) (r:Sexp->St->V × St) (name:ByteArray) (x:Sexp) (st:St):V × St :=
 if x.l.length=2/\name=sMinus then(v0,failS 34 (r (nthX x 1) st).2)
 else if x.l.length≠3 then(v0,failS 30 st)
 else if isNumX (nthX x 2) then
  let v:=r (nthX x 1) st
  let n:=numberM c (nthX x 2) v.2
  opM c 11 (if name=sMinus then - n.1 else n.1) [v.1] n.2
 else if name=sPlus/\isNumX (nthX x 1)=true then
  let n:=numberM c (nthX x 1) st
  let v:=r (nthX x 2) n.2
  opM c 11 n.1 [v.1] v.2
 else(v0,failS 34 (allM r x.l.tail st).2)
def listM (c:Cx) (rec:Rec) (known:Nat) (x:Sexp) (env:Env) (st:St):V × St :=
 if headS x=sLet then letM rec known x env st
 else if Lx.resB (Lx.bs (headS x))=true\/headS x=sTrue\/headS x=sFalse then(v0,failS 30 st)
 else if headS x=sPlus\/headS x=sMinus then sumM c (fun y=>rec known y env) (headS x) x st
 else match wayN (headS x) with
  | none=>if x.l.tail.length=0 then(v0,failS 30 st) else callM c rec known (headS x) x.l.tail env st
  | some (way,least,most) =>
   if x.l.tail.length < least\/most < x.l.tail.length then(v0,failS 30 st)
   else if differsN (headS x) x=1 then diffLM c (fun y=>rec known y env) (headS x) x st
   else if differsN (headS x) x=2 then diffRM c (fun y=>rec known y env) (headS x) x st
   else
    let a:=allM (fun y=>rec known y env) x.l.tail st
    if a.2.e≠0 then(v0,a.2) else makeM c way a.1 a.2
def isListB (x:Sexp):Bool:=decide (x.kind=3) && (match x.l with | []=>false | y :: _=>decide (y.kind=0))
def termStep (c:Cx) (rec:Rec) (known:Nat) (x:Sexp) (env:Env) (st:St):V × St :=
 if st.e≠0 then(v0,st)
 else if isNumX x then opM c 10 (numberM c x st).1 [] (numberM c x st).2
 else if isListB x then listM c rec known x env st
 else if x.kind≠0 then(v0,failS 30 st)
 else match findE env x.text with
  | some v=>(v,st)
  | none =>
   if x.text=sTrue then opM c 0 0 [] st
   else if x.text=sFalse then opM c 1 0 [(opM c 0 0 [] st).1] (opM c 0 0 [] st).2
   else if Lx.resB (Lx.bs x.text)=true then(v0,failS 30 st)
   else callM c rec known x.text [] env st
def termF (c:Cx):Nat->Rec
 | 0=>fun _ _ _ st=>(v0,st)
 | f+1=>termStep c (termF c f)
def sumB (ms:List Macro) (k:Nat):Nat:=((ms.take k).map fun m=>1+m.body.full).sum
def need (g:Sig) (known:Nat) (x:Sexp):Nat:=x.full+sumB g.macros known
theorem full_pos (x:Sexp):1<=x.full:=by rw [Sexp.full_eq];omega
theorem fullL_mem:∀ {l:List Sexp} {y:Sexp},y ∈ l->y.full<=Sexp.fullL l
 | [],y,h=>by cases h
 | x :: r,y,h=>by
  rw [Sexp.fullL_cons];rcases List.mem_cons.1 h with h | h
  ·subst h;omega
  ·have:=fullL_mem h;omega
theorem full_mem {x y:Sexp} (h:y ∈ x.l):y.full < x.full:=by
 have:=fullL_mem h;rw [Sexp.full_eq x];omega
theorem full_two {x:Sexp} (h:x.l≠[]):2<=x.full:=by
 cases hl:x.l with
 | nil=>exact absurd hl h
 | cons y r =>
  have h1:=full_mem (x:=x) (y:=y) (by rw [hl];simp);have h2:=full_pos y
  omega
theorem full_nth {x:Sexp} (h:x.l≠[]) (i:Nat):(nthX x i).full < x.full:=by
 unfold nthX;rw [List.getD_eq_getElem?_getD]
 cases hy:x.l[i]? with
 | none =>
  have h1:=full_two h;have h2:((none:Option Sexp).getD (.mk 0 { data:=#[] } [])).full=1:=by show(Sexp.mk 0 { data:=#[] } []).full=1;rw [Sexp.full_eq];show 1+(0:Nat)+Sexp.fullL []=1;rw [Sexp.fullL_nil]
  omega
 | some y=>exact full_mem (mgq hy)
theorem full_nth_le {x:Sexp} (i:Nat):(nthX x i).full<=x.full:=by
 by_cases h:x.l=[]
 ·unfold nthX;rw [h];have h2:(Sexp.mk 0 { data:=#[] } []).full=1:=by rw [Sexp.full_eq];show 1+(0:Nat)+Sexp.fullL []=1;rw [Sexp.fullL_nil]
  show(Sexp.mk 0 { data:=#[] } []).full<=_;rw [h2];exact full_pos x
 ·exact Nat.le_of_lt (full_nth h i)
theorem sumB_succ {ms:List Macro} {k:Nat} {m:Macro} (h:ms[k]?=some m):sumB ms (k+1)=sumB ms k+(1+m.body.full):=by
 unfold sumB;rw [List.take_add_one,h];simp
theorem sumB_mono (ms:List Macro) {j k:Nat} (h:j<=k):sumB ms j<=sumB ms k:=by
 induction k with
 | zero => obtain rfl : j = 0 := by omega
           exact nlq
 | succ k ih =>
  rcases Nat.lt_or_ge j (k+1) with h1 | h1
  ·have:=ih (by omega)
   have h2:sumB ms k<=sumB ms (k+1):=by
    cases hm:ms[k]? with
    | none=>unfold sumB;rw [List.take_of_length_le (show ms.length<=k by rw [List.getElem?_eq_none_iff] at hm;exact hm),List.take_of_length_le (show ms.length<=k+1 by rw [List.getElem?_eq_none_iff] at hm;omega)];exact nlq
    | some m=>rw [sumB_succ hm];omega
   omega
  ·obtain rfl:j=k+1:=by omega
   exact nlq
theorem sumB_lt {ms:List Macro} {k known:Nat} {m:Macro} (h:ms[k]?=some m) (hk:k < known):m.body.full+sumB ms k < sumB ms known:=by
 have h1:=sumB_succ h;have h2:=sumB_mono ms (show k+1<=known by omega)
 omega
def Agree (g:Sig) (r1 r2:Rec) (N:Nat):Prop:=∀ known y env st,need g known y < N->r1 known y env st=r2 known y env st
theorem allM_congr {r1 r2:Sexp->St->V × St}:∀ {l:List Sexp} {st:St},(∀ y ∈ l,∀ st,r1 y st=r2 y st)->allM r1 l st=allM r2 l st
 | [],st,_=>rfl
 | x :: l,st,h=>by
  unfold allM;rw [h x (by simp)];rw [allM_congr (l:=l) (fun y hy st=>h y (by simp [hy]) st)]
section
variable {c:Cx} {r1 r2:Rec} {known:Nat} {x:Sexp} {env:Env} {st:St}
theorem tail_full {y:Sexp} (h:y ∈ x.l.tail):y.full < x.full:=full_mem (List.mem_of_mem_tail h)
theorem callM_congr {l:List Sexp} {name:ByteArray} (h:Agree c.g r1 r2 (need c.g known x)) (hl:∀ y ∈ l,y.full < x.full):callM c r1 known name l env st=callM c r2 known name l env st:=by
 have hall:∀ st,allM (fun x=>r1 known x env) l st=allM (fun x=>r2 known x env) l st:=fun st=>allM_congr fun y hy st=>h _ _ _ _ (by have:=hl y hy;unfold need;omega);unfold callM
 split
 ·split
  ·unfold applyM;simp only [hall]
  ·rfl
 ·split
  ·rename_i hk
   split
   ·rename_i m hm
    split
    ·rfl
    ·unfold macroM;simp only [hall];rw [show ∀ e s,r1 (findAt (c.g.macros.map Macro.name) name) m.body e s=r2 (findAt (c.g.macros.map Macro.name) name) m.body e s from fun e s=>h _ _ _ _ (by have:=sumB_lt hm hk.2;unfold need;omega)]
   ·rfl
  ·rfl
theorem listM_congr (h:Agree c.g r1 r2 (need c.g known x)) (hx:x.l≠[]):listM c r1 known x env st=listM c r2 known x env st:=by
 have hr:∀ y,y.full < x.full->∀ e s,r1 known y e s=r2 known y e s:=fun y hy e s=>h _ _ _ _ (by unfold need;omega);have hall:∀ st,allM (fun y=>r1 known y env) x.l.tail st=allM (fun y=>r2 known y env) x.l.tail st:=fun st=>allM_congr fun y hy st=>hr y (tail_full hy) _ _;have h1:∀ i e s,r1 known (nthX x i) e s=r2 known (nthX x i) e s:=fun i=>hr _ (full_nth hx i);have h2:∀ i j e s,r1 known (nthX (nthX x i) j) e s=r2 known (nthX (nthX x i) j) e s:=fun i j=>hr _ (Nat.lt_of_le_of_lt (full_nth_le j) (full_nth hx i));unfold listM
 split
 ·unfold letM
  split
  ·rfl
  ·have ha:∀ st,allM (fun y=>r1 known y env) ((nthX x 1).l.map secondX) st=allM (fun y=>r2 known y env) ((nthX x 1).l.map secondX) st:=fun st=>allM_congr fun y hy st=>by
    obtain ⟨b,hb,rfl⟩:=List.mem_map.1 hy;refine hr _ ?_ _ _;have h3:=full_mem hb;have h4:=full_nth hx 1;have h5:(secondX b).full<=b.full:=full_nth_le (x:=b) 1
    omega
   simp only [ha,h1]
 split
 ·rfl
 split
 ·unfold sumM;simp only [h1,hall]
 split
 ·split
  ·rfl
  ·exact callM_congr h fun y hy=>tail_full hy
 split
 ·rfl
 split
 ·unfold diffLM;simp only [h2]
 split
 ·unfold diffRM;simp only [h2]
 ·simp only [hall]
theorem isList_ne (h:isListB x=true):x.l≠[]:=by
 intro e;unfold isListB at h;rw [e] at h;simp at h
theorem step_congr (h:Agree c.g r1 r2 (need c.g known x)):termStep c r1 known x env st=termStep c r2 known x env st:=by
 unfold termStep
 split
 ·rfl
 split
 ·rfl
 split
 ·rename_i hl
  exact listM_congr h (isList_ne hl)
 split
 ·rfl
 split
 ·rfl
 split
 ·rfl
 split
 ·rfl
 split
 ·rfl
 ·exact callM_congr h fun y hy=>by cases hy
end
theorem termF_more (c:Cx):∀ (f1 f2:Nat),∀ known x env st,need c.g known x < f1->need c.g known x < f2->termF c f1 known x env st=termF c f2 known x env st
 | 0,_,_,_,_,_,h,_=>by omega
 | _+1,0,_,_,_,_,_,h=>by omega
 | f1+1,f2+1,known,x,env,st,h1,h2=>step_congr fun k y e s hy=>termF_more c f1 f2 k y e s (by omega) (by omega)
def termP (c:Cx):Rec:=fun known x env st=>termF c (need c.g known x+1) known x env st
theorem termP_of {c:Cx} {f known:Nat} {x:Sexp} {env:Env} {st:St} (h:need c.g known x < f):termF c f known x env st=termP c known x env st:=termF_more c _ _ _ _ _ _ h (Nat.lt_succ_self _)
theorem termP_eq (c:Cx) (known:Nat) (x:Sexp) (env:Env) (st:St):termP c known x env st=termStep c (termP c) known x env st:=by
 show termStep c (termF c (need c.g known x)) known x env st=_;exact step_congr fun k y e s hy=>termP_of hy
end El
namespace El
open Go.RowKit Dt Sg
def XAt (w:World) (A:Option Addr) (c:Nat) (x:Sexp):Prop:=SexpR w [.int .i8 x.kind,.string x.text,.slice A x.l.length c] x
theorem XAt.on {w w':World} {A:Option Addr} {c:Nat} {x:Sexp} (h:XAt w A c x) (hb:Below w.heap.size w w'):XAt w' A c x:=SexpR.lasts _ _ _ _ hb h
theorem XAt.opens {w:World} {A:Option Addr} {c:Nat} {x:Sexp} (h:XAt w A c x):Lies 3 SexpR w A x.l/\x.l.length<=c/\c<=maxLen/\(x.text.size:Int)<=140737488351232/\x.l.length * 48<=140737488351232/\(Lit.int .i8 x.kind).wf=true:=by
 obtain ⟨A0,c0,e0,hl,h2,h3,h4,h5,h6⟩:=SexpR.open' h;simp only [List.cons.injEq,Value.slice.injEq,and_true,true_and] at e0;obtain ⟨rfl,rfl⟩:=e0;exact⟨hl,h2,h3,h4,h5,h6⟩
def numR (x:Sexp):Int × Bool × Int:=match numN x with
 | some (n,e)=>(n,true,e)
 | none=>(0,false,0)
theorem parseV_lim (l:List UInt8):0<=parseV l/\parseV l<=4611686018427387904:=by
 unfold parseV
 split
 ·rename_i hn
  unfold isNum at hn;simp only [Bool.and_eq_true] at hn;have:=putAll_le l hn.2
  split <;> omega
 ·omega
theorem tl_true {t:ByteArray} {l:List UInt8} (h:t=⟨l.toArray⟩):(t.toList == l)=true:=by
 rw [h,Lx.bs_toList];unfold Lx.bs;simp
theorem tl_false {t:ByteArray} {l:List UInt8} (h:t≠⟨l.toArray⟩):(t.toList == l)=false:=by
 rw [beq_eq_false_iff_ne];intro e;rw [Lx.bs_toList] at e;unfold Lx.bs at e;exact h (ByteArray.ext (Array.toList_inj.1 (by rw [e])))
def NumPost (x:Sexp) (w:World) (e:Ending) (w':World):Prop:=e=.returned (.tuple #[.int .i64 (numR x).1,.bool (numR x).2.1,.int .i64 (numR x).2.2])/\Below w.heap.size w w'
theorem numeralX_any {w:World} {A:Option Addr} {c:Nat} {x:Sexp} (h:XAt w A c x) :
  Calls Tryz.prog 76 #[.agg #[.int .i8 x.kind,.string x.text,.slice A x.l.length c]] w (NumPost x w):=by
 have HP:=kp (show ∀ n b e w',numR x=(n,b,e)->Below w.heap.size w w'->NumPost x w (.returned (.tuple #[.int .i64 n,.bool b,.int .i64 e])) w' from fun n b e w' h1 h2=>by unfold NumPost;rw [h1];exact⟨rfl,h2⟩);obtain ⟨hl,hc,hcm,ht,hlb,hk⟩:=h.opens;have HL:=kp hl;have HX:=kp h;have HN:=kp (show numR x=match numN x with | some (n,e)=>(n,true,e) | none=>(0,false,0) from rfl)
 have HNN:=kp (show numN x=if x.kind=1 then some (parseV (Lx.bs x.text),parseE (Lx.bs x.text))
  else if headS x=sMinus then match x.l with
   | [_,y]=>if y.kind=1 then some (- parseV (Lx.bs y.text),parseE (Lx.bs y.text)) else none
   | _=>none
  else none from rfl)
 have HH:=kp (fun W (hW:Below w.heap.size w W)=>head_any (h.on hW));have XB:=kp (Bk.new w (.cells #[.int .i8 x.kind,.string x.text,.slice A x.l.length c] 30));have B1:=kp ((brq w).alloc nlq (.cells #[.int .i8 x.kind,.string x.text,.slice A x.l.length c] 30));have hk128:-128<=x.kind/\x.kind<=127:=by simp [Lit.wf] at hk;exact hk
 clear h hl;generalize NumPost x w=PP at *;generalize numR x=res at *;generalize numN x=nx at *
 go_enter Tryz.func76,Tryz.ntmps76
 go_upto_region 1 with fail
 generalize w.alloc (.cells #[.int .i8 x.kind,.string x.text,.slice A x.l.length c] 30)=w1 at *;obtain ⟨q0,q1,q2,qf⟩:=Bk.c3 XB.out
 by_cases h1:x.kind=1
 ·have h1':(x.kind == 1)=true:=by simp [h1]
  replace HNN:=kp (HNN.out.trans (if_pos h1));rw [HNN.out] at HN;have HPr:=kp (fun W=>parse_any x.text (by omega) W);clear h1;go_wp2_with fail
  refine(HPr.out w1).mono ?_;rintro e w2 ⟨rfl,hb⟩;have B2:=kp (B1.out.trans (hb.mono B1.out.size));clear hb;go_wp2_with fail
  go_ret3;exact HP.out _ _ _ _ HN.out B2.out
 ·have h1':(x.kind == 1)=false:=by simp [h1]
  replace HNN:=kp (HNN.out.trans (if_neg h1));clear h1;go_wp2_with fail
  refine(HH.out w1 B1.out).mono ?_;rintro e w2 ⟨rfl,hb⟩;have B2:=kp (B1.out.trans (hb.mono B1.out.size));have X2:=kp (Bk.on XB.out hb);clear hb q0 q1 q2 qf;obtain ⟨q0,q1,q2,qf⟩:=Bk.c3 X2.out
  by_cases h2:headS x=sMinus
  ·replace HNN:=kp (HNN.out.trans (if_pos h2))
   by_cases h3:x.l.length=2
   ·obtain ⟨y0,y,hxl⟩:∃ y0 y,x.l=[y0,y]:=by
     match hx:x.l,h3 with
     | [y0,y],_=>exact⟨y0,y,rfl⟩
    obtain ⟨b,o,A',c',rfl,hbl,e0,e1,e2,hr⟩:=sexp_cells (HL.out.on SexpR.lasts B2.out) (k:=1) (y:=y) (by rw [hxl];rfl);rw [hxl] at HNN;replace HNN:=kp (show nx=if y.kind=1 then some (- parseV (Lx.bs y.text),parseE (Lx.bs y.text)) else none from HNN.out);obtain ⟨_,_,_,hyt,_,hyk⟩:=XAt.opens hr;have h2':((headS x).toList == [45])=true:=tl_true h2;have h3':((x.l.length:Int) == 2)=true:=by rw [h3];rfl
    have h3'':(1:Int) < (x.l.length:Int):=by omega
    clear h2 h3;rw [Nat.one_mul] at e0 e1 e2;clear hxl
    by_cases h4:y.kind=1
    ·have h4':(y.kind == 1)=true:=by simp [h4]
     replace HNN:=kp (HNN.out.trans (if_pos h4));rw [HNN.out] at HN;have HPr:=kp (fun W=>parse_any y.text (by omega) W);have hlim:=parseV_lim (Lx.bs y.text);unfold Lx.bs at hlim HN;generalize parseV y.text.data.toList=v at *;generalize parseE y.text.data.toList=ve at *;clear h4;go_wp2_with fail
     refine(HPr.out w2).mono ?_;rintro e w3 ⟨rfl,hb⟩;have B3:=kp (B2.out.trans (hb.mono B2.out.size));clear hb;go_wp2_with fail
     go_ret3;exact HP.out _ _ _ _ HN.out B3.out
    ·have h4':(y.kind == 1)=false:=by simp [h4]
     replace HNN:=kp (HNN.out.trans (if_neg h4));rw [HNN.out] at HN;clear h4;go_wp2_with fail
     go_ret3;exact HP.out _ _ _ _ HN.out B2.out
   ·have h3':((x.l.length:Int) == 2)=false:=by rw [beq_eq_false_iff_ne];omega
    have HNo:=kp (show nx=none by
     rw [HNN.out]
     match hx:x.l,h3 with
     | [],_=>rfl
     | [_],_=>rfl
     | _ :: _ :: _ :: _,_=>rfl)
    rw [HNo.out] at HN;have h2':((headS x).toList == [45])=true:=tl_true h2;clear h2;go_wp2_with fail
    go_ret3;exact HP.out _ _ _ _ HN.out B2.out
  ·replace HNN:=kp (HNN.out.trans (if_neg h2));rw [HNN.out] at HN;have h2':((headS x).toList == [45])=false:=tl_false h2;go_wp2_with fail
   go_ret3;exact HP.out _ _ _ _ HN.out B2.out
end El
namespace Sg
open Go.RowKit Dt
structure RC (g:Sig) (w:World) (u0 u1 u2:Value) (wr:World) (v1 v2 v3:Value) (k1 k2 k3:Nat):Prop where
 keep:Below w.heap.size w wr
 g0:wr.cell? ⟨w.heap.size,0,none⟩=some u0
 g1:wr.cell? ⟨w.heap.size,1,none⟩=some u1
 g2:wr.cell? ⟨w.heap.size,2,none⟩=some u2
 ob:wr.heap[w.heap.size+1]?=some (.cells #[v1,v2,v3] 26 (0,0))
 r1:Grows 1 StrR 9 w (w.heap.size+2) wr v1 (g.sorts.take k1)
 r2:Grows 6 FunR 104 w (w.heap.size+2) wr v2 (g.funs.take k2)
 r3:Grows 6 MacroR 47 w (w.heap.size+2) wr v3 (g.macros.take k3)
 d12:∀ k,v1.ownBlock=some k->v2.ownBlock≠some k
 d13:∀ k,v1.ownBlock=some k->v3.ownBlock≠some k
 d23:∀ k,v2.ownBlock=some k->v3.ownBlock≠some k
section
variable {g:Sig} {w wr w':World} {u0 u1 u2 v1 v2 v3:Value} {k1 k2 k3:Nat}
theorem RC.lt (h:RC g w u0 u1 u2 wr v1 v2 v3 k1 k2 k3):w.heap.size+1 < wr.heap.size:=lt_of_block h.ob
theorem RC.below (h:RC g w u0 u1 u2 wr v1 v2 v3 k1 k2 k3) (hb:Below wr.heap.size wr w'):RC g w u0 u1 u2 w' v1 v2 v3 k1 k2 k3:=by
 have l:=h.lt;have e:=fun o=>(bcell hb).1 w.heap.size o (by omega);exact⟨h.keep.trans (hb.mono h.keep.size),(e 0).trans h.g0,(e 1).trans h.g1,(e 2).trans h.g2,(hb.block _ l).trans h.ob,h.r1.below hb,h.r2.below hb,h.r3.below hb,h.d12,h.d13,h.d23⟩
theorem RC.drew (h:RC g w u0 u1 u2 wr v1 v2 v3 k1 k2 k3):RC g w u0 u1 u2 wr.drew v1 v2 v3 k1 k2 k3:=h.below (Below.refl _ _).drew
theorem RC.alloc (h:RC g w u0 u1 u2 wr v1 v2 v3 k1 k2 k3) (o:Obj):RC g w u0 u1 u2 (wr.alloc o) v1 v2 v3 k1 k2 k3:=h.below ((Below.refl _ _).alloc nlq o)
theorem RC.o (h:RC g w u0 u1 u2 wr v1 v2 v3 k1 k2 k3):wr.cell? ⟨w.heap.size+1,0,none⟩=some v1/\wr.cell? ⟨w.heap.size+1,1,none⟩=some v2/\wr.cell? ⟨w.heap.size+1,2,none⟩=some v3/\∀ j,wr.frozen? ⟨w.heap.size+1,j,none⟩=false :=
 ⟨by rw [cell_of_cells h.ob];rfl,by rw [cell_of_cells h.ob];rfl,by rw [cell_of_cells h.ob];rfl,fun j=>frozen_of_cells h.ob j⟩
theorem take_len {α:Type} {l:List α} {k:Nat} (h:k<=l.length):(l.take k).length=k:=by rw [List.length_take];omega
theorem RC.shape (h:RC g w u0 u1 u2 wr v1 v2 v3 k1 k2 k3) (h1:k1<=g.sorts.length) (h2:k2<=g.funs.length) (h3:k3<=g.macros.length) :
  (∃ A c,v1=.slice A k1 c/\k1<=c/\c<=maxLen)/\(∃ A c,v2=.slice A k2 c/\k2<=c/\c<=maxLen)/\(∃ A c,v3=.slice A k3 c/\k3<=c/\c<=maxLen):=by
 have a:=h.r1.shape;have b:=h.r2.shape;have c:=h.r3.shape;rw [take_len h1] at a;rw [take_len h2] at b;rw [take_len h3] at c;exact⟨a,b,c⟩
theorem RC.sig {A1 A2 A3:Option Addr} {c1 c2 c3:Nat} (h:RC g w u0 u1 u2 wr (.slice A1 k1 c1) (.slice A2 k2 c2) (.slice A3 k3 c3) k1 k2 k3) (h1:k1<=g.sorts.length) (h2:k2<=g.funs.length) (h3:k3<=g.macros.length) :
  SigAt wr A1 c1 A2 c2 A3 c3 ⟨g.sorts.take k1,g.funs.take k2,g.macros.take k3⟩:=by
 obtain ⟨⟨a,b,e1,p1,q1⟩,⟨a',b',e2,p2,q2⟩,⟨a'',b'',e3,p3,q3⟩⟩:=h.shape h1 h2 h3;simp only [Value.slice.injEq] at e1 e2 e3;have r1:=h.r1;have r2:=h.r2;have r3:=h.r3;have t1:=take_len h1;have t2:=take_len h2;have t3:=take_len h3;have x1:Value.slice A1 k1 c1=.slice A1 (g.sorts.take k1).length c1:=by rw [t1]
 have x2:Value.slice A2 k2 c2=.slice A2 (g.funs.take k2).length c2:=by rw [t2]
 have x3:Value.slice A3 k3 c3=.slice A3 (g.macros.take k3).length c3:=by rw [t3]
 rw [x1] at r1;rw [x2] at r2;rw [x3] at r3;exact⟨r1.lies StrR.lasts h.keep,r2.lies FunR.lasts h.keep,r3.lies MacroR.lasts h.keep,by rw [t1];omega,by rw [t2];omega,by rw [t3];omega,by omega,by omega,by omega⟩
theorem shape_of_owns {w:World} {B n s:Nat} {t:TypeId} {v:Value} {xs:List Value} (h:w.ownsRow B t s v n xs):∃ A c,v=.slice A n c:=by
 rcases h.2 with⟨rfl,rfl⟩ | ⟨g,cap,cur,rfl,_⟩
 ·exact⟨none,0,rfl⟩
 ·exact⟨_,cap,rfl⟩
theorem RC.frame {v v':Value} {j:Nat} (h:RC g w u0 u1 u2 wr v1 v2 v3 k1 k2 k3) (hg:wr.grownBy w' v.ownBlock) (hv:∀ k,v.ownBlock=some k->w.heap.size+2<=k) :
  Below w.heap.size w (w'.setCell ⟨w.heap.size+1,j,none⟩ v')/\(w'.setCell ⟨w.heap.size+1,j,none⟩ v').cell? ⟨w.heap.size,0,none⟩=some u0/\(w'.setCell ⟨w.heap.size+1,j,none⟩ v').cell? ⟨w.heap.size,1,none⟩=some u1/\(w'.setCell ⟨w.heap.size+1,j,none⟩ v').cell? ⟨w.heap.size,2,none⟩=some u2 /\
   (w'.setCell ⟨w.heap.size+1,j,none⟩ v').heap[w.heap.size+1]?=some (.cells ((#[v1,v2,v3]:Array Value).setIfInBounds j v') 26 (0,0)):=by
 have l:=h.lt;have hbk:∀ k,k < w.heap.size+2->some k≠v.ownBlock:=fun k hk e=>by have:=hv k e.symm;omega
 have hgb:(w'.setCell ⟨w.heap.size+1,j,none⟩ v').heap[w.heap.size]?=wr.heap[w.heap.size]?:=(Below.heap_setCell w' ⟨w.heap.size+1,j,none⟩ v' w.heap.size (by simp)).trans (hg.block _ (by omega) (hbk _ (by omega)));have e:=fun o=>World.cell?_of_block (w:=wr) (w':=w'.setCell ⟨w.heap.size+1,j,none⟩ v') (a:=⟨w.heap.size,o,none⟩) hgb;refine⟨?_,(e 0).trans h.g0,(e 1).trans h.g1,(e 2).trans h.g2,?_⟩
 ·exact(h.keep.grown hg h.keep.size (fun k hk=>by have:=hv k hk;omega)).setCell (by simp) _
 ·have:=(hg.block _ l (hbk _ (by omega))).trans h.ob;simp [World.setCell,Array.getElem?_modify,this]
theorem RC.grown {v:Value} (h:RC g w u0 u1 u2 wr v1 v2 v3 k1 k2 k3) (hg:wr.grownBy w' v.ownBlock) (hv:∀ k,v.ownBlock=some k->w.heap.size+2<=k) :
  w'.cell? ⟨w.heap.size+1,0,none⟩=some v1/\w'.cell? ⟨w.heap.size+1,1,none⟩=some v2/\w'.cell? ⟨w.heap.size+1,2,none⟩=some v3/\∀ j,w'.frozen? ⟨w.heap.size+1,j,none⟩=false:=by
 have e:=(hg.block _ h.lt (fun e=>by have:=hv _ e.symm;omega)).trans h.ob;exact⟨by rw [cell_of_cells e];rfl,by rw [cell_of_cells e];rfl,by rw [cell_of_cells e];rfl,fun j=>frozen_of_cells e j⟩
theorem RC.push1 {x:ByteArray} {vals vs:List Value} {v':Value} (h:RC g w u0 u1 u2 wr v1 v2 v3 k1 k2 k3) (hk:k1<=g.sorts.length) (hx:g.sorts[k1]?=some x) (hl:vals.length=k1 * 1)
  (hr:∀ i x,(g.sorts.take k1)[i]?=some x->∃ vs:List Value,vs.length=1/\StrR w vs x/\∀ j u,vs[j]?=some u->vals[i * 1+j]?=some u)
  (ho:w'.ownsRow (w.heap.size+2) 9 1 v' (k1+1) (vals ++ vs)) (hg:wr.grownBy w' v1.ownBlock) (hat:v'.ownBlock=v1.ownBlock\/v'.ownBlock=some wr.heap.size) (hR:StrR w vs x) (hvs:vs.length=1) :
  RC g w u0 u1 u2 (w'.setCell ⟨w.heap.size+1,0,none⟩ v') v' v2 v3 (k1+1) k2 k3:=by
 obtain ⟨f1,f2,f3,f4,f5⟩:=h.frame (j:=0) (v':=v') hg (fun k hk=>(h.r1.lt k hk).1);have t:=take_len hk;have e:g.sorts.take (k1+1)=g.sorts.take k1 ++ [x]:=by rw [List.take_add_one,hx];rfl
 have n2:v2.ownBlock=none\/v2.ownBlock≠v1.ownBlock:=by cases hb:v2.ownBlock with | none=>exact .inl rfl | some k=>exact .inr (fun e=>h.d12 k e.symm hb)
 have n3:v3.ownBlock=none\/v3.ownBlock≠v1.ownBlock:=by cases hb:v3.ownBlock with | none=>exact .inl rfl | some k=>exact .inr (fun e=>h.d13 k e.symm hb)
 refine⟨f1,f2,f3,f4,f5,by rw [e];exact(Grows.push (xs:=g.sorts.take k1) (by rw [t];exact hl) hr (by rw [t];exact ho) hR hvs).setCell _ (by simp),(h.r2.kept hg n2).setCell _ (by simp),(h.r3.kept hg n3).setCell _ (by simp),?_,?_,?_⟩
 ·intro k hk he;rcases hat with q | q
  ·exact h.d12 k (q.symm.trans hk) he
  ·have:=(h.r2.lt k he).2;rw [q] at hk;simp at hk;omega
 ·intro k hk he;rcases hat with q | q
  ·exact h.d13 k (q.symm.trans hk) he
  ·have:=(h.r3.lt k he).2;rw [q] at hk;simp at hk;omega
 ·exact h.d23
theorem RC.push2 {x:Fun4} {vals vs:List Value} {v':Value} (h:RC g w u0 u1 u2 wr v1 v2 v3 k1 k2 k3) (hk:k2<=g.funs.length) (hx:g.funs[k2]?=some x) (hl:vals.length=k2 * 6)
  (hr:∀ i x,(g.funs.take k2)[i]?=some x->∃ vs:List Value,vs.length=6/\FunR w vs x/\∀ j u,vs[j]?=some u->vals[i * 6+j]?=some u)
  (ho:w'.ownsRow (w.heap.size+2) 104 6 v' (k2+1) (vals ++ vs)) (hg:wr.grownBy w' v2.ownBlock) (hat:v'.ownBlock=v2.ownBlock\/v'.ownBlock=some wr.heap.size) (hR:FunR w vs x) (hvs:vs.length=6) :
  RC g w u0 u1 u2 (w'.setCell ⟨w.heap.size+1,1,none⟩ v') v1 v' v3 k1 (k2+1) k3:=by
 obtain ⟨f1,f2,f3,f4,f5⟩:=h.frame (j:=1) (v':=v') hg (fun k hk=>(h.r2.lt k hk).1);have t:=take_len hk;have e:g.funs.take (k2+1)=g.funs.take k2 ++ [x]:=by rw [List.take_add_one,hx];rfl
 have n1:v1.ownBlock=none\/v1.ownBlock≠v2.ownBlock:=by cases hb:v1.ownBlock with | none=>exact .inl rfl | some k=>exact .inr (fun e=>h.d12 k hb e.symm)
 have n3:v3.ownBlock=none\/v3.ownBlock≠v2.ownBlock:=by cases hb:v3.ownBlock with | none=>exact .inl rfl | some k=>exact .inr (fun e=>h.d23 k e.symm hb)
 refine⟨f1,f2,f3,f4,f5,(h.r1.kept hg n1).setCell _ (by simp),by rw [e];exact(Grows.push (xs:=g.funs.take k2) (by rw [t];exact hl) hr (by rw [t];exact ho) hR hvs).setCell _ (by simp),(h.r3.kept hg n3).setCell _ (by simp),?_,?_,?_⟩
 ·intro k hk he;rcases hat with q | q
  ·exact h.d12 k hk (q.symm.trans he)
  ·have:=(h.r1.lt k hk).2;rw [q] at he;simp at he;omega
 ·exact h.d13
 ·intro k hk he;rcases hat with q | q
  ·exact h.d23 k (q.symm.trans hk) he
  ·have:=(h.r3.lt k he).2;rw [q] at hk;simp at hk;omega
theorem RC.push3 {x:Macro} {vals vs:List Value} {v':Value} (h:RC g w u0 u1 u2 wr v1 v2 v3 k1 k2 k3) (hk:k3<=g.macros.length) (hx:g.macros[k3]?=some x) (hl:vals.length=k3 * 6)
  (hr:∀ i x,(g.macros.take k3)[i]?=some x->∃ vs:List Value,vs.length=6/\MacroR w vs x/\∀ j u,vs[j]?=some u->vals[i * 6+j]?=some u)
  (ho:w'.ownsRow (w.heap.size+2) 47 6 v' (k3+1) (vals ++ vs)) (hg:wr.grownBy w' v3.ownBlock) (hat:v'.ownBlock=v3.ownBlock\/v'.ownBlock=some wr.heap.size) (hR:MacroR w vs x) (hvs:vs.length=6) :
  RC g w u0 u1 u2 (w'.setCell ⟨w.heap.size+1,2,none⟩ v') v1 v2 v' k1 k2 (k3+1):=by
 obtain ⟨f1,f2,f3,f4,f5⟩:=h.frame (j:=2) (v':=v') hg (fun k hk=>(h.r3.lt k hk).1);have t:=take_len hk;have e:g.macros.take (k3+1)=g.macros.take k3 ++ [x]:=by rw [List.take_add_one,hx];rfl
 have n1:v1.ownBlock=none\/v1.ownBlock≠v3.ownBlock:=by cases hb:v1.ownBlock with | none=>exact .inl rfl | some k=>exact .inr (fun e=>h.d13 k hb e.symm)
 have n2:v2.ownBlock=none\/v2.ownBlock≠v3.ownBlock:=by cases hb:v2.ownBlock with | none=>exact .inl rfl | some k=>exact .inr (fun e=>h.d23 k hb e.symm)
 refine⟨f1,f2,f3,f4,f5,(h.r1.kept hg n1).setCell _ (by simp),(h.r2.kept hg n2).setCell _ (by simp),by rw [e];exact(Grows.push (xs:=g.macros.take k3) (by rw [t];exact hl) hr (by rw [t];exact ho) hR hvs).setCell _ (by simp),?_,?_,?_⟩
 ·exact h.d12
 ·intro k hk he;rcases hat with q | q
  ·exact h.d13 k hk (q.symm.trans he)
  ·have:=(h.r1.lt k hk).2;rw [q] at he;simp at he;omega
 ·intro k hk he;rcases hat with q | q
  ·exact h.d23 k hk (q.symm.trans he)
  ·have:=(h.r2.lt k hk).2;rw [q] at he;simp at he;omega
end
end Sg
namespace Sg
open Go.RowKit Dt
def NameIn (ns:List ByteArray) (k:Nat) (v:Value):Prop:=∃ x,x ∈ ns.take k/\v=.string x
theorem nameIn_zero (ns:List ByteArray) (v:Value):False ↔ NameIn ns 0 v:=by simp [NameIn]
theorem nameIn_succ {ns:List ByteArray} {k:Nat} {y:ByteArray} (h:ns[k]?=some y) (v:Value):(v=.string y\/NameIn ns k v) ↔ NameIn ns (k+1) v:=by
 unfold NameIn;rw [List.take_add_one,h]
 constructor
 ·rintro (rfl | ⟨x,hx,rfl⟩)
  ·exact⟨y,by simp,rfl⟩
  ·exact⟨x,by simp [hx],rfl⟩
 ·rintro ⟨x,hx,rfl⟩;rcases List.mem_append.1 hx with h1 | h1
  ·exact .inr ⟨x,h1,rfl⟩
  ·simp at h1;subst h1;exact .inl rfl
theorem nameIn_has {ns:List ByteArray} {k:Nat} {y:ByteArray}:NameIn ns k (.string y) ↔ hasB (ns.take k) y=true:=by
 rw [hasB_iff];unfold NameIn
 constructor
 ·rintro ⟨x,hx,e⟩;cases e;exact hx
 ·intro h;exact⟨y,h,rfl⟩
theorem Boxes.keeps {w w':World} {b:Nat} {u0 u1 u2 m1 m2 m3 m4 m5:Value} {S:Nat->Prop} (h:Boxes w b u0 u1 u2 m1 m2 m3 m4 m5) (hk:Keeps S w w') (h0:¬ S b) (h1:¬ S (b+1)):Boxes w' b u0 u1 u2 m1 m2 m3 m4 m5:=by
 have l0:b < w.heap.size:=by have:=h.lt;omega
 exact⟨Nat.lt_of_lt_of_le h.lt hk.size,(hk.cell l0 h0).trans h.u0,(hk.cell l0 h0).trans h.u1,(hk.cell l0 h0).trans h.u2,(hk.cell h.lt h1).trans h.m1,(hk.cell h.lt h1).trans h.m2,(hk.cell h.lt h1).trans h.m3,(hk.cell h.lt h1).trans h.m4,(hk.cell h.lt h1).trans h.m5⟩
theorem macro_any {w:World} {A1 A2 A3:Option Addr} {n1 c1 n2 c2 n3 c3:Nat} (hn:(n1:Int)<=140737488351232)
  {Ap Ab:Option Addr} {cp cb:Nat} (m:Macro) (hp:Lies 2 ParamR w Ap m.params) (hpl:m.params.length<=maxLen) (hx:SexpR w [.int .i8 m.body.kind,.string m.body.text,.slice Ab m.body.l.length cb] m.body) :
  Calls Tryz.prog 58 #[.agg #[.slice A1 n1 c1,.slice A2 n2 c2,.slice A3 n3 c3],.agg #[.string m.name,.slice Ap m.params.length cp,.int .i64 m.res,.int .i8 m.body.kind,.string m.body.text,.slice Ab m.body.l.length cb]] w fun e w'=>e=.returned (.bool (macroB n1 m))/\Below w.heap.size w w':=by
 have HTh:=kp (fun s W=>there_any A1 A2 A3 n1 c1 n2 c2 n3 c3 s W hn);have HSx:=kp (fun W (hW:Below w.heap.size w W)=>sxmay_any (SexpR.lasts _ _ _ _ hW hx));have HLp:=kp (fun W (hW:Below w.heap.size w W)=>hp.on ParamR.lasts hW);have HP:=kp (fun k p=>paramB_at (n:=n1) (ps:=m.params) (k:=k) (p:=p));have HPs:=kp (paramsTo_succ n1 m.params);have HPx:=kp (fun k hk h=>paramsTo_stop (n:=n1) (ps:=m.params) (k:=k) hk h);have HNm:=kp (fun k x=>map_at (l:=m.params) (nm:=Param.name) (k:=k) (x:=x));have HE:=kp (show macroB n1 m=(decide (m.params.length<=3) && thereB n1 m.res && m.body.may && paramsTo n1 m.params m.params.length) from rfl);have HZ:=kp (show paramsTo n1 m.params 0=true from rfl);clear hp hx;generalize macroB n1 m=mb at *;generalize paramsTo n1 m.params=pt at *;generalize paramB n1 m.params=pb at *;generalize m.params.map Param.name=ns at *;generalize m.body.may=bm' at *;generalize m.body.kind=bk at *;generalize m.body.text=bt at *;generalize m.body.l.length=bl at *;generalize m.params=ps at *;generalize m.res=res at *;generalize m.name=nm at *;have HPL:=kp hpl;have hpl2:(ps.length:Int)<=9223372036854775807:=by unfold maxLen at hpl;omega
 clear hpl;have B2:=kp (((brq w).alloc nlq (.cells #[.slice A1 n1 c1,.slice A2 n2 c2,.slice A3 n3 c3] 26)).alloc (by simp) (.cells #[.string nm,.slice Ap ps.length cp,.int .i64 res,.int .i8 bk,.string bt,.slice Ab bl cb] 47));have HX2:=kp (boxes_made w (.slice A1 n1 c1) (.slice A2 n2 c2) (.slice A3 n3 c3) (.string nm) (.slice Ap ps.length cp) (.int .i64 res) (.int .i8 bk) (.string bt) (.slice Ab bl cb) 26 47);have hmm:=@run_makeMap Tryz.prog
 go_enter Tryz.func58,Tryz.ntmps58
 go_wp2_with fail
 have hz2:((w.alloc (.cells #[.slice A1 n1 c1,.slice A2 n2 c2,.slice A3 n3 c3] 26)).alloc (.cells #[.string nm,.slice Ap ps.length cp,.int .i64 res,.int .i8 bk,.string bt,.slice Ab bl cb] 47)).heap.size=w.heap.size+1+1:=by simp
 generalize (w.alloc (.cells #[.slice A1 n1 c1,.slice A2 n2 c2,.slice A3 n3 c3] 26)).alloc (.cells #[.string nm,.slice Ap ps.length cp,.int .i64 res,.int .i8 bk,.string bt,.slice Ab bl cb] 47)=w2 at *
 have HMp:=kp (show BoolMap Tryz.prog 9 4 (w2.alloc (.map #[] 0)) (w.heap.size+1+1) 0 (NameIn ns 0) from by
  have:=BoolMap.made w2 Tryz.prog 9 4;rw [hz2] at this;exact this.imp (nameIn_zero ns))
 have B3:=kp (B2.out.alloc B2.out.size (.map #[] 0));have HX3:=kp (HX2.out.on ((brq w2).alloc nlq (.map #[] 0)));clear hz2 HX2 B2;generalize w2.alloc (.map #[] 0)=w3 at *;have hbm:w.heap.size+1 < w.heap.size+1+1:=by omega
 generalize w.heap.size+1+1=bm at *;clear hmm
 go_loopw [12] (fun v wr=>∃ k:Nat,k<=ps.length/\v=.int .i64 k/\pt k=true/\Keeps (·=bm) w3 wr/\BoolMap Tryz.prog 9 4 wr bm k (NameIn ns k)) (fun v _=>ps.length - (intOf v).toNat)
 case atStart=>exact⟨0,by omega,rfl,HZ.out,Keeps.refl _ _,HMp.out⟩
 case round =>
  obtain ⟨k,hk,rfl,hok,hkp,hmp⟩:=hrel;have HO:=kp hok;have HK:=kp hkp;have B5:=kp (B3.out.trans (hkp.below (B:=w.heap.size) (fun j e=>by omega) B3.out.size));have HX5:=kp (HX3.out.keeps hkp (by show ¬ (w.heap.size=bm);omega) (by show ¬ (w.heap.size+1=bm);omega));have HM5:=kp hmp;clear hok hkp hmp HMp
  by_cases hlt:k < ps.length
  ·have hlt2:(k:Int) < (ps.length:Int):=by omega
   have hx:=gqe hlt;generalize ps[k]=p at hx;have HL5:=kp (HLp.out wr B5.out);obtain ⟨b,o,vs,rfl,hbl,_,hcell,hr⟩:=HL5.out.at' hx;obtain ⟨rfl,hps,hpi⟩:=hr;have c0:=hcell 0 _ rfl;have c1:=hcell 1 _ rfl;rw [Nat.add_zero] at c0;have HPk:=kp (HP.out k p hx);have HNk:=kp (HNm.out k p hx);clear hx hcell;generalize p.name=y at *;generalize p.sort=sr at *;obtain ⟨hz5,x0,x1,x2,y1,y2,y3,y4,y5⟩:=HX5.out;have BA:=kp ((brq wr).alloc nlq (.cells #[.string y,.int .i64 sr] 59));have HM6:=kp (HM5.out.alloc (.cells #[.string y,.int .i64 sr] 59));obtain ⟨c,hlk,hcS⟩:=HM6.out.look string_key Tryz.underlying147 Tryz.underlying4 zero_bool (keyOf_str hps);have z6:wr.heap.size < (wr.alloc (.cells #[.string y,.int .i64 sr] 59)).heap.size:=by simp
   have q0:(wr.alloc (.cells #[.string y,.int .i64 sr] 59)).cell? ⟨wr.heap.size,0,none⟩=some (.string y):=by rw [World.cell?_alloc_mark];rfl
   have q1:(wr.alloc (.cells #[.string y,.int .i64 sr] 59)).cell? ⟨wr.heap.size,1,none⟩=some (.int .i64 sr):=by rw [World.cell?_alloc_mark];rfl
   rw [nameIn_has] at hcS;have HC:=kp hcS;clear hcS;generalize hw6:wr.alloc (.cells #[.string y,.int .i64 sr] 59)=w6 at *;have B6:=kp (B5.out.trans (BA.out.mono B5.out.size));have K6:=kp (HK.out.trans_same (Keeps.of_below BA.out _));have HX6:=kp (HX5.out.on BA.out);have HU:=kp (usable_any y w6 hps);have HPu:=kp (show pb k=(usableB (Lx.bs y) && thereB n1 sr && !hasB (List.take k ns) y) from HPk.out);clear HX5 hz5 HPk
   cases c with
   | true =>
    have HR:=kp (show mb=false by rw [HE.out];simp [HPx.out k hlt (by rw [HPu.out,HC.out.1 rfl];simp)]);go_wp2_with fail
    go_ret;exact⟨ret_bool HR.out.symm,B6.out⟩
   | false =>
    have HNo:=kp (show hasB (List.take k ns) y=false by cases hh:hasB (List.take k ns) y with | false=>rfl | true=>exact absurd (HC.out.2 hh) (by simp));replace HPu:=kp (show pb k=(usableB (Lx.bs y) && thereB n1 sr) by rw [HPu.out,HNo.out];simp);go_wp2_with fail
    clear hw6 x0 x1 x2 y1 y2 y3 y4 y5 c0 c1;generalize usableB (Lx.bs y)=bu at *
    cases bu with
    | false =>
     have HR:=kp (show mb=false by rw [HE.out];simp [HPx.out k hlt (by rw [HPu.out];rfl)]);refine HU.out.mono ?_;rintro e w7 ⟨rfl,rfl⟩;go_wp2_with fail
     go_ret;exact⟨ret_bool HR.out.symm,B6.out⟩
    | true =>
     refine HU.out.mono ?_;rintro e w7 ⟨rfl,rfl⟩;obtain ⟨hz6,x0,x1,x2,y1,y2,y3,y4,y5⟩:=HX6.out;have hcall:=HTh.out sr w6;go_wp2_with fail
     clear x0 x1 x2 y1 y2 y3 y4 y5
     cases ht:thereB n1 sr with
     | false =>
      have HR:=kp (show mb=false by rw [HE.out];simp [HPx.out k hlt (by rw [HPu.out,ht];rfl)]);rw [ht] at hcall;clear ht;refine hcall.mono ?_;rintro e w7 ⟨rfl,hb⟩;have B7:=kp (B6.out.trans (hb.mono B6.out.size));clear hb;go_wp2_with fail
      go_ret;exact⟨ret_bool HR.out.symm,B7.out⟩
     | true =>
      have HR:=kp (show pt (k+1)=true by rw [HPs.out,HO.out,HPu.out,ht];rfl);rw [ht] at hcall;clear ht;refine hcall.mono ?_;rintro e w7 ⟨rfl,hb⟩;have K7:=kp (K6.out.trans_same (Keeps.of_below hb _));have HM7:=kp (HM6.out.below hb);have r0:=((bcell hb).1 wr.heap.size 0 z6).trans q0;obtain ⟨w8,hup,hm8,hg8⟩:=HM7.out.store string_key Tryz.underlying147 Tryz.underlying4 (by have:=HPL.out;omega) (keyOf_str hps);have HM8:=kp (hm8.imp (nameIn_succ HNk.out));have K8:=kp (K7.out.grown hg8 (fun j hj=>by left;simpa using hj.symm));clear hb hm8 hg8 q0 q1 hcall hlk;go_wp2_with fail
      go_roundw
      case rel=>exact⟨k+1,by omega,by go_num,HR.out,K8.out,HM8.out⟩
      case measure=>simp [intOf];omega
  ·obtain rfl:k=ps.length:=by omega
   obtain ⟨hz5,x0,x1,x2,y1,y2,y3,y4,y5⟩:=HX5.out
   by_cases h3:(ps.length:Int)<=3
   ·have h3':decide ((ps.length:Int)<=3)=true:=decide_eq_true h3;replace HE:=kp (show mb=(thereB n1 res && bm') by rw [HE.out,HO.out,decide_eq_true (show ps.length<=3 by omega)];simp);have hcall:=HTh.out res wr;go_wp2_with fail
    clear x0 x1 x2 y1 y2 y3 y4 y5
    cases ht:thereB n1 res with
    | false =>
     replace HE:=kp (show mb=false by rw [HE.out,ht];rfl);rw [ht] at hcall;clear ht;refine hcall.mono ?_;rintro e w7 ⟨rfl,hb⟩;have B7:=kp (B5.out.trans (hb.mono B5.out.size));clear hb;go_wp2_with fail
     go_ret;exact⟨ret_bool HE.out.symm,B7.out⟩
    | true =>
     replace HE:=kp (show mb=bm' by rw [HE.out,ht];rfl);rw [ht] at hcall;clear ht;refine hcall.mono ?_;rintro e w7 ⟨rfl,hb⟩;have B7:=kp (B5.out.trans (hb.mono B5.out.size));obtain ⟨hz7,x0,x1,x2,y1,y2,y3,y4,y5⟩:=HX5.out.on hb;clear hb hcall;have hcall:=HSx.out w7 B7.out;go_wp2_with fail
     refine hcall.mono ?_;rintro e w8 ⟨rfl,hb⟩;have B8:=kp (B7.out.trans (hb.mono B7.out.size));clear hb;go_wp2_with fail
     go_ret;exact⟨ret_bool HE.out.symm,B8.out⟩
   ·have h3':decide ((ps.length:Int)<=3)=false:=dfq h3;replace HE:=kp (show mb=false by rw [HE.out,dfq (show ¬ ps.length<=3 by omega)];rfl);go_wp2_with fail
    go_ret;exact⟨ret_bool HE.out.symm,B5.out⟩
def keyN (s:ByteArray) (sort:Bool):Value:=.agg #[.string s,.bool sort]
def FreshPost (s:ByteArray) (sort:Bool) (bm k:Nat) (S:Value->Prop) (w:World) (e:Ending) (w':World):Prop :=
 ∃ c:Bool,(c=true ↔ S (keyN s sort))/\e=.returned (.bool (usableB (Lx.bs s) && !c && (sort || !coreB (Lx.bs s))))/\BoolMap Tryz.prog 100 4 w' bm (k+1) (fun x=>x=keyN s sort\/S x)/\Keeps (·=bm) w w'
theorem fresh_any (s:ByteArray) (hs:(s.size:Int)<=140737488351232) (sort:Bool) (w:World) (bx bm k:Nat) (S:Value->Prop) (hbx:w.cell? ⟨bx,0,none⟩=some (.map (some bm))) (hlt:bx < w.heap.size) (hm:BoolMap Tryz.prog 100 4 w bm k S) (hk:k < maxLen) :
  Calls Tryz.prog 54 #[.string s,.bool sort,.pointer (some ⟨bx,0,none⟩)] w (FreshPost s sort bm k S w):=by
 have HU:=kp (fun W=>usable_any s W hs);have HCo:=kp (fun W=>core_any s W);have HM1:=kp (hm.alloc (.cells #[.string s,.bool sort] 100));have BA:=kp ((brq w).alloc nlq (.cells #[.string s,.bool sort] 100));obtain ⟨kl,hkl⟩:=keyOf_name hs sort;obtain ⟨c,hlk,hcS⟩:=HM1.out.look name_key Tryz.underlying101 Tryz.underlying4 zero_bool hkl;obtain ⟨w2,hup,hm2,hg2⟩:=HM1.out.store name_key Tryz.underlying101 Tryz.underlying4 hk hkl;have HP:=kp (fun(e:Ending) (h:e=.returned (.bool (usableB (Lx.bs s) && !c && (sort || !coreB (Lx.bs s)))))=>(show FreshPost s sort bm k S w e w2 from⟨c,hcS,h,hm2,(Keeps.of_below BA.out _).grown hg2 (fun j hj=>by left;simpa using hj.symm)⟩));have q0:(w.alloc (.cells #[.string s,.bool sort] 100)).cell? ⟨w.heap.size,0,none⟩=some (.string s):=by rw [World.cell?_alloc_mark];rfl
 have q1:(w.alloc (.cells #[.string s,.bool sort] 100)).cell? ⟨w.heap.size,1,none⟩=some (.bool sort):=by rw [World.cell?_alloc_mark];rfl
 have q2:=((bcell BA.out).1 bx 0 hlt).trans hbx;clear hcS hm2 hg2 hm hbx hkl HM1;generalize usableB (Lx.bs s)=bu at *;generalize coreB (Lx.bs s)=bc at *
 go_enter Tryz.func54,Tryz.ntmps54
 go_wp2_with fail
 generalize w.alloc (.cells #[.string s,.bool sort] 100)=w1 at *;refine(HU.out w1).mono ?_;rintro e w' ⟨rfl,rfl⟩
 cases bu with
 | false =>
  go_wp2_with fail
  go_ret;exact HP.out _ rfl
 | true =>
  cases c with
  | true =>
   go_wp2_with fail
   go_ret;exact HP.out _ rfl
  | false =>
   cases sort with
   | true =>
    go_wp2_with fail
    go_ret;exact HP.out _ rfl
   | false =>
    go_wp2_with fail
    refine(HCo.out w1).mono ?_;rintro e w' ⟨rfl,rfl⟩
    cases bc with
    | true =>
     go_wp2_with fail
     go_ret;exact HP.out _ rfl
    | false =>
     go_wp2_with fail
     go_ret;exact HP.out _ rfl
section
variable {P:Program} {k e t:TypeId}
theorem upon_store {o:Oper} {a:Act} {K:Act->World->Prop} {Q:Exit->Act->World->Prop} {W:World} {b n:Nat} {S:Value->Prop} (h:BoolMap P k e W b n S) (KK:Maps.Keyed P k) (ht:P.underlying t=some (.map k e)) (he:P.underlying e=some .bool) (hn:n < maxLen) {key:Value} {kl:Lit} (hkey:keyOf P k key=some kl)
  (hK:∀ w',BoolMap P k e w' b (n+1) (fun x=>x=key\/S x)->W.grownBy w' (some b)->K (a.put o.dst undef) w') :
  o.upon P a K Q ((Sem.run P (Instr.mapUpdate t (.map (some b)) key (.bool true)) W).andThen fun _ w'=>Result.ok Next.skip w'):=by
 obtain ⟨w',hrun,h1,h2⟩:=h.store KK ht he hn hkey;rw [hrun];exact hK w' h1 h2
end
structure St (w:World) (u0 u1 u2:Value) (W:World) (mb:Option Nat) (xb:Option (Nat × Value)) (n:Nat) (S:Value->Prop):Prop where
 keep:Below w.heap.size w W
 g0:W.cell? ⟨w.heap.size,0,none⟩=some u0
 g1:W.cell? ⟨w.heap.size,1,none⟩=some u1
 g2:W.cell? ⟨w.heap.size,2,none⟩=some u2
 lt:w.heap.size < W.heap.size
 mp:∀ b,mb=some b->BoolMap Tryz.prog 100 4 W b n S/\w.heap.size < b
 bx:∀ x v,xb=some (x,v)->W.heap[x]?=some (.cells #[v] 101 (0,0))/\w.heap.size < x
 ne:∀ b x v,mb=some b->xb=some (x,v)->b≠x
section
variable {w W W':World} {u0 u1 u2 v:Value} {mb:Option Nat} {xb:Option (Nat × Value)} {n b x:Nat} {S S':Value->Prop}
theorem St.below (h:St w u0 u1 u2 W mb xb n S) (hb:Below W.heap.size W W'):St w u0 u1 u2 W' mb xb n S:=by
 have e:=fun o=>(bcell hb).1 w.heap.size o h.lt;refine⟨h.keep.trans (hb.mono h.keep.size),(e 0).trans h.g0,(e 1).trans h.g1,(e 2).trans h.g2,Nat.lt_of_lt_of_le h.lt hb.size,fun b hm=>?_,fun x v hx=>?_,h.ne⟩
 ·obtain ⟨h1,h2⟩:=h.mp b hm;exact⟨h1.below hb,h2⟩
 ·obtain ⟨h1,h2⟩:=h.bx x v hx;exact⟨(hb.block _ (lt_of_block h1)).trans h1,h2⟩
theorem St.drew (h:St w u0 u1 u2 W mb xb n S):St w u0 u1 u2 W.drew mb xb n S:=h.below (Below.refl _ _).drew
theorem St.map (h:St w u0 u1 u2 W none xb n S) (hB:W.heap.size=b):St w u0 u1 u2 (W.alloc (.map #[] 0)) (some b) xb 0 (fun _=>False):=by
 have h':=h.below (W':=W.alloc (.map #[] 0)) ((Below.refl _ _).alloc nlq _);refine⟨h'.keep,h'.g0,h'.g1,h'.g2,h'.lt,fun b' hb=>?_,h'.bx,fun b' x v hb hx=>?_⟩
 ·cases hb
  rw [← hB];exact⟨BoolMap.made W _ _ _,h.lt⟩
 ·cases hb
  have:=lt_of_block (h.bx x v hx).1
  omega
theorem St.box (h:St w u0 u1 u2 W mb none n S) (hB:W.heap.size=x) (v:Value):St w u0 u1 u2 (W.alloc (.cells #[v] 101)) mb (some (x,v)) n S:=by
 have h':=h.below (W':=W.alloc (.cells #[v] 101)) ((Below.refl _ _).alloc nlq _);refine⟨h'.keep,h'.g0,h'.g1,h'.g2,h'.lt,h'.mp,fun x' v' hx=>?_,fun b' x' v' hb hx=>?_⟩
 ·cases hx
  rw [← hB];exact⟨Array.getElem?_push_size,h.lt⟩
 ·cases hx
  have:=(h.mp b' hb).1.lt
  omega
theorem St.ins (h:St w u0 u1 u2 W (some b) xb n S) (hm:BoolMap Tryz.prog 100 4 W' b (n+1) S') (hg:W.grownBy W' (some b)):St w u0 u1 u2 W' (some b) xb (n+1) S':=by
 obtain ⟨h1,h2⟩:=h.mp b rfl;have hk:Keeps (·=b) W W':=(Keeps.refl _ _).grown hg (fun j hj=>by left;simpa using hj.symm);have e:=fun o=>hk.cell (b:=w.heap.size) (o:=o) h.lt (by show ¬ (w.heap.size=b);omega);refine⟨h.keep.trans (hk.below (fun j hj=>by omega) h.keep.size),(e 0).trans h.g0,(e 1).trans h.g1,(e 2).trans h.g2,Nat.lt_of_lt_of_le h.lt hg.size,fun b' hb=>?_,fun x v hx=>?_,h.ne⟩
 ·cases hb;exact⟨hm,h2⟩
 ·obtain ⟨q1,q2⟩:=h.bx x v hx;exact⟨(hk.block x (lt_of_block q1) (fun e=>h.ne b x v rfl hx e.symm)).trans q1,q2⟩
theorem St.put (h:St w u0 u1 u2 W mb (some (x,v)) n S) (v':Value):St w u0 u1 u2 (W.setCell ⟨x,0,none⟩ v') mb (some (x,v')) n S:=by
 obtain ⟨q1,q2⟩:=h.bx x v rfl;have e:∀ j,j≠x->(W.setCell ⟨x,0,none⟩ v').heap[j]?=W.heap[j]?:=fun j hj=>Below.heap_setCell _ _ _ _ hj;have ec:∀ o,(W.setCell ⟨x,0,none⟩ v').cell? ⟨w.heap.size,o,none⟩=W.cell? ⟨w.heap.size,o,none⟩:=fun o=>World.cell?_of_block (w:=W) (e _ (by show w.heap.size≠x;omega));refine⟨h.keep.setCell (by simp;omega) _,(ec 0).trans h.g0,(ec 1).trans h.g1,(ec 2).trans h.g2,by simpa [World.setCell] using h.lt,fun b' hb=>?_,fun x' v'' hx=>?_,fun b' x' v'' hb hx=>?_⟩
 ·obtain ⟨⟨D,h1,h2⟩,h3⟩:=h.mp b' hb;exact⟨⟨D,h1.setCell (h.ne b' x v hb rfl) _,h2⟩,h3⟩
 ·cases hx
  exact⟨by simp [World.setCell,Array.getElem?_modify,q1],q2⟩
 ·cases hx
  exact h.ne b' _ v hb rfl
theorem St.imp (h:St w u0 u1 u2 W mb xb n S) (hS:∀ x,S x ↔ S' x):St w u0 u1 u2 W mb xb n S' :=
 ⟨h.keep,h.g0,h.g1,h.g2,h.lt,fun b hb=>⟨(h.mp b hb).1.imp hS,(h.mp b hb).2⟩,h.bx,h.ne⟩
theorem St.start (w:World) (u0 u1 u2:Value) (t:TypeId) (S:Value->Prop):St w u0 u1 u2 (w.alloc (.cells #[u0,u1,u2] t)) none none 0 S:=by
 obtain ⟨g0,g1,g2⟩:=sig_cells w u0 u1 u2 t;exact⟨(brq w).alloc nlq _,g0,g1,g2,by simp,(fun b hb=>by cases hb),(fun x v hx=>by cases hx),(fun b x v hb=>by cases hb)⟩
theorem St.fresh {s:ByteArray} {sort:Bool} {e:Ending} (h:St w u0 u1 u2 W (some b) xb n S) (hp:FreshPost s sort b n S W e W') :
  ∃ c:Bool,(c=true ↔ S (keyN s sort))/\e=.returned (.bool (usableB (Lx.bs s) && !c && (sort || !coreB (Lx.bs s))))/\St w u0 u1 u2 W' (some b) xb (n+1) (fun x=>x=keyN s sort\/S x):=by
 obtain ⟨c,h1,h2,h3,hk⟩:=hp;obtain ⟨m1,m2⟩:=h.mp b rfl;have e:=fun o=>hk.cell (b:=w.heap.size) (o:=o) h.lt (by show ¬ (w.heap.size=b);omega);refine⟨c,h1,h2,h.keep.trans (hk.below (fun j hj=>by omega) h.keep.size),(e 0).trans h.g0,(e 1).trans h.g1,(e 2).trans h.g2,Nat.lt_of_lt_of_le h.lt hk.size,fun b' hb=>?_,fun x v hx=>?_,h.ne⟩
 ·cases hb;exact⟨h3,m2⟩
 ·obtain ⟨q1,q2⟩:=h.bx x v hx;exact⟨(hk.block x (lt_of_block q1) (fun e=>h.ne b x v rfl hx e.symm)).trans q1,q2⟩
end
section
variable {w W:World} {u0 u1 u2 v:Value} {mb:Option Nat} {xb:Option (Nat × Value)} {n b x:Nat} {S:Value->Prop}
theorem St.bxc (h:St w u0 u1 u2 W mb (some (x,v)) n S):W.cell? ⟨x,0,none⟩=some v/\W.frozen? ⟨x,0,none⟩=false:=by
 obtain ⟨q1,_⟩:=h.bx x v rfl;exact⟨by rw [cell_of_cells q1];rfl,frozen_of_cells q1 0⟩
theorem upon_ins {o:Oper} {a:Act} {K:Act->World->Prop} {Q:Exit->Act->World->Prop} (h:St w u0 u1 u2 W (some b) xb n S) (hn:n < maxLen) {key:Value} {kl:Lit} (hkey:keyOf Tryz.prog 100 key=some kl)
  (hK:∀ w',St w u0 u1 u2 w' (some b) xb (n+1) (fun x=>x=key\/S x)->K (a.put o.dst undef) w') :
  o.upon Tryz.prog a K Q ((Sem.run Tryz.prog (Instr.mapUpdate 101 (.map (some b)) key (.bool true)) W).andThen fun _ w'=>Result.ok Next.skip w') :=
 upon_store (P:=Tryz.prog) (k:=100) (e:=4) (t:=101) (b:=b) (n:=n) (S:=S) (h.mp b rfl).1 name_key Tryz.underlying101 Tryz.underlying4 hn hkey fun w' h1 h2=>hK w' (h.ins h1 h2)
end
def SeenIn (a b:List ByteArray) (x:Value):Prop:=(∃ s,s ∈ a/\x=keyN s true)\/∃ s,s ∈ b/\x=keyN s false
theorem keyN_inj {s s':ByteArray} {q q':Bool} (h:keyN s q=keyN s' q'):s=s'/\q=q':=by
 unfold keyN at h
 simpa using h
theorem seen_sort {a b:List ByteArray} {s:ByteArray}:SeenIn a b (keyN s true) ↔ hasB a s=true:=by
 rw [hasB_iff];unfold SeenIn
 constructor
 ·rintro (⟨s',h,e⟩ | ⟨s',h,e⟩)
  ·rw [(keyN_inj e).1];exact h
  ·cases (keyN_inj e).2
 ·intro h;exact .inl ⟨s,h,rfl⟩
theorem seen_name {a b:List ByteArray} {s:ByteArray}:SeenIn a b (keyN s false) ↔ hasB b s=true:=by
 rw [hasB_iff];unfold SeenIn
 constructor
 ·rintro (⟨s',h,e⟩ | ⟨s',h,e⟩)
  ·cases (keyN_inj e).2
  ·rw [(keyN_inj e).1];exact h
 ·intro h;exact .inr ⟨s,h,rfl⟩
theorem seen_more_sort {a a' b:List ByteArray} {s:ByteArray} (h:∀ x,x ∈ a' ↔ x=s\/x ∈ a) (v:Value):(v=keyN s true\/SeenIn a b v) ↔ SeenIn a' b v:=by
 unfold SeenIn
 constructor
 ·rintro (rfl | ⟨x,hx,rfl⟩ | h2)
  ·exact .inl ⟨s,(h s).2 (.inl rfl),rfl⟩
  ·exact .inl ⟨x,(h x).2 (.inr hx),rfl⟩
  ·exact .inr h2
 ·rintro (⟨x,hx,rfl⟩ | h2)
  ·rcases (h x).1 hx with rfl | hx
   ·exact .inl rfl
   ·exact .inr (.inl ⟨x,hx,rfl⟩)
  ·exact .inr (.inr h2)
theorem seen_more_name {a b b':List ByteArray} {s:ByteArray} (h:∀ x,x ∈ b' ↔ x=s\/x ∈ b) (v:Value):(v=keyN s false\/SeenIn a b v) ↔ SeenIn a b' v:=by
 unfold SeenIn
 constructor
 ·rintro (rfl | h2 | ⟨x,hx,rfl⟩)
  ·exact .inr ⟨s,(h s).2 (.inl rfl),rfl⟩
  ·exact .inl h2
  ·exact .inr ⟨x,(h x).2 (.inr hx),rfl⟩
 ·rintro (h2 | ⟨x,hx,rfl⟩)
  ·exact .inr (.inl h2)
  ·rcases (h x).1 hx with rfl | hx
   ·exact .inl rfl
   ·exact .inr (.inr ⟨x,hx,rfl⟩)
theorem mem_take_succ {l:List ByteArray} {k:Nat} {s:ByteArray} (h:l[k]?=some s) (x:ByteArray):x ∈ l.take (k+1) ↔ x=s\/x ∈ l.take k:=by
 rw [List.take_add_one,h,List.mem_append]
 constructor
 ·rintro (h1 | h1)
  ·exact .inr h1
  ·simp at h1;exact .inl h1
 ·rintro (h1 | h1)
  ·exact .inr (by simp [h1])
  ·exact .inl h1
def boolS':ByteArray:={ data:=#[66,111,111,108] }
def intS':ByteArray:={ data:=#[73,110,116] }
theorem seen_start1 (v:Value):(v=keyN intS' true\/(v=keyN boolS' true\/False)) ↔ SeenIn (allSorts []) [] v:=by
 rw [← seen_more_sort (a:=[boolS']) (s:=intS') (by intro x;simp [allSorts,boolS',intS'];exact Or.comm)];refine or_congr Iff.rfl ?_;rw [← seen_more_sort (a:=[]) (s:=boolS') (by intro x;simp)];simp [SeenIn]
theorem seen_start2 (v:Value):(v=keyN boolS' true\/(v=keyN intS' true\/False)) ↔ SeenIn (allSorts []) [] v:=by
 rw [← seen_start1]
 constructor
 ·rintro (h | h | h)
  ·exact .inr (.inl h)
  ·exact .inl h
  ·exact h.elim
 ·rintro (h | h | h)
  ·exact .inr (.inl h)
  ·exact .inl h
  ·exact h.elim
end Sg
namespace Gr
open Go.RowKit Dt Sg
def SomeInt (e:Ending):Prop:=∃ r:Int,I64 r/\e=.returned (.int .i64 r)
theorem someInt {r:Int} (h:I64 r):SomeInt (.returned (.int .i64 r)):=⟨r,h,rfl⟩
theorem size_any:∀ (n:Nat) (x:Sexp),SizeOf.sizeOf x < n->∀ (w:World) (A:Option Addr) (c:Nat) (most:Int),SexpR w [.int .i8 x.kind,.string x.text,.slice A x.l.length c] x ->
  Calls Tryz.prog 24 #[.agg #[.int .i8 x.kind,.string x.text,.slice A x.l.length c],.int .i64 most] w fun e w'=>SomeInt e/\Below w.heap.size w w':=by
 intro n
 induction n with
 | zero=>intro x hx;omega
 | succ n ih =>
  intro x hx w A c most hr;have IH:=kp ih;obtain ⟨A0,c0,e0,hl,hc,hcm,ht,hlb,_⟩:=hr.open';simp only [List.cons.injEq,Value.slice.injEq,and_true,true_and] at e0;obtain ⟨rfl,rfl⟩:=e0;have HL:=kp hl;have HX:=kp hx;have HM:=kp (fun y (hy:y ∈ x.l)=>Sexp.mem_lt hy);obtain ⟨g0,g1,g2⟩:=sig_cells w (.int .i8 x.kind) (.string x.text) (.slice A x.l.length c) 30;have B0:=kp ((brq w).alloc nlq (.cells #[.int .i8 x.kind,.string x.text,.slice A x.l.length c] 30));have hz:w.heap.size < (w.alloc (.cells #[.int .i8 x.kind,.string x.text,.slice A x.l.length c] 30)).heap.size:=by simp
  have hlb2:(x.l.length:Int)<=140737488351232:=by omega
  generalize x.l=l at *;generalize x.text=t at *;generalize x.kind=kd at *;clear hl hr hx ih hlb;have HC:=kp (fun W (hW:Below (w.alloc (.cells #[.int .i8 kd,.string t,.slice A l.length c] 30)).heap.size (w.alloc (.cells #[.int .i8 kd,.string t,.slice A l.length c] 30)) W)=>((bcell hW).1 w.heap.size 2 hz).trans g2);have HT:=kp (show I64 (1+(t.size:Int)) from⟨by omega,by omega⟩);have H5:=kp (show I64 5001 from⟨by omega,by omega⟩);have H6:=kp (show I64 (1+min (t.size:Int) 5000) from⟨by omega,by omega⟩);clear g0 g2 hz;have HZ:0 < 1:=by omega
  by_cases ht5:(5000:Int) < (t.size:Int)
  all_goals
   go_enter Tryz.func24,Tryz.ntmps24
   go_wp2_with fail
   generalize w.alloc (.cells #[.int .i8 kd,.string t,.slice A l.length c] 30)=w0 at *
   go_loopw [5,6] (fun v i wr=>∃ (k:Nat) (z:Int),k<=l.length/\i=.int .i64 k/\v=.int .i64 z/\I64 z/\Below w0.heap.size w0 wr) (fun _ i _=>l.length - (intOf i).toNat)
   case atStart=>first | exact⟨0,_,by omega,rfl,rfl,HT.out,Below.refl _ _⟩ | exact⟨0,_,by omega,rfl,rfl,H5.out,Below.refl _ _⟩ | exact⟨0,_,by omega,rfl,rfl,H6.out,Below.refl _ _⟩
   case round =>
    obtain ⟨k,z,hk,rfl,rfl,hzi,hb⟩:=hrel;have HZi:=kp hzi;have HB:=kp hb;have q2:=HC.out wr hb;have HBw:=kp (B0.out.trans (hb.mono B0.out.size));clear hzi hb
    by_cases hlt:k < l.length
    ·have hlt2:(k:Int) < (l.length:Int):=by omega
     by_cases hzm:z < most
     ·have hzm':=decide_eq_true hzm;have hy:=gqe hlt;have hym:=List.getElem_mem hlt;generalize l[k]=y at hy hym;obtain ⟨b,o,A',c',rfl,hbl,e0,e1,e2,hr⟩:=sexp_cells (HL.out.on SexpR.lasts HBw.out) hy;have HY:=kp (fun W m (hW:Below wr.heap.size wr W)=>IH.out y (by have h1:=HM.out y hym;have h2:=HX.out;omega) W A' c' m (SexpR.lasts _ _ _ _ hW hr));clear hr hy hym;go_wp2_with fail
      refine(HY.out _ _ (Below.refl _ _)).mono ?_;rintro e w2 ⟨⟨r,hri,rfl⟩,hb2⟩;have HB2:=kp (HB.out.trans (hb2.mono HB.out.size));have HI2:=kp (I64_wrap (z+r));clear hb2;go_wp2_with fail
      go_roundw
      case rel=>exact⟨k+1,_,by omega,by go_num,rfl,HI2.out,HB2.out⟩
      case measure=>simp [intOf];omega
     ·have hzm':=dfq hzm;have HS:=kp (someInt HZi.out);go_wp2_with fail
      go_ret;exact⟨HS.out,HBw.out⟩
    ·have hge:decide ((k:Int) < (l.length:Int))=false:=dfq (by omega);have HS:=kp (someInt HZi.out);go_wp2_with fail
     go_ret;exact⟨HS.out,HBw.out⟩
def GreatPost (P:Prop) (e:Ending):Prop:=∃ b:Bool,e=.returned (.bool b)/\(b=false->P)
theorem great_yes {P:Prop}:GreatPost P (.returned (.bool true)):=⟨true,rfl,fun h=>by cases h⟩
theorem great_no {P:Prop} (b:Bool) (h:P):GreatPost P (.returned (.bool b)):=⟨b,rfl,fun _=>h⟩
theorem macro_cells {w W:World} {A:Option Addr} {l:List Macro} (h:Lies 6 MacroR w A l) (hb:Below w.heap.size w W) {k:Nat} {m:Macro} (hm:l[k]?=some m) :
  ∃ b o Ap cp Ab cb,A=some ⟨b,o,none⟩/\W.cell? ⟨b,o+k * 6+1,none⟩=some (.slice Ap m.params.length cp)/\W.cell? ⟨b,o+k * 6+3,none⟩=some (.int .i8 m.body.kind)/\W.cell? ⟨b,o+k * 6+3+1,none⟩=some (.string m.body.text)/\W.cell? ⟨b,o+k * 6+3+2,none⟩=some (.slice Ab m.body.l.length cb) /\
   SexpR W [.int .i8 m.body.kind,.string m.body.text,.slice Ab m.body.l.length cb] m.body/\m.params.length<=maxLen:=by
 obtain ⟨b,o,vs,rfl,hbl,_,hcell,Ap,cp,bv,rfl,hsx,_,hpc,hcm,_⟩:=h.at' hm;obtain ⟨Ab,cb,rfl,_⟩:=hsx.open';have e:=fun j u (hu:_)=>((bcell hb).1 b (o+k * 6+j) hbl).trans (hcell j u hu);exact⟨b,o,Ap,cp,Ab,cb,rfl,e 1 _ rfl,e 3 _ rfl,e 4 _ rfl,e 5 _ rfl,SexpR.lasts _ _ _ _ hb hsx,by omega⟩
def Small (g:Sig):Prop:=g.sorts.length<=20/\g.funs.length<=40/\g.macros.length<=40
theorem great4_any {w:World} {A1 A2 A3:Option Addr} {c1 c2 c3:Nat} {g:Sig} (h:SigAt w A1 c1 A2 c2 A3 c3 g) :
  Calls Tryz.prog 8 #[.agg #[.slice A1 g.sorts.length c1,.slice A2 g.funs.length c2,.slice A3 g.macros.length c3]] w fun e w'=>GreatPost (Small g) e/\Below w.heap.size w w':=by
 have HMc:=kp (fun W (hW:Below w.heap.size w W) k m (hm:g.macros[k]?=some m)=>macro_cells h.macros hW hm);obtain ⟨g0,g1,g2⟩:=sig_cells w (.slice A1 g.sorts.length c1) (.slice A2 g.funs.length c2) (.slice A3 g.macros.length c3) 26;have B0:=kp ((brq w).alloc nlq (.cells #[.slice A1 g.sorts.length c1,.slice A2 g.funs.length c2,.slice A3 g.macros.length c3] 26));have hz:w.heap.size < (w.alloc (.cells #[.slice A1 g.sorts.length c1,.slice A2 g.funs.length c2,.slice A3 g.macros.length c3] 26)).heap.size:=by simp
 have HSm:=kp (show(g.sorts.length<=20/\g.funs.length<=40/\g.macros.length<=40)->Small g from id);have HY:=kp (great_yes (P:=Small g));have HN:=kp (fun b (h:Small g)=>great_no (P:=Small g) b h);clear h;generalize hn1:g.sorts.length=n1 at *;generalize hn2:g.funs.length=n2 at *;generalize hn3:g.macros.length=n3 at *
 by_cases h1:(20:Int) < (n1:Int)
 ·have h1':=decide_eq_true h1
  go_enter Tryz.func8,Tryz.ntmps8
  go_wp2_with fail
  go_ret;exact⟨HY.out,B0.out⟩
 ·have h1':=dfq h1
  by_cases h2:(40:Int) < (n2:Int)
  ·have h2':=decide_eq_true h2
   go_enter Tryz.func8,Tryz.ntmps8
   go_wp2_with fail
   go_ret;exact⟨HY.out,B0.out⟩
  ·have h2':=dfq h2
   by_cases h3:(40:Int) < (n3:Int)
   ·have h3':=decide_eq_true h3
    go_enter Tryz.func8,Tryz.ntmps8
    go_wp2_with fail
    go_ret;exact⟨HY.out,B0.out⟩
   ·have h3':=dfq h3;have HS:=kp (HSm.out ⟨by omega,by omega,by omega⟩)
    go_enter Tryz.func8,Tryz.ntmps8
    go_wp2_with fail
    generalize w.alloc (.cells #[.slice A1 n1 c1,.slice A2 n2 c2,.slice A3 n3 c3] 26)=w1 at *;have HC:=kp (fun W (hW:Below w1.heap.size w1 W)=>((bcell hW).1 w.heap.size 2 hz).trans g2);clear g0 g1 g2 hz
    go_loopw [3,4] (fun v i wr=>∃ (k:Nat) (z:Int),k<=n3/\i=.int .i64 k/\v=.int .i64 z/\I64 z/\Below w1.heap.size w1 wr) (fun _ i _=>n3 - (intOf i).toNat)
    case atStart=>exact⟨0,0,by omega,rfl,rfl,⟨by omega,by omega⟩,Below.refl _ _⟩
    case round =>
     obtain ⟨k,z,hk,rfl,rfl,hzi,hb⟩:=hrel;have HZi:=kp hzi;have HB:=kp hb;have q2:=HC.out wr hb;have HBw:=kp (B0.out.trans (hb.mono B0.out.size));clear hzi hb
     by_cases hlt:k < n3
     ·have hlt2:(k:Int) < (n3:Int):=by omega
      obtain ⟨m,hm⟩:∃ m,g.macros[k]?=some m:=⟨_,gqe (by omega)⟩;obtain ⟨b,o,Ap,cp,Ab,cb,rfl,m1,m3,m4,m5,hsx,hpl⟩:=HMc.out wr HBw.out k m hm;have HSz:=kp (size_any _ m.body (Nat.lt_succ_self _) wr Ab cb 4000 hsx);have HMd:=kp (fun W hW=>HMc.out W hW k m hm);have hpl2:(m.params.length:Int)<=9223372036854775807:=by unfold maxLen at hpl;omega
      clear hm hsx hpl;go_wp2_with fail
      refine HSz.out.mono ?_;rintro e w2 ⟨⟨r,hri,rfl⟩,hb2⟩;have HB2:=kp (HB.out.trans (hb2.mono HB.out.size));have HBw2:=kp (HBw.out.trans (hb2.mono HBw.out.size));have HI2:=kp (I64_wrap (z+r));obtain ⟨b',o',Ap',cp',_,_,hA,m1',_,_,_,_,_⟩:=HMd.out w2 HBw2.out;have hA2:b'=b/\o'=o:=by simp at hA;exact⟨hA.1.symm,hA.2.symm⟩
      obtain ⟨rfl,rfl⟩:=hA2;have q3:=HC.out w2 HB2.out;clear hb2 m1 m3 m4 m5 hA q2 hri
      by_cases hp:(20:Int) < (m.params.length:Int)
      ·have hp':=decide_eq_true hp;go_wp2_with fail
       go_ret;exact⟨HY.out,HBw2.out⟩
      ·have hp':=dfq hp;go_wp2_with fail
       go_roundw
       case rel=>exact⟨k+1,_,by omega,by go_num,rfl,HI2.out,HB2.out⟩
       case measure=>simp [intOf];omega
     ·obtain rfl:k=n3:=by omega
      have HR:=kp (HN.out (decide (6000 < z)) HS.out);go_wp2_with fail
      all_goals
       go_ret;exact⟨HN.out _ HS.out,HBw.out⟩
end Gr
namespace El
open Go.RowKit Dt Sg
section
variable {g h:Sig} {mo:Int} {b:Bool}
end
section
variable {g:Sig} {k:Nat} {mo:Int} {b:Bool} {r1 r2:Rec} {known:Nat} {x:Sexp} {env:Env} {st:St}
end
end El
namespace El
open Go.RowKit Dt Sg
def Pw (P:V->V->Prop):List V->List V->Prop
 | [],[]=>True
 | v :: l,w :: m=>P v w/\Pw P l m
 | _,_=>False
def EnvP (P:V->V->Prop):Env->Env->Prop
 | [],[]=>True
 | p :: l,q :: m=>p.1=q.1/\P p.2 q.2/\EnvP P l m
 | _,_=>False
section
variable {P Q:V->V->Prop}
theorem Pw.imp (h:∀ v w,P v w->Q v w):∀ {l m:List V},Pw P l m->Pw Q l m
 | [],[],_=>trivial
 | _ :: _,_ :: _,⟨a,b⟩=>⟨h _ _ a,Pw.imp h b⟩
 | [],_ :: _,h=>h.elim
 | _ :: _,[],h=>h.elim
theorem Pw.len:∀ {l m:List V},Pw P l m->l.length=m.length
 | [],[],_=>rfl
 | _ :: _,_ :: _,⟨_,b⟩=>by simp [Pw.len b]
 | [],_ :: _,h=>h.elim
 | _ :: _,[],h=>h.elim
theorem Pw.append:∀ {l m l' m':List V},Pw P l m->Pw P l' m'->Pw P (l ++ l') (m ++ m')
 | [],[],_,_,_,h=>h
 | _ :: _,_ :: _,_,_,⟨a,b⟩,h=>⟨a,Pw.append b h⟩
 | [],_ :: _,_,_,h,_=>h.elim
 | _ :: _,[],_,_,h,_=>h.elim
theorem Pw.reverse:∀ {l m:List V},Pw P l m->Pw P l.reverse m.reverse
 | [],[],_=>trivial
 | v :: l,w :: m,⟨a,b⟩=>by
  rw [List.reverse_cons,List.reverse_cons];exact(Pw.reverse b).append ⟨a,trivial⟩
 | [],_ :: _,h=>h.elim
 | _ :: _,[],h=>h.elim
theorem Pw.sorts (hP:∀ v w,P v w->v.1=w.1):∀ {l m:List V},Pw P l m->l.map Prod.fst=m.map Prod.fst
 | [],[],_=>rfl
 | _ :: _,_ :: _,⟨a,b⟩=>by simp [hP _ _ a,Pw.sorts hP b]
 | [],_ :: _,h=>h.elim
 | _ :: _,[],h=>h.elim
theorem Pw.head (h0:P v0 v0):∀ {l m:List V},Pw P l m->P (l.getD 0 v0) (m.getD 0 v0)
 | [],[],_=>h0
 | _ :: _,_ :: _,⟨a,_⟩=>a
 | [],_ :: _,h=>h.elim
 | _ :: _,[],h=>h.elim
theorem Pw.tail:∀ {l m:List V},Pw P l m->Pw P l.tail m.tail
 | [],[],_=>trivial
 | _ :: _,_ :: _,⟨_,b⟩=>b
 | [],_ :: _,h=>h.elim
 | _ :: _,[],h=>h.elim
theorem EnvP.imp (h:∀ v w,P v w->Q v w):∀ {l m:Env},EnvP P l m->EnvP Q l m
 | [],[],_=>trivial
 | _ :: _,_ :: _,⟨e,a,b⟩=>⟨e,h _ _ a,EnvP.imp h b⟩
 | [],_ :: _,h=>h.elim
 | _ :: _,[],h=>h.elim
theorem EnvP.append:∀ {l m l' m':Env},EnvP P l m->EnvP P l' m'->EnvP P (l ++ l') (m ++ m')
 | [],[],_,_,_,h=>h
 | _ :: _,_ :: _,_,_,⟨e,a,b⟩,h=>⟨e,a,EnvP.append b h⟩
 | [],_ :: _,_,_,h,_=>h.elim
 | _ :: _,[],_,_,h,_=>h.elim
theorem EnvP.reverse:∀ {l m:Env},EnvP P l m->EnvP P l.reverse m.reverse
 | [],[],_=>trivial
 | v :: l,w :: m,⟨e,a,b⟩=>by
  rw [List.reverse_cons,List.reverse_cons];exact(EnvP.reverse b).append ⟨e,a,trivial⟩
 | [],_ :: _,h=>h.elim
 | _ :: _,[],h=>h.elim
theorem EnvP.zip:∀ (ns:List ByteArray) {l m:List V},Pw P l m->EnvP P (ns.zip l) (ns.zip m)
 | [],_,_,_=>by simp [EnvP]
 | n :: ns,[],[],_=>by simp [EnvP]
 | n :: ns,_ :: _,_ :: _,⟨a,b⟩=>⟨rfl,a,EnvP.zip ns b⟩
 | n :: ns,[],_ :: _,h=>h.elim
 | n :: ns,_ :: _,[],h=>h.elim
end
def appN (c:Cx) (f:Fun4) (k:Nat) (l:List V) (st:St):V × St:=putM c ⟨13,f.len,nthN l 0,nthN l 1,nthN l 2,f.res,k,0⟩ st
def OutP (S B:St->St->Prop) (R:List Node->V->V->Prop) (t:List Node) (p q:V × St):Prop:=(S p.2 q.2/\R q.2.t p.1 q.1/\t <+: q.2.t)\/B p.2 q.2
structure Sim (c1 c2:Cx) where
 same:c1.g=c2.g
 S:St->St->Prop
 B:St->St->Prop
 R:List Node->V->V->Prop
 N:Int->Prop
 ok:∀ {s1 s2},S s1 s2->s1.e=0/\s2.e=0
 bad:∀ {s1 s2 t1 t2},B s1 s2->(s1.e≠0->t1=s1)->(s2.e≠0->t2=s2)->B t1 t2
 bad_ne:∀ {s1 s2},B s1 s2->s1.e≠0\/s2.e≠0
 mono:∀ {t t' v w},R t v w->t <+: t'->R t' v w
 sort:∀ {t v w},R t v w->v.1=w.1
 zero:N 0
 neg:∀ {n},N n->N (-n)
 nought:∀ {s1 s2},S s1 s2->R s2.t v0 v0
 op:∀ {s1 s2} (k n:Int) {l1 l2},S s1 s2->Pw (R s2.t) l1 l2->N n->(n=0\/k=10\/k=11\/k=12)->(S (opM c1 k n l1 s1).2 (opM c2 k n l2 s2).2/\R (opM c2 k n l2 s2).2.t (opM c1 k n l1 s1).1 (opM c2 k n l2 s2).1/\s2.t <+: (opM c2 k n l2 s2).2.t)\/B (opM c1 k n l1 s1).2 (opM c2 k n l2 s2).2
 diff:∀ {s1 s2} (n:Int) {v1 v2 w1 w2},S s1 s2->R s2.t v1 v2->R s2.t w1 w2->(S (diffM c1 v1 w1 n s1).2 (diffM c2 v2 w2 n s2).2/\R (diffM c2 v2 w2 n s2).2.t (diffM c1 v1 w1 n s1).1 (diffM c2 v2 w2 n s2).1/\s2.t <+: (diffM c2 v2 w2 n s2).2.t)\/B (diffM c1 v1 w1 n s1).2 (diffM c2 v2 w2 n s2).2
 number:∀ {s1 s2} {x:Sexp},S s1 s2->x.stands=true->isNumX x=true->(S (numberM c1 x s1).2 (numberM c2 x s2).2/\(numberM c2 x s2).2.t=s2.t/\N (numberM c1 x s1).1)\/B (numberM c1 x s1).2 (numberM c2 x s2).2
 fail:∀ {s1 s2} (e:Int),S s1 s2->e≠0->B (failS e s1) (failS e s2)
 app:∀ {s1 s2} (k:Nat) (f:Fun4) {l1 l2},c2.g.funs[k]?=some f->S s1 s2->Pw (R s2.t) l1 l2->(l2.length:Int)=f.len->sortsM l2 [f.a0,f.a1,f.a2] s2=s2->OutP S B R s2.t (appN c1 f k l1 s1) (appN c2 f k l2 s2)
 mac:∀ {s1 s2} (k:Nat) (m:Macro) {l1 l2},c2.g.macros[k]?=some m->S s1 s2->Pw (R s2.t) l1 l2->l2.length=m.params.length->(∀ {u1 u2 e1 e2},S u1 u2->EnvP (R u2.t) e1 e2->OutP S B R u2.t (termP c1 k m.body e1 u1) (termP c2 k m.body e2 u2))->OutP S B R s2.t (macroM c1 (termP c1) m k l1 s1) (macroM c2 (termP c2) m k l2 s2)
section
variable {c1 c2:Cx}
def Sim.Out (M:Sim c1 c2) (t:List Node) (p q:V × St):Prop:=(M.S p.2 q.2/\M.R q.2.t p.1 q.1/\t <+: q.2.t)\/M.B p.2 q.2
def Sim.OutL (M:Sim c1 c2) (t:List Node) (p q:List V × St):Prop:=(M.S p.2 q.2/\Pw (M.R q.2.t) p.1 q.1/\t <+: q.2.t)\/M.B p.2 q.2
theorem Sim.Out.wide {M:Sim c1 c2} {t u:List Node} {p q:V × St} (h:M.Out u p q) (ht:t <+: u):M.Out t p q:=h.imp_left fun h=>⟨h.1,h.2.1,ht.trans h.2.2⟩
theorem Sim.OutL.wide {M:Sim c1 c2} {t u:List Node} {p q:List V × St} (h:M.OutL u p q) (ht:t <+: u):M.OutL t p q:=h.imp_left fun h=>⟨h.1,h.2.1,ht.trans h.2.2⟩
theorem Sim.env (M:Sim c1 c2) {t u:List Node} {l m:Env} (h:EnvP (M.R t) l m) (ht:t <+: u):EnvP (M.R u) l m:=h.imp fun _ _ h=>M.mono h ht
theorem sorts_stick:∀ (l:List V) (q:List Int) (st:St),st.e≠0->sortsM l q st=st
 | [],_,st,_=>by unfold sortsM;rfl
 | _ :: _,[],st,_=>by unfold sortsM;rfl
 | v :: l,s :: q,st,h=>by unfold sortsM;rw [if_neg (by simp [h])];exact sorts_stick l q st h
theorem term_stick (c:Cx) (known:Nat) (x:Sexp) (env:Env) (st:St) (h:st.e≠0):(termP c known x env st).2=st:=by
 rw [termP_eq];unfold termStep;rw [if_pos h]
variable (M:Sim c1 c2)
end
end El
namespace El
open Go.RowKit Dt Sg
section
variable {c1 c2:Cx} (M:Sim c1 c2)
variable {r1 r2:Sexp->St->V × St}
def Sim.Each (M:Sim c1 c2) (r1 r2:Sexp->St->V × St) (t:List Node) (y:Sexp):Prop:=∀ s1 s2,M.S s1 s2->t <+: s2.t->M.Out s2.t (r1 y s1) (r2 y s2)
end
end El
namespace El
open Go.RowKit Dt Sg
section
variable {c1 c2:Cx} (M:Sim c1 c2)
variable {r1 r2:Sexp->St->V × St}
def Sim.At (M:Sim c1 c2) (kn1 kn2:Nat) (x:Sexp):Prop:=∀ env1 env2 s1 s2,M.S s1 s2->EnvP (M.R s2.t) env1 env2->M.Out s2.t (termP c1 kn1 x env1 s1) (termP c2 kn2 x env2 s2)
variable {kn1 kn2:Nat} {env1 env2:Env} {s1 s2:St}
theorem Sim.At.each {M:Sim c1 c2} {x:Sexp} (h:M.At kn1 kn2 x) (he:EnvP (M.R s2.t) env1 env2):M.Each (fun y=>termP c1 kn1 y env1) (fun y=>termP c2 kn2 y env2) s2.t x:=fun u1 u2 hu ht=>h env1 env2 u1 u2 hu (M.env he ht)
end
end El
namespace El
open Go.RowKit Dt Sg
theorem rparse_below (s:ByteArray) (hs:s.size<=140737488351232) (w:World) :
  Calls Tryz.prog 41 #[.string s] w fun e w'=>e=.returned (.tuple #[.int .i64 (parseV s.data.toList),.int .i64 (parseE s.data.toList)])/\Below w.heap.size w w' :=
 (rparse_any s hs w).mono fun e w' ⟨h1,h2⟩=>⟨h1,by rw [← h2];exact Below.refl _ _⟩
theorem rnumeralX_any {w:World} {A:Option Addr} {c:Nat} {x:Sexp} (h:XAt w A c x) :
  Calls Tryz.prog 140 #[.agg #[.int .i8 x.kind,.string x.text,.slice A x.l.length c]] w (NumPost x w):=by
 have HP:=kp (show ∀ n b e w',numR x=(n,b,e)->Below w.heap.size w w'->NumPost x w (.returned (.tuple #[.int .i64 n,.bool b,.int .i64 e])) w' from fun n b e w' h1 h2=>by unfold NumPost;rw [h1];exact⟨rfl,h2⟩);obtain ⟨hl,hc,hcm,ht,hlb,hk⟩:=h.opens;have HL:=kp hl;have HX:=kp h;have HN:=kp (show numR x=match numN x with | some (n,e)=>(n,true,e) | none=>(0,false,0) from rfl)
 have HNN:=kp (show numN x=if x.kind=1 then some (parseV (Lx.bs x.text),parseE (Lx.bs x.text))
  else if headS x=sMinus then match x.l with
   | [_,y]=>if y.kind=1 then some (- parseV (Lx.bs y.text),parseE (Lx.bs y.text)) else none
   | _=>none
  else none from rfl)
 have HH:=kp (fun W (hW:Below w.heap.size w W)=>rhead_any (h.on hW));have XB:=kp (Bk.new w (.cells #[.int .i8 x.kind,.string x.text,.slice A x.l.length c] 30));have B1:=kp ((brq w).alloc nlq (.cells #[.int .i8 x.kind,.string x.text,.slice A x.l.length c] 30));have hk128:-128<=x.kind/\x.kind<=127:=by simp [Lit.wf] at hk;exact hk
 clear h hl;generalize NumPost x w=PP at *;generalize numR x=res at *;generalize numN x=nx at *
 go_enter Tryz.func140,Tryz.ntmps140
 go_upto_region 1 with fail
 generalize w.alloc (.cells #[.int .i8 x.kind,.string x.text,.slice A x.l.length c] 30)=w1 at *;obtain ⟨q0,q1,q2,qf⟩:=Bk.c3 XB.out
 by_cases h1:x.kind=1
 ·have h1':(x.kind == 1)=true:=by simp [h1]
  replace HNN:=kp (HNN.out.trans (if_pos h1));rw [HNN.out] at HN;have HPr:=kp (fun W=>rparse_below x.text (by omega) W);clear h1;go_wp2_with fail
  refine(HPr.out w1).mono ?_;rintro e w2 ⟨rfl,hb⟩;have B2:=kp (B1.out.trans (hb.mono B1.out.size));clear hb;go_wp2_with fail
  go_ret3;exact HP.out _ _ _ _ HN.out B2.out
 ·have h1':(x.kind == 1)=false:=by simp [h1]
  replace HNN:=kp (HNN.out.trans (if_neg h1));clear h1;go_wp2_with fail
  refine(HH.out w1 B1.out).mono ?_;rintro e w2 ⟨rfl,hb⟩;have B2:=kp (B1.out.trans (hb.mono B1.out.size));have X2:=kp (Bk.on XB.out hb);clear hb q0 q1 q2 qf;obtain ⟨q0,q1,q2,qf⟩:=Bk.c3 X2.out
  by_cases h2:headS x=sMinus
  ·replace HNN:=kp (HNN.out.trans (if_pos h2))
   by_cases h3:x.l.length=2
   ·obtain ⟨y0,y,hxl⟩:∃ y0 y,x.l=[y0,y]:=by
     match hx:x.l,h3 with
     | [y0,y],_=>exact⟨y0,y,rfl⟩
    obtain ⟨b,o,A',c',rfl,hbl,e0,e1,e2,hr⟩:=sexp_cells (HL.out.on SexpR.lasts B2.out) (k:=1) (y:=y) (by rw [hxl];rfl);rw [hxl] at HNN;replace HNN:=kp (show nx=if y.kind=1 then some (- parseV (Lx.bs y.text),parseE (Lx.bs y.text)) else none from HNN.out);obtain ⟨_,_,_,hyt,_,hyk⟩:=XAt.opens hr;have h2':((headS x).toList == [45])=true:=tl_true h2;have h3':((x.l.length:Int) == 2)=true:=by rw [h3];rfl
    have h3'':(1:Int) < (x.l.length:Int):=by omega
    clear h2 h3;rw [Nat.one_mul] at e0 e1 e2;clear hxl
    by_cases h4:y.kind=1
    ·have h4':(y.kind == 1)=true:=by simp [h4]
     replace HNN:=kp (HNN.out.trans (if_pos h4));rw [HNN.out] at HN;have HPr:=kp (fun W=>rparse_below y.text (by omega) W);have hlim:=parseV_lim (Lx.bs y.text);unfold Lx.bs at hlim HN;generalize parseV y.text.data.toList=v at *;generalize parseE y.text.data.toList=ve at *;clear h4;go_wp2_with fail
     refine(HPr.out w2).mono ?_;rintro e w3 ⟨rfl,hb⟩;have B3:=kp (B2.out.trans (hb.mono B2.out.size));clear hb;go_wp2_with fail
     go_ret3;exact HP.out _ _ _ _ HN.out B3.out
    ·have h4':(y.kind == 1)=false:=by simp [h4]
     replace HNN:=kp (HNN.out.trans (if_neg h4));rw [HNN.out] at HN;clear h4;go_wp2_with fail
     go_ret3;exact HP.out _ _ _ _ HN.out B2.out
   ·have h3':((x.l.length:Int) == 2)=false:=by rw [beq_eq_false_iff_ne];omega
    have HNo:=kp (show nx=none by
     rw [HNN.out]
     match hx:x.l,h3 with
     | [],_=>rfl
     | [_],_=>rfl
     | _ :: _ :: _ :: _,_=>rfl)
    rw [HNo.out] at HN;have h2':((headS x).toList == [45])=true:=tl_true h2;clear h2;go_wp2_with fail
    go_ret3;exact HP.out _ _ _ _ HN.out B2.out
  ·replace HNN:=kp (HNN.out.trans (if_neg h2));rw [HNN.out] at HN;have h2':((headS x).toList == [45])=false:=tl_false h2;go_wp2_with fail
   go_ret3;exact HP.out _ _ _ _ HN.out B2.out
theorem ris_any {w:World} {A:Option Addr} {c:Nat} {x:Sexp} (h:XAt w A c x) :
  Calls Tryz.prog 87 #[.agg #[.int .i8 x.kind,.string x.text,.slice A x.l.length c]] w fun e w'=>e=.returned (.bool (isNumX x))/\Below w.heap.size w w':=by
 have B1:=kp ((brq w).alloc nlq (.cells #[.int .i8 x.kind,.string x.text,.slice A x.l.length c] 30));have XB:=kp (Bk.new w (.cells #[.int .i8 x.kind,.string x.text,.slice A x.l.length c] 30));have HN:=kp (rnumeralX_any (h.on B1.out));have HI:=kp (show isNumX x=(numR x).2.1 by unfold isNumX numR;cases numN x with | none=>rfl | some p=>rfl);clear h;unfold NumPost at HN;generalize numR x=nr at *;obtain ⟨n,b,ne⟩:=nr;rw [HI.out];clear HI
 go_enter Tryz.func87,Tryz.ntmps87
 go_upto_region 1 with fail
 generalize w.alloc (.cells #[.int .i8 x.kind,.string x.text,.slice A x.l.length c] 30)=w1 at *;obtain ⟨q0,q1,q2,qf⟩:=Bk.c3 XB.out;go_wp2_with fail
 refine HN.out.mono ?_;rintro e w2 ⟨rfl,hb⟩;have B2:=kp (B1.out.trans (hb.mono B1.out.size));clear hb;go_wp2_with fail
 go_ret;exact⟨rfl,B2.out⟩
end El
end Go.Proofs.YtpmdcckapddchaaGreat
