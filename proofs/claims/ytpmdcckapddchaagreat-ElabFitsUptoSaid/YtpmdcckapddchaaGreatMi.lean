import Derived.Test.YtpmdcckapddchaaGreatShort
import Derived.Test.YtpmdcckapddchaaGreatMh
import Derived.Test.YtpmdcckapddchaaGreatMb
/- merged by wip/merge.py from: RdK -/
set_option maxRecDepth 100000
set_option maxHeartbeats 51200000
namespace Go.Proofs.YtpmdcckapddchaaGreat
namespace El
open Go.RowKit Dt Sg
structure RFix where
 W0:World
 rb:Nat
 A1:Option Addr
 c1:Nat
 A2:Option Addr
 c2:Nat
 A3:Option Addr
 c3:Nat
 g:Sig
structure RFixOk (F:RFix):Prop where
 sig:SigAt F.W0 F.A1 F.c1 F.A2 F.c2 F.A3 F.c3 F.g
 ok:checkE F.g=0
 lt:F.W0.heap.size<=F.rb
 l1:F.g.sorts.length<=1000000
 l2:F.g.funs.length<=1000000
 l3:F.g.macros.length<=1000000
def onRb (F:RFix) (k:Nat):Prop:=k=F.rb
def cxR (F:RFix):Cx:=⟨F.g,0,false⟩
structure RR (F:RFix) (w:World) (e:Int):Prop where
 blk:w.heap[F.rb]?=some (.cells #[.slice F.A1 F.g.sorts.length F.c1,.slice F.A2 F.g.funs.length F.c2,.slice F.A3 F.g.macros.length F.c3,.slice none 0 0,.int .i64 0,.bool false,.int .i64 F.g.macros.length,.int .i64 0,.int .i64 e] 97 (0,0))
 below:Below F.W0.heap.size F.W0 w
abbrev Vy:=ByteArray × Int
def VarR (_:World) (vs:List Value) (p:Vy):Prop:=vs=[.string p.1,.int .i64 p.2,.int .i64 0]/\(p.1.size:Int)<=140737488351232/\I64 p.2
theorem VarR.lasts:Lasts VarR:=fun _ _ _ _ _ h=>h
theorem var_get {w:World} {A:Option Addr} {l:List Vy} (h:Lies 3 VarR w A l) {k:Nat} {p:Vy} (hp:l[k]?=some p):∃ b o,A=some ⟨b,o,none⟩/\b < w.heap.size/\(w.cell? ⟨b,o+k * 3,none⟩=some (.string p.1)/\w.cell? ⟨b,o+k * 3+1,none⟩=some (.int .i64 p.2)/\w.cell? ⟨b,o+k * 3+2,none⟩=some (.int .i64 0))/\(p.1.size:Int)<=140737488351232/\I64 p.2:=by
 obtain ⟨b,o,vs,hA,hb,_,hc,rfl,hs,hi⟩:=h.at' hp;exact⟨b,o,hA,hb,⟨hc 0 _ rfl,hc 1 _ rfl,hc 2 _ rfl⟩,hs,hi⟩
def VarsS (F:RFix) (w:World) (A:Option Addr) (l:List Vy):Prop:=∀ W,Keeps (onRb F) w W->Lies 3 VarR W A l
theorem VarsS.now {F:RFix} {w:World} {A:Option Addr} {l:List Vy} (h:VarsS F w A l):Lies 3 VarR w A l:=h w (Keeps.refl _ _)
theorem VarsS.on {F:RFix} {w w':World} {A:Option Addr} {l:List Vy} (h:VarsS F w A l) (hk:Keeps (onRb F) w w'):VarsS F w' A l:=fun W hW=>h W (hk.trans_same hW)
theorem VarsS.below {F:RFix} {w w':World} {A:Option Addr} {l:List Vy} (h:VarsS F w A l) (hb:Below w.heap.size w w'):VarsS F w' A l:=h.on (Keeps.of_below hb _)
structure VOk (nm:ByteArray) (s:Int) (q:V × St):Prop where
 size:(nm.size:Int)<=140737488351232
 i64:I64 s
 same:q.2.e=0->s=q.1.1
def RPost (F:RFix) (w:World) (q:V × St) (e:Ending) (w':World):Prop :=
 ∃ nm s,e=.returned (.agg #[.string nm,.int .i64 s,.int .i64 0])/\VOk nm s q/\Keeps (onRb F) w w'/\RR F w' q.2.e
section
variable {F:RFix} {w W W7:World} {e e7:Int} {rc:Nat}
theorem RR.lt (h:RR F w e):F.rb < w.heap.size:=lt_of_block h.blk
theorem RR.keep (h:RR F w e) (hb:Below w.heap.size w W):RR F W e:=⟨Bk.on h.blk hb,h.below.trans (hb.mono h.below.size)⟩
structure RMid (F:RFix) (w:World) (rc:Nat) (W:World) (e:Int):Prop where
 rd:RR F W e
 keeps:Keeps (onRb F) w W
 cell:W.heap[rc]?=some (.cells #[.string { data:=#[] },.int .i64 0,.int .i64 0] 94 (0,0))
 lt:F.rb < w.heap.size
 le:w.heap.size<=rc
theorem RMid.newOn (hm:RR F w e) (hb:Below w.heap.size w W):RMid F w W.heap.size (W.alloc (.cells #[.string { data:=#[] },.int .i64 0,.int .i64 0] 94)) e :=
 ⟨hm.keep (hb.alloc hb.size _),Keeps.of_below (hb.alloc hb.size _) _,Bk.new W _,hm.lt,hb.size⟩
theorem RMid.new (hm:RR F w e):RMid F w w.heap.size (w.alloc (.cells #[.string { data:=#[] },.int .i64 0,.int .i64 0] 94)) e:=RMid.newOn hm (Below.refl _ _)
theorem RMid.ne (h:RMid F w rc W e) {k:Nat} (hk:w.heap.size<=k):¬ onRb F k:=by
 have:=h.lt;unfold onRb;omega
theorem RMid.size (h:RMid F w rc W e):rc < W.heap.size:=lt_of_block h.cell
theorem RMid.below (h:RMid F w rc W e) (hb:Below W.heap.size W W7):RMid F w rc W7 e:=⟨h.rd.keep hb,h.keeps.trans_same (Keeps.of_below hb _),Bk.on h.cell hb,h.lt,h.le⟩
theorem RMid.alloc (h:RMid F w rc W e) (o:Obj):RMid F w rc (W.alloc o) e:=h.below ((Below.refl _ _).alloc nlq o)
theorem RMid.drew (h:RMid F w rc W e):RMid F w rc W.drew e:=h.below (Below.refl _ _).drew
theorem RMid.call (h:RMid F w rc W e) (hk:Keeps (onRb F) W W7) (hm:RR F W7 e7):RMid F w rc W7 e7 :=
 ⟨hm,h.keeps.trans_same hk,(hk.block rc h.size (h.ne h.le)).trans h.cell,h.lt,h.le⟩
theorem RMid.other (hF:RFixOk F) (h:RMid F w rc W e) {k:Nat} (hk:w.heap.size<=k) (hn:k≠rc) (j:Nat) (u:Value):RMid F w rc (W.setCell ⟨k,j,none⟩ u) e :=
 ⟨⟨Bk.apart h.rd.blk (p:=⟨k,j,none⟩) (by have:=h.lt;show F.rb≠k;omega) u,h.rd.below.setCell (p:=⟨k,j,none⟩) (by have:=h.lt;have:=hF.lt;show F.W0.heap.size<=k;omega) u⟩,h.keeps.setCell (p:=⟨k,j,none⟩) (.inr hk) u,Bk.apart h.cell (p:=⟨k,j,none⟩) (Ne.symm hn) u,h.lt,h.le⟩
theorem RMid.blk (h:RMid F w rc W e) (hk:Keeps (onRb F) W W7) {k:Nat} {o:Obj} (hb:W.heap[k]?=some o) (hw:w.heap.size<=k):W7.heap[k]?=some o:=(hk.block k (lt_of_block hb) (h.ne hw)).trans hb
theorem vary_ret {f:Func} {b k:Nat} {x y z:Value} {act:Act} {R:Ending->World->Prop} (hf:f.results=#[.cell k 94]) (hb:w.heap[b]?=some (.cells #[x,y,z] 94 (0,0))) (h2:act.tmps[k]?=some (.pointer (some ⟨b,0,none⟩))) (hd:act.defers=[]) (hR:R (.returned (.agg #[x,y,z])) w) :
  bodyPost Tryz.prog f R .ret act w:=by
 obtain ⟨y0,y1,y2,_⟩:=Bk.c3 hb;refine bodyPost_ret (v:=.agg #[x,y,z]) ?_ hd hR;simp [results,hf,go_sem,y0,y1,y2,h2]
theorem RMid.ret (hF:RFixOk F) {q:V × St} (h:RMid F w rc W q.2.e) {f:Func} {k:Nat} {nm:ByteArray} {s:Int} {act:Act} (hf:f.results=#[.cell k 94]) (h2:act.tmps[k]?=some (.pointer (some ⟨rc,0,none⟩))) (hd:act.defers=[]) (hv:VOk nm s q) :
  bodyPost Tryz.prog f (RPost F w q) .ret act (((W.setCell ⟨rc,0,none⟩ (.string nm)).setCell ⟨rc,1,none⟩ (.int .i64 s)).setCell ⟨rc,2,none⟩ (.int .i64 0)):=by
 have hne:F.rb≠rc:=by have:=h.lt;have:=h.le;omega
 have hge:F.W0.heap.size<=rc:=by have:=h.lt;have:=h.le;have:=hF.lt;omega
 refine vary_ret hf (b:=rc) (x:=.string nm) (y:=.int .i64 s) (z:=.int .i64 0) (Bk.set_at (Bk.set_at (Bk.set_at h.cell 0 _) 1 _) 2 _) h2 hd ?_
 exact⟨nm,s,rfl,hv,((h.keeps.setCell (p:=⟨rc,0,none⟩) (.inr h.le) _).setCell (p:=⟨rc,1,none⟩) (.inr h.le) _).setCell (p:=⟨rc,2,none⟩) (.inr h.le) _,
  ⟨Bk.apart (Bk.apart (Bk.apart h.rd.blk (p:=⟨rc,0,none⟩) hne _) (p:=⟨rc,1,none⟩) hne _) (p:=⟨rc,2,none⟩) hne _,((h.rd.below.setCell (p:=⟨rc,0,none⟩) hge _).setCell (p:=⟨rc,1,none⟩) hge _).setCell (p:=⟨rc,2,none⟩) hge _⟩⟩
theorem nil_ok {q:V × St} (h:q.2.e=0->q.1.1=0):VOk { data:=#[] } 0 q:=⟨by decide,by unfold I64;omega,fun h0=>(h h0).symm⟩
end
theorem fails_any {F:RFix} (hF:RFixOk F) {w:World} {st:St} (hm:RR F w st.e) (e:Int) :
  Calls Tryz.prog 90 #[.pointer (some ⟨F.rb,0,none⟩),.int .i64 e] w (RPost F w (v0,failS e st)):=by
 have D1:=kp (RMid.new hm);have HS:=kp (show failS e st=if st.e=0 then { st with e:=e } else st from rfl);clear hm;generalize failS e st=st' at *
 go_enter Tryz.func90,Tryz.ntmps90
 go_upto_region 1 with fail
 generalize w.alloc (.cells #[.string { data:=#[] },.int .i64 0,.int .i64 0] 94)=w1 at *;obtain ⟨m0,m1,m2,m3,m4,m5,m6,m7,m8,mf⟩:=Bk.c9 D1.out.rd.blk;obtain ⟨r0,r1,r2,rf⟩:=Bk.c3 D1.out.cell
 by_cases he0:st.e=0
 ·have he1:(st.e == 0)=true:=by simp [he0]
  replace HS:=kp (HS.out.trans (if_pos he0));have hne:F.rb≠w.heap.size:=by have:=D1.out.lt;omega
  have D2:=kp (show RMid F w w.heap.size (w1.setCell ⟨F.rb,8,none⟩ (.int .i64 e)) st'.e from
   ⟨⟨by have:=Bk.set_at D1.out.rd.blk 8 (.int .i64 e);rw [HS.out];exact this,D1.out.rd.below.setCell (p:=⟨F.rb,8,none⟩) hF.lt _⟩,D1.out.keeps.setCell (p:=⟨F.rb,8,none⟩) (.inl rfl) _,Bk.apart D1.out.cell (p:=⟨F.rb,8,none⟩) (Ne.symm hne) _,D1.out.lt,D1.out.le⟩)
  clear he0;go_wp2_with fail
  refine RMid.ret hF (q:=(v0,st')) D2.out Tryz.results90 ?_ ?_ (nil_ok (fun _=>rfl)) <;> rfl
 ·have he1:(st.e == 0)=false:=by simp [he0]
  replace HS:=kp (HS.out.trans (if_neg he0));clear he0;go_wp2_with fail
  rw [← HS.out] at D1;refine RMid.ret hF (q:=(v0,st')) D1.out Tryz.results90 ?_ ?_ (nil_ok (fun _=>rfl)) <;> rfl
theorem rput_any {F:RFix} (hF:RFixOk F) {w:World} {st:St} (hm:RR F w st.e) (n0 n1 n2 n3 n4 n5 n6 n7:Int) (hs:I64 n5) :
  Calls Tryz.prog 179 #[.pointer (some ⟨F.rb,0,none⟩),.agg #[.int .i8 n0,.int .i8 n1,.int .i64 n2,.int .i64 n3,.int .i64 n4,.int .i64 n5,.int .i64 n6,.int .i64 n7]] w (RPost F w ((n5,0),st)):=by
 have B1:=kp ((brq w).alloc nlq (.cells #[.int .i8 n0,.int .i8 n1,.int .i64 n2,.int .i64 n3,.int .i64 n4,.int .i64 n5,.int .i64 n6,.int .i64 n7] 55));have Z1:=kp (show(w.alloc (.cells #[.int .i8 n0,.int .i8 n1,.int .i64 n2,.int .i64 n3,.int .i64 n4,.int .i64 n5,.int .i64 n6,.int .i64 n7] 55)).heap.size=w.heap.size+1 by simp);have D1:=kp (RMid.newOn hm B1.out);have X1:=kp (Bk.keep (Bk.new w (.cells #[.int .i8 n0,.int .i8 n1,.int .i64 n2,.int .i64 n3,.int .i64 n4,.int .i64 n5,.int .i64 n6,.int .i64 n7] 55)) (.cells #[.string { data:=#[] },.int .i64 0,.int .i64 0] 94));rw [Z1.out] at D1;clear hm
 go_enter Tryz.func179,Tryz.ntmps179
 go_upto_region 1 with fail
 generalize (w.alloc (.cells #[.int .i8 n0,.int .i8 n1,.int .i64 n2,.int .i64 n3,.int .i64 n4,.int .i64 n5,.int .i64 n6,.int .i64 n7] 55)).alloc (.cells #[.string { data:=#[] },.int .i64 0,.int .i64 0] 94)=w1 at *;obtain ⟨x0,x1,x2,x3,x4,x5,x6,x7,xf⟩:=Bk.c8 X1.out;have D2:=kp (D1.out.alloc (.cells #[.string { data:=#[] },.int .i64 n5,.int .i64 0] 94));have V2:=kp (Bk.new w1 (.cells #[.string { data:=#[] },.int .i64 n5,.int .i64 0] 94));go_upto_region 2 with fail
 generalize w1.alloc (.cells #[.string { data:=#[] },.int .i64 n5,.int .i64 0] 94)=w2 at *;clear x0 x1 x2 x3 x4 x5 x6 x7 xf;obtain ⟨m0,m1,m2,m3,m4,m5,m6,m7,m8,mf⟩:=Bk.c9 D2.out.rd.blk;obtain ⟨r0,r1,r2,rf⟩:=Bk.c3 D2.out.cell;obtain ⟨v0',v1',v2',vf⟩:=Bk.c3 V2.out;go_wp2_with fail
 refine RMid.ret hF (q:=((n5,0),st)) D2.out Tryz.results179 ?_ ?_ ⟨by decide,hs,fun _=>rfl⟩ <;> rfl
end El
end Go.Proofs.YtpmdcckapddchaaGreat
