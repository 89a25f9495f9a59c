import Derived.Test.YtpmdcckapddchaaGreatDoorShort
import Derived.Test.YtpmdcckapddchaaGreatDoorMzf
import Derived.Test.YtpmdcckapddchaaGreatDoorMze
import Derived.Test.YtpmdcckapddchaaGreatDoorMd
import Derived.Defers
/- merged by wip/merge.py from: ElCall ElCall2 -/
set_option maxRecDepth 100000
set_option maxHeartbeats 51200000
namespace Go.Proofs.YtpmdcckapddchaaGreatDoor
namespace El
open Go.RowKit Go.Maps Dt Sg
theorem call1_any {w:World} {xb mb:Nat} (known:Int) (hx:w.heap[xb]?=some (.cells #[.pointer (some ⟨mb,0,none⟩)] 78 (0,0))) {v6:Value} (h6:w.cell? ⟨mb,6,none⟩=some v6) (hf:w.frozen? ⟨mb,6,none⟩=false) :
  CallsD Tryz.prog 100 #[.int .i64 known,.pointer (some ⟨xb,0,none⟩)] .returning w fun e u' w'=>u'=.returning/\(e=.returned (.tuple #[])/\w'=w.setCell ⟨mb,6,none⟩ (.int .i64 known)):=by
 obtain ⟨q0,qf⟩:=Bk.c1 hx;clear hx
 go_enter_d Tryz.func100,Tryz.ntmps100
 go_wp2_with fail
 first | go_end0 | refine bodyPost_ret (results_none rfl _ _ _) rfl ?_
 all_goals exact⟨rfl,rfl⟩
structure MacAt (W0:World) (b o:Nat) (m:Macro) (pA:Option Addr) (pc:Nat) (bA:Option Addr) (bc:Nat):Prop where
 lt:b < W0.heap.size
 c0:W0.cell? ⟨b,o,none⟩=some (.string m.name)
 c1:W0.cell? ⟨b,o+1,none⟩=some (.slice pA m.params.length pc)
 c2:W0.cell? ⟨b,o+2,none⟩=some (.int .i64 m.res)
 c3:W0.cell? ⟨b,o+3,none⟩=some (.int .i8 m.body.kind)
 c4:W0.cell? ⟨b,o+4,none⟩=some (.string m.body.text)
 c5:W0.cell? ⟨b,o+5,none⟩=some (.slice bA m.body.l.length bc)
 body:XAt W0 bA bc m.body
 params:Lies 2 ParamR W0 pA m.params
 res:I64 m.res
theorem mac_get {W0:World} {A:Option Addr} {l:List Macro} (h:Lies 6 MacroR W0 A l) {k:Nat} {m:Macro} (hm:l[k]?=some m):∃ b o pA pc bA bc,A=some ⟨b,o,none⟩/\MacAt W0 b (o+k * 6) m pA pc bA bc:=by
 obtain ⟨b,o,vs,hA,hb,_,hc,hr⟩:=h.at' hm;obtain ⟨pA,pc,bv,rfl,hbv,hp,_,_,_,hres⟩:=hr;obtain ⟨bA,bc,rfl,_⟩:=hbv.open';exact⟨b,o,pA,pc,bA,bc,hA,hb,hc 0 _ rfl,hc 1 _ rfl,hc 2 _ rfl,hc 3 _ rfl,hc 4 _ rfl,hc 5 _ rfl,hbv,hp,hres⟩
theorem MacAt.on {W0 W:World} {b o:Nat} {m:Macro} {pA:Option Addr} {pc:Nat} {bA:Option Addr} {bc:Nat} (h:MacAt W0 b o m pA pc bA bc) (hb:Below W0.heap.size W0 W) :
  W.cell? ⟨b,o,none⟩=some (.string m.name)/\W.cell? ⟨b,o+1,none⟩=some (.slice pA m.params.length pc)/\W.cell? ⟨b,o+2,none⟩=some (.int .i64 m.res)/\W.cell? ⟨b,o+3,none⟩=some (.int .i8 m.body.kind)/\W.cell? ⟨b,o+4,none⟩=some (.string m.body.text)/\W.cell? ⟨b,o+5,none⟩=some (.slice bA m.body.l.length bc):=by
 have k:=fun j=>(bcell hb).1 b j h.lt;exact⟨(k _).trans h.c0,(k _).trans h.c1,(k _).trans h.c2,(k _).trans h.c3,(k _).trans h.c4,(k _).trans h.c5⟩
theorem par_get {W0:World} {A:Option Addr} {l:List Param} (h:Lies 2 ParamR W0 A l) {k:Nat} {q:Param} (hq:l[k]?=some q):∃ b o,A=some ⟨b,o,none⟩/\(q.name.size:Int)<=140737488351232/\∀ W,Below W0.heap.size W0 W->W.cell? ⟨b,o+k * 2,none⟩=some (.string q.name)/\W.cell? ⟨b,o+k * 2+1,none⟩=some (.int .i64 q.sort):=by
 obtain ⟨b,o,vs,hA,hb,_,hc,rfl,hn,_⟩:=h.at' hq;exact⟨b,o,hA,hn,fun W hW=>⟨((bcell hW).1 b _ hb).trans (hc 0 _ rfl),((bcell hW).1 b _ hb).trans (hc 1 _ rfl)⟩⟩
theorem sortsM_at {vs:List V} {q:List Int} {v:V} {s:Int} {k:Nat} {st:St} (hv:vs[k]?=some v) (hs:q[k]?=some s):sortsM (vs.drop k) (q.drop k) st=sortsM (vs.drop (k+1)) (q.drop (k+1)) (sortStep v s st):=by
 have h1:=(gqs hv).1;have h2:=(gqs hs).1;rw [gqe h1] at hv;rw [gqe h2] at hs;simp at hv hs;rw [List.drop_eq_getElem_cons h1,List.drop_eq_getElem_cons h2,hv,hs]
 rfl
theorem zip_take {ns:List ByteArray} {vs:List V} {k:Nat} {n:ByteArray} {v:V} (hn:ns[k]?=some n) (hv:vs[k]?=some v):((ns.zip vs).take (k+1)).reverse=(n,v) :: ((ns.zip vs).take k).reverse:=by
 have h:(ns.zip vs)[k]?=some (n,v):=by rw [List.getElem?_zip_eq_some];exact⟨hn,hv⟩
 rw [List.take_add_one,h];simp
theorem many_any {F:Fix} (hF:FixOk F) {w:World} {known:Int} {st:St} {At:Option Addr} {ct:Nat} (hm:Mk F w known st At ct) (h0:st.e=0) :
  Calls Tryz.prog 58 #[.pointer (some ⟨F.mb,0,none⟩),.int .i64 40] (w.setCell ⟨F.mb,7,none⟩ (.int .i64 (st.calls+1))) (MkPost F known (w.setCell ⟨F.mb,7,none⟩ (.int .i64 (st.calls+1))) st.t At v0 { st with calls:=st.calls+1,e:=40 }):=by
 have hlt:=hm.lt;have hc:=hm.calls;have hk1:Keeps (onMb F) w (w.setCell ⟨F.mb,7,none⟩ (.int .i64 (st.calls+1))):=(Keeps.refl _ w).setCell (.inl (show onMb F F.mb from rfl)) _;have MB:=kp (show(w.setCell ⟨F.mb,7,none⟩ (.int .i64 (st.calls+1))).heap[F.mb]?=some (.cells #[.slice F.A1 F.c.g.sorts.length F.c1,.slice F.A2 F.c.g.funs.length F.c2,.slice F.A3 F.c.g.macros.length F.c3,.slice At st.t.length ct,.int .i64 F.c.most,.bool F.c.build,.int .i64 known,.int .i64 (st.calls+1),.int .i64 st.e] 80 (0,0)) from Bk.set_at hm.blk 7 _)
 -- behind both stores
 have HM:=kp (fun W (hW:Below (w.setCell ⟨F.mb,7,none⟩ (.int .i64 (st.calls+1))).heap.size (w.setCell ⟨F.mb,7,none⟩ (.int .i64 (st.calls+1))) W)=>show Mk F (W.setCell ⟨F.mb,8,none⟩ (.int .i64 40)) known { st with calls:=st.calls+1,e:=40 } At ct/\Keeps (onMb F) (w.setCell ⟨F.mb,7,none⟩ (.int .i64 (st.calls+1))) (W.setCell ⟨F.mb,8,none⟩ (.int .i64 40)) by
  have hk2:Keeps (onMb F) (w.setCell ⟨F.mb,7,none⟩ (.int .i64 (st.calls+1))) (W.setCell ⟨F.mb,8,none⟩ (.int .i64 40)):=(Keeps.of_below hW _).setCell (.inl (show onMb F F.mb from rfl)) _;have hk3:=hk1.trans_same hk2;refine⟨⟨?_,hm.le,hm.lm,hm.len,?_,hm.far,⟨by show 0<=st.calls+1;omega,by show st.calls+1<=301;have:=hc.2.2 h0;omega,fun h=>by cases h⟩,below_mb hF hm.below hk3⟩,hk2⟩
  ·exact Bk.set_at (Bk.on MB.out hW) 8 (.int .i64 40)
  ·exact lies_block hm.table hk3.size (fun hn b o e=>hk3.block b (lies_lt hm.table hn b o e) (hm.far hn b o e)))
 have HFr:=kp (hm.new_far (Nat.le_refl w.heap.size));have hz:(w.setCell ⟨F.mb,7,none⟩ (.int .i64 (st.calls+1))).heap.size=w.heap.size:=by simp [World.setCell]
 clear hm hk1;generalize w.setCell ⟨F.mb,7,none⟩ (.int .i64 (st.calls+1))=w0 at *;have B1:=kp ((brq w0).alloc nlq (.cells #[.int .i64 0,.int .i64 0] 82));have RB:=kp (Bk.new w0 (.cells #[.int .i64 0,.int .i64 0] 82));have M1:=kp (Bk.on MB.out B1.out);have hlt':F.mb < w0.heap.size:=by omega
 rw [← hz] at HFr;clear hz hlt
 go_enter Tryz.func58,Tryz.ntmps58
 go_upto_region 1 with fail
 generalize w0.alloc (.cells #[.int .i64 0,.int .i64 0] 82)=w1 at *;obtain ⟨m0,m1,m2,m3,m4,m5,m6,m7,m8,mf⟩:=Bk.c9 M1.out;obtain ⟨r0,r1,rf⟩:=Bk.c2 RB.out;have he1:(st.e == 0)=true:=by simp [h0]
 have HQ:=kp (HM.out _ B1.out);clear h0;go_wp2_with fail
 refine mk_end (v:=v0) hF Tryz.results58 HQ.out.1 hlt' HQ.out.2 (TN.refl _ _ _) nlq HFr.out (Bk.apart RB.out (by show w0.heap.size≠F.mb;omega) _) ?_ ?_ v0_VI <;> rfl
def doorN (P:Program) (fn:Func) (R:Ending->World->Prop):Exit->Act->World->Prop
 | .panic _,_,_=>False
 | e,a,w=>bodyPostD P fn R e a w
theorem calls_of_doorN {P:Program} {f:FuncId} {fn:Func} {c:Code} {args:Array Value} {w:World} {R:Ending->World->Prop} (hf:P.funcs[f]?=some fn) (hb:fn.body=some c)
  (h:c.wp P (doorN P fn R) { tmps:=args ++ Array.replicate (fn.ntmps - args.size) undef,defers:=[] } w):Calls P f args w R :=
 calls_of_wp_defers hf hb (Code.wp_mono (fun e _ _ h=>by cases e <;> first | exact h.elim | exact h) h)
theorem Mid.retD {F:Fix} {known:Int} {w W:World} {st':St} {t:List Node} {At A':Option Addr} {rb c':Nat} (hF:FixOk F) (h:Mid F known w t At rb W st' A' c') {f:Func} {k:Nat} {v:V} {act:Act} (hf:f.results=#[.cell k 82]) (h2:act.tmps[k]?=some (.pointer (some ⟨rb,0,none⟩))) (hd:act.defers=[]) (hv:VI v) :
  doorN Tryz.prog f (MkPost F known w t At v st') .ret act ((W.setCell ⟨rb,0,none⟩ (.int .i64 v.1)).setCell ⟨rb,1,none⟩ (.int .i64 v.2)):=by
 obtain ⟨_,v',h1,h3⟩:=h.ret hF hf h2 hd hv;show Leaves _ _ _ _ act.defers .returning _;rw [hd];exact⟨v',h1,h3⟩
theorem Mid.retK {F:Fix} {known kk:Int} {w W:World} {st':St} {t:List Node} {At A':Option Addr} {rb xb c':Nat} (hF:FixOk F) (h:Mid F kk w t At rb W st' A' c') (hx:W.heap[xb]?=some (.cells #[.pointer (some ⟨F.mb,0,none⟩)] 78 (0,0))) (hne:xb≠rb) {f:Func} {k:Nat} {v:V} {act:Act} (hf:f.results=#[.cell k 82]) (h2:act.tmps[k]?=some (.pointer (some ⟨rb,0,none⟩))) (hd:act.defers=[{ target:=.fn (.func 100) #[.pointer (some ⟨xb,0,none⟩)],args:=#[.int .i64 known] }]) (hv:VI v) :
  doorN Tryz.prog f (MkPost F known w t At v st') .ret act ((W.setCell ⟨rb,0,none⟩ (.int .i64 v.1)).setCell ⟨rb,1,none⟩ (.int .i64 v.2)):=by
 have hlt:=h.lt;have hle:=h.le;have M2:=(h.maker.other hF (by omega) h.far 0 (.int .i64 v.1)).other hF (by omega) h.far 1 (.int .i64 v.2);have K2:=(h.keeps.setCell (p:=⟨rb,0,none⟩) (.inr h.le) (.int .i64 v.1)).setCell (p:=⟨rb,1,none⟩) (.inr h.le) (.int .i64 v.2);have R2:=Bk.set_at (Bk.set_at h.cell 0 (.int .i64 v.1)) 1 (.int .i64 v.2);have X2:=Bk.apart (Bk.apart hx (p:=⟨rb,0,none⟩) hne (.int .i64 v.1)) (p:=⟨rb,1,none⟩) hne (.int .i64 v.2);generalize (W.setCell ⟨rb,0,none⟩ (.int .i64 v.1)).setCell ⟨rb,1,none⟩ (.int .i64 v.2)=W2 at *;obtain ⟨m0,m1,m2,m3,m4,m5,m6,m7,m8,mf⟩:=Bk.c9 M2.blk;show Leaves _ _ _ _ act.defers .returning _;rw [hd];refine leaves_cons (f:=100) (args:=#[.int .i64 known,.pointer (some ⟨xb,0,none⟩)]) (by simp) (by simp [go_sem]) ?_;refine(call1_any known X2 m6 (mf 6)).mono ?_;rintro e u' w'' ⟨rfl,rfl,rfl⟩;have hset:=Mk.set hF M2 (known':=known) (st':=st') 6 (.int .i64 known) rfl rfl M2.calls;have R3:=Bk.apart R2 (p:=⟨F.mb,6,none⟩) (by show rb≠F.mb;omega) (.int .i64 known);obtain ⟨y0,y1,_⟩:=Bk.c2 (a0:=.int .i64 v.1) (a1:=.int .i64 v.2) R3;show Leaves _ _ _ _ [] .returning _;refine⟨.agg #[.int .i64 v.1,.int .i64 v.2],?_,rfl,hv,K2.trans_same hset.2,A',c',hset.1,h.tn⟩;simp [results,hf,go_sem,y0,y1,h2]
theorem Mid.endD {F:Fix} {known:Int} {w W:World} {st':St} {t:List Node} {At A':Option Addr} {rb c':Nat} {f:Func} {k:Nat} {v:V} {act:Act} (hm:Mk F W known st' A' c') (hk:Keeps (onMb F) w W) (hn:TN w.heap.size t At st'.t A') (hb:W.heap[rb]?=some (.cells #[.int .i64 v.1,.int .i64 v.2] 82 (0,0))) (hf:f.results=#[.cell k 82]) (h2:act.tmps[k]?=some (.pointer (some ⟨rb,0,none⟩))) (hd:act.defers=[]) (hv:VI v) :
  doorN Tryz.prog f (MkPost F known w t At v st') .ret act W:=by
 obtain ⟨y0,y1,_⟩:=Bk.c2 (a0:=.int .i64 v.1) (a1:=.int .i64 v.2) hb;show Leaves _ _ _ _ act.defers .returning _;rw [hd];refine⟨.agg #[.int .i64 v.1,.int .i64 v.2],?_,rfl,hv,hk,A',c',hm,hn⟩;simp [results,hf,go_sem,y0,y1,h2]
section
variable {F:Fix} {known kk:Int} {w wr W W7:World} {st' s7:St} {t:List Node} {At A' A7:Option Addr} {rb c' c7:Nat}
theorem Mid.callSet (h:Mid F known w t At rb W st' A' c') {j:Nat} {u:Value} (hk:Keeps (onMb F) (W.setCell ⟨F.mb,j,none⟩ u) W7) (hm:Mk F W7 kk s7 A7 c7) (ht:TN W.heap.size st'.t A' s7.t A7):Mid F kk w t At rb W7 s7 A7 c7:=by
 have hk':Keeps (onMb F) W W7:=((Keeps.refl (onMb F) W).setCell (p:=⟨F.mb,j,none⟩) (.inl (show onMb F F.mb from rfl)) u).trans_same hk;exact⟨hm,h.keeps.trans_same hk',h.tn.trans ht h.keeps.size,Far.of_tn h.far ht h.size,(hk'.block rb h.size (h.ne h.le)).trans h.cell,h.lt,h.le⟩
theorem Mid.setM (hF:FixOk F) (h:Mid F known w t At rb W st' A' c') (j:Nat) (u:Value) (ht:s7.t=st'.t)
  (hj:#[Value.slice F.A1 F.c.g.sorts.length F.c1,.slice F.A2 F.c.g.funs.length F.c2,.slice F.A3 F.c.g.macros.length F.c3,.slice A' st'.t.length c',.int .i64 F.c.most,.bool F.c.build,.int .i64 known,.int .i64 st'.calls,.int .i64 st'.e].setIfInBounds j u=#[Value.slice F.A1 F.c.g.sorts.length F.c1,.slice F.A2 F.c.g.funs.length F.c2,.slice F.A3 F.c.g.macros.length F.c3,.slice A' s7.t.length c',.int .i64 F.c.most,.bool F.c.build,.int .i64 kk,.int .i64 s7.calls,.int .i64 s7.e])
  (hc:0<=s7.calls/\s7.calls<=301/\(s7.e=0->s7.calls<=300)):Mid F kk w t At rb (W.setCell ⟨F.mb,j,none⟩ u) s7 A' c':=by
 have hs:=Mk.set hF h.maker (known':=kk) (st':=s7) j u ht hj hc;exact⟨hs.1,h.keeps.trans_same hs.2,by rw [ht];exact h.tn,by rw [ht];exact h.far,Bk.apart h.cell (p:=⟨F.mb,j,none⟩) (by show rb≠F.mb;have:=h.lt;have:=h.le;omega) u,h.lt,h.le⟩
def OnQ (F:Fix) (known:Int) (w:World) (t:List Node) (At:Option Addr) (rb:Nat) (wr:World) (pv:V) (st':St) (ab:Nat) (W:World):Prop :=
 ∃ A' c',Mid F known w t At rb W st' A' c'/\Keeps (onMb F) wr W/\W.heap[ab]?=some (.cells #[.int .i64 pv.1,.int .i64 pv.2] 82 (0,0))/\wr.heap.size<=ab/\VI pv
theorem Dm.fin1 (hF:FixOk F) {ab:Nat} {pv:V} (h:Dm F known w t At rb wr W st' A' c') (ha:Ab wr W st' A' ab) (hp:VI pv):OnQ F known w t At rb wr pv st' ab ((W.setCell ⟨ab,0,none⟩ (.int .i64 pv.1)).setCell ⟨ab,1,none⟩ (.int .i64 pv.2)):=by
 have h1:=h.rlt;have h2:=ha.le;have h4:=h.lew;exact⟨A',c',(h.mid.other hF (by omega) (by omega) ha.far 0 _).other hF (by omega) (by omega) ha.far 1 _,h.setK ha pv,Bk.set_at (Bk.set_at ha.cell 0 _) 1 _,h2,hp⟩
end
theorem ValsN.other {base:Nat} {w w':World} {L:Option Addr} {vs:List V} {S:Nat->Prop} (h:ValsN base w L vs) (hk:Keeps S w w') (hS:∀ k,S k->k < base):ValsN base w' L vs:=h.on hk.size (SameIn.keeps hk nlq (fun b a _ hs=>by have:=hS b hs;omega))
theorem has_get {α:Type} {l:List α} {nm:α->ByteArray} {s:ByteArray} (h:hasB (l.map nm) s=true):∃ x,l[findAt (l.map nm) s]?=some x:=by
 have h1:findAt (l.map nm) s < (l.map nm).length:=by
  unfold findAt;rw [if_pos h]
  exact List.findIdx_lt_length.2 (by
   rw [hasB_iff] at h;exact⟨s,h,by simp⟩)
 rw [List.length_map] at h1;exact⟨_,gqe h1⟩
theorem call_any {F:Fix} (hF:FixOk F) {known:Nat} {l:List Sexp} (hT:∀ y ∈ l,TermC F known y) (hB:∀ (k:Nat) (m:Macro),F.c.g.macros[k]?=some m->k < known->TermC F k m.body) {w:World} {st:St} {At:Option Addr} {ct:Nat} (hm:Mk F w known st At ct) (name:ByteArray) {A:Option Addr} (c:Nat) (hl:Lies 3 SexpR F.W0 A l) (hll:l.length<=3000000) {p:Option Addr} {env:Env} (he:EnvS F w p env) :
  Calls Tryz.prog 61 #[.pointer (some ⟨F.mb,0,none⟩),.string name,.slice A l.length c,.pointer p] w (MkPost F known w st.t At (callM F.c (termP F.c) known name l env st).1 (callM F.c (termP F.c) known name l env st).2):=by
 have HE:=kp he;have HT:=kp hT;have HBd:=kp hB;have HL:=kp hl;have hlt:=hm.lt;obtain ⟨hl1,hl2,hl3⟩:=sig_lens hF.ok;have B1:=kp ((brq w).alloc nlq (.cells #[.pointer (some ⟨F.mb,0,none⟩)] 78));have Z1:=kp (show(w.alloc (.cells #[.pointer (some ⟨F.mb,0,none⟩)] 78)).heap.size=w.heap.size+1 by simp);have D1:=kp (Mid.newOn hm B1.out);have X1:=kp (Bk.keep (Bk.new w (.cells #[.pointer (some ⟨F.mb,0,none⟩)] 78)) (.cells #[.int .i64 0,.int .i64 0] 82));rw [Z1.out] at D1;generalize hr:(fun y=>termP F.c known y env)=r
 have HS:=kp (show callM F.c (termP F.c) known name l env st=if hasB (F.c.g.funs.map Fun4.name) name then match F.c.g.funs[findAt (F.c.g.funs.map Fun4.name) name]? with
   | some f=>applyM F.c r f (findAt (F.c.g.funs.map Fun4.name) name) l st
   | none=>(v0,st)
  else if hasB (F.c.g.macros.map Macro.name) name/\findAt (F.c.g.macros.map Macro.name) name < known then match F.c.g.macros[findAt (F.c.g.macros.map Macro.name) name]? with
   | some m =>
    if l.length≠m.params.length then(v0,failS 30 st)
    else macroM F.c (termP F.c) m (findAt (F.c.g.macros.map Macro.name) name) (allM r l st).1 (allM r l st).2
   | none=>(v0,st)
  else(v0,failS 31 st) by rw [← hr];rfl)
 have HAl:=kp (fun(W:World) (A':Option Addr) (c':Nat) (h:Mid F known w st.t At (w.heap.size+1) W st A' c')=>show Calls Tryz.prog 96 #[.pointer (some ⟨F.mb,0,none⟩),.slice A l.length c,.pointer p] W (AllPost F known W st.t A' (allM r l st).1 (allM r l st).2) by
  have:=all_any hF hT h.maker c hl hll (he.on h.keeps)
  rwa [hr] at this)
 have HAp:=kp (fun(W:World) (A':Option Addr) (c':Nat) (h:Mid F known w st.t At (w.heap.size+1) W st A' c') (fi:Nat) (f:Fun4) (hf:F.c.g.funs[fi]?=some f)=>show Calls Tryz.prog 98 #[.pointer (some ⟨F.mb,0,none⟩),.int .i64 (fi:Int),.slice A l.length c,.pointer p] W (MkPost F known W st.t A' (applyM F.c r f fi l st).1 (applyM F.c r f fi l st).2) by
  have:=apply_any hF hT h.maker hf c hl hll (he.on h.keeps)
  rwa [hr] at this)
 have HFu:=kp (fun(W:World) (hW:Below F.W0.heap.size F.W0 W)=>sigFun_any (w:=W) (A1:=F.A1) (A2:=F.A2) (A3:=F.A3) (n1:=F.c.g.sorts.length) (c1:=F.c1) (c2:=F.c2) (n3:=F.c.g.macros.length) (c3:=F.c3) name (hF.sig.funs.on FunR.lasts hW) (by omega));have HMu:=kp (fun(W:World) (hW:Below F.W0.heap.size F.W0 W)=>sigMac_any (w:=W) (A1:=F.A1) (A2:=F.A2) (A3:=F.A3) (n1:=F.c.g.sorts.length) (c1:=F.c1) (n2:=F.c.g.funs.length) (c2:=F.c2) (c3:=F.c3) name (hF.sig.macros.on MacroR.lasts hW) (by omega));have HGf:=kp (fun h=>has_get (l:=F.c.g.funs) (nm:=Fun4.name) (s:=name) h);have HGm:=kp (fun h=>has_get (l:=F.c.g.macros) (nm:=Macro.name) (s:=name) h);clear hm hr hT hB hl he;generalize callM F.c (termP F.c) known name l env st=res at *;generalize findAt (F.c.g.funs.map Fun4.name) name=fi at *;generalize findAt (F.c.g.macros.map Macro.name) name=ki at *;generalize hasB (F.c.g.funs.map Fun4.name) name=fb at *;generalize hasB (F.c.g.macros.map Macro.name) name=kb at *;have hmf:∀ (fn:Fn) (first cap:Array Value) (w:World),(Instr.makeFunc fn first cap).run Tryz.prog w=.ok (.func fn first cap) w:=fun _ _ _ _=>rfl;refine calls_of_doorN Tryz.func61 rfl ?_;simp only [Tryz.ntmps61,List.size_toArray,List.length_cons,List.length_nil,Nat.reduceAdd,Nat.reduceSub,Array.replicate_succ,Array.replicate_zero,List.push_toArray,List.append_toArray,List.nil_append,List.cons_append];go_upto_region 1 with fail
 generalize (w.alloc (.cells #[.pointer (some ⟨F.mb,0,none⟩)] 78)).alloc (.cells #[.int .i64 0,.int .i64 0] 82)=w1 at *;obtain ⟨q0,qf⟩:=Bk.c1 X1.out;obtain ⟨m0,m1,m2,m3,m4,m5,m6,m7,m8,mf⟩:=Bk.c9 D1.out.maker.blk;have HF1:=kp (HFu.out w1 D1.out.maker.below)
 cases fb with
 | true =>
  obtain ⟨f,hf⟩:=HGf.out rfl;replace HS:=kp (show res=applyM F.c r f fi l st by rw [HS.out,if_pos rfl,hf]);have HFg:=kp hf;clear hf;go_wp2_with fail
  refine HF1.out.mono ?_;rintro e w2 ⟨rfl,hb2⟩;have D2:=kp (D1.out.below hb2);have X2:=kp (Bk.on X1.out hb2);clear hb2 q0 qf m0 m1 m2 m3 m4 m5 m6 m7 m8 mf;obtain ⟨q0,qf⟩:=Bk.c1 X2.out;have HA:=kp (HAp.out _ _ _ D2.out fi f HFg.out);rw [← HS.out] at HA;go_wp2_with fail
  refine HA.out.mono ?_;rintro e w7 ⟨rfl,hv,hk7,A7,c7,hm7,ht7⟩;have D7:=kp (D2.out.call hk7 hm7 ht7);unfold valV;clear hk7 hm7 ht7 q0 qf;obtain ⟨r0,r1,rf⟩:=Bk.c2 D7.out.cell;go_wp2_with fail
  refine D7.out.retD (v:=res.1) hF Tryz.results61 ?_ ?_ hv <;> rfl
 | false =>
  replace HS:=kp (show res=if kb/\ki < known then match F.c.g.macros[ki]? with
    | some m =>
     if l.length≠m.params.length then(v0,failS 30 st)
     else macroM F.c (termP F.c) m ki (allM r l st).1 (allM r l st).2
    | none=>(v0,st)
   else(v0,failS 31 st) from HS.out)
  go_wp2_with fail
  refine HF1.out.mono ?_;rintro e w2 ⟨rfl,hb2⟩;have D2:=kp (D1.out.below hb2);have X2:=kp (Bk.on X1.out hb2);clear hb2 q0 qf m0 m1 m2 m3 m4 m5 m6 m7 m8 mf HF1 HAp HGf;obtain ⟨q0,qf⟩:=Bk.c1 X2.out;obtain ⟨m0,m1,m2,m3,m4,m5,m6,m7,m8,mf⟩:=Bk.c9 D2.out.maker.blk;have HM1:=kp (HMu.out w2 D2.out.maker.below)
  cases kb with
  | false =>
   replace HS:=kp (show res=(v0,failS 31 st) by rw [HS.out,if_neg (by simp)]);go_wp2_with fail
   refine HM1.out.mono ?_;rintro e w3 ⟨rfl,hb3⟩;have D3:=kp (D2.out.below hb3);have X3:=kp (Bk.on X2.out hb3);clear hb3 q0 qf m0 m1 m2 m3 m4 m5 m6 m7 m8 mf HM1 HAl;obtain ⟨q0,qf⟩:=Bk.c1 X3.out;have HFl:=kp (fail_any hF D3.out.maker 31 (by decide));go_wp2_with fail
   refine HFl.out.mono ?_;rintro e w7 ⟨rfl,hv,hk7,A7,c7,hm7,ht7⟩;have D7:=kp (D3.out.call hk7 hm7 ht7);unfold valV v0;clear hk7 hm7 ht7;obtain ⟨r0,r1,rf⟩:=Bk.c2 D7.out.cell;go_wp2_with fail
   rw [HS.out];refine D7.out.retD (v:=v0) hF Tryz.results61 ?_ ?_ v0_VI <;> rfl
  | true =>
   obtain ⟨m,hmac⟩:=HGm.out rfl;go_wp2_with fail
   refine HM1.out.mono ?_;rintro e w3 ⟨rfl,hb3⟩;have D3:=kp (D2.out.below hb3);have X3:=kp (Bk.on X2.out hb3);clear hb3 q0 qf m0 m1 m2 m3 m4 m5 m6 m7 m8 mf HM1 D1 X1 D2 X2 HFu HMu HGm;obtain ⟨q0,qf⟩:=Bk.c1 X3.out;obtain ⟨b3,o3,pA,pc,bA,bc,hA3,hma⟩:=mac_get hF.sig.macros hmac;have hkm:(ki:Int) < (F.c.g.macros.length:Int):=by have:=(gqs hmac).1;omega
   have hki:(ki:Int)<=12:=by omega
   have hblk:=D3.out.maker.blk;rw [hA3] at hblk;obtain ⟨m0,m1,m2,m3,m4,m5,m6,m7,m8,mf⟩:=Bk.c9 hblk
   by_cases hlk:ki < known
   ·have g1:¬ known<=ki:=by omega
    replace HS:=kp (show res=if l.length≠m.params.length then(v0,failS 30 st) else macroM F.c (termP F.c) m ki (allM r l st).1 (allM r l st).2 by rw [HS.out,if_pos (by simp [hlk]),hmac]);have HBm:=kp (And.intro hmac hlk);have hps:=mac_small hF.ok hmac
    have hp3:m.params.length<=3:=by
     unfold macroB at hps;simp only [Bool.and_eq_true,decide_eq_true_eq] at hps;exact hps.1.1.1
    have HMa:=kp hma;obtain ⟨n0,n1,n2,n3,n4,n5⟩:=hma.on D3.out.maker.below;clear hlk hmac hps hma
    by_cases hln:l.length=m.params.length
    ·have g2:((l.length:Int) != (m.params.length:Int))=false:=by rw [hln];simp
     replace HS:=kp (HS.out.trans (if_neg (fun h=>h hln)));have HLn:=kp hln;clear hln;go_upto_region 10 with fail
     clear q0 qf m0 m1 m2 m3 m4 m5 m6 m7 m8 mf n0 n1 n2 n3 n4 n5 hblk;have hmm:=@run_makeMap Tryz.prog;have M4:=kp (KeyMap.made (kt:=9) (key:=strKV) w3);have D4:=kp (D3.out.alloc (.map #[] 0));have X4:=kp (Bk.keep X3.out (.map #[] 0));have FM4:=kp (D3.out.fresh (Nat.le_refl w3.heap.size));have hmr:w3.heap.size≠w.heap.size+1:=by have:=D3.out.size;omega
     have hmx:w3.heap.size≠w.heap.size:=by have:=D3.out.size;omega
     have hmw:=D3.out.keeps.size;go_upto_region 11 with fail
     generalize w3.alloc (.map #[] 0)=w4 at *;generalize w3.heap.size=mpb at *;clear hmm D3 X3;have hm4:=M4.out.lt;have HA2:=kp (HAl.out _ _ _ D4.out);have HVl:=kp (allM_len r l st);generalize allM r l st=al at *;obtain ⟨vs,sa⟩:=al;obtain ⟨q0,qf⟩:=Bk.c1 X4.out;go_wp2_with fail
     refine HA2.out.mono ?_;rintro e w5 ⟨L5,cl5,rfl,hcl5,hcm5,hv5,hk5,A5,c5,hm5,ht5⟩;have D5:=kp (D4.out.call hk5 hm5 ht5);have X5:=kp (D4.out.blk hk5 X4.out nlq);have M5:=kp (KeyMap.keeps M4.out hk5 (D4.out.ne hmw));have FM5:=kp (Far.of_tn FM4.out ht5 hm4);have V5:=kp hv5;have hvl5:vs.length<=3:=by have h1:=HVl.out;have h2:=HLn.out;omega
     have HVp:=kp (show vs.length=m.params.length from HVl.out.trans HLn.out);clear hv5 hk5 hm5 ht5 HA2 HAl D4 X4 M4 FM4 q0 qf HVl HLn;go_wp2_with fail
     go_loopw [77] (fun i' wr=>∃ k:Nat,k<=vs.length/\i'=.int .i64 k/\∃ (st':St) (A':Option Addr) (c':Nat),sortsM vs (m.params.map Param.sort) sa=sortsM (vs.drop k) ((m.params.map Param.sort).drop k) st'/\Mid F known w st.t At (w.heap.size+1) wr st' A' c'/\wr.heap[w.heap.size]?=some (.cells #[.pointer (some ⟨F.mb,0,none⟩)] 78 (0,0))/\KeyMap 9 strKV wr mpb k (fun s=>(findE (((m.params.map Param.name).zip vs).take k).reverse s).map valV)/\Far mpb st'.t A'/\ValsN w4.heap.size wr L5 vs) (fun i' _=>vs.length - (intOf i').toNat)
     case atStart=>exact⟨0,Nat.zero_le _,rfl,sa,A5,c5,rfl,D5.out,X5.out,KeyMap.congr M5.out (fun s=>by simp [findE]),FM5.out,V5.out⟩
     case round =>
      obtain ⟨k,hk,rfl,st',A',c',hso,hmid,hxr,hkm,hfm,hvs⟩:=hrel;have HSo:=kp hso;have DR:=kp hmid;have XR:=kp hxr;have KM:=kp hkm;have FM:=kp hfm;have VR:=kp hvs;clear hso hmid hxr hkm hfm hvs
      by_cases hkl:k < vs.length
      ·have hlt2:(k:Int) < (vs.length:Int):=by omega
       have hlt3:(k:Int) < (m.params.length:Int):=by have:=HVp.out;omega
       obtain ⟨v,hv⟩:∃ v,vs[k]?=some v:=⟨_,gqe hkl⟩;obtain ⟨q,hq⟩:∃ q,m.params[k]?=some q:=⟨_,gqe (by have:=HVp.out;omega)⟩;obtain ⟨b,o,rfl,hbl,e0,e1,hvi⟩:=val_get VR.out.now hv;obtain ⟨pb,po,rfl,hqn,hqc⟩:=par_get HMa.out.params hq;have HSt:=kp (sortsM_at (st:=st') hv (show(m.params.map Param.sort)[k]?=some q.sort by rw [List.getElem?_map,hq];rfl));have HZt:=kp (zip_take (show(m.params.map Param.name)[k]?=some q.name by rw [List.getElem?_map,hq];rfl) hv);have BA:=kp ((brq wr).alloc nlq (.cells #[.int .i64 v.1,.int .i64 v.2] 82));have DA:=kp (DR.out.below BA.out);have XA:=kp (Bk.on XR.out BA.out);have VA:=kp (VR.out.below BA.out);have KA:=kp (KeyMap.below KM.out BA.out);have YA:=kp (Bk.new wr (.cells #[.int .i64 v.1,.int .i64 v.2] 82));have hvb:=DR.out.keeps.size;have hvm:mpb≠wr.heap.size:=Nat.ne_of_lt KM.out.lt;have HQc:=kp hqc;clear hv hq BA hvi hqc;go_upto_region 14 with fail
       generalize wr.alloc (.cells #[.int .i64 v.1,.int .i64 v.2] 82)=wa at *;generalize wr.heap.size=vb at *;clear e0 e1;have B0:=kp (brq wa).drew;have HMw:=kp (fun W (hW:Below wa.heap.size wa W)=>(DA.out.below hW).maker.blk);have HNw:=kp (fun W (hW:Below wa.heap.size wa W)=>HMa.out.on (DA.out.below hW).maker.below);have HQw:=kp (fun W (hW:Below wa.heap.size wa W)=>HQc.out W (DA.out.below hW).maker.below);have DD:=kp DA.out.drew;have XD:=kp (Bk.on XA.out B0.out);have VD:=kp (VA.out.below B0.out);have YD:=kp (Bk.on YA.out B0.out);have KD:=kp (KeyMap.below KA.out B0.out)
       by_cases he:st'.e=0
       ·have he1:(st'.e == 0)=true:=by simp [he]
        refine wp_region_held_drew (S:=fun W=>Below wa.heap.size wa W) (by kernel_rfl) (B0.out) (fun hHeld=>?_);refine plz [0,1,2,3,4,5,6,7,8,9,10,11,12,13,14,15,16,17] ?_;iterate 18 (refine tnz (v:=?_) ?_ ?_;rotate_left;(focus first | ((intro w hSw;(obtain ⟨q0,qf⟩:=Bk.c1 (Bk.on XA.out hSw);go_simp;try with_reducible rfl));done) | ((intro w hSw;go_simp;try with_reducible rfl);done) | ((intro w hSw;(obtain ⟨m0,m1,m2,m3,m4,m5,m6,m7,m8,mf⟩:=Bk.c9 (HMw.out _ hSw);go_simp;try with_reducible rfl));done) | ((intro w hSw;(obtain ⟨y0,y1,yf⟩:=Bk.c2 (Bk.on YA.out hSw);go_simp;try with_reducible rfl));done) | ((intro w hSw;(obtain ⟨n0,n1,n2,n3,n4,n5⟩:=HNw.out _ hSw;go_simp;try with_reducible rfl));done) | ((intro w hSw;(obtain ⟨p0,p1⟩:=HQw.out _ hSw;go_simp;try with_reducible rfl));done));try simp only [pt])
        refine pzz ?_;refine dnz ?_
        by_cases hs:v.1=q.sort
        ·have hs1:(v.1 != q.sort)=false:=by simp [hs]
         have HN:=kp (show sortStep v q.sort st'=st' by unfold sortStep;rw [if_neg (fun h=>h.2 hs)]);rw [HN.out,← HSo.out] at HSt;have D5:=DD;have X5:=XD;have V5:=VD;have Y5:=YD;have F5:=FM;have M5:=KD;clear he he1 hs;generalize World.drew _=w5 at *;go_upto_region 16 with fail
         have C0:=kp (brq w5).drew;have D6:=kp D5.out.drew;have X6:=kp (Bk.on X5.out C0.out);have V6:=kp (V5.out.below C0.out);have Y6:=kp (Bk.on Y5.out C0.out);have M6:=kp (KeyMap.below M5.out C0.out);generalize hwd:w5.drew=wd at *;obtain ⟨v8,u8,m8,g8⟩:=KeyMap.store (a:=q.name) (t:=115) (e:=82) M6.out string_key str_inj Tryz.underlying115 (by unfold maxLen;omega) (keyOf_str hqn) (valV v);unfold valV at u8;replace u8:(Instr.mapUpdate 115 (.map (some mpb)) (.string q.name) (.agg #[.int .i64 v.1,.int .i64 v.2])).run Tryz.prog wd=.ok () v8:=u8;have K8:=kp (show Keeps (fun k=>k=mpb) wd v8 from(Keeps.refl _ wd).grown g8 (fun j hj=>.inl (Option.some.inj hj).symm));have HW6:=kp (fun W (hW:Keeps (fun k=>k=mpb) wd W)=>show Below F.W0.heap.size F.W0 W from D6.out.maker.below.trans (hW.below (fun k e=>by have:=hF.lt;omega) D6.out.maker.below.size));have HN6:=kp (fun W (hW:Keeps (fun k=>k=mpb) wd W)=>HMa.out.on (HW6.out W hW));have HQ6:=kp (fun W (hW:Keeps (fun k=>k=mpb) wd W)=>HQc.out W (HW6.out W hW));have HY6:=kp (fun W (hW:Keeps (fun k=>k=mpb) wd W)=>(hW.block vb (lt_of_block Y6.out) (Ne.symm hvm)).trans Y6.out);refine wp_region_held_drew (S:=fun W=>Keeps (fun k=>k=mpb) wd W) (by kernel_rfl) ((by rw [hwd];exact Keeps.refl _ _)) (fun hHeld=>?_);refine plz [0,1,2,3,4,5,6,7,8,9] ?_;iterate 10 (refine tnz (v:=?_) ?_ ?_;rotate_left;(focus first | ((intro w hSw;go_simp;try with_reducible rfl);done) | ((intro w hSw;(obtain ⟨n0,n1,n2,n3,n4,n5⟩:=HN6.out _ hSw;go_simp;try with_reducible rfl));done) | ((intro w hSw;(obtain ⟨p0,p1⟩:=HQ6.out _ hSw;go_simp;try with_reducible rfl));done) | ((intro w hSw;(obtain ⟨y0,y1,yf⟩:=Bk.c2 (HY6.out _ hSw);go_simp;try with_reducible rfl));done));try simp only [pt])
         refine pzz ?_;rw [hwd];refine rd 10 fun K hK=>?_;go_simp;refine hK.out _ _ (K8.out) (fun hHeld=>?_);clear hK K;try simp only [pt]
         refine dnz ?_;have D8:=kp (D6.out.mapped hF g8 F5.out hmw hmr);have X8:=kp ((K8.out.block w.heap.size (lt_of_block X6.out) (Ne.symm hmx)).trans X6.out);have V8:=kp (V6.out.other K8.out (fun k e=>by omega));have M8:=kp (KeyMap.congr (H:=fun s=>(findE (((m.params.map Param.name).zip vs).take (k+1)).reverse s).map valV) m8 (fun s=>by rw [HZt.out,findE_cons]));clear m8 g8;go_wp2_with fail
         go_roundw
         case rel=>exact⟨k+1,by omega,by go_num,st',A',c',HSt.out,D8.out,X8.out,M8.out,F5.out,V8.out⟩
         case measure=>simp [intOf];omega
        ·have hs1:(v.1 != q.sort)=true:=by rw [bne_iff_ne];exact hs
         have HN:=kp (show sortStep v q.sort st'=failS 33 st' by unfold sortStep failS;rw [if_pos ⟨he,hs⟩,if_pos he]);rw [HN.out,← HSo.out] at HSt;have HFl:=kp (fail_any hF DD.out.maker 33 (by decide));clear he he1 hs;generalize World.drew _=wd at *;obtain ⟨q0,qf⟩:=Bk.c1 XD.out;go_wp2_with fail
         refine HFl.out.mono ?_;rintro e w5 ⟨rfl,hv,hk5,A5,c5,hm5,ht5⟩;have D5:=kp (DD.out.call hk5 hm5 ht5);have X5:=kp (DD.out.blk hk5 XD.out nlq);have V5:=kp (VD.out.keep hk5 (by omega));have Y5:=kp (DD.out.blk hk5 YD.out hvb);have F5:=kp (Far.of_tn FM.out ht5 KD.out.lt);have M5:=kp (KeyMap.keeps KD.out hk5 (DD.out.ne hmw));clear hv hk5 hm5 ht5 q0 qf;go_upto_region 16 with fail
         have C0:=kp (brq w5).drew;have D6:=kp D5.out.drew;have X6:=kp (Bk.on X5.out C0.out);have V6:=kp (V5.out.below C0.out);have Y6:=kp (Bk.on Y5.out C0.out);have M6:=kp (KeyMap.below M5.out C0.out);generalize hwd:w5.drew=wd at *;obtain ⟨v8,u8,m8,g8⟩:=KeyMap.store (a:=q.name) (t:=115) (e:=82) M6.out string_key str_inj Tryz.underlying115 (by unfold maxLen;omega) (keyOf_str hqn) (valV v);unfold valV at u8;replace u8:(Instr.mapUpdate 115 (.map (some mpb)) (.string q.name) (.agg #[.int .i64 v.1,.int .i64 v.2])).run Tryz.prog wd=.ok () v8:=u8;have K8:=kp (show Keeps (fun k=>k=mpb) wd v8 from(Keeps.refl _ wd).grown g8 (fun j hj=>.inl (Option.some.inj hj).symm));have HW6:=kp (fun W (hW:Keeps (fun k=>k=mpb) wd W)=>show Below F.W0.heap.size F.W0 W from D6.out.maker.below.trans (hW.below (fun k e=>by have:=hF.lt;omega) D6.out.maker.below.size));have HN6:=kp (fun W (hW:Keeps (fun k=>k=mpb) wd W)=>HMa.out.on (HW6.out W hW));have HQ6:=kp (fun W (hW:Keeps (fun k=>k=mpb) wd W)=>HQc.out W (HW6.out W hW));have HY6:=kp (fun W (hW:Keeps (fun k=>k=mpb) wd W)=>(hW.block vb (lt_of_block Y6.out) (Ne.symm hvm)).trans Y6.out);refine wp_region_held_drew (S:=fun W=>Keeps (fun k=>k=mpb) wd W) (by kernel_rfl) ((by rw [hwd];exact Keeps.refl _ _)) (fun hHeld=>?_);refine plz [0,1,2,3,4,5,6,7,8,9] ?_;iterate 10 (refine tnz (v:=?_) ?_ ?_;rotate_left;(focus first | ((intro w hSw;go_simp;try with_reducible rfl);done) | ((intro w hSw;(obtain ⟨n0,n1,n2,n3,n4,n5⟩:=HN6.out _ hSw;go_simp;try with_reducible rfl));done) | ((intro w hSw;(obtain ⟨p0,p1⟩:=HQ6.out _ hSw;go_simp;try with_reducible rfl));done) | ((intro w hSw;(obtain ⟨y0,y1,yf⟩:=Bk.c2 (HY6.out _ hSw);go_simp;try with_reducible rfl));done));try simp only [pt])
         refine pzz ?_;rw [hwd];refine rd 10 fun K hK=>?_;go_simp;refine hK.out _ _ (K8.out) (fun hHeld=>?_);clear hK K;try simp only [pt]
         refine dnz ?_;have D8:=kp (D6.out.mapped hF g8 F5.out hmw hmr);have X8:=kp ((K8.out.block w.heap.size (lt_of_block X6.out) (Ne.symm hmx)).trans X6.out);have V8:=kp (V6.out.other K8.out (fun k e=>by omega));have M8:=kp (KeyMap.congr (H:=fun s=>(findE (((m.params.map Param.name).zip vs).take (k+1)).reverse s).map valV) m8 (fun s=>by rw [HZt.out,findE_cons]));clear m8 g8;go_wp2_with fail
         go_roundw
         case rel=>exact⟨k+1,by omega,by go_num,(failS 33 st'),A5,c5,HSt.out,D8.out,X8.out,M8.out,F5.out,V8.out⟩
         case measure=>simp [intOf];omega
       ·have he1:(st'.e == 0)=false:=by simp [he]
        have HN:=kp (show sortStep v q.sort st'=st' by unfold sortStep;rw [if_neg (fun h=>he h.1)]);rw [HN.out,← HSo.out] at HSt;refine wp_region_held_drew (S:=fun W=>Below wa.heap.size wa W) (by kernel_rfl) (B0.out) (fun hHeld=>?_);refine plz [0,1,2,3,4,5] ?_;iterate 6 (refine tnz (v:=?_) ?_ ?_;rotate_left;(focus first | ((intro w hSw;(obtain ⟨q0,qf⟩:=Bk.c1 (Bk.on XA.out hSw);go_simp;try with_reducible rfl));done) | ((intro w hSw;go_simp;try with_reducible rfl);done) | ((intro w hSw;(obtain ⟨m0,m1,m2,m3,m4,m5,m6,m7,m8,mf⟩:=Bk.c9 (HMw.out _ hSw);go_simp;try with_reducible rfl));done));try simp only [pt])
        refine pzz ?_;refine sk 6 ?_;try simp only [pt]
        refine sk 7 ?_;try simp only [pt]
        refine sk 8 ?_;try simp only [pt]
        refine sk 9 ?_;try simp only [pt]
        refine sk 10 ?_;try simp only [pt]
        refine sk 11 ?_;try simp only [pt]
        refine sk 12 ?_;try simp only [pt]
        refine sk 13 ?_;try simp only [pt]
        refine sk 14 ?_;try simp only [pt]
        refine sk 15 ?_;try simp only [pt]
        refine sk 16 ?_;try simp only [pt]
        refine tk 17 (v:=?_) ?_ ?_;rotate_left
        ·(intro w hSw;go_simp;try with_reducible rfl)
        try simp only [pt]
        refine dnz ?_;have D5:=DD;have X5:=XD;have V5:=VD;have Y5:=YD;have F5:=FM;have M5:=KD;clear he he1;generalize World.drew _=w5 at *;go_upto_region 16 with fail
        have C0:=kp (brq w5).drew;have D6:=kp D5.out.drew;have X6:=kp (Bk.on X5.out C0.out);have V6:=kp (V5.out.below C0.out);have Y6:=kp (Bk.on Y5.out C0.out);have M6:=kp (KeyMap.below M5.out C0.out);generalize hwd:w5.drew=wd at *;obtain ⟨v8,u8,m8,g8⟩:=KeyMap.store (a:=q.name) (t:=115) (e:=82) M6.out string_key str_inj Tryz.underlying115 (by unfold maxLen;omega) (keyOf_str hqn) (valV v);unfold valV at u8;replace u8:(Instr.mapUpdate 115 (.map (some mpb)) (.string q.name) (.agg #[.int .i64 v.1,.int .i64 v.2])).run Tryz.prog wd=.ok () v8:=u8;have K8:=kp (show Keeps (fun k=>k=mpb) wd v8 from(Keeps.refl _ wd).grown g8 (fun j hj=>.inl (Option.some.inj hj).symm));have HW6:=kp (fun W (hW:Keeps (fun k=>k=mpb) wd W)=>show Below F.W0.heap.size F.W0 W from D6.out.maker.below.trans (hW.below (fun k e=>by have:=hF.lt;omega) D6.out.maker.below.size));have HN6:=kp (fun W (hW:Keeps (fun k=>k=mpb) wd W)=>HMa.out.on (HW6.out W hW));have HQ6:=kp (fun W (hW:Keeps (fun k=>k=mpb) wd W)=>HQc.out W (HW6.out W hW));have HY6:=kp (fun W (hW:Keeps (fun k=>k=mpb) wd W)=>(hW.block vb (lt_of_block Y6.out) (Ne.symm hvm)).trans Y6.out);refine wp_region_held_drew (S:=fun W=>Keeps (fun k=>k=mpb) wd W) (by kernel_rfl) ((by rw [hwd];exact Keeps.refl _ _)) (fun hHeld=>?_);refine plz [0,1,2,3,4,5,6,7,8,9] ?_;iterate 10 (refine tnz (v:=?_) ?_ ?_;rotate_left;(focus first | ((intro w hSw;go_simp;try with_reducible rfl);done) | ((intro w hSw;(obtain ⟨n0,n1,n2,n3,n4,n5⟩:=HN6.out _ hSw;go_simp;try with_reducible rfl));done) | ((intro w hSw;(obtain ⟨p0,p1⟩:=HQ6.out _ hSw;go_simp;try with_reducible rfl));done) | ((intro w hSw;(obtain ⟨y0,y1,yf⟩:=Bk.c2 (HY6.out _ hSw);go_simp;try with_reducible rfl));done));try simp only [pt])
        refine pzz ?_;rw [hwd];refine rd 10 fun K hK=>?_;go_simp;refine hK.out _ _ (K8.out) (fun hHeld=>?_);clear hK K;try simp only [pt]
        refine dnz ?_;have D8:=kp (D6.out.mapped hF g8 F5.out hmw hmr);have X8:=kp ((K8.out.block w.heap.size (lt_of_block X6.out) (Ne.symm hmx)).trans X6.out);have V8:=kp (V6.out.other K8.out (fun k e=>by omega));have M8:=kp (KeyMap.congr (H:=fun s=>(findE (((m.params.map Param.name).zip vs).take (k+1)).reverse s).map valV) m8 (fun s=>by rw [HZt.out,findE_cons]));clear m8 g8;go_wp2_with fail
        go_roundw
        case rel=>exact⟨k+1,by omega,by go_num,st',A',c',HSt.out,D8.out,X8.out,M8.out,F5.out,V8.out⟩
        case measure=>simp [intOf];omega
      ·obtain rfl:k=vs.length:=by omega
       have HSo2:=kp (show sortsM vs (m.params.map Param.sort) sa=st' by rw [HSo.out,List.drop_length];unfold sortsM;rfl);have KZ:=kp (KeyMap.congr (H:=fun s=>(findE ((m.params.map Param.name).zip vs).reverse s).map valV) KM.out (fun s=>by rw [List.take_of_length_le (by rw [List.length_zip];omega)]))
       replace HS:=kp (show res=if st'.e≠0\/F.c.build=false then((m.res,0),st')
        else if 300 < st'.calls+1 then(v0,{ st' with calls:=st'.calls+1,e:=40 })
        else if(termP F.c ki m.body ((m.params.map Param.name).zip vs).reverse { st' with calls:=st'.calls+1 }).2.e=0/\(termP F.c ki m.body ((m.params.map Param.name).zip vs).reverse { st' with calls:=st'.calls+1 }).1.1≠m.res then(v0,{ (termP F.c ki m.body ((m.params.map Param.name).zip vs).reverse { st' with calls:=st'.calls+1 }).2 with e:=33 }) else termP F.c ki m.body ((m.params.map Param.name).zip vs).reverse { st' with calls:=st'.calls+1 } by rw [HS.out];unfold macroM;rw [HSo2.out])
       have HVI:=kp (lies_vi VR.out.now);have hmb:=lt_of_block XR.out;obtain ⟨q0,qf⟩:=Bk.c1 XR.out;obtain ⟨m0,m1,m2,m3,m4,m5,m6,m7,m8,mf⟩:=Bk.c9 DR.out.maker.blk;clear HSo HSo2 KM VR
       by_cases hst:st'.e≠0\/F.c.build=false
       ·replace HS:=kp (HS.out.trans (if_pos hst))
        by_cases he:st'.e=0
        ·have he1:(st'.e != 0)=false:=by simp [he]
         have hbu:F.c.build=false:=hst.resolve_left (fun h=>h he);rw [hbu] at m5;clear hst he hbu;go_upto_region 19 with fail
         clear q0 qf m0 m1 m2 m3 m4 m5 m6 m7 m8 mf;have D0:=kp DR.out.drew;have RB0:=kp D0.out.cell;have hle:=D0.out.le;generalize hwd:wr.drew=wd at *;have HN1:=kp (fun W (hW:Keeps (fun k=>k=w.heap.size+1) wd W)=>HMa.out.on (D0.out.maker.below.trans (hW.below (fun k e=>by have:=hF.lt;omega) D0.out.maker.below.size)));have KA:=kp (((Keeps.refl (fun k=>k=w.heap.size+1) wd).setCell (p:=⟨w.heap.size+1,0,none⟩) (.inl rfl) (.int .i64 0)).setCell (p:=⟨w.heap.size+1,1,none⟩) (.inl rfl) (.int .i64 0));have KB:=kp (KA.out.setCell (p:=⟨w.heap.size+1,0,none⟩) (.inl rfl) (.int .i64 m.res));obtain ⟨r0,r1,rf⟩:=Bk.c2 RB0.out;refine wp_region_held_drew (S:=fun W=>Keeps (fun k=>k=w.heap.size+1) wd W) (by kernel_rfl) ((by rw [hwd];exact Keeps.refl _ _)) (fun hHeld=>?_);refine plz [0,1,2,3] ?_;iterate 4 (refine tnz (v:=?_) ?_ ?_;rotate_left;(focus first | ((intro w hSw;go_simp;try with_reducible rfl);done) | ((intro w hSw;(obtain ⟨n0,n1,n2,n3,n4,n5⟩:=HN1.out _ hSw;go_simp;try with_reducible rfl));done));try simp only [pt])
         refine pzz ?_;rw [hwd];refine rd 4 fun K hK=>?_;go_simp;refine hK.out _ _ (KA.out) (fun hHeld=>?_);clear hK K;try simp only [pt]
         refine tk 5 (v:=?_) ?_ ?_;rotate_left
         ·(intro w hSw;go_simp;try with_reducible rfl)
         try simp only [pt]
         refine rd 6 fun K hK=>?_;go_simp;refine hK.out _ _ (KB.out) (fun hHeld=>?_);clear hK K;try simp only [pt]
         refine dnz ?_;go_wp2_with fail
         rw [HS.out];have hd0:=D0.out.far;have ME:=(((D0.out.maker.other hF (k:=w.heap.size+1) (by omega) hd0 0 (.int .i64 0)).other hF (by omega) hd0 1 (.int .i64 0)).other hF (by omega) hd0 0 (.int .i64 m.res));have KE:=(((D0.out.keeps.setCell (p:=⟨w.heap.size+1,0,none⟩) (.inr (Nat.le_succ _)) (.int .i64 0)).setCell (p:=⟨w.heap.size+1,1,none⟩) (.inr (Nat.le_succ _)) (.int .i64 0)).setCell (p:=⟨w.heap.size+1,0,none⟩) (.inr (Nat.le_succ _)) (.int .i64 m.res));refine Mid.endD (v:=(m.res,0)) ME KE D0.out.tn (Bk.set_at (Bk.set_at (Bk.set_at RB0.out 0 _) 1 _) 0 _) Tryz.results61 ?_ ?_ ⟨HMa.out.res,v0_VI.1⟩ <;> rfl
        ·have he1:(st'.e != 0)=true:=by rw [bne_iff_ne];exact he
         clear hst he;go_upto_region 19 with fail
         clear q0 qf m0 m1 m2 m3 m4 m5 m6 m7 m8 mf;have D0:=kp DR.out.drew;have RB0:=kp D0.out.cell;have hle:=D0.out.le;generalize hwd:wr.drew=wd at *;have HN1:=kp (fun W (hW:Keeps (fun k=>k=w.heap.size+1) wd W)=>HMa.out.on (D0.out.maker.below.trans (hW.below (fun k e=>by have:=hF.lt;omega) D0.out.maker.below.size)));have KA:=kp (((Keeps.refl (fun k=>k=w.heap.size+1) wd).setCell (p:=⟨w.heap.size+1,0,none⟩) (.inl rfl) (.int .i64 0)).setCell (p:=⟨w.heap.size+1,1,none⟩) (.inl rfl) (.int .i64 0));have KB:=kp (KA.out.setCell (p:=⟨w.heap.size+1,0,none⟩) (.inl rfl) (.int .i64 m.res));obtain ⟨r0,r1,rf⟩:=Bk.c2 RB0.out;refine wp_region_held_drew (S:=fun W=>Keeps (fun k=>k=w.heap.size+1) wd W) (by kernel_rfl) ((by rw [hwd];exact Keeps.refl _ _)) (fun hHeld=>?_);refine plz [0,1,2,3] ?_;iterate 4 (refine tnz (v:=?_) ?_ ?_;rotate_left;(focus first | ((intro w hSw;go_simp;try with_reducible rfl);done) | ((intro w hSw;(obtain ⟨n0,n1,n2,n3,n4,n5⟩:=HN1.out _ hSw;go_simp;try with_reducible rfl));done));try simp only [pt])
         refine pzz ?_;rw [hwd];refine rd 4 fun K hK=>?_;go_simp;refine hK.out _ _ (KA.out) (fun hHeld=>?_);clear hK K;try simp only [pt]
         refine tk 5 (v:=?_) ?_ ?_;rotate_left
         ·(intro w hSw;go_simp;try with_reducible rfl)
         try simp only [pt]
         refine rd 6 fun K hK=>?_;go_simp;refine hK.out _ _ (KB.out) (fun hHeld=>?_);clear hK K;try simp only [pt]
         refine dnz ?_;go_wp2_with fail
         rw [HS.out];have hd0:=D0.out.far;have ME:=(((D0.out.maker.other hF (k:=w.heap.size+1) (by omega) hd0 0 (.int .i64 0)).other hF (by omega) hd0 1 (.int .i64 0)).other hF (by omega) hd0 0 (.int .i64 m.res));have KE:=(((D0.out.keeps.setCell (p:=⟨w.heap.size+1,0,none⟩) (.inr (Nat.le_succ _)) (.int .i64 0)).setCell (p:=⟨w.heap.size+1,1,none⟩) (.inr (Nat.le_succ _)) (.int .i64 0)).setCell (p:=⟨w.heap.size+1,0,none⟩) (.inr (Nat.le_succ _)) (.int .i64 m.res));refine Mid.endD (v:=(m.res,0)) ME KE D0.out.tn (Bk.set_at (Bk.set_at (Bk.set_at RB0.out 0 _) 1 _) 0 _) Tryz.results61 ?_ ?_ ⟨HMa.out.res,v0_VI.1⟩ <;> rfl
       ·replace HS:=kp (HS.out.trans (if_neg hst));have he:st'.e=0:=Decidable.byContradiction fun h=>hst (.inl h)
        have hbu:F.c.build=true:=by
         cases h:F.c.build with
         | true=>rfl
         | false=>exact absurd (.inr h) hst
        have he1:(st'.e != 0)=false:=by simp [he]
        have HE0:=kp he;rw [hbu] at m5;have hcl:=DR.out.maker.calls;have hcb:0<=st'.calls/\st'.calls<=300:=⟨hcl.1,hcl.2.2 he⟩;have hcw:IntKind.i64.wrap (st'.calls+1)=st'.calls+1:=IntWalk.i64_in _ (by omega);clear hst he hbu hcl;go_upto_region 21 with fail
        clear m0 m1 m2 m3 m4 m5 m6 m7 m8 mf q0 qf;have hxm:w.heap.size≠F.mb:=by omega
        have X20:=kp (Bk.apart XR.out (p:=⟨F.mb,7,none⟩) hxm (.int .i64 (st'.calls+1)));have MB20:=kp (show(wr.setCell ⟨F.mb,7,none⟩ (.int .i64 (st'.calls+1))).heap[F.mb]?=some (.cells #[.slice F.A1 F.c.g.sorts.length F.c1,.slice F.A2 F.c.g.funs.length F.c2,.slice F.A3 F.c.g.macros.length F.c3,.slice A' st'.t.length c',.int .i64 F.c.most,.bool F.c.build,.int .i64 known,.int .i64 (st'.calls+1),.int .i64 st'.e] 80 (0,0)) from Bk.set_at DR.out.maker.blk 7 _)
        by_cases h300:300 < st'.calls+1
        ·replace HS:=kp (HS.out.trans (if_pos h300));have HMy:=kp (many_any hF DR.out.maker HE0.out);have HCs:=kp (fun(W7:World) (s7:St) (A7:Option Addr) (c7:Nat) (hk:Keeps (onMb F) (wr.setCell ⟨F.mb,7,none⟩ (.int .i64 (st'.calls+1))) W7) (hm:Mk F W7 known s7 A7 c7) (ht:TN (wr.setCell ⟨F.mb,7,none⟩ (.int .i64 (st'.calls+1))).heap.size st'.t A' s7.t A7)=>DR.out.callSet hk hm (show TN wr.heap.size st'.t A' s7.t A7 by rwa [show(wr.setCell ⟨F.mb,7,none⟩ (.int .i64 (st'.calls+1))).heap.size=wr.heap.size by simp [World.setCell]] at ht));generalize wr.setCell ⟨F.mb,7,none⟩ (.int .i64 (st'.calls+1))=w20 at *;obtain ⟨q0,qf⟩:=Bk.c1 X20.out;obtain ⟨m0,m1,m2,m3,m4,m5,m6,m7,m8,mf⟩:=Bk.c9 MB20.out;go_wp2_with fail
         refine HMy.out.mono ?_;rintro e w7 ⟨rfl,hv,hk7,A7,c7,hm7,ht7⟩;have D7:=kp (HCs.out _ _ _ _ hk7 hm7 ht7);unfold valV v0;clear hk7 hm7 ht7 m0 m1 m2 m3 m4 m5 m6 m7 m8 mf q0 qf;obtain ⟨r0,r1,rf⟩:=Bk.c2 D7.out.cell;go_wp2_with fail
         rw [HS.out];refine D7.out.retD (v:=v0) hF Tryz.results61 ?_ ?_ v0_VI <;> rfl
        ·replace HS:=kp (HS.out.trans (if_neg h300));have D20:=kp (DR.out.setM (kk:=known) (s7:={ st' with calls:=st'.calls+1 }) hF 7 (.int .i64 (st'.calls+1)) rfl rfl ⟨by show 0<=st'.calls+1;omega,by show st'.calls+1<=301;omega,fun _=>by show st'.calls+1<=300;omega⟩);have hsk:Keeps (onMb F) wr (wr.setCell ⟨F.mb,7,none⟩ (.int .i64 (st'.calls+1))):=(Keeps.refl _ _).setCell (.inl (show onMb F F.mb from rfl)) _;have K20:=kp (KeyMap.keeps KZ.out hsk (DR.out.ne hmw));clear MB20 hsk;generalize wr.setCell ⟨F.mb,7,none⟩ (.int .i64 (st'.calls+1))=w20 at *;clear DR XR KZ;generalize hst2:({ st' with calls:=st'.calls+1 }:St)=s20 at *;have hc20:st'.calls+1=s20.calls:=by rw [← hst2]
         have ht20:st'.t=s20.t:=by rw [← hst2]
         rw [ht20] at FM;clear hst2 HE0 hcw;obtain ⟨q0,qf⟩:=Bk.c1 X20.out;obtain ⟨m0,m1,m2,m3,m4,m5,m6,m7,m8,mf⟩:=Bk.c9 D20.out.maker.blk;have h300':decide (300 < s20.calls)=false:=dfq (by omega);go_upto_region 25 with fail
         clear m0 m1 m2 m3 m4 m5 m6 m7 m8 mf q0 qf;have D24:=kp (D20.out.setM (kk:=(ki:Int)) (s7:=s20) hF 6 (.int .i64 (ki:Int)) rfl rfl D20.out.maker.calls);have X24:=kp (Bk.apart X20.out (p:=⟨F.mb,6,none⟩) hxm (.int .i64 (ki:Int)));have hsk:Keeps (onMb F) w20 (w20.setCell ⟨F.mb,6,none⟩ (.int .i64 (ki:Int))):=(Keeps.refl _ _).setCell (.inl (show onMb F F.mb from rfl)) _;have K24:=kp (KeyMap.keeps K20.out hsk (D20.out.ne hmw));clear hsk;generalize w20.setCell ⟨F.mb,6,none⟩ (.int .i64 (ki:Int))=w24 at *;clear D20 X20 K20;have E0:=kp (show Dm F ki w st.t At (w.heap.size+1) w24 w24.drew s20 A' c' from⟨D24.out.drew,(Keeps.refl _ _).drew,D24.out.size,D24.out.keeps.size⟩);obtain ⟨pv,ps,hp⟩:∃ pv ps,termP F.c ki m.body ((m.params.map Param.name).zip vs).reverse s20=(pv,ps):=⟨_,_,rfl⟩;rw [hp] at HS;have HP:=kp hp
         have HC:=kp (fun(W:World) (A2:Option Addr) (c2 sb:Nat) (h:Dm F ki w st.t At (w.heap.size+1) w24 W s20 A2 c2) (hs:W.heap[sb]?=some (.cells #[.pointer none,.map (some mpb)] 117 (0,0))) (hsb:w24.heap.size<=sb)=>show Calls Tryz.prog 30 #[.pointer (some ⟨F.mb,0,none⟩),.agg #[.int .i8 m.body.kind,.string m.body.text,.slice bA m.body.l.length bc],.pointer (some ⟨sb,0,none⟩)] W (MkPost F ki W s20.t A2 pv ps) by
          have hen:=(EnvS.nil F W).cons hs (KeyMap.keeps K24.out h.keepsW (D24.out.ne hmw)) (fun q hq=>HVI.out _ (List.of_mem_zip (List.mem_reverse.1 hq)).2) (by have:=h.lew;omega) (by omega);rw [List.append_nil] at hen;have:=HBd.out ki m HBm.out.1 HBm.out.2 h.mid.maker HMa.out.body hen
          rwa [HP.out] at this)
         have HXw:=kp (fun(W:World) (hW:Keeps (onMb F) w24 W)=>D24.out.blk hW X24.out nlq);have HNw:=kp (fun(W:World) (hW:Keeps (onMb F) w24 W)=>HMa.out.on (below_mb hF D24.out.maker.below hW));clear hp
         go_cut [17] from 153 to 161 (fun v17 W=>∃ ab,v17=.pointer (some ⟨ab,0,none⟩)/\OnQ F ki w st.t At (w.heap.size+1) w24 pv ps ab W)
         case first =>
          refine wp_region_held_drew (S:=fun W=>Keeps (onMb F) w24 W) (by kernel_rfl) (E0.out.keepsW) (fun hHeld=>?_);refine plz [0,1,2,3,4,5,6] ?_;iterate 7 (refine tnz (v:=?_) ?_ ?_;rotate_left;(focus first | ((intro w hSw;(obtain ⟨q0,qf⟩:=Bk.c1 (HXw.out _ hSw);go_simp;try with_reducible rfl));done) | ((intro w hSw;go_simp;try with_reducible rfl);done) | ((intro w hSw;(obtain ⟨n0,n1,n2,n3,n4,n5⟩:=HNw.out _ hSw;go_simp;try with_reducible rfl));done));try simp only [pt])
          refine pzz ?_;generalize hwd:World.drew _=wd at *;clear hwd;refine r2y 7 9 (fun K hK=>?_) fun K hK=>?_
          ·go_simp;have E1:=kp (E0.out.alloc (.cells #[.pointer none,.map (some mpb)] 117));have S1:=kp (Bk.new wd (.cells #[.pointer none,.map (some mpb)] 117));have hsb:=E0.out.keepsW.size;refine hK.out _ _ E1.out.keepsW (fun hHeld=>?_);clear hK K;try simp only [pt]
           generalize wd.alloc (.cells #[.pointer none,.map (some mpb)] 117)=u1 at *;generalize wd.heap.size=sb at *;refine r2y 8 9 (fun K hK=>?_) fun K hK=>?_
           ·go_simp;refine(HC.out _ _ _ _ E1.out S1.out hsb).mono ?_;rintro e u2 ⟨rfl,hv,hk7,A7,c7,hm7,ht7⟩;have E2:=kp (E1.out.call hk7 hm7 ht7);have VP:=kp hv;unfold valV;clear hv hk7 hm7 ht7;refine hK.out _ _ E2.out.keepsW (fun hHeld=>?_);clear hK K;have E3:=kp (E2.out.alloc (.cells #[.int .i64 0,.int .i64 0] 82));have Pa:=kp (Ab.new E2.out);refine rd 9 fun K hK=>?_;go_simp;refine hK.out _ _ (E3.out.keepsW) (fun hHeld=>?_);clear hK K;try simp only [pt]
            generalize u2.alloc (.cells #[.int .i64 0,.int .i64 0] 82)=u3 at *;generalize u2.heap.size=z3 at *;obtain ⟨a0,a1,af⟩:=Bk.c2 Pa.out.cell;have QF:=kp (E3.out.fin1 hF Pa.out VP.out);refine rd 10 fun K hK=>?_;go_simp;refine hK.out _ _ ((E3.out.setK Pa.out pv)) (fun hHeld=>?_);clear hK K;try simp only [pt]
            refine dnz ?_;go_wp2_with fail
            go_meet;exact⟨_,rfl,QF.out⟩
           ·go_simp;have E2:=kp (E1.out.alloc (.cells #[.int .i64 0,.int .i64 0] 82));have Pa:=kp (Ab.new E1.out);have S2:=kp (Bk.keep S1.out (.cells #[.int .i64 0,.int .i64 0] 82));refine hK.out _ _ E2.out.keepsW (fun hHeld=>?_);clear hK K;try simp only [pt]
            generalize u1.alloc (.cells #[.int .i64 0,.int .i64 0] 82)=u2 at *;generalize u1.heap.size=z2 at *;refine rd 8 fun K hK=>?_;go_simp;refine(HC.out _ _ _ _ E2.out S2.out hsb).mono ?_;rintro e u3 ⟨rfl,hv,hk7,A7,c7,hm7,ht7⟩;have E3:=kp (E2.out.call hk7 hm7 ht7);replace Pa:=kp (Pa.out.call E2.out hk7 ht7);have VP:=kp hv;unfold valV;clear hv hk7 hm7 ht7;refine hK.out _ _ E3.out.keepsW (fun hHeld=>?_);clear hK K;obtain ⟨a0,a1,af⟩:=Bk.c2 Pa.out.cell;have QF:=kp (E3.out.fin1 hF Pa.out VP.out);refine rd 10 fun K hK=>?_;go_simp;refine hK.out _ _ ((E3.out.setK Pa.out pv)) (fun hHeld=>?_);clear hK K;try simp only [pt]
            refine dnz ?_;go_wp2_with fail
            go_meet;exact⟨_,rfl,QF.out⟩
          ·go_simp;have E1:=kp (E0.out.alloc (.cells #[.int .i64 0,.int .i64 0] 82));have Pa:=kp (Ab.new E0.out);refine hK.out _ _ E1.out.keepsW (fun hHeld=>?_);clear hK K;try simp only [pt]
           generalize wd.alloc (.cells #[.int .i64 0,.int .i64 0] 82)=u1 at *;generalize wd.heap.size=z1 at *;have E2:=kp (E1.out.alloc (.cells #[.pointer none,.map (some mpb)] 117));have S2:=kp (Bk.new u1 (.cells #[.pointer none,.map (some mpb)] 117));have hsb:=E1.out.keepsW.size;replace Pa:=kp (Pa.out.alloc (.cells #[.pointer none,.map (some mpb)] 117));refine rd 7 fun K hK=>?_;go_simp;refine hK.out _ _ (E2.out.keepsW) (fun hHeld=>?_);clear hK K;try simp only [pt]
           generalize u1.alloc (.cells #[.pointer none,.map (some mpb)] 117)=u2 at *;generalize u1.heap.size=sb at *;refine rd 8 fun K hK=>?_;go_simp;refine(HC.out _ _ _ _ E2.out S2.out hsb).mono ?_;rintro e u3 ⟨rfl,hv,hk7,A7,c7,hm7,ht7⟩;have E3:=kp (E2.out.call hk7 hm7 ht7);replace Pa:=kp (Pa.out.call E2.out hk7 ht7);have VP:=kp hv;unfold valV;clear hv hk7 hm7 ht7;refine hK.out _ _ E3.out.keepsW (fun hHeld=>?_);clear hK K;obtain ⟨a0,a1,af⟩:=Bk.c2 Pa.out.cell;have QF:=kp (E3.out.fin1 hF Pa.out VP.out);refine rd 10 fun K hK=>?_;go_simp;refine hK.out _ _ ((E3.out.setK Pa.out pv)) (fun hHeld=>?_);clear hK K;try simp only [pt]
           refine dnz ?_;go_wp2_with fail
           go_meet;exact⟨_,rfl,QF.out⟩
         case rest =>
          obtain ⟨ab,rfl,Aq,cq,hmid,hkq,hab,hla,hvp⟩:=hcut;have D4:=kp hmid;have PA:=kp hab;have XQ:=kp (HXw.out _ hkq);have hla2:=Nat.le_trans D24.out.keeps.size hla;clear hmid hkq hab;generalize hwq:wc=wq at *;clear hwq;have B0:=kp (brq wq).drew;have HMw:=kp (fun W (hW:Below wq.heap.size wq W)=>(D4.out.below hW).maker.blk);have HNq:=kp (fun W (hW:Below wq.heap.size wq W)=>HMa.out.on (D4.out.below hW).maker.below);have D5:=kp D4.out.drew;have X5:=kp (Bk.on XQ.out B0.out);have P5:=kp (Bk.on PA.out B0.out);have hne:w.heap.size≠w.heap.size+1:=by omega
          dsimp only at HS
          go_upto_region 26 with fail
          by_cases he:ps.e=0
          ·have he1:(ps.e == 0)=true:=by simp [he]
           refine wp_region_held_drew (S:=fun W=>Below wq.heap.size wq W) (by kernel_rfl) (B0.out) (fun hHeld=>?_);refine plz [0,1,2,3,4,5,6,7,8,9,10,11,12,13] ?_;iterate 14 (refine tnz (v:=?_) ?_ ?_;rotate_left;(focus first | ((intro w hSw;(obtain ⟨q0,qf⟩:=Bk.c1 (Bk.on XQ.out hSw);go_simp;try with_reducible rfl));done) | ((intro w hSw;go_simp;try with_reducible rfl);done) | ((intro w hSw;(obtain ⟨m0,m1,m2,m3,m4,m5,m6,m7,m8,mf⟩:=Bk.c9 (HMw.out _ hSw);go_simp;try with_reducible rfl));done) | ((intro w hSw;(obtain ⟨y0,y1,yf⟩:=Bk.c2 (Bk.on PA.out hSw);go_simp;try with_reducible rfl));done) | ((intro w hSw;(obtain ⟨n0,n1,n2,n3,n4,n5⟩:=HNq.out _ hSw;go_simp;try with_reducible rfl));done));try simp only [pt])
           refine pzz ?_;refine dnz ?_
           by_cases hs:pv.1=m.res
           ·have hs1:(pv.1 != m.res)=false:=by simp [hs]
            replace HS:=kp (show res=(pv,ps) by rw [HS.out,if_neg (fun h=>h.2 hs)]);clear he he1 hs;generalize wq.drew=w5 at *;obtain ⟨y0,y1,yf⟩:=Bk.c2 P5.out;obtain ⟨r0,r1,rf⟩:=Bk.c2 D5.out.cell;go_wp2_with fail
            rw [HS.out];refine D5.out.retK (v:=pv) hF X5.out hne Tryz.results61 ?_ ?_ hvp <;> rfl
           ·have hs1:(pv.1 != m.res)=true:=by rw [bne_iff_ne];exact hs
            replace HS:=kp (show res=(v0,failS 33 ps) by rw [HS.out,if_pos ⟨he,hs⟩];unfold failS;rw [if_pos he]);have HFl:=kp (fail_any hF D5.out.maker 33 (by decide));clear he he1 hs;generalize wq.drew=w5 at *;obtain ⟨q0,qf⟩:=Bk.c1 X5.out;go_wp2_with fail
            refine HFl.out.mono ?_;rintro e w7 ⟨rfl,hv,hk7,A7,c7,hm7,ht7⟩;have D7:=kp (D5.out.call hk7 hm7 ht7);have X7:=kp (D5.out.blk hk7 X5.out nlq);unfold valV v0;clear hk7 hm7 ht7 q0 qf;obtain ⟨r0,r1,rf⟩:=Bk.c2 D7.out.cell;go_wp2_with fail
            rw [HS.out];refine D7.out.retK (v:=v0) hF X7.out hne Tryz.results61 ?_ ?_ v0_VI <;> rfl
          ·have he1:(ps.e == 0)=false:=by simp [he]
           replace HS:=kp (show res=(pv,ps) by rw [HS.out,if_neg (fun h=>he h.1)]);refine wp_region_held_drew (S:=fun W=>Below wq.heap.size wq W) (by kernel_rfl) (B0.out) (fun hHeld=>?_);refine plz [0,1,2,3,4,5] ?_;iterate 6 (refine tnz (v:=?_) ?_ ?_;rotate_left;(focus first | ((intro w hSw;(obtain ⟨q0,qf⟩:=Bk.c1 (Bk.on XQ.out hSw);go_simp;try with_reducible rfl));done) | ((intro w hSw;go_simp;try with_reducible rfl);done) | ((intro w hSw;(obtain ⟨m0,m1,m2,m3,m4,m5,m6,m7,m8,mf⟩:=Bk.c9 (HMw.out _ hSw);go_simp;try with_reducible rfl));done));try simp only [pt])
           refine pzz ?_;refine sk 6 ?_;try simp only [pt]
           refine sk 7 ?_;try simp only [pt]
           refine sk 8 ?_;try simp only [pt]
           refine sk 9 ?_;try simp only [pt]
           refine sk 10 ?_;try simp only [pt]
           refine sk 11 ?_;try simp only [pt]
           refine sk 12 ?_;try simp only [pt]
           refine tk 13 (v:=?_) ?_ ?_;rotate_left
           ·(intro w hSw;go_simp;try with_reducible rfl)
           try simp only [pt]
           refine dnz ?_;clear he he1;generalize wq.drew=w5 at *;obtain ⟨y0,y1,yf⟩:=Bk.c2 P5.out;obtain ⟨r0,r1,rf⟩:=Bk.c2 D5.out.cell;go_wp2_with fail
           rw [HS.out];refine D5.out.retK (v:=pv) hF X5.out hne Tryz.results61 ?_ ?_ hvp <;> rfl
    ·have g2:((l.length:Int) != (m.params.length:Int))=true:=by rw [bne_iff_ne];omega
     replace HS:=kp (HS.out.trans (if_pos hln));clear hln;have HFl:=kp (fail_any hF D3.out.maker 30 (by decide));go_wp2_with fail
     refine HFl.out.mono ?_;rintro e w7 ⟨rfl,hv,hk7,A7,c7,hm7,ht7⟩;have D7:=kp (D3.out.call hk7 hm7 ht7);unfold valV v0;clear hk7 hm7 ht7;obtain ⟨r0,r1,rf⟩:=Bk.c2 D7.out.cell;go_wp2_with fail
     rw [HS.out];refine D7.out.retD (v:=v0) hF Tryz.results61 ?_ ?_ v0_VI <;> rfl
   ·have g1:known<=ki:=by omega
    replace HS:=kp (show res=(v0,failS 31 st) by rw [HS.out,if_neg (fun h=>hlk h.2)]);clear hlk;have HFl:=kp (fail_any hF D3.out.maker 31 (by decide));go_wp2_with fail
    refine HFl.out.mono ?_;rintro e w7 ⟨rfl,hv,hk7,A7,c7,hm7,ht7⟩;have D7:=kp (D3.out.call hk7 hm7 ht7);unfold valV v0;clear hk7 hm7 ht7;obtain ⟨r0,r1,rf⟩:=Bk.c2 D7.out.cell;go_wp2_with fail
    rw [HS.out];refine D7.out.retD (v:=v0) hF Tryz.results61 ?_ ?_ v0_VI <;> rfl
end El
end Go.Proofs.YtpmdcckapddchaaGreatDoor
