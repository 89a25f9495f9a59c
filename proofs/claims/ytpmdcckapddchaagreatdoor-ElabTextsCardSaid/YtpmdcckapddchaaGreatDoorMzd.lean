import Derived.Test.YtpmdcckapddchaaGreatDoorShort
import Derived.Test.YtpmdcckapddchaaGreatDoorMh
import Derived.Test.YtpmdcckapddchaaGreatDoorMu
import Derived.Test.YtpmdcckapddchaaGreatDoorMx
import Derived.Test.YtpmdcckapddchaaGreatDoorMb
/- merged by wip/merge.py from: ElMk ElEnv ElPut ElNumM -/
set_option maxRecDepth 100000
set_option maxHeartbeats 51200000
namespace Go.Proofs.YtpmdcckapddchaaGreatDoor
namespace El
open Go.RowKit Go.Maps Dt Sg
structure Fix where
 W0:World
 mb:Nat
 A1:Option Addr
 c1:Nat
 A2:Option Addr
 c2:Nat
 A3:Option Addr
 c3:Nat
 c:Cx
structure FixOk (F:Fix):Prop where
 sig:SigAt F.W0 F.A1 F.c1 F.A2 F.c2 F.A3 F.c3 F.c.g
 ok:checkE F.c.g=0
 lt:F.W0.heap.size<=F.mb
 most:F.c.most<=1000000
 m64:I64 F.c.most
def onMb (F:Fix) (k:Nat):Prop:=k=F.mb
def Sta (F:Fix) (P:World->Prop) (w:World):Prop:=∀ W,Keeps (onMb F) w W->P W
theorem Sta.now {F:Fix} {P:World->Prop} {w:World} (h:Sta F P w):P w:=h w (Keeps.refl _ _)
theorem Sta.on {F:Fix} {P:World->Prop} {w w':World} (h:Sta F P w) (hk:Keeps (onMb F) w w'):Sta F P w':=fun W hW=>h W (hk.trans_same hW)
theorem Sta.imp {F:Fix} {P Q:World->Prop} {w:World} (h:Sta F P w) (hi:∀ W,P W->Q W):Sta F Q w:=fun W hW=>hi W (h W hW)
def TN (B:Nat) (t:List Node) (At:Option Addr) (t':List Node) (At':Option Addr):Prop:=(t'=t/\At'=At)\/(t'≠[]->∀ b o,At'=some ⟨b,o,none⟩->B<=b)
theorem TN.refl (B:Nat) (t:List Node) (At:Option Addr):TN B t At t At:=.inl ⟨rfl,rfl⟩
theorem TN.mono {B C:Nat} {t t':List Node} {At At':Option Addr} (h:TN B t At t' At') (hC:C<=B):TN C t At t' At':=h.imp_right fun h ht b o e=>Nat.le_trans hC (h ht b o e)
theorem TN.trans {B C:Nat} {t t' t2:List Node} {At At' A2:Option Addr} (h:TN B t At t' At') (k:TN C t' At' t2 A2) (hC:B<=C):TN B t At t2 A2:=by
 rcases k with⟨rfl,rfl⟩ | k
 ·exact h
 ·exact .inr fun ht b o e=>Nat.le_trans hC (k ht b o e)
def Far (k:Nat) (t:List Node) (At:Option Addr):Prop:=t≠[]->∀ b o,At=some ⟨b,o,none⟩->b≠k
theorem Far.of_tn {B k:Nat} {t t':List Node} {At At':Option Addr} (h:Far k t At) (hn:TN B t At t' At') (hk:k < B):Far k t' At':=by
 rcases hn with⟨rfl,rfl⟩ | hn
 ·exact h
 ·intro ht b o e hb;have:=hn ht b o e
  omega
theorem lies_block {w w':World} {At:Option Addr} {t:List Node} (h:Lies 8 NodeR w At t) (hs:w.heap.size<=w'.heap.size) (hb:t≠[]->∀ b o,At=some ⟨b,o,none⟩->w'.heap[b]?=w.heap[b]?):Lies 8 NodeR w' At t:=by
 rcases h with h | ⟨b,o,hA,hlt,hr⟩
 ·exact .inl h
 ·by_cases ht:t=[]
  ·exact .inl ht
  refine .inr ⟨b,o,hA,by omega,fun i x hx=>?_⟩;obtain ⟨vs,h1,h2,h3⟩:=hr i x hx;exact⟨vs,h1,fun j u hu=>(World.cell?_of_block (a:=⟨b,o+i * 8+j,none⟩) (hb ht b o hA)).trans (h2 j u hu),h3⟩
theorem lies_lt {w:World} {At:Option Addr} {t:List Node} (h:Lies 8 NodeR w At t) (ht:t≠[]):∀ b o,At=some ⟨b,o,none⟩->b < w.heap.size:=by
 rcases h with h | ⟨b,o,hA,hlt,hr⟩
 ·exact absurd h ht
 ·intro b' o' e;rw [hA] at e;obtain ⟨rfl,rfl⟩:=aiq e;exact hlt
structure Mk (F:Fix) (w:World) (known:Int) (st:St) (At:Option Addr) (ct:Nat):Prop where
 blk:w.heap[F.mb]?=some (.cells #[.slice F.A1 F.c.g.sorts.length F.c1,.slice F.A2 F.c.g.funs.length F.c2,.slice F.A3 F.c.g.macros.length F.c3,.slice At st.t.length ct,.int .i64 F.c.most,.bool F.c.build,.int .i64 known,.int .i64 st.calls,.int .i64 st.e] 80 (0,0))
 le:st.t.length<=ct
 lm:ct<=maxLen
 len:st.t.length<=1000000
 table:Lies 8 NodeR w At st.t
 far:Far F.mb st.t At
 calls:0<=st.calls/\st.calls<=301/\(st.e=0->st.calls<=300)
 below:Below F.W0.heap.size F.W0 w
def valV (v:V):Value:=.agg #[.int .i64 v.1,.int .i64 v.2]
def VI (v:V):Prop:=I64 v.1/\I64 v.2
theorem Mk.lt {F:Fix} {w:World} {known:Int} {st:St} {At:Option Addr} {ct:Nat} (h:Mk F w known st At ct):F.mb < w.heap.size:=lt_of_block h.blk
theorem Mk.new_far {F:Fix} {w:World} {known:Int} {st:St} {At:Option Addr} {ct:Nat} (h:Mk F w known st At ct) {k:Nat} (hk:w.heap.size<=k):Far k st.t At:=fun ht b o e=>by
 have:=lies_lt h.table ht b o e
 omega
theorem below_mb {F:Fix} (hF:FixOk F) {w w':World} (h:Below F.W0.heap.size F.W0 w) (hk:Keeps (onMb F) w w'):Below F.W0.heap.size F.W0 w' :=
 h.trans (hk.below (fun k hk=>by unfold onMb at hk;have:=hF.lt;omega) h.size)
theorem Mk.same {F:Fix} {w w':World} {known:Int} {st:St} {At:Option Addr} {ct:Nat} (h:Mk F w known st At ct) {S:Nat->Prop} (hk:Keeps S w w') (h1:¬ S F.mb) (h2:st.t≠[]->∀ b o,At=some ⟨b,o,none⟩->¬ S b) (h3:∀ k,S k->F.W0.heap.size<=k):Mk F w' known st At ct :=
 ⟨(hk.block F.mb h.lt h1).trans h.blk,h.le,h.lm,h.len,lies_block h.table hk.size (fun ht b o e=>hk.block b (lies_lt h.table ht b o e) (h2 ht b o e)),h.far,h.calls,h.below.trans (hk.below h3 h.below.size)⟩
theorem Mk.keep {F:Fix} {w w':World} {known:Int} {st:St} {At:Option Addr} {ct:Nat} (h:Mk F w known st At ct) (hb:Below w.heap.size w w'):Mk F w' known st At ct :=
 h.same (Keeps.of_below hb (fun _=>False)) id (fun _ _ _ _ h=>h) (fun _ h=>h.elim)
theorem Mk.other {F:Fix} (hF:FixOk F) {w:World} {known:Int} {st:St} {At:Option Addr} {ct:Nat} (h:Mk F w known st At ct) {k:Nat} (hk:F.mb < k) (hf:Far k st.t At) (j:Nat) (u:Value):Mk F (w.setCell ⟨k,j,none⟩ u) known st At ct :=
 h.same (S:=fun b=>b=k) ((Keeps.refl (fun b=>b=k) w).setCell (p:=⟨k,j,none⟩) (.inl rfl) u) (by omega) (fun ht b o e hb=>hf ht b o e hb) (fun b hb=>by have:=hF.lt;omega)
theorem Mk.set {F:Fix} (hF:FixOk F) {w:World} {known known':Int} {st st':St} {At:Option Addr} {ct:Nat} (h:Mk F w known st At ct) (j:Nat) (u:Value) (ht:st'.t=st.t)
  (hj:#[Value.slice F.A1 F.c.g.sorts.length F.c1,.slice F.A2 F.c.g.funs.length F.c2,.slice F.A3 F.c.g.macros.length F.c3,.slice At st.t.length ct,.int .i64 F.c.most,.bool F.c.build,.int .i64 known,.int .i64 st.calls,.int .i64 st.e].setIfInBounds j u=#[Value.slice F.A1 F.c.g.sorts.length F.c1,.slice F.A2 F.c.g.funs.length F.c2,.slice F.A3 F.c.g.macros.length F.c3,.slice At st'.t.length ct,.int .i64 F.c.most,.bool F.c.build,.int .i64 known',.int .i64 st'.calls,.int .i64 st'.e])
  (hc:0<=st'.calls/\st'.calls<=301/\(st'.e=0->st'.calls<=300)):Mk F (w.setCell ⟨F.mb,j,none⟩ u) known' st' At ct/\Keeps (onMb F) w (w.setCell ⟨F.mb,j,none⟩ u):=by
 have hk:Keeps (onMb F) w (w.setCell ⟨F.mb,j,none⟩ u):=(Keeps.refl _ w).setCell (.inl (show onMb F F.mb from rfl)) u;refine⟨⟨?_,by rw [ht];exact h.le,h.lm,by rw [ht];exact h.len,?_,by rw [ht];exact h.far,hc,below_mb hF h.below hk⟩,hk⟩
 ·have:=Bk.set_at h.blk j u;rw [hj] at this;exact this
 ·rw [ht];exact lies_block h.table hk.size (fun hn b o e=>hk.block b (lies_lt h.table hn b o e) (h.far hn b o e))
def MkPost (F:Fix) (known:Int) (w:World) (t:List Node) (At:Option Addr) (v:V) (st':St) (e:Ending) (w':World):Prop :=
 e=.returned (valV v)/\VI v/\Keeps (onMb F) w w'/\∃ A' c',Mk F w' known st' A' c'/\TN w.heap.size t At st'.t A'
theorem val_ret {f:Func} {w:World} {b k:Nat} {x y:Value} {act:Act} {R:Ending->World->Prop} (hf:f.results=#[.cell k 82]) (hb:w.heap[b]?=some (.cells #[x,y] 82 (0,0))) (h2:act.tmps[k]?=some (.pointer (some ⟨b,0,none⟩))) (hd:act.defers=[]) (hR:R (.returned (.agg #[x,y])) w) :
  bodyPost Tryz.prog f R .ret act w:=by
 obtain ⟨y0,y1,_⟩:=Bk.c2 hb;refine bodyPost_ret (v:=.agg #[x,y]) ?_ hd hR;simp [results,hf,go_sem,y0,y1,h2]
theorem mk_end {F:Fix} (hF:FixOk F) {f:Func} {k rb:Nat} {w W:World} {known:Int} {t:List Node} {At:Option Addr} {v:V} {st':St} {A':Option Addr} {c':Nat} {act:Act} {r0 r1:Value}
  (hf:f.results=#[.cell k 82]) (hm:Mk F W known st' A' c') (hw:F.mb < w.heap.size) (hk:Keeps (onMb F) w W) (hn:TN w.heap.size t At st'.t A') (hrb:w.heap.size<=rb) (hr:Far rb st'.t A') (hb:W.heap[rb]?=some (.cells #[r0,r1] 82 (0,0)))
  (h2:act.tmps[k]?=some (.pointer (some ⟨rb,0,none⟩))) (hd:act.defers=[]) (hv:VI v) :
  bodyPost Tryz.prog f (MkPost F known w t At v st') .ret act ((W.setCell ⟨rb,0,none⟩ (.int .i64 v.1)).setCell ⟨rb,1,none⟩ (.int .i64 v.2)):=by
 refine val_ret hf (b:=rb) (x:=.int .i64 v.1) (y:=.int .i64 v.2) (Bk.set_at (Bk.set_at hb 0 _) 1 _) h2 hd ?_;exact⟨rfl,hv,(hk.setCell (p:=⟨rb,0,none⟩) (.inr hrb) _).setCell (p:=⟨rb,1,none⟩) (.inr hrb) _,A',c',(hm.other hF (by omega) hr 0 _).other hF (by omega) hr 1 _,hn⟩
theorem v0_VI:VI v0:=⟨by show I64 0;unfold I64;omega,by show I64 0;unfold I64;omega⟩
theorem fail_any {F:Fix} (hF:FixOk F) {w:World} {known:Int} {st:St} {At:Option Addr} {ct:Nat} (hm:Mk F w known st At ct) (e:Int) (he:e≠0) :
  Calls Tryz.prog 58 #[.pointer (some ⟨F.mb,0,none⟩),.int .i64 e] w (MkPost F known w st.t At v0 (failS e st)):=by
 have HM:=kp (hm.keep ((brq w).alloc nlq (.cells #[.int .i64 0,.int .i64 0] 82)));have RB:=kp (Bk.new w (.cells #[.int .i64 0,.int .i64 0] 82));have hlt:=hm.lt;have HFr:=kp (hm.new_far nlq);have HS:=kp (show failS e st=if st.e=0 then { st with e:=e } else st from rfl);have HK:=kp ((Keeps.refl (onMb F) w).alloc (.cells #[.int .i64 0,.int .i64 0] 82));clear hm;generalize failS e st=st' at *
 go_enter Tryz.func58,Tryz.ntmps58
 go_upto_region 1 with fail
 generalize w.alloc (.cells #[.int .i64 0,.int .i64 0] 82)=w1 at *;obtain ⟨m0,m1,m2,m3,m4,m5,m6,m7,m8,mf⟩:=Bk.c9 HM.out.blk;obtain ⟨r0,r1,rf⟩:=Bk.c2 RB.out
 by_cases he0:st.e=0
 ·have he1:(st.e == 0)=true:=by simp [he0]
  replace HS:=kp (HS.out.trans (if_pos he0));have hset:=kp (Mk.set hF HM.out (known':=known) (st':=st') 8 (.int .i64 e) (by rw [HS.out]) (by rw [HS.out];rfl) (by rw [HS.out];have:=HM.out.calls;exact⟨this.1,this.2.1,fun h=>absurd h he⟩));clear he0;go_wp2_with fail
  exact mk_end (v:=v0) hF Tryz.results58 hset.out.1 hlt (HK.out.trans_same hset.out.2) (by rw [HS.out];exact TN.refl _ _ _) nlq (by rw [HS.out];exact HFr.out) (Bk.apart RB.out (by show w.heap.size≠F.mb;omega) _) rfl rfl v0_VI
 ·have he1:(st.e == 0)=false:=by simp [he0]
  replace HS:=kp (HS.out.trans (if_neg he0));clear he0;go_wp2_with fail
  exact mk_end (v:=v0) hF Tryz.results58 (by rw [HS.out];exact HM.out) hlt HK.out (by rw [HS.out];exact TN.refl _ _ _) nlq (by rw [HS.out];exact HFr.out) RB.out rfl rfl v0_VI
def strKV (s:ByteArray):Value:=.string s
def EnvR (w:World):Option Addr->List Env->Prop
 | p,[]=>p=none
 | p,l :: r=>∃ b ap m n,p=some ⟨b,0,none⟩/\w.heap[b]?=some (.cells #[.pointer ap,.map (some m)] 117 (0,0))/\KeyMap 9 strKV w m n (fun s=>(findE l s).map valV)/\(∀ q ∈ l,VI q.2)/\EnvR w ap r
theorem EnvR.keeps {S:Nat->Prop} {w w':World} (hk:Keeps S w w'):∀ {ls:List Env} {p:Option Addr},EnvR w p ls->(∀ b,S b->w.heap.size<=b)->EnvR w' p ls
 | [],_,h,_=>h
 | l :: r,p,⟨b,ap,m,n,h1,h2,h3,h4,h5⟩,hS =>
  ⟨b,ap,m,n,h1,(hk.block b (lt_of_block h2) (fun hs=>by have:=hS b hs;have:=lt_of_block h2;omega)).trans h2,h3.keeps hk (fun hs=>by have:=hS m hs;have:=h3.lt;omega),h4,EnvR.keeps hk h5 hS⟩
theorem EnvR.below {w w':World} (hb:Below w.heap.size w w') {ls:List Env} {p:Option Addr} (h:EnvR w p ls):EnvR w' p ls:=h.keeps (Keeps.of_below hb (fun _=>False)) (fun _ h=>h.elim)
theorem EnvR.len {w:World}:∀ {ls ls':List Env} {p:Option Addr},EnvR w p ls->EnvR w p ls'->ls.length=ls'.length
 | [],[],_,_,_=>rfl
 | [],_ :: _,_,h,⟨b,ap,m,n,h1,_⟩=>by rw [show _=none from h] at h1;cases h1
 | _ :: _,[],_,⟨b,ap,m,n,h1,_⟩,h=>by rw [show _=none from h] at h1;cases h1
 | l :: r,l' :: r',p,⟨b,ap,m,n,h1,h2,h3,h4,h5⟩,⟨b',ap',m',n',h1',h2',h3',h4',h5'⟩=>by
  rw [h1] at h1';simp only [Option.some.injEq,Addr.mk.injEq,and_true] at h1';subst h1';rw [h2] at h2';simp only [Option.some.injEq,Obj.cells.injEq,Array.mk.injEq,List.cons.injEq,Value.pointer.injEq,and_true] at h2';obtain ⟨rfl,_⟩:=h2';simp [EnvR.len h5 h5']
open Classical in
noncomputable def dep (w:World) (v:Value):Nat:=if h:∃ ls,∃ p,v=.pointer p/\EnvR w p ls then h.choose.length else 0
theorem dep_eq {w:World} {p:Option Addr} {ls:List Env} (h:EnvR w p ls):dep w (.pointer p)=ls.length:=by
 have hx:∃ ls,∃ p',(Value.pointer p)=.pointer p'/\EnvR w p' ls:=⟨ls,p,rfl,h⟩;unfold dep;rw [dif_pos hx];obtain ⟨p',e,h'⟩:=hx.choose_spec
 cases e
 exact EnvR.len h' h
theorem findE_append (a b:Env) (s:ByteArray):findE (a ++ b) s=(findE a s).or (findE b s):=by
 unfold findE;rw [List.find?_append]
 cases a.find? fun p=>decide (p.1=s) <;> simp
def EnvS (F:Fix) (w:World) (p:Option Addr) (env:Env):Prop:=∃ ls:List Env,ls.flatten=env/\Sta F (fun W=>EnvR W p ls) w
theorem EnvS.on {F:Fix} {w w':World} {p:Option Addr} {env:Env} (h:EnvS F w p env) (hk:Keeps (onMb F) w w'):EnvS F w' p env:=by
 obtain ⟨ls,h1,h2⟩:=h;exact⟨ls,h1,h2.on hk⟩
theorem EnvS.nil (F:Fix) (w:World):EnvS F w none []:=⟨[],rfl,fun _ _=>rfl⟩
theorem EnvS.cons {F:Fix} {w:World} {p:Option Addr} {env l:Env} {b m n:Nat} (h:EnvS F w p env) (h2:w.heap[b]?=some (.cells #[.pointer p,.map (some m)] 117 (0,0))) (h3:KeyMap 9 strKV w m n (fun s=>(findE l s).map valV)) (h4:∀ q ∈ l,VI q.2) (hb:b≠F.mb) (hm:m≠F.mb):EnvS F w (some ⟨b,0,none⟩) (l ++ env):=by
 obtain ⟨ls,h1,h5⟩:=h;exact⟨l :: ls,by simp [h1],fun W hW=>⟨b,p,m,n,rfl,(hW.block b (lt_of_block h2) hb).trans h2,h3.keeps hW hm,h4,h5 W hW⟩⟩
theorem zero_val (w:World):(zeroValue 82).run Tryz.prog w=.ok (.agg #[.int .i64 0,.int .i64 0]) w:=by kernel_rfl
theorem look_scope {w:World} {m n:Nat} {l:Env} (h:KeyMap 9 strKV w m n (fun s=>(findE l s).map valV)) (name:ByteArray) (hs:(name.size:Int)<=140737488351232) :
  (Instr.lookup 115 (.map (some m)) (.string name) true).run Tryz.prog w=.ok (.tuple #[valV ((findE l name).getD v0),.bool (findE l name).isSome]) w:=by
 have h1:=h.look (a:=name) string_key Tryz.underlying115 (zero_val w) (keyOf_str hs);rw [show strKV name=.string name from rfl] at h1;rw [h1]
 cases findE l name <;> rfl
theorem find_ret {f:Func} {w:World} {b:Nat} {x y:Value} {o:Bool} {act:Act} {R:Ending->World->Prop} (hf:f.results=#[.cell 4 82,.tmp 5]) (hb:w.heap[b]?=some (.cells #[x,y] 82 (0,0))) (h2:act.tmps[4]?=some (.pointer (some ⟨b,0,none⟩))) (h3:act.tmps[5]?=some (.bool o)) (hd:act.defers=[]) (hR:R (.returned (.tuple #[.agg #[x,y],.bool o])) w) :
  bodyPost Tryz.prog f R .ret act w:=by
 obtain ⟨y0,y1,_⟩:=Bk.c2 hb;refine bodyPost_ret (v:=.tuple #[.agg #[x,y],.bool o]) ?_ hd hR;simp [results,hf,go_sem,y0,y1,h2,h3]
def FindPost (env:Env) (name:ByteArray) (w:World) (e:Ending) (w':World):Prop:=e=.returned (.tuple #[valV ((findE env name).getD v0),.bool (findE env name).isSome])/\Below w.heap.size w w'
theorem find_any {w:World} {p:Option Addr} {ls:List Env} (h:EnvR w p ls) (name:ByteArray) (hs:(name.size:Int)<=140737488351232) :
  Calls Tryz.prog 59 #[.pointer p,.string name] w (FindPost ls.flatten name w):=by
 have HP:=kp (show ∀ (v:V) (o:Bool) w',v=(findE ls.flatten name).getD v0->o=(findE ls.flatten name).isSome->Below w.heap.size w w'->FindPost ls.flatten name w (.returned (.tuple #[.agg #[.int .i64 v.1,.int .i64 v.2],.bool o])) w' from fun v o w' h1 h2 h3=>by
  unfold FindPost;rw [h1,h2];exact⟨rfl,h3⟩)
 have RB:=kp (Bk.new w (.cells #[.int .i64 0,.int .i64 0] 82));have B1:=kp ((brq w).alloc nlq (.cells #[.int .i64 0,.int .i64 0] 82));have HR:=kp h;clear h;generalize FindPost ls.flatten name w=PP at *;obtain ⟨fe,hfe⟩:∃ fe,fe=findE ls.flatten name:=⟨_,rfl⟩;rw [← hfe] at HP;have HFe:=kp hfe;clear hfe
 go_enter Tryz.func59,Tryz.ntmps59
 go_upto_region 1 with fail
 generalize w.alloc (.cells #[.int .i64 0,.int .i64 0] 82)=w1 at *
 go_loopw [0] (fun v wr=>∃ p' ls',v=.pointer p'/\EnvR wr p' ls'/\fe=findE ls'.flatten name/\Below w.heap.size w wr/\wr.heap[w.heap.size]?=some (.cells #[.int .i64 0,.int .i64 0] 82 (0,0))) (fun v wr=>dep wr v)
 case atStart=>exact⟨p,ls,rfl,HR.out.below B1.out,HFe.out,B1.out,RB.out⟩
 case round =>
  obtain ⟨p',ls',rfl,hr,hf,hb,hrb⟩:=hrel;have HF:=kp hf;have HB:=kp hb;have RR:=kp hrb;have HD:=kp (dep_eq hr);clear hf hb hrb
  cases ls' with
  | nil =>
   obtain rfl:=show p'=none from hr;obtain ⟨r0,r1,rf⟩:=Bk.c2 RR.out;go_wp2_with fail
   exact find_ret Tryz.results59 (Bk.set_at (Bk.set_at RR.out 0 _) 1 _) rfl rfl rfl (HP.out v0 false _ (by rw [HF.out];rfl) (by rw [HF.out];rfl) ((HB.out.setCell (p:=⟨w.heap.size,0,none⟩) nlq _).setCell (p:=⟨w.heap.size,1,none⟩) nlq _))
  | cons l r =>
   have hr0:=hr;obtain ⟨b,ap,m,n,rfl,h2,h3,h4,h5⟩:=hr;have HC:=kp h2;have HKm:=kp h3;obtain ⟨s0,s1,sf⟩:=Bk.c2 h2;have hlook:=look_scope h3 name hs;rw [List.flatten_cons,findE_append] at HF;have HR5:=kp h5;have HDc:=kp (dep_eq h5);clear h2 h3 h4 hr0
   cases hfl:findE l name with
   | none =>
    rw [hfl] at HF hlook;unfold valV v0 at hlook;have BA:=kp (HB.out.alloc HB.out.size (.cells #[.int .i64 0,.int .i64 0] 82));have RA:=kp (Bk.keep RR.out (.cells #[.int .i64 0,.int .i64 0] 82));have HA:=kp (HR5.out.below ((brq wr).alloc nlq (.cells #[.int .i64 0,.int .i64 0] 82)));have CA:=kp (Bk.keep HC.out (.cells #[.int .i64 0,.int .i64 0] 82));have HDa:=kp (dep_eq HA.out);clear hfl;go_upto_region 4 with fail
    clear s0 s1 sf;generalize wr.alloc (.cells #[.int .i64 0,.int .i64 0] 82)=wa at *;obtain ⟨s0,s1,sf⟩:=Bk.c2 CA.out;go_wp2_with fail
    go_roundw
    case rel=>exact⟨ap,r,rfl,HA.out,by rw [HF.out];rfl,BA.out,RA.out⟩
    case measure=>rw [HDa.out,HD.out];simp
   | some v =>
    rw [hfl] at HF hlook;unfold valV at hlook;have BA:=kp (HB.out.alloc HB.out.size (.cells #[.int .i64 v.1,.int .i64 v.2] 82));have RA:=kp (Bk.keep RR.out (.cells #[.int .i64 v.1,.int .i64 v.2] 82));have VA:=kp (Bk.new wr (.cells #[.int .i64 v.1,.int .i64 v.2] 82));clear hfl;go_upto_region 4 with fail
    clear s0 s1 sf;generalize hwa:wr.alloc (.cells #[.int .i64 v.1,.int .i64 v.2] 82)=wa at *;clear hwa;obtain ⟨x0,x1,xf⟩:=Bk.c2 VA.out;obtain ⟨r0,r1,rf⟩:=Bk.c2 RA.out;go_wp2_with fail
    exact find_ret Tryz.results59 (Bk.set_at (Bk.set_at RA.out 0 _) 1 _) rfl rfl rfl (HP.out v true _ (by rw [HF.out];rfl) (by rw [HF.out];rfl) ((BA.out.setCell (p:=⟨w.heap.size,0,none⟩) nlq _).setCell (p:=⟨w.heap.size,1,none⟩) nlq _))
theorem lies_new {B:Nat} {w:World} {A:Option Addr} {t:List Node} (h:∀ W,Keeps (fun b=>b < B) w W->Lies 8 NodeR W A t):t≠[]->∀ b o,A=some ⟨b,o,none⟩->B<=b:=by
 intro ht b o e;subst e
 by_cases hb:B<=b
 ·exact hb
 exfalso
 obtain ⟨n,r,rfl⟩:=List.exists_cons_of_ne_nil ht;have h1:=h w (Keeps.refl _ _);obtain ⟨b1,o1,e1,h1',_⟩:=node_get h1 (k:=0) (n:=n) rfl;have h2:=h (w.setCell ⟨b,o,none⟩ (.string { data:=#[] })) ((Keeps.refl (fun b=>b < B) w).setCell (p:=⟨b,o,none⟩) (.inl (by show b < B;omega)) _);obtain ⟨b2,o2,e2,h2',_⟩:=node_get h2 (k:=0) (n:=n) rfl;simp only [Option.some.injEq,Addr.mk.injEq,and_true] at e1 e2;obtain ⟨rfl,rfl⟩:=e1;obtain ⟨rfl,rfl⟩:=e2;have c1:=h1'.2.1;have c2:=h2'.2.1;rw [Nat.zero_mul,Nat.add_zero] at c1 c2;have c3:=World.cell?_setCell_same w ⟨b,o,none⟩ (.string { data:=#[] }) c1;rw [c2] at c3
 cases c3
def PutCut (w1:World) (t:List Node) (At:Option Addr) (r:List Node × Int × Int) (v5 v6 v7:Value) (W:World):Prop :=
 ∃ A' c' b,v5=.pointer (some ⟨b,0,none⟩)/\v6=.int .i64 r.2.1/\v7=.int .i64 r.2.2/\W.heap[b]?=some (.cells #[.slice A' r.1.length c'] 29 (0,0))/\w1.heap.size<=b/\Below w1.heap.size w1 W/\(r.1.length<=c'/\c'<=maxLen)/\Lies 8 NodeR W A' r.1/\TN w1.heap.size t At r.1 A'
theorem putCut_of {w1 wc w2:World} {t:List Node} {At A':Option Addr} {ct c':Nat} {r:List Node × Int × Int} (hb:Below wc.heap.size wc w2) (hw:Below w1.heap.size w1 wc)
  (hL:Lies 8 NodeR wc At t) (h:(A'=At/\c'=ct/\r.1=t)\/(∀ W',Keeps (fun b=>b < wc.heap.size) w2 W'->Lies 8 NodeR W' A' r.1)) :
  Lies 8 NodeR w2 A' r.1/\TN w1.heap.size t At r.1 A':=by
 rcases h with⟨rfl,rfl,h⟩ | h
 ·rw [h];exact⟨hL.on NodeR.lasts hb,.inl ⟨rfl,rfl⟩⟩
 ·exact⟨h w2 (Keeps.refl _ _),.inr fun ht b o e=>Nat.le_trans hw.size (lies_new h ht b o e)⟩
theorem putT_ok {t:List Node} {n:Node} {most M:Int} (h:(putT t n most).2.2=0) (ht:(t.length:Int)<=M) (hm:most<=M):((putT t n most).1.length:Int)<=M/\0<=(putT t n most).2.1/\(putT t n most).2.1<=M:=by
 unfold putT at h ⊢
 split at h
 ·rename_i hc
  rw [if_pos hc]
  split at h
  ·rename_i hn
   rw [if_pos hn];have:=List.findIdx_le_length (p:=fun x=>decide (x=n)) (xs:=t);simp only
   omega
  ·rename_i hn
   rw [if_neg hn]
   split at h
   ·simp at h
   ·rename_i hl
    rw [if_neg hl];simp only [List.length_append,List.length_cons,List.length_nil]
    omega
 ·simp at h
theorem Mk.setT {F:Fix} (hF:FixOk F) {w:World} {known:Int} {st:St} {At A':Option Addr} {ct c':Nat} (h:Mk F w known st At ct) {t':List Node} (hc:t'.length<=c'/\c'<=maxLen) (hl:t'.length<=1000000) (hL:Lies 8 NodeR w A' t') (hf:Far F.mb t' A'):Mk F (w.setCell ⟨F.mb,3,none⟩ (.slice A' t'.length c')) known { st with t:=t' } A' c'/\Keeps (onMb F) w (w.setCell ⟨F.mb,3,none⟩ (.slice A' t'.length c')):=by
 have hk:Keeps (onMb F) w (w.setCell ⟨F.mb,3,none⟩ (.slice A' t'.length c')):=(Keeps.refl _ w).setCell (.inl (show onMb F F.mb from rfl)) _;exact⟨⟨Bk.set_at h.blk 3 _,hc.1,hc.2,hl,lies_block hL hk.size (fun hn b o e=>hk.block b (lies_lt hL hn b o e) (hf hn b o e)),hf,h.calls,below_mb hF h.below hk⟩,hk⟩
theorem put_any {F:Fix} (hF:FixOk F) {w:World} {known:Int} {st:St} {At:Option Addr} {ct:Nat} (hm:Mk F w known st At ct) {n:Node} (hi:NodeI n) :
  Calls Tryz.prog 91 #[.pointer (some ⟨F.mb,0,none⟩),.agg #[.int .i8 n.op,.int .i8 n.len,.int .i64 n.a0,.int .i64 n.a1,.int .i64 n.a2,.int .i64 n.sort,.int .i64 n.fn,.int .i64 n.n]] w (MkPost F known w st.t At (putM F.c n st).1 (putM F.c n st).2):=by
 have HM:=kp (hm.keep (((brq w).alloc nlq (.cells #[.int .i8 n.op,.int .i8 n.len,.int .i64 n.a0,.int .i64 n.a1,.int .i64 n.a2,.int .i64 n.sort,.int .i64 n.fn,.int .i64 n.n] 49)).alloc (by simp) (.cells #[.int .i64 0,.int .i64 0] 82)));have NB:=kp (Bk.keep (Bk.new w (.cells #[.int .i8 n.op,.int .i8 n.len,.int .i64 n.a0,.int .i64 n.a1,.int .i64 n.a2,.int .i64 n.sort,.int .i64 n.fn,.int .i64 n.n] 49)) (.cells #[.int .i64 0,.int .i64 0] 82));have RB:=kp (Bk.new (w.alloc (.cells #[.int .i8 n.op,.int .i8 n.len,.int .i64 n.a0,.int .i64 n.a1,.int .i64 n.a2,.int .i64 n.sort,.int .i64 n.fn,.int .i64 n.n] 49)) (.cells #[.int .i64 0,.int .i64 0] 82));have hlt:=hm.lt;have HFr:=kp (hm.new_far (Nat.le_refl w.heap.size));have HI:=kp hi
 have HS:=kp (show putM F.c n st=if st.e≠0\/F.c.build=false then((n.sort,0),st)
  else if(putT st.t n F.c.most).2.2=0 then((n.sort,(putT st.t n F.c.most).2.1),{ st with t:=(putT st.t n F.c.most).1 })
  else(v0,{ st with e:=(putT st.t n F.c.most).2.2 }) from rfl)
 have HK:=kp (((Keeps.refl (onMb F) w).alloc (.cells #[.int .i8 n.op,.int .i8 n.len,.int .i64 n.a0,.int .i64 n.a1,.int .i64 n.a2,.int .i64 n.sort,.int .i64 n.fn,.int .i64 n.n] 49)).alloc (.cells #[.int .i64 0,.int .i64 0] 82));generalize putM F.c n st=res at *
 go_enter Tryz.func91,Tryz.ntmps91
 go_upto_region 1 with fail
 have RB1:=kp (show((w.alloc (.cells #[.int .i8 n.op,.int .i8 n.len,.int .i64 n.a0,.int .i64 n.a1,.int .i64 n.a2,.int .i64 n.sort,.int .i64 n.fn,.int .i64 n.n] 49)).alloc (.cells #[.int .i64 0,.int .i64 0] 82)).heap[w.heap.size+1]?=some (.cells #[.int .i64 0,.int .i64 0] 82 (0,0)) by have h:=RB.out;rwa [show(w.alloc (.cells #[.int .i8 n.op,.int .i8 n.len,.int .i64 n.a0,.int .i64 n.a1,.int .i64 n.a2,.int .i64 n.sort,.int .i64 n.fn,.int .i64 n.n] 49)).heap.size=w.heap.size+1 by simp] at h);have HZ:=kp (show((w.alloc (.cells #[.int .i8 n.op,.int .i8 n.len,.int .i64 n.a0,.int .i64 n.a1,.int .i64 n.a2,.int .i64 n.sort,.int .i64 n.fn,.int .i64 n.n] 49)).alloc (.cells #[.int .i64 0,.int .i64 0] 82)).heap.size=w.heap.size+2 by simp);clear RB;generalize (w.alloc (.cells #[.int .i8 n.op,.int .i8 n.len,.int .i64 n.a0,.int .i64 n.a1,.int .i64 n.a2,.int .i64 n.sort,.int .i64 n.fn,.int .i64 n.n] 49)).alloc (.cells #[.int .i64 0,.int .i64 0] 82)=w1 at *;obtain ⟨m0,m1,m2,m3,m4,m5,m6,m7,m8,mf⟩:=Bk.c9 HM.out.blk;obtain ⟨r0,r1,rf⟩:=Bk.c2 RB1.out;obtain ⟨n0,n1,n2,n3,n4,n5,n6,n7,nf⟩:=Bk.c8 NB.out;have HF1:=kp (hm.new_far (show w.heap.size<=w.heap.size+1 by omega))
 by_cases he0:st.e=0
 ·have he1:(st.e != 0)=false:=by simp [he0]
  cases hbu:F.c.build with
  | false =>
   rw [hbu] at m5;replace HS:=kp (HS.out.trans (if_pos (.inr hbu)));clear he0 hbu;go_wp2_with fail
   rw [HS.out];refine mk_end (v:=(n.sort,0)) hF Tryz.results91 HM.out hlt HK.out (TN.refl _ _ _) (by omega) HF1.out RB1.out ?_ ?_ ⟨HI.out.sort,v0_VI.1⟩ <;> rfl
  | true =>
   rw [hbu] at m5;replace HS:=kp (HS.out.trans (if_neg (by rw [hbu,he0];simp)));have HE0:=kp he0;clear he0 hbu;go_upto_region 3 with fail
   have B0:=kp (brq w1).drew;have HPt:=kp (fun W (hW:Below w1.heap.size w1 W)=>tput_any ((HM.out.keep hW).table) hi HM.out.len HM.out.le HM.out.lm hF.m64);have HLs:=kp (fun W (hW:Below w1.heap.size w1 W)=>(HM.out.keep hW).table);have M5:=kp m5;clear m0 m1 m2 m3 m4 m5 m6 m7 m8 mf r0 r1 rf n0 n1 n2 n3 n4 n5 n6 n7 nf hi;have HPk:=kp (fun h=>putT_ok (t:=st.t) (n:=n) (most:=F.c.most) (M:=1000000) h (by have:=HM.out.len;omega) hF.most);unfold TPutPost at HPt;generalize putT st.t n F.c.most=pr at *
   go_cut [5,6,7] from 23 to 36 (fun v5 v6 v7 W=>PutCut w1 st.t At pr v5 v6 v7 W)
   case first =>
    refine wp_region_held_drew (S:=fun W=>Below w1.heap.size w1 W) (by kernel_rfl) (B0.out) (fun hHeld=>?_);refine plz [0,1,2,3,4,5,6,7,8] ?_;iterate 9 (refine tnz (v:=?_) ?_ ?_;rotate_left;(focus first | ((intro w hSw;go_simp;try with_reducible rfl);done) | ((intro w hSw;(obtain ⟨m0,m1,m2,m3,m4,m5,m6,m7,m8,mf⟩:=Bk.c9 (HM.out.keep hSw).blk;go_simp;try with_reducible rfl));done) | ((intro w hSw;(obtain ⟨n0,n1,n2,n3,n4,n5,n6,n7,nf⟩:=Bk.c8 (Bk.on NB.out hSw);go_simp;try with_reducible rfl));done));try simp only [pt])
    refine pzz ?_;refine r2y 9 14 (fun K hK=>?_) fun K hK=>?_
    ·go_simp
     go_wp2_with (go_at_call 139;refine(HPt.out _ B0.out).mono ?_;rintro e w2 ⟨A',c',rfl,hc,hb,hor⟩;have B2:=kp (B0.out.trans (hb.mono B0.out.size));have HQ:=kp (putCut_of (w1:=w1) hb B0.out (HLs.out _ B0.out) hor);have HC:=kp hc;clear hb hor hc)
     refine hK.out _ _ B2.out (fun hHeld=>?_);clear hK K;try simp only [pt]
     refine plz [10,11,12,13] ?_;iterate 4 (refine tnz (v:=?_) ?_ ?_;rotate_left;(focus (intro w hSw;go_simp;try with_reducible rfl));try simp only [pt])
     refine pzz ?_;have B3:=kp (B2.out.alloc B2.out.size (.cells #[.slice none 0 0] 29));have B4:=kp (B2.out.alloc B2.out.size (.cells #[.slice A' pr.1.length c'] 29));refine rd 14 fun K hK=>?_;go_simp;refine hK.out _ _ (B3.out) (fun hHeld=>?_);clear hK K;try simp only [pt]
     refine rd 15 fun K hK=>?_;go_simp;refine hK.out _ _ (B4.out) (fun hHeld=>?_);clear hK K;try simp only [pt]
     refine plz [16,17] ?_;iterate 2 (refine tnz (v:=?_) ?_ ?_;rotate_left;(focus (intro w hSw;go_simp;try with_reducible rfl));try simp only [pt])
     refine pzz ?_;refine dnz ?_;go_wp2_with fail
     go_meet;exact⟨A',c',w2.heap.size,rfl,rfl,rfl,Bk.new w2 _,B2.out.size,B4.out,HC.out,HQ.out.1.on NodeR.lasts ((Below.refl _ _).alloc nlq _),HQ.out.2⟩
    ·go_simp;have BA:=kp (B0.out.alloc B0.out.size (.cells #[.slice none 0 0] 29));refine hK.out _ _ BA.out (fun hHeld=>?_);clear hK K;try simp only [pt]
     have TA:=kp (show(w1.drew.alloc (.cells #[.slice none 0 0] 29)).heap[w1.heap.size]?=some (.cells #[.slice none 0 0] 29 (0,0)) from Bk.new w1.drew _);refine rd 9 fun K hK=>?_;go_simp
     go_wp2_with (go_at_call 139;refine(HPt.out _ BA.out).mono ?_;rintro e w2 ⟨A',c',rfl,hc,hb,hor⟩;have B2:=kp (BA.out.trans (hb.mono BA.out.size));have HQ:=kp (putCut_of (w1:=w1) hb BA.out (HLs.out _ BA.out) hor);have HC:=kp hc;have T2:=kp (Bk.on TA.out hb);clear hc)
     refine hK.out _ _ (B2.out) (fun hHeld=>?_);clear hK K;try simp only [pt]
     refine plz [10,11,12,13] ?_;iterate 4 (refine tnz (v:=?_) ?_ ?_;rotate_left;(focus (intro w hSw;go_simp;try with_reducible rfl));try simp only [pt])
     refine pzz ?_;have B5:=kp (B2.out.setCell (p:=⟨w1.heap.size,0,none⟩) nlq (.slice A' pr.1.length c'));have T5:=kp (Bk.set_at T2.out 0 (.slice A' pr.1.length c'))
     have HA:=kp (show pr.1≠[]->∀ b o,A'=some ⟨b,o,none⟩->b≠w1.heap.size from fun ht b o e=>by
      rcases hor with⟨h1,h2,h3⟩ | hor
      ·subst h1;rw [h3] at ht;have:=lies_lt (HLs.out _ (brq w1)) ht b o e
       omega
      ·have:=lies_new hor ht b o e;have h4:=BA.out.size;simp at this
       omega)
     obtain ⟨t0,tf⟩:=Bk.c1 T2.out;clear hor hb;refine rd 15 fun K hK=>?_;go_simp;refine hK.out _ _ (B5.out) (fun hHeld=>?_);clear hK K;try simp only [pt]
     clear t0 tf;refine plz [16,17] ?_;iterate 2 (refine tnz (v:=?_) ?_ ?_;rotate_left;(focus (intro w hSw;go_simp;try with_reducible rfl));try simp only [pt])
     refine pzz ?_;refine dnz ?_;go_wp2_with fail
     go_meet;exact⟨A',c',w1.heap.size,rfl,rfl,rfl,T5.out,nlq,B5.out,HC.out,lies_block HQ.out.1 (by simp [World.setCell]) (fun ht b o e=>Below.heap_setCell w2 ⟨w1.heap.size,0,none⟩ _ b (by show b≠w1.heap.size;exact HA.out ht b o e)),HQ.out.2⟩
   case rest =>
    obtain ⟨A',c',b,rfl,rfl,rfl,hb,hlb,hB,hc,hL,hT⟩:=hcut;have Z1:=HZ.out;have HMc:=kp (HM.out.keep hB);have RBc:=kp (Bk.on RB1.out hB);have NBc:=kp (Bk.on NB.out hB);have TBc:=kp hb;have HKc:=kp (HK.out.trans_same (Keeps.of_below hB _));have HB:=kp hB;have HT:=kp hT;have HL:=kp hL;have HC:=kp hc;have HFb:=kp (show Far F.mb pr.1 A' from Far.of_tn HM.out.far hT (by omega));have HFr1:=kp (show Far (w.heap.size+1) pr.1 A' from Far.of_tn HF1.out hT (by omega));clear hB hT hL hc hb
    by_cases hz:pr.2.2=0
    ·replace HS:=kp (HS.out.trans (if_pos hz));have hz':(pr.2.2 != 0)=false:=by simp [hz]
     have hok:=HPk.out hz;have HSt:=kp (Mk.setT hF HMc.out HC.out (by omega) HL.out HFb.out);have hVI:VI (n.sort,pr.2.1):=⟨HI.out.sort,by show I64 pr.2.1;unfold I64;omega⟩;have NB2:=kp (Bk.apart NBc.out (p:=⟨F.mb,3,none⟩) (by show w.heap.size≠F.mb;omega) (.slice A' pr.1.length c'));have RB2:=kp (Bk.apart RBc.out (p:=⟨F.mb,3,none⟩) (by show w.heap.size+1≠F.mb;omega) (.slice A' pr.1.length c'));clear hz hok;obtain ⟨t0,tf⟩:=Bk.c1 TBc.out;obtain ⟨m0,m1,m2,m3,m4,m5,m6,m7,m8,mf⟩:=Bk.c9 HMc.out.blk;go_upto_region 7 with fail
     clear m0 m1 m2 m3 m4 m5 m6 m7 m8 mf t0 tf;generalize wc.setCell ⟨F.mb,3,none⟩ (.slice A' pr.1.length c')=w7 at *;obtain ⟨r0,r1,rf⟩:=Bk.c2 RB2.out;obtain ⟨n0,n1,n2,n3,n4,n5,n6,n7,nf⟩:=Bk.c8 NB2.out;go_wp2_with fail
     rw [HS.out];refine mk_end (v:=(n.sort,pr.2.1)) hF Tryz.results91 HSt.out.1 hlt (HKc.out.trans_same HSt.out.2) (HT.out.mono (by omega)) (by omega) HFr1.out RB2.out ?_ ?_ hVI <;> rfl
    ·replace HS:=kp (HS.out.trans (if_neg hz));have hz':(pr.2.2 != 0)=true:=by simp [hz]
     have HFl:=kp (fail_any hF HMc.out pr.2.2 hz);clear hz;go_wp2_with fail
     refine HFl.out.mono ?_;rintro e w5 ⟨rfl,hv,hk,A5,c5,hm5,ht5⟩;have RB5:=kp ((hk.block (w.heap.size+1) (lt_of_block RBc.out) (by unfold onMb;omega)).trans RBc.out);have HM5:=kp hm5;have HK5:=kp (HKc.out.trans_same hk);have HT5:=kp (ht5.mono (show w.heap.size<=wc.heap.size by have:=HB.out.size;omega));have HF5:=kp (Far.of_tn HF1.out ht5 (by have:=HB.out.size;omega));have HSf:=kp (show failS pr.2.2 st={ st with e:=pr.2.2 } by unfold failS;rw [if_pos HE0.out]);rw [HSf.out] at HM5 HT5 HF5;unfold valV v0;clear hv hk hm5 ht5;obtain ⟨r0,r1,rf⟩:=Bk.c2 RB5.out;go_wp2_with fail
     rw [HS.out];refine mk_end (v:=v0) hF Tryz.results91 HM5.out hlt HK5.out HT5.out (by omega) HF5.out RB5.out ?_ ?_ v0_VI <;> rfl
 ·have he1:(st.e != 0)=true:=by simp [he0]
  replace HS:=kp (HS.out.trans (if_pos (.inl he0)));clear he0;go_wp2_with fail
  rw [HS.out];refine mk_end (v:=(n.sort,0)) hF Tryz.results91 HM.out hlt HK.out (TN.refl _ _ _) (by omega) HF1.out RB1.out ?_ ?_ ⟨HI.out.sort,v0_VI.1⟩ <;> rfl
theorem isNumX_eq (x:Sexp):isNumX x=(numR x).2.1:=by
 unfold isNumX numR
 cases numN x <;> rfl
theorem numR_lim (x:Sexp):-4611686018427387904<=(numR x).1/\(numR x).1<=4611686018427387904:=by
 unfold numR
 cases h:numN x with
 | none=>simp only;omega
 | some p =>
  unfold numN at h;simp only;have hx:=parseV_lim (Lx.bs x.text)
  split at h
  ·cases h;simp only;omega
  ·split at h
   ·split at h
    ·rename_i y _
     have hy:=parseV_lim (Lx.bs y.text)
     split at h
     ·cases h;simp only;omega
     ·cases h
    ·cases h
   ·cases h
theorem numberM_fst (c:Cx) (x:Sexp) (st:St):(numberM c x st).1=(numR x).1:=by
 unfold numberM numR
 cases numN x <;> rfl
theorem numberM_snd (c:Cx) (x:Sexp) (st:St):(numberM c x st).2=if(numR x).2.2≠0/\c.build=true then failS (numR x).2.2 st else st:=by
 unfold numberM numR
 cases h:numN x <;> simp
theorem isnum_any {w:World} {A:Option Addr} {c:Nat} {x:Sexp} (h:XAt w A c x) :
  Calls Tryz.prog 54 #[.agg #[.int .i8 x.kind,.string x.text,.slice A x.l.length c]] w fun e w'=>e=.returned (.bool (isNumX x))/\Below w.heap.size w w':=by
 rw [isNumX_eq];have XB:=kp (Bk.new w (.cells #[.int .i8 x.kind,.string x.text,.slice A x.l.length c] 40));have B1:=kp ((brq w).alloc nlq (.cells #[.int .i8 x.kind,.string x.text,.slice A x.l.length c] 40));have HN:=kp (fun W (hW:Below w.heap.size w W)=>numeralX_any (h.on hW));unfold NumPost at HN
 go_enter Tryz.func54,Tryz.ntmps54
 go_upto_region 1 with fail
 generalize w.alloc (.cells #[.int .i8 x.kind,.string x.text,.slice A x.l.length c] 40)=w1 at *;obtain ⟨r1,r2,r3,hr⟩:∃ a b c,numR x=(a,b,c):=⟨_,_,_,rfl⟩;rw [hr] at HN;have HR:=kp hr;clear hr;obtain ⟨q0,q1,q2,qf⟩:=Bk.c3 XB.out;go_wp2_with fail
 refine(HN.out w1 B1.out).mono ?_;rintro e w2 ⟨rfl,hb⟩;have B2:=kp (B1.out.trans (hb.mono B1.out.size));clear hb;go_wp2_with fail
 go_ret;exact⟨by rw [HR.out];rfl,B2.out⟩
def NuPost (F:Fix) (known:Int) (w:World) (t:List Node) (At:Option Addr) (n:Int) (st':St) (e:Ending) (w':World):Prop :=
 e=.returned (.int .i64 n)/\Keeps (onMb F) w w'/\∃ A' c',Mk F w' known st' A' c'/\TN w.heap.size t At st'.t A'
theorem number_any {F:Fix} (hF:FixOk F) {w:World} {known:Int} {st:St} {At:Option Addr} {ct:Nat} (hm:Mk F w known st At ct) {A:Option Addr} {c:Nat} {x:Sexp} (h:XAt w A c x) :
  Calls Tryz.prog 56 #[.pointer (some ⟨F.mb,0,none⟩),.agg #[.int .i8 x.kind,.string x.text,.slice A x.l.length c]] w (NuPost F known w st.t At (numberM F.c x st).1 (numberM F.c x st).2):=by
 rw [numberM_fst,numberM_snd];have XB:=kp (Bk.new w (.cells #[.int .i8 x.kind,.string x.text,.slice A x.l.length c] 40));have B1:=kp ((brq w).alloc nlq (.cells #[.int .i8 x.kind,.string x.text,.slice A x.l.length c] 40));have HN:=kp (fun W (hW:Below w.heap.size w W)=>numeralX_any (h.on hW))
 have HP:=kp (show ∀ w' n st' A' c',n=(numR x).1->st'=(if(numR x).2.2≠0/\F.c.build=true then failS (numR x).2.2 st else st)->Keeps (onMb F) w w'->Mk F w' known st' A' c'->TN w.heap.size st.t At st'.t A'->NuPost F known w st.t At (numR x).1 (if(numR x).2.2≠0/\F.c.build=true then failS (numR x).2.2 st else st) (.returned (.int .i64 n)) w' from fun w' n st' A' c' h1 h2 h3 h4 h5=>by
  subst h1;subst h2;exact⟨rfl,h3,A',c',h4,h5⟩)
 generalize NuPost F known w st.t At (numR x).1 (if(numR x).2.2≠0/\F.c.build=true then failS (numR x).2.2 st else st)=PP at *;unfold NumPost at HN;have HM:=kp (hm.keep B1.out)
 go_enter Tryz.func56,Tryz.ntmps56
 go_upto_region 1 with fail
 generalize w.alloc (.cells #[.int .i8 x.kind,.string x.text,.slice A x.l.length c] 40)=w1 at *;generalize numR x=r at *;obtain ⟨r1,r2,r3⟩:=r;obtain ⟨q0,q1,q2,qf⟩:=Bk.c3 XB.out;go_wp2_with fail
 refine(HN.out w1 B1.out).mono ?_;rintro e w2 ⟨rfl,hb⟩;have B2:=kp (B1.out.trans (hb.mono B1.out.size));have HM2:=kp (hm.keep B2.out);clear hb q0 q1 q2 qf HM;obtain ⟨m0,m1,m2,m3,m4,m5,m6,m7,m8,mf⟩:=Bk.c9 HM2.out.blk
 by_cases h3:r3=0
 ·have h3':(r3 != 0)=false:=by simp [h3]
  have HR:=kp (HP.out w2 r1 st At ct rfl (by simp [h3]) (Keeps.of_below B2.out _) HM2.out (TN.refl _ _ _));clear h3;go_wp2_with fail
  exact HR.out
 ·have h3':(r3 != 0)=true:=by simp [h3]
  cases hbu:F.c.build with
  | false =>
   rw [hbu] at m5;have HR:=kp (HP.out w2 r1 st At ct rfl (by simp [hbu]) (Keeps.of_below B2.out _) HM2.out (TN.refl _ _ _));clear h3 hbu;go_wp2_with fail
   exact HR.out
  | true =>
   rw [hbu] at m5;have HS:=kp (show failS r3 st=if r3≠0/\F.c.build=true then failS r3 st else st by rw [if_pos ⟨h3,hbu⟩]);have HFl:=kp (fail_any hF HM2.out r3 h3);clear h3 hbu;go_wp2_with fail
   refine HFl.out.mono ?_;rintro e w5 ⟨rfl,hv,hk,A5,c5,hm5,ht5⟩;have HR:=kp (HP.out w5 r1 _ A5 c5 rfl HS.out ((Keeps.of_below B2.out _).trans_same hk) hm5 (ht5.mono B2.out.size));clear hv hk hm5 ht5;go_wp2_with fail
   exact HR.out
end El
end Go.Proofs.YtpmdcckapddchaaGreatDoor
