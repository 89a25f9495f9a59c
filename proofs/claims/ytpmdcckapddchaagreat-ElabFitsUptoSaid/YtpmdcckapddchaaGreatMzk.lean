import Derived.Test.YtpmdcckapddchaaGreatShort
import Derived.Test.YtpmdcckapddchaaGreatMzi
import Derived.Test.YtpmdcckapddchaaGreatMa
import Derived.Test.YtpmdcckapddchaaGreatMzd
import Derived.Test.YtpmdcckapddchaaGreatMza
/- merged by wip/merge.py from: Rd10 RdRow Rd11 RdEqP RdSumP Rd12 Rd13 Rd14 RdCoreP Rd15 -/
set_option maxRecDepth 100000
set_option maxHeartbeats 51200000
namespace Go.Proofs.YtpmdcckapddchaaGreat
namespace El
open Go.RowKit Dt Sg
def nameR (F:RFix) (s:ByteArray) (env:Env) (st:St):V × St:=match findE env s with
 | some v=>(v,st)
 | none =>
  if s=sTrue then opM (cxR F) 0 0 [] st
  else if s=sFalse then opM (cxR F) 1 0 [(opM (cxR F) 0 0 [] st).1] (opM (cxR F) 0 0 [] st).2
  else if Lx.resB (Lx.bs s)=true then(v0,failS 30 st)
  else callM (cxR F) (termP (cxR F)) F.g.macros.length s [] env st
theorem rname_any {F:RFix} (hF:RFixOk F) {w:World} {st:St} (hm:RR F w st.e) (s:ByteArray) {Av:Option Addr} {vs:List Vy} (cv:Nat) {env:Env} (hv:VarsS F w Av vs) (hvl:vs.length<=4000000) (he:EnvEq env vs) :
  Calls Tryz.prog 89 #[.pointer (some ⟨F.rb,0,none⟩),.string s,.slice Av vs.length cv] w (RPost F w (nameR F s env st)):=by
 have D1:=kp (RMid.new hm);have HFi:=kp (fun(W:World) (hk:Keeps (onRb F) w W)=>vfind_any cv ((hv.on hk).now) (by omega) s);unfold VFindPost at HFi;have HEn:=kp (find_env he s);have HOk:=kp (lies_var hv.now);have HCa:=kp (fun(W:World) (hk:Keeps (onRb F) w W) (hr:RR F W st.e)=>rcall_any hF (l:=[]) (fun y hy=>by cases hy) hr s (A:=none) 0 (.inl rfl) (by simp) cv (hv.on hk) (fun y hy=>by cases hy) (fun _=>he));have HRs:=kp (Lx.rreserved_any s)
 have HS:=kp (show nameR F s env st=match findE env s with
  | some v=>(v,st)
  | none =>
   if s=sTrue then opM (cxR F) 0 0 [] st
   else if s=sFalse then opM (cxR F) 1 0 [(opM (cxR F) 0 0 [] st).1] (opM (cxR F) 0 0 [] st).2
   else if Lx.resB (Lx.bs s)=true then(v0,failS 30 st)
   else callM (cxR F) (termP (cxR F)) F.g.macros.length s [] env st from rfl)
 clear hm hv he;generalize nameR F s env st=res at *;generalize callM (cxR F) (termP (cxR F)) F.g.macros.length s [] env st=resC at *
 go_enter Tryz.func89,Tryz.ntmps89
 go_upto_region 1 with fail
 generalize w.alloc (.cells #[.string { data:=#[] },.int .i64 0,.int .i64 0] 94)=w1 at *;have HF1:=kp (HFi.out _ D1.out.keeps);go_wp2_with fail
 refine HF1.out.mono ?_;rintro e w2 ⟨⟨nm,n,o,rfl,hcase⟩,hb2⟩;have D2:=kp (D1.out.below hb2);have D3:=kp (D2.out.alloc (.cells #[.string nm,.int .i64 n,.int .i64 0] 94));have V3:=kp (Bk.new w2 (.cells #[.string nm,.int .i64 n,.int .i64 0] 94));clear hb2 HF1 HFi;rcases hcase with⟨h1,rfl,rfl,rfl⟩ | ⟨h1,rfl⟩
 ·have HE0:=kp (show findE env s=none by
   rcases HEn.out with⟨_,h⟩ | ⟨p,v,h2,_⟩
   ·exact h
   ·rw [h1] at h2;cases h2)
  rw [HE0.out] at HS;clear h1 HE0 HEn HOk;go_upto_region 2 with fail
  generalize w2.alloc (.cells #[.string { data:=#[] },.int .i64 0,.int .i64 0] 94)=w3 at *
  by_cases ht:s=sTrue
  ·have g1:=tl_true ht;replace HS:=kp (HS.out.trans (if_pos ht));have HOp:=kp (rdop_any hF D3.out.rd 0 0 (L:=none) (vs:=[]) (lV:=[]) 0 (.inl rfl) (by simp) (fun _=>rfl));generalize opM (cxR F) 0 0 [] st=q at *;clear ht HCa;go_wp2_with fail
   refine HOp.out.mono ?_;rintro e w7 ⟨nm7,s7,rfl,hv7,hk7,hm7⟩;have D7:=kp (D3.out.call hk7 hm7);clear hk7 hm7;obtain ⟨r0,r1,r2,rf⟩:=Bk.c3 D7.out.cell;go_wp2_with fail
   rw [HS.out];refine RMid.ret hF (q:=q) D7.out Tryz.results89 ?_ ?_ hv7 <;> rfl
  ·have g1:=tl_false ht;replace HS:=kp (HS.out.trans (if_neg ht))
   by_cases hfl:s=sFalse
   ·have g2:=tl_true hfl;replace HS:=kp (HS.out.trans (if_pos hfl));have HOp:=kp (rdop_any hF D3.out.rd 0 0 (L:=none) (vs:=[]) (lV:=[]) 0 (.inl rfl) (by simp) (fun _=>rfl));generalize opM (cxR F) 0 0 [] st=q at *;obtain ⟨qv,qs⟩:=q;clear ht hfl HCa;go_wp2_with fail
    refine HOp.out.mono ?_;rintro e w4 ⟨nm4,s4,rfl,hv4,hk4,hm4⟩;have D4:=kp ((D3.out.call hk4 hm4).alloc (.cells #[.string nm4,.int .i64 s4,.int .i64 0] 94));have S4:=kp (Bk.new w4 (.cells #[.string nm4,.int .i64 s4,.int .i64 0] 94));have HV4:=kp (show VIs (nm4,s4) qv qs from VIs.of hv4);clear hk4 hm4 hv4;have HO2:=kp (rdop_any hF (st:=qs) D4.out.rd 1 0 (vs:=[(nm4,s4)]) (lV:=[qv]) 1 (lies_v1 S4.out HV4.out.ok) (by simp) (fun h=>by have h2:s4=qv.1:=HV4.out.same h;simp [h2]));replace HS:=kp (show res=opM (cxR F) 1 0 [qv] qs from HS.out);generalize opM (cxR F) 1 0 [qv] qs=q2 at *;go_wp2_with fail
    refine HO2.out.mono ?_;rintro e w7 ⟨nm7,s7,rfl,hv7,hk7,hm7⟩;have D7:=kp (D4.out.call hk7 hm7);clear hk7 hm7;obtain ⟨r0,r1,r2,rf⟩:=Bk.c3 D7.out.cell;go_wp2_with fail
    rw [HS.out];refine RMid.ret hF (q:=q2) D7.out Tryz.results89 ?_ ?_ hv7 <;> rfl
   ·have g2:=tl_false hfl;replace HS:=kp (HS.out.trans (if_neg hfl));clear ht hfl
    cases hrs:Lx.resB (Lx.bs s) with
    | true =>
     rw [hrs] at HS HRs;replace HS:=kp (show res=(v0,failS 30 st) from HS.out);have HFl:=kp (fails_any hF (st:=st) D3.out.rd 30);clear hrs HCa;go_wp2_with fail
     refine(HRs.out _).mono ?_;rintro e w' ⟨rfl,rfl⟩;go_wp2_with fail
     refine HFl.out.mono ?_;rintro e w7 ⟨nm7,s7,rfl,hv7,hk7,hm7⟩;have D7:=kp (D3.out.call hk7 hm7);clear hk7 hm7;obtain ⟨r0,r1,r2,rf⟩:=Bk.c3 D7.out.cell;go_wp2_with fail
     rw [HS.out];refine RMid.ret hF (q:=(v0,failS 30 st)) D7.out Tryz.results89 ?_ ?_ hv7 <;> rfl
    | false =>
     rw [hrs] at HS HRs;replace HS:=kp (show res=resC from HS.out);have HC:=kp (HCa.out _ D3.out.keeps D3.out.rd);clear hrs HCa;go_wp2_with fail
     refine(HRs.out _).mono ?_;rintro e w' ⟨rfl,rfl⟩;go_wp2_with fail
     refine HC.out.mono ?_;rintro e w7 ⟨nm7,s7,rfl,hv7,hk7,hm7⟩;have D7:=kp (D3.out.call hk7 hm7);clear hk7 hm7;obtain ⟨r0,r1,r2,rf⟩:=Bk.c3 D7.out.cell;go_wp2_with fail
     rw [HS.out];refine RMid.ret hF (q:=resC) D7.out Tryz.results89 ?_ ?_ hv7 <;> rfl
 ·obtain ⟨v,hfe,hpv,hok⟩:∃ v,findE env s=some v/\n=v.1/\VyOk (nm,n):=by
   rcases HEn.out with⟨h,_⟩ | ⟨p,v,h2,h3,h4,h5⟩
   ·rw [h1] at h;cases h
   ·rw [h1] at h2;obtain rfl:(nm,n)=p:=by simpa using h2
    exact⟨v,h3,h4,HOk.out _ h5⟩
  rw [hfe] at HS;replace HS:=kp (show res=(v,st) from HS.out);have HV:=kp (show VOk nm n (v,st) from⟨hok.1,hok.2,fun _=>hpv⟩);clear h1 hfe hpv hok HEn HOk HCa;go_upto_region 2 with fail
  generalize w2.alloc (.cells #[.string nm,.int .i64 n,.int .i64 0] 94)=w3 at *;obtain ⟨z0,z1,z2,zf⟩:=Bk.c3 V3.out;obtain ⟨r0,r1,r2,rf⟩:=Bk.c3 D3.out.cell;go_wp2_with fail
  rw [HS.out];refine RMid.ret hF (q:=(v,st)) D3.out Tryz.results89 ?_ ?_ HV.out <;> rfl
section
variable {F:RFix} {base:Nat} {w w':World} {vs:List Vy}
theorem push_vstep {ops:Array Oper} {o:Oper} {a:Act} {K:Act->World->Prop} {Q:Exit->Act->World->Prop} {E:Prop} (hgd:o.guard=none) (s x:Operand) (ho:o.op=.call { callee:=.builtin .append,args:=#[s,x],argTypes:=#[92,92] })
  {Ao:Option Addr} {co b:Nat} {u:Vy} (hs:a.eval s=.slice Ao vs.length co) (h:VyRow base w (.slice Ao vs.length co) vs) (hx:a.eval x=.slice (some ⟨b,0,none⟩) 1 1) (hb:w.heap[b]?=some (.cells #[.string u.1,.int .i64 u.2,.int .i64 0] 94 (0,0))) (hu:VyOk u) (hlen:vs.length < 4000000000000) (hbase:base<=w.heap.size)
  (hK:∀ A9 c9 w9,VyRow base w9 (.slice A9 (vs.length+1) c9) (vs ++ [u])->w.grownBy w9 (Value.slice Ao vs.length co).ownBlock->K (a.put o.dst (.slice A9 (vs.length+1) c9)) w9) :
  if Region.wanted o (yielded ops a.tmps)=true then Oper.wp Tryz.prog o a w K Q else E:=by
 obtain ⟨i0,hi0,z0,z1,z2⟩:=info_parts info_vary;refine step_append_at hgd s x _ ho base 94 i0 (.agg #[.string { data:=#[] },.int .i64 0,.int .i64 0]) 3 32 Tryz.underlying92 hi0 z0 z1 z2 rfl (by decide) (.slice Ao vs.length co) vs.length (flatV vy vs) hs h.own (some ⟨b,0,none⟩) 1 1 (vy u) hx rfl (vy_cells hb) (by simp [vy,Value.oneCell']) (by unfold maxLen;omega) (by omega) hbase ?_;intro v' w9 hown hgr hat
 have hp:VyRow base w9 v' (vs ++ [u]):=⟨by rw [List.length_append,flatV_snoc];exact hown,fun x hx=>by
  rcases List.mem_append.1 hx with hx | hx
  ·exact h.ok x hx
  ·obtain rfl:x=u:=by simpa using hx
   exact hu⟩
 obtain ⟨A9,c9,hv,_,_⟩:=hp.shape;rw [List.length_append] at hv;subst hv;exact hK A9 c9 w9 hp hgr
theorem vars_cells {L:Addr} (h:VarsS F w (some L) vs) (hk:Keeps (onRb F) w w') {k:Nat} {p:Vy} (hp:vs[k]?=some p) :
  w'.cell? ⟨L.block,L.off+k * 3,none⟩=some (.string p.1)/\w'.cell? ⟨L.block,L.off+k * 3+1,none⟩=some (.int .i64 p.2)/\w'.cell? ⟨L.block,L.off+k * 3+2,none⟩=some (.int .i64 0):=by
 obtain ⟨b,o,hA,_,h3,_⟩:=var_get (h w' hk) hp;simp only [Option.some.injEq] at hA;subst hA;exact h3
theorem vars_some {L:Option Addr} (h:VarsS F w L vs) (h0:0 < vs.length):(∃ b o,L=some ⟨b,o,none⟩)/\∀ p ∈ vs,VyOk p:=by
 obtain ⟨b,o,hA,_⟩:=var_get h.now (gqe h0);exact⟨⟨b,o,hA⟩,lies_var h.now⟩
end
theorem keep_row2 {S:Nat->Prop} {w w':World} {B m n:Nat} {t:TypeId} {v:Value} {xs:List Value} (h:w.ownsRow B t m v n xs) (hk:Keeps S w w') (hS:∀ g,v.ownBlock=some g->¬ S g):w'.ownsRow B t m v n xs:=by
 refine⟨h.1,?_⟩;rcases h.2 with h1 | ⟨g,cap,cur,h1,hg,hat,h2⟩
 ·exact .inl h1
 ·exact .inr ⟨g,cap,cur,h1,hg,(hk.block g (lt_of_block hat) (hS g (by rw [h1];rfl))).trans hat,h2⟩
theorem set3'_off {w:World} {k b:Nat} {x:Obj} (h:w.heap[k]?=some x) (hn:k≠b) (v0 v1 v2:Value):(set3' w b v0 v1 v2).heap[k]?=some x :=
 Bk.apart (Bk.apart (Bk.apart h (p:=⟨b,0,none⟩) hn _) (p:=⟨b,1,none⟩) hn _) (p:=⟨b,2,none⟩) hn _
theorem RMid.other3 {F:RFix} {w W:World} {rc k:Nat} {e:Int} (hF:RFixOk F) (h:RMid F w rc W e) (hk:w.heap.size<=k) (hn:k≠rc) (a b c:Value):RMid F w rc (set3' W k a b c) e:=((h.other hF hk hn 0 a).other hF hk hn 1 b).other hF hk hn 2 c
end El
namespace El
open Go.RowKit Dt Sg
theorem full3 {x:Sexp} (h:x.l.length=3):(nthX x 1).full+(nthX x 2).full < x.full:=by
 have:=Sexp.full_eq x
 match hl:x.l,h with
 | [a,b,c],_ =>
  rw [hl] at this;simp only [Sexp.fullL_cons,Sexp.fullL_nil] at this;have e1:nthX x 1=b:=by unfold nthX;rw [hl];rfl
  have e2:nthX x 2=c:=by unfold nthX;rw [hl];rfl
  rw [e1,e2]
  omega
theorem vy_lies_cells {w:World} {A:Option Addr} {vs:List Vy} (h:Lies 3 VarR w A vs):Cells w A (flatV vy vs):=by
 rcases h with h | ⟨b,o,hA,hlt,hr⟩
 ·subst h;exact .inl rfl
 ·refine .inr ⟨b,o,hA,hlt,fun j u hu=>?_⟩;exact lies_cells (val:=vy) (fun vs x h=>h.1) (.inr ⟨b,o,rfl,hlt,hr⟩) j u hu
theorem vy_one {vs:List Vy}:∀ u ∈ flatV vy vs,u.oneCell'=true:=by
 induction vs with
 | nil=>intro u hu;simp [flatV] at hu
 | cons p r ih =>
  intro u hu;unfold flatV at hu;rcases List.mem_append.1 hu with hu | hu
  ·simp only [vy,List.mem_cons,List.not_mem_nil,or_false] at hu;rcases hu with rfl | rfl | rfl <;> rfl
  ·exact ih u hu
theorem env_snoc {ns:List ByteArray} {a:List V} {env:Env} {us:List Vy} {n:ByteArray} {v:V} {s:Int} (h:EnvEq ((ns.zip a).reverse ++ env) us) (hn:ns[a.length]?=some n) (hs:s=v.1):EnvEq ((ns.zip (a ++ [v])).reverse ++ env) (us ++ [(n,s)]):=by
 unfold EnvEq at *;rw [zip_snoc hn,List.cons_append,List.map_cons,h,List.reverse_append];simp [hs]
theorem rlet_any {F:RFix} (hF:RFixOk F) {x:Sexp} (hT:∀ y:Sexp,y.full < x.full->RTermC F y) {w:World} {st:St} (hm:RR F w st.e) {A:Option Addr} {c:Nat} (hx:XAt F.W0 A c x) {Av:Option Addr} {vs:List Vy} (cv:Nat) {env:Env} (hv:VarsS F w Av vs) (hvl:vs.length+x.full<=4000000) (he:st.e=0->EnvEq env vs) :
  Calls Tryz.prog 92 #[.pointer (some ⟨F.rb,0,none⟩),.agg #[.int .i8 x.kind,.string x.text,.slice A x.l.length c],.slice Av vs.length cv] w (RPost F w (letM (termP (cxR F)) F.g.macros.length x env st)):=by
 obtain ⟨i0,hi0,z0,z1,z2⟩:=info_parts info_vary;have I0:=kp hi0;have I1:=kp z0;have I2:=kp z1;have I3:=kp z2;clear hi0 z0 z1 z2;have HT:=kp hT;have HX:=kp hx;have HV:=kp hv;have HVl:=kp hvl;have HE:=kp he;have HE0:=kp he;have B1:=kp ((brq w).alloc nlq (.cells #[.int .i8 x.kind,.string x.text,.slice A x.l.length c] 30));have Z1:=kp (show(w.alloc (.cells #[.int .i8 x.kind,.string x.text,.slice A x.l.length c] 30)).heap.size=w.heap.size+1 by simp);have D1:=kp (RMid.newOn hm B1.out);have X1:=kp (Bk.keep (Bk.new w (.cells #[.int .i8 x.kind,.string x.text,.slice A x.l.length c] 30)) (.cells #[.string { data:=#[] },.int .i64 0,.int .i64 0] 94));rw [Z1.out] at D1;have hvs:vs.length<=4000000:=by omega
 have HS:=kp (show letM (termP (cxR F)) F.g.macros.length x env st=match boundN x with
  | none=>(v0,failS 30 st)
  | some names=>termP (cxR F) F.g.macros.length (nthX x 2) ((names.zip (allM (fun y=>termP (cxR F) F.g.macros.length y env) ((nthX x 1).l.map secondX) st).1).reverse ++ env) (allM (fun y=>termP (cxR F) F.g.macros.length y env) ((nthX x 1).l.map secondX) st).2 from rfl)
 have HBd:=kp (fun ns h=>bound_some (x:=x) (ns:=ns) h);have HStk:=kp (fun y (s:St) (h:s.e≠0)=>term_stick (cxR F) F.g.macros.length y env s h);clear hm hT hx hv hvl he;generalize letM (termP (cxR F)) F.g.macros.length x env st=res at *;have hlt:=D1.out.lt
 go_enter Tryz.func92,Tryz.ntmps92
 go_upto_region 1 with fail
 generalize (w.alloc (.cells #[.int .i8 x.kind,.string x.text,.slice A x.l.length c] 30)).alloc (.cells #[.string { data:=#[] },.int .i64 0,.int .i64 0] 94)=w1 at *;obtain ⟨q0,q1,q2,qf⟩:=Bk.c3 X1.out;have HBo:=kp (rbindings_any (HX.out.on D1.out.rd.below))
 cases hbo:boundN x with
 | none =>
  rw [hbo] at HS HBo;go_wp2_with fail
  refine HBo.out.mono ?_;rintro e w2 ⟨rfl,hb2⟩;have D2:=kp (D1.out.below hb2);clear hb2 q0 q1 q2 qf;have HFl:=kp (fails_any hF (st:=st) D2.out.rd 30);replace HS:=kp (show res=(v0,failS 30 st) from HS.out);go_wp2_with fail
  refine HFl.out.mono ?_;rintro e w7 ⟨nm7,s7,rfl,hv7,hk7,hm7⟩;have D7:=kp (D2.out.call hk7 hm7);clear hk7 hm7;obtain ⟨r0,r1,r2,rf⟩:=Bk.c3 D7.out.cell;go_wp2_with fail
  rw [HS.out];refine RMid.ret hF (q:=(v0,failS 30 st)) D7.out Tryz.results92 ?_ ?_ hv7 <;> rfl
 | some ns =>
  rw [hbo] at HS HBo;have H3:=kp (HBd.out ns hbo);replace HS:=kp (show res=termP (cxR F) F.g.macros.length (nthX x 2) ((ns.zip (allM (fun y=>termP (cxR F) F.g.macros.length y env) ((nthX x 1).l.map secondX) st).1).reverse ++ env) (allM (fun y=>termP (cxR F) F.g.macros.length y env) ((nthX x 1).l.map secondX) st).2 from HS.out);clear hbo HBd;go_wp2_with fail
  refine HBo.out.mono ?_;rintro e w2 ⟨rfl,hb2⟩;have D2:=kp (D1.out.below hb2);have X2:=kp (Bk.on X1.out hb2);clear hb2 q0 q1 q2 qf HBo;obtain ⟨h3,hns,hun⟩:=H3.out;clear H3;obtain ⟨b0,o0,A1,c1,hA,hx1,hc1⟩:=nth_xs HX.out (i:=1) (by omega);obtain ⟨b0',o0',A2,c2,hA2,hx2,hc2⟩:=nth_xs HX.out (i:=2) (by omega);subst hA;obtain ⟨rfl,rfl⟩:=aiq hA2;rw [Nat.one_mul] at hc1;have HM1:=kp (nth_mem (x:=x) (i:=1) (by omega));have HM2:=kp (nth_mem (x:=x) (i:=2) (by omega));have H3f:=kp (full3 h3);have g3:(2:Int) < (x.l.length:Int):=by omega
  have g4:(1:Int) < (x.l.length:Int):=by omega
  have HX2:=kp hx2;have HC1:=kp hc1;have HC2:=kp hc2;generalize nthX x 1=y1 at *;generalize nthX x 2=y2 at *;have HLl:=kp hx1.opens.1;have HNl:=kp (show ns.length=y1.l.length by rw [hns];simp);have hyl:=hx1.opens.2.2.2.2.1;have HNs:=kp (fun k u (hu:y1.l[k]?=some u)=>show ns[k]?=some (nthX u 0).text by rw [hns,List.getElem?_map,hu];rfl);have HUn:=kp hun;have HYf:=kp (len_full y1);clear hns hun h3 hx1 hx2 hc1 hc2;generalize hrest:y1.l.map secondX=rest at *;have HRest:=kp hrest;have HRl:=kp (show rest.length=ns.length by rw [← hrest,HNl.out];simp);clear hrest;generalize hr:(fun y=>termP (cxR F) F.g.macros.length y env)=r at *;have HRf:=kp (fun y s=>show termP (cxR F) F.g.macros.length y env s=r y s by rw [← hr]);clear hr;have HS0:=kp (show res=termP (cxR F) F.g.macros.length y2 ((ns.zip ([] ++ (allM r (rest.drop 0) st).1)).reverse ++ env) (allM r (rest.drop 0) st).2 from HS.out);clear HS;have HVc:=kp (vy_lies_cells (HV.out.on D2.out.keeps).now);have HVo:=kp (lies_var HV.out.now);have HFl9:=kp (show(flatV vy vs).length=vs.length * 3 from flatV_len (n:=3) (val:=vy) (fun _=>rfl) vs);have hw2:=D2.out.size;go_upto_region 4 with fail
  go_wp2_with (at_builtin;go_loud (refine wpList_append_at rfl (.tmp 16) (.tmp 17) _ rfl (w.heap.size+2) 94 i0 (.agg #[.string { data:=#[] },.int .i64 0,.int .i64 0]) 3 32 Tryz.underlying92 I0.out I1.out I2.out I3.out rfl (by decide) (.slice none 0 0) 0 [] rfl ⟨by simp,.inl ⟨rfl,rfl⟩⟩ Av vs.length cv (flatV vy vs) rfl HFl9.out HVc.out vy_one (by unfold maxLen;omega) (by omega) (by omega) ?_))
  intro v9 w9 hown hgr hat;have R9:=kp (show VyRow (w.heap.size+2) w9 v9 vs from⟨by simpa using hown,fun u hu=>HVo.out u hu⟩);have D9:=kp (RMid.grown hF D2.out (VyRow.nil (w.heap.size+2) w2) hgr (by omega));have X9:=kp (grown_blkV (VyRow.nil (w.heap.size+2) w2) hgr X2.out (by omega));obtain ⟨A9,c9,rfl,_,_⟩:=R9.out.shape;have HE9:=kp (show st.e=0->EnvEq ((ns.zip ([]:List V)).reverse ++ env) (vs ++ []) by simpa using HE.out);have HK9:=kp (show w.heap.size+2<=w9.heap.size by have:=D9.out.size;omega);clear hown hgr hat HVc HVo D2 X2 D1 X1 HE;replace R9:=kp (show VyRow (w.heap.size+2) w9 (.slice A9 vs.length c9) (vs ++ []) by rw [List.append_nil];exact R9.out);go_wp2_with fail
  go_loopw [7,8] (fun v' i' wr=>∃ (k:Nat) (us:List Vy) (a:List V) (st':St),k<=ns.length/\i'=.int .i64 k/\us.length=k/\a.length=k/\res=termP (cxR F) F.g.macros.length y2 ((ns.zip (a ++ (allM r (rest.drop k) st').1)).reverse ++ env) (allM r (rest.drop k) st').2/\(st'.e=0->EnvEq ((ns.zip a).reverse ++ env) (vs ++ us))/\(st'.e=0->st.e=0)/\VyRow (w.heap.size+2) wr v' (vs ++ us)/\RMid F w (w.heap.size+1) wr st'.e/\wr.heap[w.heap.size]?=some (.cells #[.int .i8 x.kind,.string x.text,.slice (some ⟨b0,o0,none⟩) x.l.length c] 30 (0,0))) (fun _ i' _=>ns.length - (intOf i').toNat)
  case atStart=>exact⟨0,[],[],st,Nat.zero_le _,rfl,rfl,rfl,HS0.out,HE9.out,id,R9.out,D9.out,X9.out⟩
  case round =>
   clear R9 D9 X9 HE9 HS0;obtain ⟨k,us,a,st',hk,rfl,hul,hal,hres,hen,hst,hrow,hmid,hxr⟩:=hrel;obtain ⟨vu,hvu⟩:∃ vu,vu=vs ++ us:=⟨_,rfl⟩;rw [← hvu] at hen hrow;have HVu:=kp hvu;have HVn:=kp (show vu.length=vs.length+us.length by rw [hvu,List.length_append]);clear hvu;have HRes:=kp hres;have HEn:=kp hen;have HSt:=kp hst;have RR':=kp hrow;have DR:=kp hmid;have XR:=kp hxr;have HUl:=kp hul;have HAl:=kp hal;obtain ⟨Ao,co,hvo,_,_⟩:=hrow.shape;subst hvo;clear hres hen hst hrow hmid hxr hul hal
   by_cases hkl:k < ns.length
   ·have hlt2:(k:Int) < (y1.l.length:Int):=by have:=HNl.out;omega
    obtain ⟨u,hu⟩:∃ u,y1.l[k]?=some u:=⟨_,gqe (by have:=HNl.out;omega)⟩;have HN:=kp (HNs.out k u hu);have hu2:=HUn.out u (mgq hu);have hu3:(1:Int) < (u.l.length:Int):=by omega
    have hu4:(0:Int) < (u.l.length:Int):=by omega
    have HDr:=kp (show rest.drop k=nthX u 1 :: rest.drop (k+1) by
     have hlr:k < rest.length:=by have:=HRl.out;omega
     rw [List.drop_eq_getElem_cons hlr];have h1:rest[k]?=some (nthX u 1):=by rw [← HRest.out,List.getElem?_map,hu];rfl
     rw [gqe hlr] at h1;simp at h1;rw [h1])
    rw [HDr.out] at HRes;replace HRes:=kp (show res=termP (cxR F) F.g.macros.length y2 ((ns.zip (a ++ ((r (nthX u 1) st').1 :: (allM r (rest.drop (k+1)) (r (nthX u 1) st').2).1))).reverse ++ env) (allM r (rest.drop (k+1)) (r (nthX u 1) st').2).2 from HRes.out);obtain ⟨bu,ou,Au,cu,hAu,hxu,hcu⟩:=xs_get HLl.out hu;obtain ⟨bz,oz,Az,cz,hAz,hxz,hcz⟩:=nth_xs hxu (i:=1) (by omega);obtain ⟨bz',oz',Ay,cy,hAz',hxy,hcy⟩:=nth_xs hxu (i:=0) (by omega);subst hAu hAz;simp only [Option.some.injEq,Addr.mk.injEq,and_true] at hAz';obtain ⟨rfl,rfl⟩:=hAz';rw [Nat.one_mul] at hcz;rw [Nat.zero_mul,Nat.add_zero] at hcy;have HNz:=kp (show((nthX u 0).text.size:Int)<=140737488351232 from hxy.opens.2.2.2.1)
    have hfz:(nthX u 1).full < x.full/\vs.length+(nthX u 1).full<=4000000:=by
     have h1:=full_mem (nth_mem (x:=u) (i:=1) (by omega));have h2:=full_mem (mgq hu);have h3:=full_mem HM1.out;have h4:=HVl.out
     omega
    have HCz:=kp hcz;have HCy:=kp hcy;obtain ⟨e0,e1,e2⟩:=HC1.out wr DR.out.rd.below;obtain ⟨f0,f1,f2⟩:=hcu wr DR.out.rd.below;obtain ⟨q0,q1,q2,qf⟩:=Bk.c3 XR.out;have BU:=kp ((brq wr).alloc nlq (.cells #[.int .i8 u.kind,.string u.text,.slice (some ⟨bz,oz,none⟩) u.l.length cu] 30));have DU:=kp (DR.out.below BU.out);have XU:=kp (Bk.on XR.out BU.out);have RU:=kp (RR'.out.below BU.out);have UU:=kp (Bk.new wr (.cells #[.int .i8 u.kind,.string u.text,.slice (some ⟨bz,oz,none⟩) u.l.length cu] 30));have hub:=DR.out.keeps.size;have hur:w.heap.size+2<=wr.heap.size:=by have:=DR.out.size;omega
    have HC:=kp (HT.out _ hfz.1 DU.out.rd hxz (HV.out.on DU.out.keeps) hfz.2 (fun h=>HE0.out (HSt.out h)) (cv:=cv));rw [HRf.out] at HC;have HSk:=kp (fun h=>HStk.out (nthX u 1) st' h);rw [HRf.out] at HSk;clear hu hu2 hxu hxz hxy hcz hcy hcu hfz HDr;generalize nthX u 1=z at *;generalize r z st'=pr at *;obtain ⟨pv,ps⟩:=pr;go_upto_region 9 with fail
    generalize wr.alloc (.cells #[.int .i8 u.kind,.string u.text,.slice (some ⟨bz,oz,none⟩) u.l.length cu] 30)=wu at *;generalize wr.heap.size=ub at *;clear e0 e1 e2 f0 f1 f2 q0 q1 q2 qf;obtain ⟨u0,u1,u2,uf⟩:=Bk.c3 UU.out;obtain ⟨z0,z1,z2⟩:=HCz.out wu DU.out.rd.below;go_wp2_with fail
    refine HC.out.mono ?_;rintro e w7 ⟨nm7,s7,rfl,hv7,hk7,hm7⟩;have D7:=kp (DU.out.call hk7 hm7);have X7:=kp (DU.out.blk hk7 XU.out nlq);have U7:=kp (DU.out.blk hk7 UU.out hub);have R7:=kp (RU.out.keep hk7 (by have:=DU.out.lt;omega));have V7:=kp hv7
    have HS7:=kp (show ps.e=0->st'.e=0 from fun h=>Decidable.byContradiction fun hn=>by
     have:=HSk.out hn;have e:ps=st':=this;rw [e] at h;exact hn h)
    clear hk7 hm7 hv7 u0 u1 u2 uf z0 z1 z2 HC HSk;have BV:=kp ((brq w7).alloc nlq (.cells #[.string nm7,.int .i64 s7,.int .i64 0] 94));have D8:=kp (D7.out.below BV.out);have X8:=kp (Bk.on X7.out BV.out);have U8:=kp (Bk.on U7.out BV.out);have R8:=kp (R7.out.below BV.out);have V8:=kp (Bk.new w7 (.cells #[.string nm7,.int .i64 s7,.int .i64 0] 94));have hvb:=D7.out.keeps.size;have hvr:w7.heap.size≠w.heap.size+1:=by have:=D7.out.size;omega
    have hvx:w7.heap.size≠w.heap.size:=by have:=D7.out.size;omega
    have hvu:ub≠w7.heap.size:=by have:=lt_of_block U7.out;omega
    have hv2:w.heap.size+2<=w7.heap.size:=by have:=D7.out.size;omega
    go_upto_region 10 with fail
    generalize w7.alloc (.cells #[.string nm7,.int .i64 s7,.int .i64 0] 94)=w8 at *;have HRv:=kp (fun g (hg:(Value.slice Ao vu.length co).ownBlock=some g)=>(R7.out.own.lt g hg).2);generalize w7.heap.size=vb at *;obtain ⟨u0,u1,u2,uf⟩:=Bk.c3 U8.out;obtain ⟨y0,y1',y2',yf⟩:=Bk.c3 V8.out;obtain ⟨z0,z1,z2⟩:=HCy.out w8 D8.out.rd.below;have D9:=kp (D8.out.other hF (k:=vb) hvb hvr 0 (.string (nthX u 0).text));have X9:=kp (Bk.apart X8.out (p:=⟨vb,0,none⟩) (Ne.symm hvx) (.string (nthX u 0).text));have V9:=kp (Bk.set_at V8.out 0 (.string (nthX u 0).text))
    have R9:=kp (show VyRow (w.heap.size+2) (w8.setCell ⟨vb,0,none⟩ (.string (nthX u 0).text)) (.slice Ao vu.length co) vu from
     ⟨keep_row2 R8.out.own ((Keeps.refl (fun k=>k=vb) w8).setCell (p:=⟨vb,0,none⟩) (.inl rfl) _) (fun g hg hk=>by have:=HRv.out g hg;omega),R8.out.ok⟩)
    go_upto_region 11 with fail
    clear u0 u1 u2 uf z0 z1 z2 y0 y1' y2' yf;generalize w8.setCell ⟨vb,0,none⟩ (.string (nthX u 0).text)=wn at *;generalize (nthX u 0).text=n at *;replace V9:=kp (show wn.heap[vb]?=some (.cells #[.string n,.int .i64 s7,.int .i64 0] 94 (0,0)) from V9.out);obtain ⟨y0,y1',y2',yf⟩:=Bk.c3 V9.out;have BB:=kp ((brq wn).alloc nlq (.cells #[.string n,.int .i64 s7,.int .i64 0] 94));have DA:=kp (D9.out.below BB.out);have XA:=kp (Bk.on X9.out BB.out);have RA:=kp (R9.out.below BB.out);have NA:=kp (Bk.new wn (.cells #[.string n,.int .i64 s7,.int .i64 0] 94));have hlen:vu.length < 4000000000000:=by have:=HVl.out;have:=HVn.out;have:=HUl.out;have:=HNl.out;have:=HYf.out;have:=H3f.out;omega
    go_wp2_with (at_builtin;go_loud (refine push_vy (u:=(n,s7)) rfl (.tmp 50) (.tmp 52) rfl rfl RA.out rfl NA.out ⟨HNz.out,V7.out.i64⟩ hlen (by have:=DA.out.size;omega) ?_))
    intro AZ cZ wZ hpZ hgZ;have DZ:=kp (RMid.grown hF DA.out RA.out hgZ (by omega));have XZ:=kp (grown_blkV RA.out hgZ XA.out (by omega));have RZ:=kp hpZ;clear hpZ hgZ y0 y1' y2' yf;have RY:=kp (show VyRow (w.heap.size+2) wZ (.slice AZ (vu.length+1) cZ) (vs ++ (us ++ [(n,s7)])) by rw [← List.append_assoc,← HVu.out];exact RZ.out);go_wp2_with fail
    go_roundw
    case rel=>exact⟨k+1,us ++ [(n,s7)],a ++ [pv],ps,by omega,by go_num,by simp [HUl.out],by simp [HAl.out],by rw [HRes.out];simp,fun h=>by
     rw [← List.append_assoc,← HVu.out];exact env_snoc (HEn.out (HS7.out h)) (by rw [HAl.out];exact HN.out) (V7.out.same h),fun h=>HSt.out (HS7.out h),RY.out,DZ.out,XZ.out⟩
    case measure=>simp [intOf];omega
   ·obtain rfl:k=ns.length:=by omega
    replace HRes:=kp (show res=termP (cxR F) F.g.macros.length y2 ((ns.zip a).reverse ++ env) st' by rw [HRes.out,List.drop_of_length_le (by have:=HRl.out;omega)];simp [allM]);have HC:=kp (HT.out y2 (full_mem HM2.out) DR.out.rd HX2.out (RR'.out.varsS (by have:=DR.out.lt;omega)) (by have:=HVl.out;have:=HVn.out;have:=HUl.out;have:=HNl.out;have:=HYf.out;have:=H3f.out;omega) HEn.out (cv:=co));obtain ⟨e0,e1,e2⟩:=HC2.out wr DR.out.rd.below;obtain ⟨f0,f1,f2⟩:=HC1.out wr DR.out.rd.below;obtain ⟨q0,q1,q2,qf⟩:=Bk.c3 XR.out;have hlt2:¬ (ns.length:Int) < (y1.l.length:Int):=by have:=HNl.out;omega
    rw [← HRes.out] at HC;go_wp2_with fail
    refine HC.out.mono ?_;rintro e w7 ⟨nm7,s7,rfl,hv7,hk7,hm7⟩;have D7:=kp (DR.out.call hk7 hm7);clear hk7 hm7 e0 e1 e2 q0 q1 q2 qf;obtain ⟨r0,r1,r2,rf⟩:=Bk.c3 D7.out.cell;go_wp2_with fail
    refine RMid.ret hF (q:=res) D7.out Tryz.results92 ?_ ?_ hv7 <;> rfl
def stE (s:Int) (st:St):St:=if 0<=s then st else { st with e:=33 }
section
variable {F:RFix} {s:Int} {st:St}
theorem eqR (h:st.e=0) {a b:V} (ha:a.1=s) (hb:b.1=s) {st':St} (hs:st'=st\/st'=stE s st):opM (cxR F) 6 0 [a,b] st'=(v0,stE s st):=by
 rw [opR]
 by_cases h0:0<=s
 ·have e:stE s st=st:=if_pos h0;have e':st'=st:=by rcases hs with h1 | h1 <;> simp [h1,e]
  rw [e',e,if_neg (by rw [h];decide)]
  have:opS 6 (List.map Prod.fst [a,b])=some 0:=by
   simp only [List.map_cons,List.map_nil,ha,hb];show(if 0<=s/\s=s then some (0:Int) else none)=some 0;rw [if_pos ⟨h0,rfl⟩]
  rw [this]
  rfl
 ·have e:stE s st={ st with e:=33 }:=if_neg h0;rcases hs with h1 | h1
  ·rw [h1,if_neg (by rw [h];decide),e]
   have:opS 6 (List.map Prod.fst [a,b])=none:=by
    simp only [List.map_cons,List.map_nil,ha,hb];show(if 0<=s/\s=s then some (0:Int) else none)=none;rw [if_neg (fun h=>h0 h.1)]
   rw [this]
  ·rw [h1,e,if_pos (show(33:Int)≠0 by decide)]
theorem notR:opM (cxR F) 1 0 [v0] (stE s st)=(v0,stE s st):=by
 rw [opR]
 split
 ·rfl
 ·rfl
theorem andR (st:St):opM (cxR F) 2 0 [v0,v0] st=(v0,st):=by
 rw [opR]
 split
 ·rfl
 ·rfl
theorem leftR:∀ (l:List V) (st:St),(∀ v ∈ l,v=v0)->leftM (cxR F) 2 v0 l st=(v0,st)
 | [],st,_=>rfl
 | x :: l,st,h=>by
  obtain rfl:=h x (by simp);unfold leftM;rw [andR];exact leftR l st (fun v hv=>h v (by simp [hv]))
theorem headR {l:List V} (h:∀ v ∈ l,v=v0) (st:St):headM (cxR F) 2 l st=(v0,st):=by
 unfold headM
 cases l with
 | nil=>rfl
 | cons x r =>
  obtain rfl:=h x (by simp);exact leftR r st (fun v hv=>h v (by simp [hv]))
theorem eqsR (h:st.e=0):∀ (l:List V) (v:V) (st':St),v.1=s->(∀ x ∈ l,x.1=s)->(st'=st\/st'=stE s st)->(∀ x ∈ (eqsM (cxR F) v l st').1,x=v0)/\(eqsM (cxR F) v l st').2=(if l=[] then st' else stE s st)
 | [],v,st',_,_,_=>⟨fun x hx=>(by cases hx),rfl⟩
 | x :: l,v,st',hv,hl,hs=>by
  have h1:=eqR (F:=F) h hv (hl x (by simp)) hs;have ih:=eqsR h l x (stE s st) (hl x (by simp)) (fun y hy=>hl y (by simp [hy])) (.inr rfl);unfold eqsM;simp only [h1];refine⟨fun y hy=>?_,?_⟩
  ·rcases List.mem_cons.1 hy with hy | hy
   ·exact hy
   ·exact ih.1 y hy
  ·rw [ih.2,if_neg (List.cons_ne_nil _ _)]
   split <;> rfl
theorem neqsR (h:st.e=0):∀ (l:List V) (v:V) (st':St),v.1=s->(∀ x ∈ l,x.1=s)->(st'=st\/st'=stE s st)->(∀ x ∈ (neqsM (cxR F) v l st').1,x=v0)/\(neqsM (cxR F) v l st').2=(if l=[] then st' else stE s st)
 | [],v,st',_,_,_=>⟨fun x hx=>(by cases hx),rfl⟩
 | x :: l,v,st',hv,hl,hs=>by
  have h1:=eqR (F:=F) h hv (hl x (by simp)) hs;have ih:=neqsR h l v (stE s st) hv (fun y hy=>hl y (by simp [hy])) (.inr rfl);unfold neqsM;simp only [h1,notR];refine⟨fun y hy=>?_,?_⟩
  ·rcases List.mem_cons.1 hy with hy | hy
   ·exact hy
   ·exact ih.1 y hy
  ·rw [ih.2,if_neg (List.cons_ne_nil _ _)]
   split <;> rfl
theorem distRd (h:st.e=0):∀ (l:List V) (st':St),(∀ x ∈ l,x.1=s)->(st'=st\/st'=stE s st)->(∀ x ∈ (distinctL (cxR F) l st').1,x=v0)/\(distinctL (cxR F) l st').2=(if l.length<=1 then st' else stE s st)
 | [],st',_,_=>⟨fun x hx=>(by cases hx),rfl⟩
 | v :: l,st',hl,hs=>by
  have h1:=neqsR (F:=F) h l v st' (hl v (by simp)) (fun y hy=>hl y (by simp [hy])) hs
  have hs2:(neqsM (cxR F) v l st').2=st\/(neqsM (cxR F) v l st').2=stE s st:=by
   rw [h1.2]
   split
   ·exact hs
   ·exact .inr rfl
  have ih:=distRd h l (neqsM (cxR F) v l st').2 (fun y hy=>hl y (by simp [hy])) hs2;unfold distinctL;refine⟨fun y hy=>?_,?_⟩
  ·rcases List.mem_append.1 hy with hy | hy
   ·exact h1.1 y hy
   ·exact ih.1 y hy
  ·show(distinctL (cxR F) l (neqsM (cxR F) v l st').2).2=_;rw [ih.2,h1.2]
   cases l with
   | nil=>rfl
   | cons x r =>
    rw [if_neg (by simp:¬ (v :: x :: r).length<=1),if_neg (List.cons_ne_nil _ _)]
    split <;> rfl
def eqRes (l:List V) (st:St):V × St:=(v0,if alikeB l=true then stE (l.getD 0 v0).1 st else { st with e:=33 })
theorem alike_all {l:List V} (h:alikeB l=true):∀ x ∈ l,x.1=(l.getD 0 v0).1:=by
 unfold alikeB at h;rw [List.all_eq_true] at h;intro x hx;have:=h x hx
 simpa using this
theorem equalR {l:List V} {st:St} (h:st.e=0) (h2:2<=l.length):equalM (cxR F) l st=eqRes l st:=by
 unfold equalM eqRes
 by_cases ha:alikeB l=true
 ·simp only [ha,if_true];rw [if_neg (by rw [h];decide)];obtain ⟨v,r,rfl⟩:=List.exists_cons_of_ne_nil (show l≠[] by intro e;rw [e] at h2;simp at h2);have hall:=alike_all ha;have:=eqsR (F:=F) (s:=((v :: r).getD 0 v0).1) h r v st rfl (fun x hx=>hall x (by simp [hx])) (.inl rfl);show headM (cxR F) 2 (eqsM (cxR F) v r st).1 (eqsM (cxR F) v r st).2=_;rw [headR this.1,this.2,if_neg (by intro e;rw [e] at h2;simp at h2)]
 ·simp only [ha];show(if(failS 33 st).e≠0 then(v0,failS 33 st) else _)=_;have:failS 33 st={ st with e:=33 }:=by unfold failS;rw [if_pos h]
  rw [this]
  rfl
theorem distinctR {l:List V} {st:St} (h:st.e=0) (h2:2<=l.length):distinctM (cxR F) l st=eqRes l st:=by
 unfold distinctM eqRes
 by_cases ha:alikeB l=true
 ·simp only [ha,if_true];rw [if_neg (by rw [h];decide)];have:=distRd (F:=F) (s:=(l.getD 0 v0).1) h l st (alike_all ha) (.inl rfl);rw [headR this.1,this.2,if_neg (by omega)]
 ·simp only [ha];show(if(failS 33 st).e≠0 then(v0,failS 33 st) else _)=_;have:failS 33 st={ st with e:=33 }:=by unfold failS;rw [if_pos h]
  rw [this]
  rfl
end
end El
namespace El
open Go.RowKit Dt Sg
section
variable {F:RFix} {st:St}
theorem numberR (x:Sexp) (st:St):(numberM (cxR F) x st).2=st:=by
 unfold numberM
 split
 ·rfl
 ·exact if_neg (fun h=>by cases h.2)
def dfR (F:RFix) (r:Sexp->St->V × St) (d:Sexp) (st:St):V × St :=
 opM (cxR F) 12 0 [(r (nthX d 1) st).1,(r (nthX d 2) (r (nthX d 1) st).2).1] (r (nthX d 2) (r (nthX d 1) st).2).2
theorem op12 (a b:V) (st:St):opM (cxR F) 12 0 [a,b] st=(v0,if st.e=0/\¬ (a.1=1/\b.1=1) then { st with e:=33 } else st):=by
 rw [opR]
 by_cases h:st.e=0
 ·rw [if_neg (by rw [h];decide)];show(match (if [a.1,b.1]=[1,1] then some (0:Int) else none) with | none=>_ | some s=>_)=_
  by_cases h1:a.1=1/\b.1=1
  ·rw [if_pos (by rw [h1.1,h1.2]),if_neg (fun h=>h.2 h1)]
   rfl
  ·rw [if_neg (by simpa using h1),if_pos ⟨h,h1⟩]
 ·rw [if_pos h,if_neg (fun h'=>h h'.1)]
theorem op12_e {a b:V} {st:St} (h:(opM (cxR F) 12 0 [a,b] st).2.e=0):st.e=0:=by
 rw [op12] at h
 by_cases h1:st.e=0/\¬ (a.1=1/\b.1=1)
 ·exact h1.1
 ·simpa only [if_neg h1] using h
theorem op12_self (a b:V) (st:St):(v0,(opM (cxR F) 12 0 [a,b] st).2)=opM (cxR F) 12 0 [a,b] st:=by rw [op12]
theorem op12_turn (a b:V) (st:St):opM (cxR F) 12 0 [b,a] st=opM (cxR F) 12 0 [a,b] st:=by
 rw [op12,op12];have:(b.1=1/\a.1=1)=(a.1=1/\b.1=1):=propext ⟨fun h=>⟨h.2,h.1⟩,fun h=>⟨h.2,h.1⟩⟩;simp only [this]
theorem op12_twice (a b:V) (st:St):opM (cxR F) 12 0 [b,a] (opM (cxR F) 12 0 [a,b] st).2=opM (cxR F) 12 0 [a,b] st:=by
 rw [op12_turn]
 by_cases h:st.e=0/\¬ (a.1=1/\b.1=1)
 ·have e:opM (cxR F) 12 0 [a,b] st=(v0,{ st with e:=33 }):=by rw [op12,if_pos h]
  rw [e,op12,if_neg (fun h=>by cases h.1)]
 ·have e:opM (cxR F) 12 0 [a,b] st=(v0,st):=by rw [op12,if_neg h]
  rw [e,e]
theorem heldR (name:ByteArray) (a b:V) (n:Int) (st:St):heldM (cxR F) name a b n st=opM (cxR F) 12 0 [a,b] st:=by
 unfold heldM
 split
 ·exact diffR _ _ _ _
 split
 ·exact diffR _ _ _ _
 split
 ·rw [diffR,op12_turn]
 split
 ·rw [diffR,op12_turn]
 ·simp only [diffR,op12_twice];rw [show(opM (cxR F) 12 0 [a,b] st).1=v0 by rw [op12],andR,op12]
theorem diffLR (r:Sexp->St->V × St) (name:ByteArray) (x:Sexp) (st:St):diffLM (cxR F) r name x st=dfR F r (nthX x 1) st:=by
 unfold diffLM dfR;simp only [numberR,heldR]
theorem diffRR (r:Sexp->St->V × St) (name:ByteArray) (x:Sexp) (st:St):diffRM (cxR F) r name x st=dfR F r (nthX x 2) st:=by
 unfold diffRM dfR;simp only [numberR,heldR]
theorem sumRR (r:Sexp->St->V × St) (name:ByteArray) (x:Sexp) (st:St) (h3:x.l.length=3):sumM (cxR F) r name x st =
  if isNumX (nthX x 2)=true then opM (cxR F) 11 0 [(r (nthX x 1) st).1] (r (nthX x 1) st).2
  else if name=sPlus/\isNumX (nthX x 1)=true then opM (cxR F) 11 0 [(r (nthX x 2) st).1] (r (nthX x 2) st).2
  else(v0,failS 34 (allM r x.l.tail st).2):=by
 unfold sumM;rw [if_neg (by rw [h3];intro h;cases h.1),if_neg (by rw [h3];decide)]
 split
 ·simp only [numberR];exact opR_n _ _ _ _ _
 split
 ·simp only [numberR];exact opR_n _ _ _ _ _
 ·rfl
end
end El
namespace El
open Go.RowKit Dt Sg
def XsCut (W:World) (y z:Sexp) (Ay:Option Addr) (cy:Nat) (Az:Option Addr) (cz:Nat) (u v:Value) (V:World):Prop :=
 ∃ ba bb,u=.pointer (some ⟨ba,0,none⟩)/\v=.pointer (some ⟨bb,0,none⟩)/\ba≠bb/\W.heap.size<=ba/\W.heap.size<=bb/\V.heap[ba]?=some (.cells #[.int .i8 y.kind,.string y.text,.slice Ay y.l.length cy] 30 (0,0))/\V.heap[bb]?=some (.cells #[.int .i8 z.kind,.string z.text,.slice Az z.l.length cz] 30 (0,0))/\Below W.heap.size W V
theorem xs_made1 (W w:World) (h:Below W.heap.size W w) (y z:Sexp) (Ay:Option Addr) (cy:Nat) (Az:Option Addr) (cz:Nat) :
  XsCut W y z Ay cy Az cz (.pointer (some ⟨w.heap.size,0,none⟩)) (.pointer (some ⟨w.heap.size+1,0,none⟩)) ((w.alloc (.cells #[.int .i8 y.kind,.string y.text,.slice Ay y.l.length cy] 30)).alloc (.cells #[.int .i8 z.kind,.string z.text,.slice Az z.l.length cz] 30)):=by
 have h0:=h.size
 have hb:((w.alloc (.cells #[.int .i8 y.kind,.string y.text,.slice Ay y.l.length cy] 30)).alloc (.cells #[.int .i8 z.kind,.string z.text,.slice Az z.l.length cz] 30)).heap[w.heap.size+1]?=some (.cells #[.int .i8 z.kind,.string z.text,.slice Az z.l.length cz] 30 (0,0)):=by
  have:=Bk.new (w.alloc (.cells #[.int .i8 y.kind,.string y.text,.slice Ay y.l.length cy] 30)) (.cells #[.int .i8 z.kind,.string z.text,.slice Az z.l.length cz] 30)
  simpa using this
 exact⟨_,_,rfl,rfl,by omega,h0,by omega,Bk.keep (Bk.new w _) _,hb,(h.alloc h0 _).alloc (h.alloc h0 _).size _⟩
theorem xs_made2 (W w:World) (h:Below W.heap.size W w) (y z:Sexp) (Ay:Option Addr) (cy:Nat) (Az:Option Addr) (cz:Nat) :
  XsCut W y z Ay cy Az cz (.pointer (some ⟨w.heap.size+1,0,none⟩)) (.pointer (some ⟨w.heap.size,0,none⟩)) ((w.alloc (.cells #[.int .i8 z.kind,.string z.text,.slice Az z.l.length cz] 30)).alloc (.cells #[.int .i8 y.kind,.string y.text,.slice Ay y.l.length cy] 30)):=by
 have h0:=h.size
 have hb:((w.alloc (.cells #[.int .i8 z.kind,.string z.text,.slice Az z.l.length cz] 30)).alloc (.cells #[.int .i8 y.kind,.string y.text,.slice Ay y.l.length cy] 30)).heap[w.heap.size+1]?=some (.cells #[.int .i8 y.kind,.string y.text,.slice Ay y.l.length cy] 30 (0,0)):=by
  have:=Bk.new (w.alloc (.cells #[.int .i8 z.kind,.string z.text,.slice Az z.l.length cz] 30)) (.cells #[.int .i8 y.kind,.string y.text,.slice Ay y.l.length cy] 30)
  simpa using this
 exact⟨_,_,rfl,rfl,by omega,by omega,h0,hb,Bk.keep (Bk.new w _) _,(h.alloc h0 _).alloc (h.alloc h0 _).size _⟩
theorem rsum_any {F:RFix} (hF:RFixOk F) {x:Sexp} (hT:∀ y ∈ x.l,RTermC F y) {w:World} {st:St} (hm:RR F w st.e) {s:ByteArray} (hs:s=sPlus\/s=sMinus) {A:Option Addr} {c:Nat} (hx:XAt F.W0 A c x) (h3:x.l.length=3) {Av:Option Addr} {vs:List Vy} (cv:Nat) {env:Env} (hv:VarsS F w Av vs) (hvl:∀ y ∈ x.l,vs.length+y.full<=4000000) (he:st.e=0->EnvEq env vs) :
  Calls Tryz.prog 147 #[.pointer (some ⟨F.rb,0,none⟩),.string s,.agg #[.int .i8 x.kind,.string x.text,.slice A x.l.length c],.slice Av vs.length cv] w (RPost F w (sumM (cxR F) (fun y=>termP (cxR F) F.g.macros.length y env) s x st)):=by
 have HT:=kp hT;have HX:=kp hx;have HV:=kp hv;have HVl:=kp hvl;have HE:=kp he;have HLc:=kp hx.opens;generalize hr:(fun y=>termP (cxR F) F.g.macros.length y env)=r at *;have HRf:=kp (fun y st=>show termP (cxR F) F.g.macros.length y env st=r y st by rw [← hr]);have HS:=kp (sumRR (F:=F) r s x st h3);have HSs:=kp hs;clear hs;have B1:=kp ((brq w).alloc nlq (.cells #[.int .i8 x.kind,.string x.text,.slice A x.l.length c] 30));have Z1:=kp (show(w.alloc (.cells #[.int .i8 x.kind,.string x.text,.slice A x.l.length c] 30)).heap.size=w.heap.size+1 by simp);have D1:=kp (RMid.newOn hm B1.out);have X1:=kp (Bk.keep (Bk.new w (.cells #[.int .i8 x.kind,.string x.text,.slice A x.l.length c] 30)) (.cells #[.string { data:=#[] },.int .i64 0,.int .i64 0] 94));rw [Z1.out] at D1;obtain ⟨b,o,A1,c1,hA,hx1,hc1⟩:=nth_xs hx (i:=1) (by omega);obtain ⟨b',o',A2,c2,hA2,hx2,hc2⟩:=nth_xs hx (i:=2) (by omega);subst hA;obtain ⟨rfl,rfl⟩:=aiq hA2;rw [Nat.one_mul] at hc1;have HX1:=kp hx1;have HX2:=kp hx2;have HC1:=kp hc1;have HC2:=kp hc2;have HM1:=kp (nth_mem (x:=x) (i:=1) (by omega));have HM2:=kp (nth_mem (x:=x) (i:=2) (by omega));have HTl:=kp (show x.l.tail=x.l.drop 1 by rw [List.drop_one]);have g3:(2:Int) < (x.l.length:Int):=by omega
 have g4:(1:Int) < (x.l.length:Int):=by omega
 have hcl3:=HLc.out.2.1;have HL3:=kp h3;clear hm hT hx hv hvl he hr hx1 hx2 hc1 hc2 h3;generalize sumM (cxR F) r s x st=res at *;generalize nthX x 1=y1 at *;generalize nthX x 2=y2 at *
 go_enter Tryz.func147,Tryz.ntmps147
 go_upto_region 1 with fail
 generalize (w.alloc (.cells #[.int .i8 x.kind,.string x.text,.slice (some ⟨b,o,none⟩) x.l.length c] 30)).alloc (.cells #[.string { data:=#[] },.int .i64 0,.int .i64 0] 94)=w1 at *
 go_cut [9,10] from 17 to 24 (fun u v V=>XsCut w1 y1 y2 A1 c1 A2 c2 u v V)
 case first =>
  have B0:=kp (brq w1).drew;have HX0:=kp (fun(W:World) (hW:Below w1.heap.size w1 W)=>Bk.on X1.out hW);have HY1:=kp (fun(W:World) (hW:Below w1.heap.size w1 W)=>HC1.out W (D1.out.below hW).rd.below);have HY2:=kp (fun(W:World) (hW:Below w1.heap.size w1 W)=>HC2.out W (D1.out.below hW).rd.below);refine wp_region_held_drew (S:=fun W=>Below w1.heap.size w1 W) (by kernel_rfl) (B0.out) (fun hHeld=>?_);refine plz [0,1,2,3,4,5,6,7] ?_;iterate 8 (refine tnz (v:=?_) ?_ ?_;rotate_left;(focus first | ((intro w hSw;go_simp;try with_reducible rfl);done) | ((intro w hSw;(obtain ⟨q0,q1,q2,qf⟩:=Bk.c3 (HX0.out _ hSw);go_simp;try with_reducible rfl));done) | ((intro w hSw;(obtain ⟨e0,e1,e2⟩:=HY1.out _ hSw;go_simp;try with_reducible rfl));done) | ((intro w hSw;(obtain ⟨e0,e1,e2⟩:=HY2.out _ hSw;go_simp;try with_reducible rfl));done));try simp only [pt])
  refine pzz ?_;generalize hwd:World.drew _=wd at *;clear hwd;refine r2y 8 9 (fun K hK=>?_) fun K hK=>?_;all_goals go_simp
  all_goals refine hK.out _ _ ((B0.out.alloc B0.out.size _)) (fun hHeld=>?_)
  all_goals clear hK K
  all_goals try simp only [pt]
  ·skip;refine rd 9 fun K hK=>?_;go_simp;refine hK.out _ _ (((B0.out.alloc B0.out.size _).alloc (B0.out.alloc B0.out.size _).size _)) (fun hHeld=>?_);clear hK K;try simp only [pt]
   refine rd 10 fun K hK=>?_;go_simp;refine hK.out _ _ (((B0.out.alloc B0.out.size _).alloc (B0.out.alloc B0.out.size _).size _)) (fun hHeld=>?_);clear hK K;try simp only [pt]
   refine rd 11 fun K hK=>?_;go_simp;refine hK.out _ _ (((B0.out.alloc B0.out.size _).alloc (B0.out.alloc B0.out.size _).size _)) (fun hHeld=>?_);clear hK K;try simp only [pt]
   refine dnz ?_;go_wp2_with fail
   go_meet;exact xs_made1 w1 wd B0.out y1 y2 A1 c1 A2 c2
  ·skip;refine rd 8 fun K hK=>?_;go_simp;refine hK.out _ _ (((B0.out.alloc B0.out.size _).alloc (B0.out.alloc B0.out.size _).size _)) (fun hHeld=>?_);clear hK K;try simp only [pt]
   refine rd 10 fun K hK=>?_;go_simp;refine hK.out _ _ (((B0.out.alloc B0.out.size _).alloc (B0.out.alloc B0.out.size _).size _)) (fun hHeld=>?_);clear hK K;try simp only [pt]
   refine rd 11 fun K hK=>?_;go_simp;refine hK.out _ _ (((B0.out.alloc B0.out.size _).alloc (B0.out.alloc B0.out.size _).size _)) (fun hHeld=>?_);clear hK K;try simp only [pt]
   refine dnz ?_;go_wp2_with fail
   go_meet;exact xs_made2 w1 wd B0.out y1 y2 A1 c1 A2 c2
 case rest =>
  obtain ⟨ba,bb,rfl,rfl,hne,hba,hbb,hA,hB,hbl⟩:=hcut;have D2:=kp (D1.out.below hbl);have X2:=kp (Bk.on X1.out hbl);have P2:=kp hA;have Q2:=kp hB;have hw1:=D1.out.keeps.size;have hs1:=D1.out.size;have hbar:ba≠w.heap.size+1:=by omega
  have hbbr:bb≠w.heap.size+1:=by omega
  have hbax:w.heap.size≠ba:=by have:=lt_of_block X1.out;omega
  have hbbx:w.heap.size≠bb:=by have:=lt_of_block X1.out;omega
  have hwa:w.heap.size<=ba:=by omega
  have hwb:w.heap.size<=bb:=by omega
  clear hA hB hbl D1 X1 B1;generalize hwc:wc=w2 at *;clear hwc;have HIs2:=kp (fun W (hW:Below F.W0.heap.size F.W0 W)=>ris_any (HX2.out.on hW));have HIs1:=kp (fun W (hW:Below F.W0.heap.size F.W0 W)=>ris_any (HX1.out.on hW));generalize isNumX y2=n2 at *;generalize isNumX y1=n1 at *
  by_cases hp:s=sPlus
  ·have k1:(s.toList == [43])=true:=tl_true hp;have k2:(s.toList == [45])=false:=tl_false (fun e=>by rw [hp] at e;revert e;decide);have HI2:=kp (HIs2.out _ D2.out.rd.below);obtain ⟨b0,b1,b2,bf⟩:=Bk.c3 Q2.out
   cases n2 with
   | true =>
    replace HS:=kp (HS.out.trans (if_pos rfl));clear hp;go_wp2_with fail
    refine HI2.out.mono ?_;rintro e w3 ⟨rfl,hb⟩;have D3:=kp (D2.out.below hb);have X3:=kp (Bk.on X2.out hb);have P3:=kp (Bk.on P2.out hb);have Q3:=kp (Bk.on Q2.out hb);clear hb b0 b1 b2 bf HI2;obtain ⟨b0,b1,b2,bf⟩:=Bk.c3 Q3.out;have HI2:=kp (HIs2.out _ D3.out.rd.below);go_wp2_with fail
    refine HI2.out.mono ?_;rintro e w4 ⟨rfl,hb⟩;have D4:=kp (D3.out.below hb);have X4:=kp (Bk.on X3.out hb);have P4:=kp (Bk.on P3.out hb);have Q4:=kp (Bk.on Q3.out hb);clear hb b0 b1 b2 bf HI2;obtain ⟨q0,q1,q2,qf⟩:=Bk.c3 X4.out;obtain ⟨e0,e1,e2⟩:=HC2.out _ D4.out.rd.below;have HI2:=kp (HIs2.out _ D4.out.rd.below);go_wp2_with fail
    refine HI2.out.mono ?_;rintro e w5 ⟨rfl,hb⟩;have D5:=kp (D4.out.below hb);have X5:=kp (Bk.on X4.out hb);have P5:=kp (Bk.on P4.out hb);have Q5:=kp (Bk.on Q4.out hb);clear hb q0 q1 q2 qf e0 e1 e2 HI2;obtain ⟨a0,a1,a2,af⟩:=Bk.c3 P5.out;have HC:=kp (HT.out _ HM1.out D5.out.rd HX1.out (HV.out.on D5.out.keeps) (HVl.out _ HM1.out) HE.out (cv:=cv));rw [HRf.out] at HC;go_wp2_with fail
    refine HC.out.mono ?_;rintro e w7 ⟨nm7,s7,rfl,hv7,hk7,hm7⟩;have BA:=kp ((brq w7).alloc nlq (.cells #[.string nm7,.int .i64 s7,.int .i64 0] 94));have D8:=kp ((D5.out.call hk7 hm7).below BA.out);have Q8:=kp (Bk.on (D5.out.blk hk7 Q5.out hwb) BA.out);have V8:=kp (Bk.new w7 (.cells #[.string nm7,.int .i64 s7,.int .i64 0] 94));have hvb:=(D5.out.call hk7 hm7).keeps.size;have V7:=kp hv7;clear hk7 hm7 hv7 a0 a1 a2 af BA HC;generalize r y1 st=pr at *;go_upto_region 12 with fail
    generalize w7.alloc (.cells #[.string nm7,.int .i64 s7,.int .i64 0] 94)=w8 at *;generalize w7.heap.size=vb at *;obtain ⟨b0,b1,b2,bf⟩:=Bk.c3 Q8.out;have HNm:=kp (rnumber_any hF D8.out.rd HX2.out);have hlim:=numR_lim y2;unfold RNumPost at HNm;generalize numR y2=nr at *;obtain ⟨n,nb,ne⟩:=nr;replace hlim:-4611686018427387904<=n/\n<=4611686018427387904:=hlim;go_wp2_with fail
    refine HNm.out.mono ?_;rintro e wa ⟨rfl,hka,hma⟩;have BB:=kp ((brq wa).alloc nlq (.cells #[.string { data:=#[] },.int .i64 1,.int .i64 0] 94));have Da:=kp ((D8.out.call hka hma).below BB.out);have Va:=kp (Bk.on (D8.out.blk hka V8.out hvb) BB.out);clear hka hma b0 b1 b2 bf BB HNm;go_upto_region 13 with fail
    generalize wa.alloc (.cells #[.string { data:=#[] },.int .i64 1,.int .i64 0] 94)=wb at *;obtain ⟨v0',v1',v2',vf⟩:=Bk.c3 Va.out;have HAd:=kp (fun n=>radd_any hF Da.out.rd (VIs.of V7.out) n);go_wp2_with fail
    refine(HAd.out _).mono ?_;rintro e w9 ⟨nm9,s9,rfl,hv9,hk9,hm9⟩;have D9:=kp (Da.out.call hk9 hm9);clear hk9 hm9 v0' v1' v2' vf;obtain ⟨r0,r1,r2,rf⟩:=Bk.c3 D9.out.cell;go_wp2_with fail
    rw [HS.out];refine RMid.ret hF (q:=opM (cxR F) 11 0 [pr.1] pr.2) D9.out Tryz.results147 ?_ ?_ hv9 <;> rfl
   | false =>
    replace HS:=kp (HS.out.trans (if_neg (by decide)));have HP:=kp hp;clear hp;go_wp2_with fail
    refine HI2.out.mono ?_;rintro e w3 ⟨rfl,hb⟩;have D3:=kp (D2.out.below hb);have X3:=kp (Bk.on X2.out hb);have P3:=kp (Bk.on P2.out hb);have Q3:=kp (Bk.on Q2.out hb);clear hb b0 b1 b2 bf HI2;obtain ⟨a0,a1,a2,af⟩:=Bk.c3 P3.out;obtain ⟨b0,b1,b2,bf⟩:=Bk.c3 Q3.out;have D4:=kp ((D3.out.other3 hF hwa hbar (.int .i8 y2.kind) (.string y2.text) (.slice A2 y2.l.length c2)).other3 hF hwb hbbr (.int .i8 y1.kind) (.string y1.text) (.slice A1 y1.l.length c1));have X4:=kp (set3'_off (set3'_off X3.out hbax (.int .i8 y2.kind) (.string y2.text) (.slice A2 y2.l.length c2)) hbbx (.int .i8 y1.kind) (.string y1.text) (.slice A1 y1.l.length c1));have P4:=kp (set3'_off (set3'_at P3.out (.int .i8 y2.kind) (.string y2.text) (.slice A2 y2.l.length c2)) hne (.int .i8 y1.kind) (.string y1.text) (.slice A1 y1.l.length c1));have Q4:=kp (set3'_at (set3'_off Q3.out (Ne.symm hne) (.int .i8 y2.kind) (.string y2.text) (.slice A2 y2.l.length c2)) (.int .i8 y1.kind) (.string y1.text) (.slice A1 y1.l.length c1));go_upto_region 4 with fail
    show Code.wp _ _ _ _ (set3' (set3' w3 ba (.int .i8 y2.kind) (.string y2.text) (.slice A2 y2.l.length c2)) bb (.int .i8 y1.kind) (.string y1.text) (.slice A1 y1.l.length c1));generalize set3' (set3' w3 ba (.int .i8 y2.kind) (.string y2.text) (.slice A2 y2.l.length c2)) bb (.int .i8 y1.kind) (.string y1.text) (.slice A1 y1.l.length c1)=w4 at *;clear a0 a1 a2 af b0 b1 b2 bf;obtain ⟨b0,b1,b2,bf⟩:=Bk.c3 Q4.out;have HI1:=kp (HIs1.out _ D4.out.rd.below)
    cases n1 with
    | true =>
     replace HS:=kp (HS.out.trans (if_pos ⟨HP.out,rfl⟩));go_wp2_with fail
     refine HI1.out.mono ?_;rintro e w5 ⟨rfl,hb⟩;have D5:=kp (D4.out.below hb);have X5:=kp (Bk.on X4.out hb);have P5:=kp (Bk.on P4.out hb);have Q5:=kp (Bk.on Q4.out hb);clear hb b0 b1 b2 bf HI1;obtain ⟨q0,q1,q2,qf⟩:=Bk.c3 X5.out;obtain ⟨e0,e1,e2⟩:=HC2.out _ D5.out.rd.below;have HI2:=kp (HIs2.out _ D5.out.rd.below);go_wp2_with fail
     refine HI2.out.mono ?_;rintro e w6 ⟨rfl,hb⟩;have D6:=kp (D5.out.below hb);have X6:=kp (Bk.on X5.out hb);have P6:=kp (Bk.on P5.out hb);have Q6:=kp (Bk.on Q5.out hb);clear hb q0 q1 q2 qf e0 e1 e2 HI2;obtain ⟨b0,b1,b2,bf⟩:=Bk.c3 Q6.out;have HNm:=kp (rnumber_any hF D6.out.rd HX1.out);unfold RNumPost at HNm;generalize numR y1=nr at *;obtain ⟨n,nb,ne⟩:=nr;go_wp2_with fail
     refine HNm.out.mono ?_;rintro e wa ⟨rfl,hka,hma⟩;have BB:=kp ((brq wa).alloc nlq (.cells #[.string { data:=#[] },.int .i64 1,.int .i64 0] 94));have D9:=kp ((D6.out.call hka hma).below BB.out);have P9:=kp (Bk.on (D6.out.blk hka P6.out hwa) BB.out);have Q9:=kp (Bk.on (D6.out.blk hka Q6.out hwb) BB.out);clear hka hma b0 b1 b2 bf BB HNm;go_upto_region 9 with fail
     generalize wa.alloc (.cells #[.string { data:=#[] },.int .i64 1,.int .i64 0] 94)=wb at *;obtain ⟨a0,a1,a2,af⟩:=Bk.c3 P9.out;have HC:=kp (HT.out _ HM2.out D9.out.rd HX2.out (HV.out.on D9.out.keeps) (HVl.out _ HM2.out) HE.out (cv:=cv));rw [HRf.out] at HC;go_wp2_with fail
     refine HC.out.mono ?_;rintro e w7 ⟨nm7,s7,rfl,hv7,hk7,hm7⟩;have BA:=kp ((brq w7).alloc nlq (.cells #[.string nm7,.int .i64 s7,.int .i64 0] 94));have D8:=kp ((D9.out.call hk7 hm7).below BA.out);have Q8:=kp (Bk.on (D9.out.blk hk7 Q9.out hwb) BA.out);have V8:=kp (Bk.new w7 (.cells #[.string nm7,.int .i64 s7,.int .i64 0] 94));have hvb:=(D9.out.call hk7 hm7).keeps.size;have V7:=kp hv7;clear hk7 hm7 hv7 a0 a1 a2 af BA HC;generalize r y2 st=pr at *;go_upto_region 10 with fail
     generalize w7.alloc (.cells #[.string nm7,.int .i64 s7,.int .i64 0] 94)=w8 at *;obtain ⟨v0',v1',v2',vf⟩:=Bk.c3 V8.out;have HAd:=kp (fun n=>radd_any hF D8.out.rd (VIs.of V7.out) n);go_wp2_with fail
     refine(HAd.out _).mono ?_;rintro e w9 ⟨nm9,s9,rfl,hv9,hk9,hm9⟩;have D9:=kp (D8.out.call hk9 hm9);clear hk9 hm9 v0' v1' v2' vf;obtain ⟨r0,r1,r2,rf⟩:=Bk.c3 D9.out.cell;go_wp2_with fail
     rw [HS.out];refine RMid.ret hF (q:=opM (cxR F) 11 0 [pr.1] pr.2) D9.out Tryz.results147 ?_ ?_ hv9 <;> rfl
    | false =>
     replace HS:=kp (HS.out.trans (if_neg (fun h=>by cases h.2)));go_wp2_with fail
     refine HI1.out.mono ?_;rintro e w5 ⟨rfl,hb⟩;have D5:=kp (D4.out.below hb);have X5:=kp (Bk.on X4.out hb);have P5:=kp (Bk.on P4.out hb);have Q5:=kp (Bk.on Q4.out hb);clear hb b0 b1 b2 bf HI1;have hl2:x.l.tail.length=x.l.length - 1:=by rw [HTl.out];simp
     have hc1:¬ c=1:=by have:=HL3.out;omega
     have HAl:=kp (rall_any hF (l:=x.l.tail) (fun y hy=>HT.out y (List.mem_of_mem_tail hy)) D5.out.rd (c - 1) (by have h:=lies_drop HLc.out.1 1;rwa [← HTl.out] at h) (by have:=HL3.out;omega) cv (HV.out.on D5.out.keeps) (fun y hy=>HVl.out y (List.mem_of_mem_tail hy)) HE.out);rw [show(fun y=>termP (cxR F) F.g.macros.length y env)=r from funext fun y=>funext fun s=>HRf.out y s,hl2] at HAl;have hgl:(1:Int)<=(x.l.length:Int):=by omega
     have hgc:(1:Int)<=(c:Int):=by have:=HL3.out;omega
     obtain ⟨q0,q1,q2,qf⟩:=Bk.c3 X5.out;clear hl2 hcl3;go_wp2_with fail
     refine HAl.out.mono ?_;rintro e w7 ⟨L7,cl7,us7,rfl,hu7,hr7,hs7,hk7,hm7⟩;have D7:=kp (D5.out.call hk7 hm7);have HFl:=kp (fails_any hF D7.out.rd 34);clear hu7 hr7 hs7 hk7 hm7 q0 q1 q2 qf;generalize allM r x.l.tail st=al at *;go_wp2_with fail
     refine HFl.out.mono ?_;rintro e w7 ⟨nm7,s7,rfl,hv7,hk7,hm7⟩;have D7:=kp (D7.out.call hk7 hm7);clear hk7 hm7;obtain ⟨r0,r1,r2,rf⟩:=Bk.c3 D7.out.cell;go_wp2_with fail
     rw [HS.out];refine RMid.ret hF (q:=(v0,failS 34 al.2)) D7.out Tryz.results147 ?_ ?_ hv7 <;> rfl
  ·have k1:(s.toList == [43])=false:=tl_false hp
   have k2:(s.toList == [45])=true:=tl_true (by
    rcases HSs.out with h | h
    ·exact absurd h hp
    ·exact h)
   have HI2:=kp (HIs2.out _ D2.out.rd.below);obtain ⟨b0,b1,b2,bf⟩:=Bk.c3 Q2.out
   cases n2 with
   | true =>
    replace HS:=kp (HS.out.trans (if_pos rfl));clear hp;go_wp2_with fail
    refine HI2.out.mono ?_;rintro e w3 ⟨rfl,hb⟩;have D3:=kp (D2.out.below hb);have X3:=kp (Bk.on X2.out hb);have P3:=kp (Bk.on P2.out hb);have Q3:=kp (Bk.on Q2.out hb);clear hb b0 b1 b2 bf HI2;obtain ⟨a0,a1,a2,af⟩:=Bk.c3 P3.out;have HC:=kp (HT.out _ HM1.out D3.out.rd HX1.out (HV.out.on D3.out.keeps) (HVl.out _ HM1.out) HE.out (cv:=cv));rw [HRf.out] at HC;go_wp2_with fail
    refine HC.out.mono ?_;rintro e w7 ⟨nm7,s7,rfl,hv7,hk7,hm7⟩;have BA:=kp ((brq w7).alloc nlq (.cells #[.string nm7,.int .i64 s7,.int .i64 0] 94));have D8:=kp ((D3.out.call hk7 hm7).below BA.out);have Q8:=kp (Bk.on (D3.out.blk hk7 Q3.out hwb) BA.out);have V8:=kp (Bk.new w7 (.cells #[.string nm7,.int .i64 s7,.int .i64 0] 94));have hvb:=(D3.out.call hk7 hm7).keeps.size;have V7:=kp hv7;clear hk7 hm7 hv7 a0 a1 a2 af BA HC;generalize r y1 st=pr at *;go_upto_region 12 with fail
    generalize w7.alloc (.cells #[.string nm7,.int .i64 s7,.int .i64 0] 94)=w8 at *;generalize w7.heap.size=vb at *;obtain ⟨b0,b1,b2,bf⟩:=Bk.c3 Q8.out;have HNm:=kp (rnumber_any hF D8.out.rd HX2.out);have hlim:=numR_lim y2;unfold RNumPost at HNm;generalize numR y2=nr at *;obtain ⟨n,nb,ne⟩:=nr;replace hlim:-4611686018427387904<=n/\n<=4611686018427387904:=hlim;go_wp2_with fail
    refine HNm.out.mono ?_;rintro e wa ⟨rfl,hka,hma⟩;have BB:=kp ((brq wa).alloc nlq (.cells #[.string { data:=#[] },.int .i64 1,.int .i64 0] 94));have Da:=kp ((D8.out.call hka hma).below BB.out);have Va:=kp (Bk.on (D8.out.blk hka V8.out hvb) BB.out);clear hka hma b0 b1 b2 bf BB HNm;go_upto_region 13 with fail
    generalize wa.alloc (.cells #[.string { data:=#[] },.int .i64 1,.int .i64 0] 94)=wb at *;obtain ⟨v0',v1',v2',vf⟩:=Bk.c3 Va.out;have HAd:=kp (fun n=>radd_any hF Da.out.rd (VIs.of V7.out) n);go_wp2_with fail
    refine(HAd.out _).mono ?_;rintro e w9 ⟨nm9,s9,rfl,hv9,hk9,hm9⟩;have D9:=kp (Da.out.call hk9 hm9);clear hk9 hm9 v0' v1' v2' vf;obtain ⟨r0,r1,r2,rf⟩:=Bk.c3 D9.out.cell;go_wp2_with fail
    rw [HS.out];refine RMid.ret hF (q:=opM (cxR F) 11 0 [pr.1] pr.2) D9.out Tryz.results147 ?_ ?_ hv9 <;> rfl
   | false =>
    replace HS:=kp ((HS.out.trans (if_neg (by decide))).trans (if_neg (fun h=>hp h.1)));clear hp;go_wp2_with fail
    refine HI2.out.mono ?_;rintro e w3 ⟨rfl,hb⟩;have D3:=kp (D2.out.below hb);have X3:=kp (Bk.on X2.out hb);have P3:=kp (Bk.on P2.out hb);have Q3:=kp (Bk.on Q2.out hb);clear hb b0 b1 b2 bf HI2;have hl2:x.l.tail.length=x.l.length - 1:=by rw [HTl.out];simp
    have hc1:¬ c=1:=by have:=HL3.out;omega
    have HAl:=kp (rall_any hF (l:=x.l.tail) (fun y hy=>HT.out y (List.mem_of_mem_tail hy)) D3.out.rd (c - 1) (by have h:=lies_drop HLc.out.1 1;rwa [← HTl.out] at h) (by have:=HL3.out;omega) cv (HV.out.on D3.out.keeps) (fun y hy=>HVl.out y (List.mem_of_mem_tail hy)) HE.out);rw [show(fun y=>termP (cxR F) F.g.macros.length y env)=r from funext fun y=>funext fun s=>HRf.out y s,hl2] at HAl;have hgl:(1:Int)<=(x.l.length:Int):=by omega
    have hgc:(1:Int)<=(c:Int):=by have:=HL3.out;omega
    obtain ⟨q0,q1,q2,qf⟩:=Bk.c3 X3.out;clear hl2 hcl3;go_wp2_with fail
    refine HAl.out.mono ?_;rintro e w7 ⟨L7,cl7,us7,rfl,hu7,hr7,hs7,hk7,hm7⟩;have D7:=kp (D3.out.call hk7 hm7);have HFl:=kp (fails_any hF D7.out.rd 34);clear hu7 hr7 hs7 hk7 hm7 q0 q1 q2 qf;generalize allM r x.l.tail st=al at *;go_wp2_with fail
    refine HFl.out.mono ?_;rintro e w7 ⟨nm7,s7,rfl,hv7,hk7,hm7⟩;have D7:=kp (D7.out.call hk7 hm7);clear hk7 hm7;obtain ⟨r0,r1,r2,rf⟩:=Bk.c3 D7.out.cell;go_wp2_with fail
    rw [HS.out];refine RMid.ret hF (q:=(v0,failS 34 al.2)) D7.out Tryz.results147 ?_ ?_ hv7 <;> rfl
def ml (_:List Nat) (X:Prop):Prop:=X
theorem mp1 (is:List Nat) {X:Prop} (h:ml is X):X:=h
theorem mp0 {X:Prop} (h:X):ml [] X:=h
theorem mtk {P:Program} {md:Region.Mode} {ops:Array Oper} {Q:Exit->Act->World->Prop} {S:World->Prop} {m fuel:Nat} {listed:Array Bool} {a:Act} {w:World} {d:Option Tmp} {op:Op} {t:TypeId} {pos:String} {af:Array Edge} {g:Option (Nat × Bool)} {i:Nat} {is:List Nat} {v:Value} (hy:∀ w,S w->(execOp a.eval (Oper.mk d op t pos af g)).run P w=.ok (.value v) w) (h:ml is (wpTo P md ops Q S m fuel (listed.setIfInBounds i true) (a.put (Oper.mk d op t pos af g).dst v) w))
  (hi:ops[i]?=some (Oper.mk d op t pos af g):=by rfl) (hs:Region.noSelect ops=true:=by kernel_rfl) (hf:Region.free md ops listed i=true:=by kernel_rfl) (hr:(Region.ready md ops listed).contains i=true:=by kernel_rfl) (hm:waitsFor md ops m i=true:=by kernel_rfl) (hQ:∀ c a w,Q (.panic c) (a.put (Oper.mk d op t pos af g).dst v) w->Q (.panic c) a w:=by exact fun _ _ _ h=>h)
  (hw:Region.wanted (Oper.mk d op t pos af g) (yielded ops a.tmps)=true:=by rfl) (hS:S w:=by assumption):ml (i :: is) (wpTo P md ops Q S m (fuel+1) listed a w):=wpTo_take hi hs hf hr hm hQ (Or.inl ⟨hw,hy⟩) hS h
theorem eqRes_of {l:List V} {vs:List Vy} (h:l.map Prod.fst=vs.map Prod.snd) {q0:Int} (h0:(vs.map Prod.snd).head?=some q0) (st:St):eqRes l st=(v0,if(∀ p ∈ vs,p.2=q0) then stE q0 st else { st with e:=33 }):=by
 have hd:(l.getD 0 v0).1=q0:=by
  cases l with
  | nil=>rw [← h] at h0;cases h0
  | cons v r=>rw [← h] at h0;simpa using h0
 have ha:(alikeB l=true)=(∀ p ∈ vs,p.2=q0):=by
  have e:(alikeB l=true) ↔ ∀ x ∈ l.map Prod.fst,x=q0:=by
   unfold alikeB;rw [List.all_eq_true,hd]
   constructor
   ·intro h x hx;obtain ⟨v,hv,rfl⟩:=List.mem_map.1 hx
    simpa using h v hv
   ·intro h v hv;have:=h v.1 (List.mem_map.2 ⟨v,hv,rfl⟩)
    simpa using this
  rw [h] at e;refine propext (e.trans ⟨fun h p hp=>h _ (List.mem_map.2 ⟨p,hp,rfl⟩),fun h x hx=>?_⟩);obtain ⟨p,hp,rfl⟩:=List.mem_map.1 hx;exact h p hp
 unfold eqRes;rw [hd];simp only [ha]
theorem eqs2 {F:RFix} {q0:Int} {st:St} (h:st.e=0) {a b:V} (ha:a.1=q0) (hb:b.1=q0) {e:Int} (he:e=st.e\/e=(stE q0 st).e):∃ st',st'.e=e/\opM (cxR F) 6 0 [a,b] st'=(v0,stE q0 st):=by
 rcases he with rfl | rfl
 ·exact⟨st,rfl,eqR h ha hb (.inl rfl)⟩
 ·exact⟨stE q0 st,rfl,eqR h ha hb (.inr rfl)⟩
theorem requals_any {F:RFix} (hF:RFixOk F) {w:World} {st:St} (hm:RR F w st.e) (he0:st.e=0) (s:ByteArray) {L:Option Addr} {vs:List Vy} (cl:Nat) (hv:VarsS F w L vs) (h2:2<=vs.length) (hl:vs.length<=1500000) {l:List V} (hsame:l.map Prod.fst=vs.map Prod.snd) :
  Calls Tryz.prog 149 #[.pointer (some ⟨F.rb,0,none⟩),.string s,.slice L vs.length cl] w (RPost F w (eqRes l st)):=by
 obtain ⟨⟨b,o,rfl⟩,hok⟩:=vars_some hv (by omega);obtain ⟨p0,hp0⟩:∃ p,vs[0]?=some p:=⟨_,gqe (by omega)⟩;have HS:=kp (eqRes_of hsame (q0:=p0.2) (by rw [List.head?_map,List.head?_eq_getElem?,hp0];rfl) st);have HV:=kp hv;have HOk:=kp hok;have HP0:=kp hp0;have HE0:=kp he0;have HCs:=kp (fun W (hW:Keeps (onRb F) w W) k p (hp:vs[k]?=some p)=>vars_cells hv hW hp);have HVl:=kp (show 2<=vs.length/\vs.length<=1500000 from⟨h2,hl⟩)
 have HAl0:=kp (show ∀ p ∈ vs.take 1,p.2=p0.2 by
  intro p hp
  have:vs.take 1=[p0]:=by
   match vs,hp0 with
   | a :: r,h=>simp at h;subst h;rfl
  rw [this] at hp;simp at hp;rw [hp])
 have D1:=kp (RMid.new hm);have he1:(st.e == 0)=true:=by simp [he0]
 have hlt:=hm.lt;have g0:(0:Int) < (vs.length:Int):=by omega
 have g0n:0 < vs.length:=by omega
 have hvb:(vs.length:Int)<=1500000:=by omega
 generalize hq:p0.2=q0 at *;clear hm hv hok hp0 hsame he0;generalize eqRes l st=res at *
 go_enter Tryz.func149,Tryz.ntmps149
 go_upto_region 1 with fail
 generalize w.alloc (.cells #[.string { data:=#[] },.int .i64 0,.int .i64 0] 94)=w1 at *;go_wp2_with fail
 go_loopw [7] (fun i' wr=>∃ k:Nat,1<=k/\k<=vs.length/\i'=.int .i64 k/\(∀ p ∈ vs.take k,p.2=q0)/\RMid F w w.heap.size wr st.e) (fun i' _=>vs.length - (intOf i').toNat)
 case atStart=>exact⟨1,nlq,by omega,rfl,HAl0.out,D1.out⟩
 case round =>
  clear D1 HAl0 h2 hl;obtain ⟨k,hk1,hk,rfl,hal,hmid⟩:=hrel;have HAl:=kp hal;have DR:=kp hmid;clear hal hmid
  by_cases hkl:k < vs.length
  ·have hlt2:(k:Int) < (vs.length:Int):=by omega
   obtain ⟨p,hp⟩:∃ p,vs[k]?=some p:=⟨_,gqe hkl⟩;have HP:=kp hp;have HY:=kp (HCs.out wr DR.out.keeps 0 p0 HP0.out);rw [hq] at HY;have DD:=kp DR.out.drew;obtain ⟨m0,m1,m2,m3,m4,m5,m6,m7,m8,mf⟩:=Bk.c9 DR.out.rd.blk;obtain ⟨e0,e1,e2⟩:=HCs.out wr DR.out.keeps k p hp;obtain ⟨y0,y1,y2⟩:=HY.out;rw [Nat.zero_mul,Nat.add_zero] at y0 y1 y2;clear hp m0 m1 m2 m3 m4 m5 m6 m7 mf e0 e2 y0 y2
   by_cases hpq:p.2=q0
   ·have g2:(p.2 != q0)=false:=by rw [hpq];simp
    have HA2:=kp (show ∀ u ∈ vs.take (k+1),u.2=q0 by
     intro u hu;rw [List.take_add_one,HP.out] at hu;rcases List.mem_append.1 hu with hu | hu
     ·exact HAl.out u hu
     ·obtain rfl:u=p:=by simpa using hu
      exact hpq)
    clear hpq;go_upto_region 4 with fail
    refine wp_region_held_drew (S:=fun W=>W.cell? ⟨F.rb,8,none⟩=some (.int .i64 st.e)/\W.cell? ⟨b,o+k * 3+1,none⟩=some (.int .i64 p.2)/\W.cell? ⟨b,o+1,none⟩=some (.int .i64 q0)) (by kernel_rfl) (⟨m8,e1,y1⟩) (fun hHeld=>?_);refine plz [0,1,2,3,4,5,6,7,8,9,10,11,12,13,14,15,16] ?_;iterate 17 (refine tnz (v:=?_) ?_ ?_;rotate_left;(focus (intro w hSw;go_simp;try with_reducible rfl));try simp only [pt])
    refine pzz ?_;refine dnz ?_;clear hHeld m8 e1 y1;generalize wr.drew=wd at *;go_wp2_with fail
    go_roundw
    case rel=>exact⟨k+1,by omega,by omega,by go_num,HA2.out,DD.out⟩
    case measure=>simp [intOf];omega
   ·have g2:(p.2 != q0)=true:=by rw [bne_iff_ne];exact hpq
    have HQ:=kp (show res=(v0,{ st with e:=33 }) by
     rw [HS.out,if_neg (fun h=>hpq (h p (mgq HP.out)))])
    have HSf:=kp (show failS 33 st={ st with e:=33 } by unfold failS;rw [if_pos HE0.out]);clear hpq;go_upto_region 4 with fail
    refine wp_region_held_drew (S:=fun W=>W.cell? ⟨F.rb,8,none⟩=some (.int .i64 st.e)/\W.cell? ⟨b,o+k * 3+1,none⟩=some (.int .i64 p.2)/\W.cell? ⟨b,o+1,none⟩=some (.int .i64 q0)) (by kernel_rfl) (⟨m8,e1,y1⟩) (fun hHeld=>?_);refine plz [0,1,2,3,4,5,6,7,8,9,10,11,12,13,14,15,16] ?_;iterate 17 (refine tnz (v:=?_) ?_ ?_;rotate_left;(focus (intro w hSw;go_simp;try with_reducible rfl));try simp only [pt])
    refine pzz ?_;refine dnz ?_;clear hHeld m8 e1 y1;generalize wr.drew=wd at *;have HFl:=kp (fails_any hF (st:=st) DD.out.rd 33);rw [HSf.out] at HFl;go_wp2_with fail
    refine HFl.out.mono ?_;rintro e w7 ⟨nm7,s7,rfl,hv7,hk7,hm7⟩;have D7:=kp (DD.out.call hk7 hm7);clear hk7 hm7;obtain ⟨r0,r1,r2,rf⟩:=Bk.c3 D7.out.cell;go_wp2_with fail
    rw [HQ.out];refine RMid.ret hF (q:=(v0,{ st with e:=33 })) D7.out Tryz.results149 ?_ ?_ hv7 <;> rfl
  ·obtain rfl:k=vs.length:=by omega
   have HAv:=kp (show ∀ p ∈ vs,p.2=q0 by have:=HAl.out;rwa [List.take_length] at this);replace HS:=kp (show res=(v0,stE q0 st) by rw [HS.out,if_pos HAv.out]);have HAt:=kp (fun k p (hp:vs[k]?=some p)=>HAv.out p (mgq hp));have HOt:=kp (fun k p (hp:vs[k]?=some p)=>HOk.out p (mgq hp));clear hk1 HAl;go_wp2_with fail
   go_loopw [8,9] (fun v' i' wq=>∃ (i:Nat) (us:List Vy) (er:Int),i<=vs.length/\i'=.int .i64 i/\VyRow (w.heap.size+1) wq v' us/\us.length<=i * 1500000/\((us=[]/\er=st.e)\/(us≠[]/\er=(stE q0 st).e))/\(0 < i->us≠[])/\((stE q0 st).e=0->∀ u ∈ us,u.2=0)/\RMid F w w.heap.size wq er) (fun _ i' _=>vs.length - (intOf i').toNat)
   case atStart=>exact⟨0,[],st.e,Nat.zero_le _,rfl,VyRow.nil _ _,by simp,.inl ⟨rfl,rfl⟩,fun h=>absurd h (by omega),fun _ u hu=>(by cases hu),DR.out⟩
   case round =>
    obtain ⟨i,us,er,hi,rfl,hrow,hul,hor,hne,hz,hmid⟩:=hrel;have RO:=kp hrow;have HUl:=kp hul;have HOr:=kp hor;have HNe:=kp hne;have HZ:=kp hz;have DO:=kp hmid;obtain ⟨Ao,co,hvo,hco1,hco2⟩:=hrow.shape;clear hco1 hco2;subst hvo;clear hrow hul hor hne hz hmid DR;generalize wr=wo at *
    by_cases hil:i < vs.length
    ·have hlt2:(i:Int) < (vs.length:Int):=by omega
     obtain ⟨p,hp⟩:∃ p,vs[i]?=some p:=⟨_,gqe hil⟩;have HP:=kp hp;clear hp;go_wp2_with fail
     go_loopw [8,10] (fun v' k' wq=>∃ (k:Nat) (us:List Vy) (er:Int),i+1<=k/\k<=vs.length/\k'=.int .i64 k/\VyRow (w.heap.size+1) wq v' us/\us.length<=i * 1500000+(k - i - 1)/\((us=[]/\er=st.e)\/(us≠[]/\er=(stE q0 st).e))/\((0 < i\/i+1 < k)->us≠[])/\((stE q0 st).e=0->∀ u ∈ us,u.2=0)/\RMid F w w.heap.size wq er) (fun _ k' _=>vs.length - (intOf k').toNat)
     case atStart=>exact⟨i+1,us,er,nlq,by omega,by go_num,RO.out,Nat.le_trans HUl.out (Nat.le_add_right _ _),HOr.out,fun h=>HNe.out (by omega),HZ.out,DO.out⟩
     case round =>
      clear RO HUl HOr HNe HZ DO;obtain ⟨k,us,er,hk1,hk,rfl,hrow,hul,hor,hne,hz,hmid⟩:=hrel;have RR':=kp hrow;have HUl:=kp hul;have HOr:=kp hor;have HNe:=kp hne;have HZ:=kp hz;have DR:=kp hmid;obtain ⟨Ao,co,hvo,hco1,hco2⟩:=hrow.shape;clear hco1 hco2;subst hvo;clear hrow hul hor hne hz hmid
      by_cases hkl:k < vs.length
      ·have hlt3:(k:Int) < (vs.length:Int):=by omega
       obtain ⟨q,hq'⟩:∃ q,vs[k]?=some q:=⟨_,gqe hkl⟩;have HQ:=kp hq';clear hq';obtain ⟨st',hse,hop⟩:=eqs2 (F:=F) HE0.out (a:=(p.2,0)) (b:=(q.2,0)) (HAt.out i p HP.out) (HAt.out k q HQ.out) (show er=st.e\/er=(stE q0 st).e by rcases HOr.out with h | h;exact .inl h.2;exact .inr h.2);have DB:=kp (DR.out.drew.alloc (.cells #[.string p.1,.int .i64 p.2,.int .i64 0,.string q.1,.int .i64 q.2,.int .i64 0] 94));have NB:=kp (show(wr.drew.alloc (.cells #[.string p.1,.int .i64 p.2,.int .i64 0,.string q.1,.int .i64 q.2,.int .i64 0] 94)).heap[wr.heap.size]?=some (.cells #[.string p.1,.int .i64 p.2,.int .i64 0,.string q.1,.int .i64 q.2,.int .i64 0] 94 (0,0)) from Bk.new wr.drew _);have RB:=kp (RR'.out.below ((brq wr).drew.alloc nlq (.cells #[.string p.1,.int .i64 p.2,.int .i64 0,.string q.1,.int .i64 q.2,.int .i64 0] 94)));have HOp:=kp (rdop_any hF (st:=st') (by rw [hse];exact DB.out.rd) 6 0 (vs:=[p,q]) (lV:=[(p.2,0),(q.2,0)]) 2 (lies_v2 NB.out (HOt.out i p HP.out) (HOt.out k q HQ.out)) (by simp) (fun _=>rfl));rw [hop] at HOp;have hrbb:F.rb < w.heap.size+1:=by omega
       have hbs:w.heap.size+1<=wr.heap.size:=by have:=DR.out.size;omega
       have hul2:us.length < 4000000000000:=by have:=HUl.out;have:=HVl.out;omega
       clear hop hse
       by_cases hsd:s=sDistinct
       ·have g1:(s.toList == [100,105,115,116,105,110,99,116])=true:=tl_true hsd;clear hsd;go_upto_region 14 with fail
        refine wp_region_held_drew (S:=fun W=>Keeps (onRb F) w W) (by kernel_rfl) (DR.out.drew.keeps) (fun hHeld=>?_);refine plz [0,1,2,3,4,5,6,7,8,9,10] ?_;iterate 11 (refine tnz (v:=?_) ?_ ?_;rotate_left;(focus first | ((intro w hSw;go_simp;try with_reducible rfl);done) | ((intro w hSw;(obtain ⟨e0,e1,e2⟩:=HCs.out _ hSw i p HP.out;go_simp;try with_reducible rfl));done) | ((intro w hSw;(obtain ⟨e0,e1,e2⟩:=HCs.out _ hSw k q HQ.out;go_simp;try with_reducible rfl));done));try simp only [pt])
        refine pzz ?_;refine rd 11 fun K hK=>?_;go_simp;refine hK.out _ _ (DB.out.keeps) (fun hHeld=>?_);clear hK K;try simp only [pt]
        refine rd 12 fun K hK=>?_;go_simp;refine HOp.out.mono ?_;rintro e w7 ⟨nm7,s7,rfl,hv7,hk7,hm7⟩;have D7:=kp (DB.out.call hk7 hm7);have R7:=kp (RB.out.keep hk7 hrbb);have V7:=kp hv7;clear hv7 hk7 hm7;refine hK.out _ _ D7.out.keeps (fun hHeld=>?_);clear hK K;have D8:=kp (D7.out.alloc (.cells #[.string nm7,.int .i64 s7,.int .i64 0] 94));have R8:=kp (R7.out.below ((brq w7).alloc nlq (.cells #[.string nm7,.int .i64 s7,.int .i64 0] 94)));have N8:=kp (Bk.new w7 (.cells #[.string nm7,.int .i64 s7,.int .i64 0] 94));have HO2:=kp (rdop_any hF (st:=stE q0 st) D8.out.rd 1 0 (vs:=[(nm7,s7)]) (lV:=[v0]) 1 (lies_v1 N8.out ⟨V7.out.size,V7.out.i64⟩) (by simp) (fun h=>by have h2:s7=v0.1:=V7.out.same h;simp [h2]));rw [notR] at HO2;refine rd 13 fun K hK=>?_;go_simp;refine hK.out _ _ (D8.out.keeps) (fun hHeld=>?_);clear hK K;try simp only [pt]
        refine rd 14 fun K hK=>?_;go_simp;refine HO2.out.mono ?_;rintro e w9 ⟨nm9,s9,rfl,hv7,hk7,hm7⟩;have D9:=kp (D8.out.call hk7 hm7);have R9:=kp (R8.out.keep hk7 hrbb);have V9:=kp hv7;clear hv7 hk7 hm7;refine hK.out _ _ D9.out.keeps (fun hHeld=>?_);clear hK K;have D6:=kp (D9.out.alloc (.cells #[.string nm9,.int .i64 s9,.int .i64 0] 94));have R6:=kp (R9.out.below ((brq w9).alloc nlq (.cells #[.string nm9,.int .i64 s9,.int .i64 0] 94)));have N6:=kp (Bk.new w9 (.cells #[.string nm9,.int .i64 s9,.int .i64 0] 94));refine rd 15 fun K hK=>?_;go_simp;refine hK.out _ _ (D6.out.keeps) (fun hHeld=>?_);clear hK K;try simp only [pt]
        refine rd 16 fun K hK=>?_;refine push_vstep (u:=(nm9,s9)) (by rfl) (.tmp 54) (.tmp 69) (by rfl) (by rfl) R6.out (by rfl) N6.out ⟨V9.out.size,V9.out.i64⟩ hul2 (by have:=D6.out.size;omega) ?_;intro A5 c5 w5 hp5 hg5;have D5:=kp (RMid.grown hF D6.out R6.out hg5 (by omega));have R5:=kp hp5;clear hp5 hg5;refine hK.out _ _ D5.out.keeps (fun hHeld=>?_);clear hK K;simp only [Act.put];refine tk 17 (v:=?_) ?_ ?_;rotate_left
        ·(intro w hSw;go_simp;try with_reducible rfl)
        try simp only [pt]
        refine dnz ?_;go_wp2_with fail
        go_roundw
        case rel=>exact⟨k+1,us ++ [(nm9,s9)],(stE q0 st).e,by omega,by omega,by go_num,by simpa using R5.out,by have:=HUl.out;simp;omega,.inr ⟨by simp,rfl⟩,fun _=>by simp,fun h u hu=>by
         rcases List.mem_append.1 hu with hu | hu
         ·exact HZ.out h u hu
         ·obtain rfl:u=(nm9,s9):=by simpa using hu
          exact V9.out.same h,D5.out⟩
        case measure=>simp [intOf];omega
       ·have g1:(s.toList == [100,105,115,116,105,110,99,116])=false:=tl_false hsd;clear hsd
        by_cases hki:k=i+1
        ·have g2:((k:Int) == (i:Int)+1)=true:=by rw [beq_iff_eq];omega
         have g3:((i:Int)+1)<=1500000:=by have:=HVl.out;omega
         clear hki;go_upto_region 16 with fail
         refine wp_region_held_drew (S:=fun W=>Keeps (onRb F) w W) (by kernel_rfl) (DR.out.drew.keeps) (fun hHeld=>?_);refine plz [0,1,2,3,4,5,6,7,8,9] ?_;iterate 10 (refine tnz (v:=?_) ?_ ?_;rotate_left;(focus first | ((intro w hSw;go_simp;try with_reducible rfl);done) | ((intro w hSw;(obtain ⟨e0,e1,e2⟩:=HCs.out _ hSw i p HP.out;go_simp;try with_reducible rfl));done) | ((intro w hSw;(obtain ⟨e0,e1,e2⟩:=HCs.out _ hSw k q HQ.out;go_simp;try with_reducible rfl));done));try simp only [pt])
         refine pzz ?_;refine rd 10 fun K hK=>?_;go_simp;refine hK.out _ _ (DB.out.keeps) (fun hHeld=>?_);clear hK K;try simp only [pt]
         refine rd 11 fun K hK=>?_;go_simp;refine HOp.out.mono ?_;rintro e w9 ⟨nm9,s9,rfl,hv7,hk7,hm7⟩;have D9:=kp (DB.out.call hk7 hm7);have R9:=kp (RB.out.keep hk7 hrbb);have V9:=kp hv7;clear hv7 hk7 hm7;refine hK.out _ _ D9.out.keeps (fun hHeld=>?_);clear hK K;have D6:=kp (D9.out.alloc (.cells #[.string nm9,.int .i64 s9,.int .i64 0] 94));have R6:=kp (R9.out.below ((brq w9).alloc nlq (.cells #[.string nm9,.int .i64 s9,.int .i64 0] 94)));have N6:=kp (Bk.new w9 (.cells #[.string nm9,.int .i64 s9,.int .i64 0] 94));refine rd 12 fun K hK=>?_;go_simp;refine hK.out _ _ (D6.out.keeps) (fun hHeld=>?_);clear hK K;try simp only [pt]
         refine rd 13 fun K hK=>?_;refine push_vstep (u:=(nm9,s9)) (by rfl) (.tmp 75) (.tmp 87) (by rfl) (by rfl) R6.out (by rfl) N6.out ⟨V9.out.size,V9.out.i64⟩ hul2 (by have:=D6.out.size;omega) ?_;intro A5 c5 w5 hp5 hg5;have D5:=kp (RMid.grown hF D6.out R6.out hg5 (by omega));have R5:=kp hp5;clear hp5 hg5;refine hK.out _ _ D5.out.keeps (fun hHeld=>?_);clear hK K;simp only [Act.put];refine tk 14 (v:=?_) ?_ ?_;rotate_left
         ·(intro w hSw;go_simp;try with_reducible rfl)
         try simp only [pt]
         refine dnz ?_;go_wp2_with fail
         go_roundw
         case rel=>exact⟨k+1,us ++ [(nm9,s9)],(stE q0 st).e,by omega,by omega,by go_num,by simpa using R5.out,by have:=HUl.out;simp;omega,.inr ⟨by simp,rfl⟩,fun _=>by simp,fun h u hu=>by
          rcases List.mem_append.1 hu with hu | hu
          ·exact HZ.out h u hu
          ·obtain rfl:u=(nm9,s9):=by simpa using hu
           exact V9.out.same h,D5.out⟩
         case measure=>simp [intOf];omega
        ·have g2:((k:Int) == (i:Int)+1)=false:=by rw [beq_eq_false_iff_ne];omega
         have HKi:=kp hki;clear hki;go_wp2_with fail
         go_roundw
         case rel=>exact⟨k+1,us,er,by omega,by omega,by go_num,RR'.out,by have:=HUl.out;omega,HOr.out,fun _=>HNe.out (by have:=HKi.out;omega),HZ.out,DR.out⟩
         case measure=>simp [intOf];omega
      ·obtain rfl:k=vs.length:=by omega
       go_wp2_with fail
       go_roundw
       case rel=>exact⟨i+1,us,er,by omega,by go_num,RR'.out,by have:=HUl.out;have:=HVl.out;omega,HOr.out,fun _=>HNe.out (by have:=HVl.out;omega),HZ.out,DR.out⟩
       case measure=>simp [intOf];omega
    ·obtain rfl:i=vs.length:=by omega
     have hus:=HNe.out (by have:=HVl.out;omega);have hpos:0 < us.length:=List.length_pos_iff.2 hus;have hposi:(0:Int) < (us.length:Int):=by omega
     have hum:(us.length:Int) < 4000000000000:=by have:=HUl.out;have:=HVl.out;omega
     obtain ⟨u0,hu0⟩:∃ u,us[0]?=some u:=⟨_,gqe hpos⟩
     have hee:er=(stE q0 st).e:=by
      rcases HOr.out with h | h
      ·exact absurd h.1 hus
      ·exact h.2
     subst hee;have HVr:=kp (RO.out.varsS (F:=F) (by omega));obtain ⟨⟨rb',ro',rfl⟩,_⟩:=vars_some HVr.out hpos;have HU0:=kp (HZ.out);have HK0:=kp (RO.out.ok u0 (mgq hu0));have HZ0:=kp (fun h=>HZ.out h u0 (mgq hu0));obtain ⟨e0,e1,e2⟩:=vars_cells HVr.out (Keeps.refl _ _) hu0;rw [Nat.zero_mul,Nat.add_zero] at e0 e1 e2;have D2:=kp (DO.out.alloc (.cells #[.string u0.1,.int .i64 u0.2,.int .i64 0] 94));have V2:=kp (Bk.new wo (.cells #[.string u0.1,.int .i64 u0.2,.int .i64 0] 94));have R2:=kp (RO.out.below ((brq wo).alloc nlq (.cells #[.string u0.1,.int .i64 u0.2,.int .i64 0] 94)));have HNo:=kp (show ∀ g,(Value.slice (some ⟨rb',ro',none⟩) us.length co).ownBlock=some g->g≠wo.heap.size from fun g hg=>by have:=(RO.out.own.lt g hg).2;omega);have hvw:w.heap.size<=wo.heap.size:=DO.out.keeps.size;have hvr:wo.heap.size≠w.heap.size:=by have:=DO.out.size;omega
     have hvf:¬ onRb F wo.heap.size:=by have:=DO.out.keeps.size;unfold onRb;omega
     have HUs:=kp (HZ.out);clear hus HOr HNe HUl hu0;go_upto_region 18 with fail
     generalize wo.alloc (.cells #[.string u0.1,.int .i64 u0.2,.int .i64 0] 94)=w2 at *;generalize wo.heap.size=vb at *;clear e0 e1 e2;go_wp2_with fail
     go_loopw [12] (fun j' wq=>∃ (j:Nat) (nm:ByteArray) (n:Int),1<=j/\j<=us.length/\j'=.int .i64 j/\VyOk (nm,n)/\((stE q0 st).e=0->n=0)/\wq.heap[vb]?=some (.cells #[.string nm,.int .i64 n,.int .i64 0] 94 (0,0))/\VyRow (w.heap.size+1) wq (.slice (some ⟨rb',ro',none⟩) us.length co) us/\RMid F w w.heap.size wq (stE q0 st).e) (fun j' _=>us.length - (intOf j').toNat)
     case atStart=>exact⟨1,u0.1,u0.2,nlq,by omega,rfl,HK0.out,HZ0.out,V2.out,R2.out,D2.out⟩
     case round =>
      clear V2 R2 D2 HK0 HZ0 HVr RO DO;obtain ⟨j,nm,n,hj1,hj,rfl,hok,hzn,hvb,hrow,hmid⟩:=hrel;have HOv:=kp hok;have HZn:=kp hzn;have VR:=kp hvb;have RR':=kp hrow;have DR:=kp hmid;clear hok hzn hvb hrow hmid
      by_cases hjl:j < us.length
      ·have hlt3:(j:Int) < (us.length:Int):=by omega
       obtain ⟨q,hq'⟩:∃ q,us[j]?=some q:=⟨_,gqe hjl⟩;have HQ:=kp hq';have HQz:=kp (fun h=>HUs.out h q (mgq hq'));have HQk:=kp (RR'.out.ok q (mgq hq'));clear hq';have HVr:=kp (RR'.out.varsS (F:=F) (by omega));have HRc:=kp (fun W (hW:Keeps (onRb F) wr W)=>vars_cells HVr.out hW HQ.out);have HVc:=kp (fun W (hW:Keeps (onRb F) wr W)=>show W.heap[vb]?=some (.cells #[.string nm,.int .i64 n,.int .i64 0] 94 (0,0)) from(hW.block vb (lt_of_block VR.out) hvf).trans VR.out);have K0:=kp (Keeps.refl (onRb F) wr).drew;have KB:=kp (K0.out.alloc (.cells #[.string nm,.int .i64 n,.int .i64 0,.string q.1,.int .i64 q.2,.int .i64 0] 94));have DB:=kp (DR.out.drew.alloc (.cells #[.string nm,.int .i64 n,.int .i64 0,.string q.1,.int .i64 q.2,.int .i64 0] 94));have NB:=kp (show(wr.drew.alloc (.cells #[.string nm,.int .i64 n,.int .i64 0,.string q.1,.int .i64 q.2,.int .i64 0] 94)).heap[wr.heap.size]?=some (.cells #[.string nm,.int .i64 n,.int .i64 0,.string q.1,.int .i64 q.2,.int .i64 0] 94 (0,0)) from Bk.new wr.drew _);have RB:=kp (RR'.out.below ((brq wr).drew.alloc nlq (.cells #[.string nm,.int .i64 n,.int .i64 0,.string q.1,.int .i64 q.2,.int .i64 0] 94)));have HOp:=kp (rdop_any hF (st:=stE q0 st) DB.out.rd 2 0 (vs:=[(nm,n),q]) (lV:=[v0,v0]) 2 (lies_v2 NB.out HOv.out HQk.out) (by simp) (fun h=>by simp [HZn.out h,HQz.out h,v0]));rw [andR] at HOp;go_upto_region 21 with fail
       refine wp_region_to (by kernel_rfl) (fun W=>Keeps (onRb F) wr W) 8 (K0.out) (fun hHeld=>?_);refine mp1 [0,1,2,3,4,5] ?_;iterate 6 (refine mtk (v:=?_) ?_ ?_;rotate_left;(focus first | ((intro w hSw;go_simp;try with_reducible rfl);done) | ((intro w hSw;(obtain ⟨v0',v1',v2',vf⟩:=Bk.c3 (HVc.out _ hSw);go_simp;try with_reducible rfl));done) | ((intro w hSw;(obtain ⟨e0,e1,e2⟩:=HRc.out _ hSw;go_simp;try with_reducible rfl));done));try simp only [pt])
       refine mp0 ?_;refine wpTo_step (i:=6) (o:=Oper.mk _ _ _ _ _ _) (by kernel_rfl) rfl (fun K hK=>?_);go_simp;refine hK.out _ _ (KB.out) (fun hHeld=>?_);clear hK K;try simp only [pt]
       refine wpTo_step (i:=7) (o:=Oper.mk _ _ _ _ _ _) (by kernel_rfl) rfl (fun K hK=>?_);go_simp;refine HOp.out.mono ?_;rintro e w7 ⟨nm7,s7,rfl,hv7,hk7,hm7⟩;have V7:=kp hv7;have D7:=kp (DB.out.call hk7 hm7);have R7:=kp (RB.out.keep hk7 (show F.rb < w.heap.size+1 by omega));have KW:=kp (KB.out.trans_same hk7);have B7:=kp (HVc.out _ KW.out);clear hk7 hm7 hv7;refine hK.out _ _ KW.out (fun hHeld=>?_);clear hK K;have DZ:=kp (((D7.out.other hF hvw hvr 0 (.string nm7)).other hF hvw hvr 1 (.int .i64 s7)).other hF hvw hvr 2 (.int .i64 0));have BZ:=kp (Bk.set_at (Bk.set_at (Bk.set_at B7.out 0 (.string nm7)) 1 (.int .i64 s7)) 2 (.int .i64 0))
       have RZ:=kp (show VyRow (w.heap.size+1) (((w7.setCell ⟨vb,0,none⟩ (.string nm7)).setCell ⟨vb,1,none⟩ (.int .i64 s7)).setCell ⟨vb,2,none⟩ (.int .i64 0)) (.slice (some ⟨rb',ro',none⟩) us.length co) us from
        ⟨keep_row2 R7.out.own ((((Keeps.refl (fun k=>k=vb) w7).setCell (p:=⟨vb,0,none⟩) (.inl rfl) _).setCell (p:=⟨vb,1,none⟩) (.inl rfl) _).setCell (p:=⟨vb,2,none⟩) (.inl rfl) _) (fun g hg hk=>HNo.out g hg hk),R7.out.ok⟩)
       obtain ⟨v0',v1',v2',vf⟩:=Bk.c3 B7.out;refine wpTo_last (o:=Oper.mk _ _ _ _ _ _) (by kernel_rfl) rfl (fun K hK=>?_);go_simp;refine hK.out _ _ ?_;clear hK K;try simp only [pt]
       refine wpTo_done (by kernel_rfl) ?_ _;clear v0' v1' v2' vf;go_wp2_with fail
       go_roundw
       case rel=>exact⟨j+1,nm7,s7,by omega,by omega,by go_num,⟨V7.out.size,V7.out.i64⟩,fun h=>V7.out.same h,BZ.out,RZ.out,DZ.out⟩
       case measure=>simp [intOf];omega
      ·obtain rfl:j=us.length:=by omega
       obtain ⟨v0',v1',v2',vf⟩:=Bk.c3 VR.out;obtain ⟨r0,r1,r2,rf⟩:=Bk.c3 DR.out.cell;go_wp2_with fail
       rw [HS.out];refine RMid.ret hF (q:=(v0,stE q0 st)) DR.out Tryz.results149 ?_ ?_ ⟨HOv.out.1,HOv.out.2,fun h=>HZn.out h⟩ <;> rfl
theorem rdifference_any {F:RFix} (hF:RFixOk F) {x d:Sexp} (hT:∀ y ∈ d.l,RTermC F y) {w:World} {st:St} (hm:RR F w st.e) (s:ByteArray) {A:Option Addr} {c:Nat} (hx:XAt F.W0 A c x) (h3:x.l.length=3) {Ad:Option Addr} {cd:Nat} (hd:XAt F.W0 Ad cd d) (hd3:d.l.length=3) (left:Bool) {Av:Option Addr} {vs:List Vy} (cv:Nat) {env:Env} (hv:VarsS F w Av vs) (hvl:∀ y ∈ d.l,vs.length+y.full<=4000000) (he:st.e=0->EnvEq env vs) :
  Calls Tryz.prog 146 #[.pointer (some ⟨F.rb,0,none⟩),.string s,.agg #[.int .i8 x.kind,.string x.text,.slice A x.l.length c],.agg #[.int .i8 d.kind,.string d.text,.slice Ad d.l.length cd],.bool left,.slice Av vs.length cv] w (RPost F w (dfR F (fun y=>termP (cxR F) F.g.macros.length y env) d st)):=by
 have HT:=kp hT;have HV:=kp hv;have HVl:=kp hvl;have HE:=kp he;have HStk:=kp (fun y (s:St) (h:s.e≠0)=>term_stick (cxR F) F.g.macros.length y env s h);generalize hr:(fun y=>termP (cxR F) F.g.macros.length y env)=r at *;have HRf:=kp (fun y st=>show termP (cxR F) F.g.macros.length y env st=r y st by rw [← hr]);have HS:=kp (show dfR F r d st=opM (cxR F) 12 0 [(r (nthX d 1) st).1,(r (nthX d 2) (r (nthX d 1) st).2).1] (r (nthX d 2) (r (nthX d 1) st).2).2 from rfl);have B1:=kp ((brq w).alloc nlq (.cells #[.int .i8 x.kind,.string x.text,.slice A x.l.length c] 30));have B2:=kp (B1.out.alloc B1.out.size (.cells #[.int .i8 d.kind,.string d.text,.slice Ad d.l.length cd] 30));have Z1:=kp (show((w.alloc (.cells #[.int .i8 x.kind,.string x.text,.slice A x.l.length c] 30)).alloc (.cells #[.int .i8 d.kind,.string d.text,.slice Ad d.l.length cd] 30)).heap.size=w.heap.size+1+1 by simp);have D1:=kp (RMid.newOn hm B2.out);have X1:=kp (Bk.keep (Bk.keep (Bk.new w (.cells #[.int .i8 x.kind,.string x.text,.slice A x.l.length c] 30)) (.cells #[.int .i8 d.kind,.string d.text,.slice Ad d.l.length cd] 30)) (.cells #[.string { data:=#[] },.int .i64 0,.int .i64 0] 94))
 have Y1:=kp (Bk.keep (show((w.alloc (.cells #[.int .i8 x.kind,.string x.text,.slice A x.l.length c] 30)).alloc (.cells #[.int .i8 d.kind,.string d.text,.slice Ad d.l.length cd] 30)).heap[w.heap.size+1]?=some (.cells #[.int .i8 d.kind,.string d.text,.slice Ad d.l.length cd] 30 (0,0)) by
  have h:=Bk.new (w.alloc (.cells #[.int .i8 x.kind,.string x.text,.slice A x.l.length c] 30)) (.cells #[.int .i8 d.kind,.string d.text,.slice Ad d.l.length cd] 30);simpa using h) (.cells #[.string { data:=#[] },.int .i64 0,.int .i64 0] 94))
 rw [Z1.out] at D1;obtain ⟨b,o,A1,c1,hA,hx1,hc1⟩:=nth_xs hx (i:=1) (by omega);obtain ⟨b',o',A2,c2,hA2,hx2,hc2⟩:=nth_xs hx (i:=2) (by omega);subst hA;obtain ⟨rfl,rfl⟩:=aiq hA2;rw [Nat.one_mul] at hc1;obtain ⟨b',o',E1,d1,hA,hy1,hd1⟩:=nth_xs hd (i:=1) (by omega);obtain ⟨b'',o'',E2,d2,hA2,hy2,hd2⟩:=nth_xs hd (i:=2) (by omega);subst hA;obtain ⟨rfl,rfl⟩:=aiq hA2;rw [Nat.one_mul] at hd1;have HX1:=kp hx1;have HX2:=kp hx2;have HY1:=kp hy1;have HY2:=kp hy2;have HC1:=kp hc1;have HC2:=kp hc2;have HD1:=kp hd1;have HD2:=kp hd2;have HM1:=kp (nth_mem (x:=d) (i:=1) (by omega));have HM2:=kp (nth_mem (x:=d) (i:=2) (by omega));have g3:(2:Int) < (x.l.length:Int):=by omega
 have g4:(1:Int) < (x.l.length:Int):=by omega
 have g5:(2:Int) < (d.l.length:Int):=by omega
 have g6:(1:Int) < (d.l.length:Int):=by omega
 clear hm hT hx hd hv hvl he hr hx1 hx2 hc1 hc2 hy1 hy2 hd1 hd2 h3 hd3;generalize dfR F r d st=res at *;generalize nthX d 1=e1 at *;generalize nthX d 2=e2 at *;have HLm:=kp (fun y=>numR_lim y)
 go_enter Tryz.func146,Tryz.ntmps146
 go_upto_region 1 with fail
 generalize ((w.alloc (.cells #[.int .i8 x.kind,.string x.text,.slice (some ⟨b,o,none⟩) x.l.length c] 30)).alloc (.cells #[.int .i8 d.kind,.string d.text,.slice (some ⟨b',o',none⟩) d.l.length cd] 30)).alloc (.cells #[.string { data:=#[] },.int .i64 0,.int .i64 0] 94)=w1 at *
 cases left with
 | true =>
  have D2:=D1;have X2:=X1;have Y2:=Y1;obtain ⟨y0,y1,y2,yf⟩:=Bk.c3 Y2.out;obtain ⟨f0,f1,f2⟩:=HD1.out _ D2.out.rd.below;have HC:=kp (HT.out _ HM1.out D2.out.rd HY1.out (HV.out.on D2.out.keeps) (HVl.out _ HM1.out) HE.out (cv:=cv));rw [HRf.out] at HC;have HSk1:=kp (fun h=>HStk.out e1 st h);rw [HRf.out] at HSk1;generalize r e1 st=pr at *;obtain ⟨pv,ps⟩:=pr
  have HS7:=kp (show ps.e=0->st.e=0 from fun h=>Decidable.byContradiction fun hn=>by
   have e:ps=st:=HSk1.out hn;rw [e] at h;exact hn h)
  go_wp2_with fail
  refine HC.out.mono ?_;rintro e w3 ⟨nm7,s7,rfl,hv3,hk3,hm3⟩;have BA:=kp ((brq w3).alloc nlq (.cells #[.string nm7,.int .i64 s7,.int .i64 0] 94));have D3:=kp ((D2.out.call hk3 hm3).below BA.out);have X3:=kp (Bk.on (D2.out.blk hk3 X2.out nlq) BA.out);have Y3:=kp (Bk.on (D2.out.blk hk3 Y2.out (Nat.le_succ _)) BA.out);have U3:=kp (Bk.new w3 (.cells #[.string nm7,.int .i64 s7,.int .i64 0] 94));have VA:=kp hv3;have hua:=(D2.out.call hk3 hm3).keeps.size;clear hv3 hk3 hm3 y0 y1 y2 yf f0 f1 f2 HSk1;go_upto_region 5 with fail
  generalize w3.alloc (.cells #[.string nm7,.int .i64 s7,.int .i64 0] 94)=w4 at *;generalize w3.heap.size=ua at *;obtain ⟨y0,y1,y2,yf⟩:=Bk.c3 Y3.out;obtain ⟨f0,f1,f2⟩:=HD2.out _ D3.out.rd.below;have HC2:=kp (HT.out _ HM2.out D3.out.rd HY2.out (HV.out.on D3.out.keeps) (HVl.out _ HM2.out) (fun h=>HE.out (HS7.out h)) (cv:=cv));rw [HRf.out] at HC2;have HSk1:=kp (fun h=>HStk.out e2 ps h);rw [HRf.out] at HSk1;replace HS:=kp (show res=opM (cxR F) 12 0 [pv,(r e2 ps).1] (r e2 ps).2 from HS.out);generalize r e2 ps=qr at *;obtain ⟨qv,qs⟩:=qr
  have HS8:=kp (show qs.e=0->ps.e=0 from fun h=>Decidable.byContradiction fun hn=>by
   have e:qs=ps:=HSk1.out hn;rw [e] at h;exact hn h)
  go_wp2_with fail
  refine HC2.out.mono ?_;rintro e w5 ⟨nm8,s8,rfl,hv5,hk5,hm5⟩;have BB:=kp ((brq w5).alloc nlq (.cells #[.string nm8,.int .i64 s8,.int .i64 0] 94));have D6:=kp ((D3.out.call hk5 hm5).below BB.out);have X6:=kp (Bk.on (D3.out.blk hk5 X3.out nlq) BB.out);have U6:=kp (Bk.on (D3.out.blk hk5 U3.out hua) BB.out);have V6:=kp (Bk.new w5 (.cells #[.string nm8,.int .i64 s8,.int .i64 0] 94));have VB:=kp hv5;have hub:=(D3.out.call hk5 hm5).keeps.size;clear hv5 hk5 hm5 y0 y1 y2 yf f0 f1 f2 HSk1 HC HC2 BA BB;go_upto_region 6 with fail
  generalize w5.alloc (.cells #[.string nm8,.int .i64 s8,.int .i64 0] 94)=w6 at *;generalize w5.heap.size=ub at *;obtain ⟨q0,q1,q2,qf⟩:=Bk.c3 X6.out;obtain ⟨f0,f1,f2⟩:=HC2.out _ D6.out.rd.below;have HNm:=kp (rnumber_any hF D6.out.rd HX2.out);have hlim:=HLm.out (nthX x 2);unfold RNumPost at HNm;generalize numR (nthX x 2)=nr at *;obtain ⟨n,nb,ne⟩:=nr;replace hlim:-4611686018427387904<=n/\n<=4611686018427387904:=hlim;go_wp2_with fail
  refine HNm.out.mono ?_;rintro e w8 ⟨rfl,hk2,hm2⟩;have D8:=kp (D6.out.call hk2 hm2);have U8:=kp (D6.out.blk hk2 U6.out hua);have V8:=kp (D6.out.blk hk2 V6.out hub);clear hk2 hm2 q0 q1 q2 qf f0 f1 f2 HNm;have HIa:=kp ((VIs.of VA.out).on HS8.out);have HIb:=kp (VIs.of VB.out);have HDi:=kp (fun n=>rdiff_any hF (st:=qs) D8.out.rd HIa.out HIb.out n);have HDr:=kp (fun n=>rdiff_any hF (st:=qs) D8.out.rd HIb.out HIa.out n);rw [op12_turn] at HDr
  by_cases h1:s=sLe
  ·have k1:(s.toList == [60,61])=true:=tl_true h1;clear h1;obtain ⟨u0,u1,u2,uf⟩:=Bk.c3 U8.out;obtain ⟨z0,z1,z2,zf⟩:=Bk.c3 V8.out;go_wp2_with fail
   refine(HDi.out _).mono ?_;rintro e w9 ⟨nm9,s9,rfl,hv9,hk9,hm9⟩;have D9:=kp (D8.out.call hk9 hm9);clear hk9 hm9 u0 u1 u2 uf z0 z1 z2 zf;obtain ⟨r0,r1,r2,rf⟩:=Bk.c3 D9.out.cell;go_wp2_with fail
   rw [HS.out];refine RMid.ret hF (q:=opM (cxR F) 12 0 [pv,qv] qs) D9.out Tryz.results146 ?_ ?_ hv9 <;> rfl
  have k1:(s.toList == [60,61])=false:=tl_false h1
  by_cases h2:s=sLt
  ·have k2:(s.toList == [60])=true:=tl_true h2;clear h1 h2;obtain ⟨u0,u1,u2,uf⟩:=Bk.c3 U8.out;obtain ⟨z0,z1,z2,zf⟩:=Bk.c3 V8.out;go_wp2_with fail
   refine(HDi.out _).mono ?_;rintro e w9 ⟨nm9,s9,rfl,hv9,hk9,hm9⟩;have D9:=kp (D8.out.call hk9 hm9);clear hk9 hm9 u0 u1 u2 uf z0 z1 z2 zf;obtain ⟨r0,r1,r2,rf⟩:=Bk.c3 D9.out.cell;go_wp2_with fail
   rw [HS.out];refine RMid.ret hF (q:=opM (cxR F) 12 0 [pv,qv] qs) D9.out Tryz.results146 ?_ ?_ hv9 <;> rfl
  have k2:(s.toList == [60])=false:=tl_false h2
  by_cases h3:s=sGe
  ·have k3:(s.toList == [62,61])=true:=tl_true h3;clear h1 h2 h3;obtain ⟨u0,u1,u2,uf⟩:=Bk.c3 U8.out;obtain ⟨z0,z1,z2,zf⟩:=Bk.c3 V8.out;go_wp2_with fail
   refine(HDr.out _).mono ?_;rintro e w9 ⟨nm9,s9,rfl,hv9,hk9,hm9⟩;have D9:=kp (D8.out.call hk9 hm9);clear hk9 hm9 u0 u1 u2 uf z0 z1 z2 zf;obtain ⟨r0,r1,r2,rf⟩:=Bk.c3 D9.out.cell;go_wp2_with fail
   rw [HS.out];refine RMid.ret hF (q:=opM (cxR F) 12 0 [pv,qv] qs) D9.out Tryz.results146 ?_ ?_ hv9 <;> rfl
  have k3:(s.toList == [62,61])=false:=tl_false h3
  by_cases h4:s=sGt
  ·have k4:(s.toList == [62])=true:=tl_true h4;clear h1 h2 h3 h4;obtain ⟨u0,u1,u2,uf⟩:=Bk.c3 U8.out;obtain ⟨z0,z1,z2,zf⟩:=Bk.c3 V8.out;go_wp2_with fail
   refine(HDr.out _).mono ?_;rintro e w9 ⟨nm9,s9,rfl,hv9,hk9,hm9⟩;have D9:=kp (D8.out.call hk9 hm9);clear hk9 hm9 u0 u1 u2 uf z0 z1 z2 zf;obtain ⟨r0,r1,r2,rf⟩:=Bk.c3 D9.out.cell;go_wp2_with fail
   rw [HS.out];refine RMid.ret hF (q:=opM (cxR F) 12 0 [pv,qv] qs) D9.out Tryz.results146 ?_ ?_ hv9 <;> rfl
  have k4:(s.toList == [62])=false:=tl_false h4;clear h1 h2 h3 h4;obtain ⟨u0,u1,u2,uf⟩:=Bk.c3 U8.out;obtain ⟨z0,z1,z2,zf⟩:=Bk.c3 V8.out;go_wp2_with fail
  refine(HDi.out _).mono ?_;rintro e w9 ⟨nm9,s9,rfl,hv9,hk9,hm9⟩;have BC:=kp ((brq w9).alloc nlq (.cells #[.string nm9,.int .i64 s9,.int .i64 0] 94));have D9:=kp ((D8.out.call hk9 hm9).below BC.out);have U9:=kp (Bk.on (D8.out.blk hk9 U8.out hua) BC.out);have V9:=kp (Bk.on (D8.out.blk hk9 V8.out hub) BC.out);have P9:=kp (Bk.new w9 (.cells #[.string nm9,.int .i64 s9,.int .i64 0] 94));have hpb:=(D8.out.call hk9 hm9).keeps.size;have HV9:=kp hv9;clear hk9 hm9 hv9 u0 u1 u2 uf z0 z1 z2 zf;have HDs:=kp (fun n=>rdiff_any hF (st:=(opM (cxR F) 12 0 [pv,qv] qs).2) D9.out.rd (HIb.out.on op12_e) (HIa.out.on op12_e) n);rw [op12_twice] at HDs;go_upto_region 28 with fail
  generalize w9.alloc (.cells #[.string nm9,.int .i64 s9,.int .i64 0] 94)=wa at *;generalize w9.heap.size=pb at *;obtain ⟨u0,u1,u2,uf⟩:=Bk.c3 U9.out;obtain ⟨z0,z1,z2,zf⟩:=Bk.c3 V9.out;go_wp2_with fail
  refine(HDs.out _).mono ?_;rintro e wb ⟨nmb,sb,rfl,hvb,hkb,hmb⟩;have BE:=kp ((brq wb).alloc nlq (.cells #[.string nmb,.int .i64 sb,.int .i64 0] 94));have Db:=kp ((D9.out.call hkb hmb).below BE.out);have Pb:=kp (Bk.on (D9.out.blk hkb P9.out hpb) BE.out);have Qb:=kp (Bk.new wb (.cells #[.string nmb,.int .i64 sb,.int .i64 0] 94));have HVb:=kp hvb;clear hkb hmb hvb u0 u1 u2 uf z0 z1 z2 zf;go_upto_region 29 with fail
  generalize wb.alloc (.cells #[.string nmb,.int .i64 sb,.int .i64 0] 94)=wc at *;generalize wb.heap.size=qb at *;obtain ⟨u0,u1,u2,uf⟩:=Bk.c3 Pb.out;obtain ⟨z0,z1,z2,zf⟩:=Bk.c3 Qb.out;have Dd:=kp (Db.out.alloc (.cells #[.string nm9,.int .i64 s9,.int .i64 0,.string nmb,.int .i64 sb,.int .i64 0] 94));have Sd:=kp (Bk.new wc (.cells #[.string nm9,.int .i64 s9,.int .i64 0,.string nmb,.int .i64 sb,.int .i64 0] 94));have HOp:=kp (rdop_any hF (st:=(opM (cxR F) 12 0 [pv,qv] qs).2) Dd.out.rd 2 0 (vs:=[(nm9,s9),(nmb,sb)]) (lV:=[v0,v0]) 2 (lies_v2 Sd.out ⟨HV9.out.size,HV9.out.i64⟩ ⟨HVb.out.size,HVb.out.i64⟩) (by simp) (fun h=>by have h1:=HV9.out.same h;have h2:=HVb.out.same h;rw [op12] at h1 h2;simp only [List.map_cons,List.map_nil,h1,h2]));rw [andR,op12_self] at HOp;go_wp2_with fail
  refine HOp.out.mono ?_;rintro e w7 ⟨nm7,s7,rfl,hv7,hk7,hm7⟩;have D7:=kp (Dd.out.call hk7 hm7);clear hk7 hm7;obtain ⟨r0,r1,r2,rf⟩:=Bk.c3 D7.out.cell;go_wp2_with fail
  rw [HS.out];refine RMid.ret hF (q:=opM (cxR F) 12 0 [pv,qv] qs) D7.out Tryz.results146 ?_ ?_ hv7 <;> rfl
 | false =>
  obtain ⟨q0,q1,q2,qf⟩:=Bk.c3 X1.out;obtain ⟨f0,f1,f2⟩:=HC1.out _ D1.out.rd.below;have HNm:=kp (rnumber_any hF D1.out.rd HX1.out);have hlim:=HLm.out (nthX x 1);unfold RNumPost at HNm;generalize numR (nthX x 1)=nr at *;obtain ⟨n,nb,ne⟩:=nr;replace hlim:-4611686018427387904<=n/\n<=4611686018427387904:=hlim;go_wp2_with fail
  refine HNm.out.mono ?_;rintro e w2 ⟨rfl,hk2,hm2⟩;have D2:=kp (D1.out.call hk2 hm2);have X2:=kp (D1.out.blk hk2 X1.out nlq);have Y2:=kp (D1.out.blk hk2 Y1.out (Nat.le_succ _));clear hk2 hm2 q0 q1 q2 qf f0 f1 f2 HNm;go_upto_region 4 with fail
  obtain ⟨y0,y1,y2,yf⟩:=Bk.c3 Y2.out;obtain ⟨f0,f1,f2⟩:=HD1.out _ D2.out.rd.below;have HC:=kp (HT.out _ HM1.out D2.out.rd HY1.out (HV.out.on D2.out.keeps) (HVl.out _ HM1.out) HE.out (cv:=cv));rw [HRf.out] at HC;have HSk1:=kp (fun h=>HStk.out e1 st h);rw [HRf.out] at HSk1;generalize r e1 st=pr at *;obtain ⟨pv,ps⟩:=pr
  have HS7:=kp (show ps.e=0->st.e=0 from fun h=>Decidable.byContradiction fun hn=>by
   have e:ps=st:=HSk1.out hn;rw [e] at h;exact hn h)
  go_wp2_with fail
  refine HC.out.mono ?_;rintro e w3 ⟨nm7,s7,rfl,hv3,hk3,hm3⟩;have BA:=kp ((brq w3).alloc nlq (.cells #[.string nm7,.int .i64 s7,.int .i64 0] 94));have D3:=kp ((D2.out.call hk3 hm3).below BA.out);have X3:=kp (Bk.on (D2.out.blk hk3 X2.out nlq) BA.out);have Y3:=kp (Bk.on (D2.out.blk hk3 Y2.out (Nat.le_succ _)) BA.out);have U3:=kp (Bk.new w3 (.cells #[.string nm7,.int .i64 s7,.int .i64 0] 94));have VA:=kp hv3;have hua:=(D2.out.call hk3 hm3).keeps.size;clear hv3 hk3 hm3 y0 y1 y2 yf f0 f1 f2 HSk1;go_upto_region 5 with fail
  generalize w3.alloc (.cells #[.string nm7,.int .i64 s7,.int .i64 0] 94)=w4 at *;generalize w3.heap.size=ua at *;obtain ⟨y0,y1,y2,yf⟩:=Bk.c3 Y3.out;obtain ⟨f0,f1,f2⟩:=HD2.out _ D3.out.rd.below;have HC2:=kp (HT.out _ HM2.out D3.out.rd HY2.out (HV.out.on D3.out.keeps) (HVl.out _ HM2.out) (fun h=>HE.out (HS7.out h)) (cv:=cv));rw [HRf.out] at HC2;have HSk1:=kp (fun h=>HStk.out e2 ps h);rw [HRf.out] at HSk1;replace HS:=kp (show res=opM (cxR F) 12 0 [pv,(r e2 ps).1] (r e2 ps).2 from HS.out);generalize r e2 ps=qr at *;obtain ⟨qv,qs⟩:=qr
  have HS8:=kp (show qs.e=0->ps.e=0 from fun h=>Decidable.byContradiction fun hn=>by
   have e:qs=ps:=HSk1.out hn;rw [e] at h;exact hn h)
  go_wp2_with fail
  refine HC2.out.mono ?_;rintro e w5 ⟨nm8,s8,rfl,hv5,hk5,hm5⟩;have BB:=kp ((brq w5).alloc nlq (.cells #[.string nm8,.int .i64 s8,.int .i64 0] 94));have D6:=kp ((D3.out.call hk5 hm5).below BB.out);have X6:=kp (Bk.on (D3.out.blk hk5 X3.out nlq) BB.out);have U6:=kp (Bk.on (D3.out.blk hk5 U3.out hua) BB.out);have V6:=kp (Bk.new w5 (.cells #[.string nm8,.int .i64 s8,.int .i64 0] 94));have VB:=kp hv5;have hub:=(D3.out.call hk5 hm5).keeps.size;clear hv5 hk5 hm5 y0 y1 y2 yf f0 f1 f2 HSk1 HC HC2 BA BB;go_upto_region 6 with fail
  generalize w5.alloc (.cells #[.string nm8,.int .i64 s8,.int .i64 0] 94)=w6 at *;generalize w5.heap.size=ub at *;have D8:=D6;have U8:=U6;have V8:=V6;have HIa:=kp ((VIs.of VA.out).on HS8.out);have HIb:=kp (VIs.of VB.out);have HDi:=kp (fun n=>rdiff_any hF (st:=qs) D8.out.rd HIa.out HIb.out n);have HDr:=kp (fun n=>rdiff_any hF (st:=qs) D8.out.rd HIb.out HIa.out n);rw [op12_turn] at HDr
  by_cases h1:s=sLe
  ·have k1:(s.toList == [60,61])=true:=tl_true h1;clear h1;obtain ⟨u0,u1,u2,uf⟩:=Bk.c3 U8.out;obtain ⟨z0,z1,z2,zf⟩:=Bk.c3 V8.out;go_wp2_with fail
   refine(HDr.out _).mono ?_;rintro e w9 ⟨nm9,s9,rfl,hv9,hk9,hm9⟩;have D9:=kp (D8.out.call hk9 hm9);clear hk9 hm9 u0 u1 u2 uf z0 z1 z2 zf;obtain ⟨r0,r1,r2,rf⟩:=Bk.c3 D9.out.cell;go_wp2_with fail
   rw [HS.out];refine RMid.ret hF (q:=opM (cxR F) 12 0 [pv,qv] qs) D9.out Tryz.results146 ?_ ?_ hv9 <;> rfl
  have k1:(s.toList == [60,61])=false:=tl_false h1
  by_cases h2:s=sLt
  ·have k2:(s.toList == [60])=true:=tl_true h2;clear h1 h2;obtain ⟨u0,u1,u2,uf⟩:=Bk.c3 U8.out;obtain ⟨z0,z1,z2,zf⟩:=Bk.c3 V8.out;go_wp2_with fail
   refine(HDr.out _).mono ?_;rintro e w9 ⟨nm9,s9,rfl,hv9,hk9,hm9⟩;have D9:=kp (D8.out.call hk9 hm9);clear hk9 hm9 u0 u1 u2 uf z0 z1 z2 zf;obtain ⟨r0,r1,r2,rf⟩:=Bk.c3 D9.out.cell;go_wp2_with fail
   rw [HS.out];refine RMid.ret hF (q:=opM (cxR F) 12 0 [pv,qv] qs) D9.out Tryz.results146 ?_ ?_ hv9 <;> rfl
  have k2:(s.toList == [60])=false:=tl_false h2
  by_cases h3:s=sGe
  ·have k3:(s.toList == [62,61])=true:=tl_true h3;clear h1 h2 h3;obtain ⟨u0,u1,u2,uf⟩:=Bk.c3 U8.out;obtain ⟨z0,z1,z2,zf⟩:=Bk.c3 V8.out;go_wp2_with fail
   refine(HDi.out _).mono ?_;rintro e w9 ⟨nm9,s9,rfl,hv9,hk9,hm9⟩;have D9:=kp (D8.out.call hk9 hm9);clear hk9 hm9 u0 u1 u2 uf z0 z1 z2 zf;obtain ⟨r0,r1,r2,rf⟩:=Bk.c3 D9.out.cell;go_wp2_with fail
   rw [HS.out];refine RMid.ret hF (q:=opM (cxR F) 12 0 [pv,qv] qs) D9.out Tryz.results146 ?_ ?_ hv9 <;> rfl
  have k3:(s.toList == [62,61])=false:=tl_false h3
  by_cases h4:s=sGt
  ·have k4:(s.toList == [62])=true:=tl_true h4;clear h1 h2 h3 h4;obtain ⟨u0,u1,u2,uf⟩:=Bk.c3 U8.out;obtain ⟨z0,z1,z2,zf⟩:=Bk.c3 V8.out;go_wp2_with fail
   refine(HDi.out _).mono ?_;rintro e w9 ⟨nm9,s9,rfl,hv9,hk9,hm9⟩;have D9:=kp (D8.out.call hk9 hm9);clear hk9 hm9 u0 u1 u2 uf z0 z1 z2 zf;obtain ⟨r0,r1,r2,rf⟩:=Bk.c3 D9.out.cell;go_wp2_with fail
   rw [HS.out];refine RMid.ret hF (q:=opM (cxR F) 12 0 [pv,qv] qs) D9.out Tryz.results146 ?_ ?_ hv9 <;> rfl
  have k4:(s.toList == [62])=false:=tl_false h4;clear h1 h2 h3 h4;obtain ⟨u0,u1,u2,uf⟩:=Bk.c3 U8.out;obtain ⟨z0,z1,z2,zf⟩:=Bk.c3 V8.out;go_wp2_with fail
  refine(HDi.out _).mono ?_;rintro e w9 ⟨nm9,s9,rfl,hv9,hk9,hm9⟩;have BC:=kp ((brq w9).alloc nlq (.cells #[.string nm9,.int .i64 s9,.int .i64 0] 94));have D9:=kp ((D8.out.call hk9 hm9).below BC.out);have U9:=kp (Bk.on (D8.out.blk hk9 U8.out hua) BC.out);have V9:=kp (Bk.on (D8.out.blk hk9 V8.out hub) BC.out);have P9:=kp (Bk.new w9 (.cells #[.string nm9,.int .i64 s9,.int .i64 0] 94));have hpb:=(D8.out.call hk9 hm9).keeps.size;have HV9:=kp hv9;clear hk9 hm9 hv9 u0 u1 u2 uf z0 z1 z2 zf;have HDs:=kp (fun n=>rdiff_any hF (st:=(opM (cxR F) 12 0 [pv,qv] qs).2) D9.out.rd (HIb.out.on op12_e) (HIa.out.on op12_e) n);rw [op12_twice] at HDs;go_upto_region 28 with fail
  generalize w9.alloc (.cells #[.string nm9,.int .i64 s9,.int .i64 0] 94)=wa at *;generalize w9.heap.size=pb at *;obtain ⟨u0,u1,u2,uf⟩:=Bk.c3 U9.out;obtain ⟨z0,z1,z2,zf⟩:=Bk.c3 V9.out;go_wp2_with fail
  refine(HDs.out _).mono ?_;rintro e wb ⟨nmb,sb,rfl,hvb,hkb,hmb⟩;have BE:=kp ((brq wb).alloc nlq (.cells #[.string nmb,.int .i64 sb,.int .i64 0] 94));have Db:=kp ((D9.out.call hkb hmb).below BE.out);have Pb:=kp (Bk.on (D9.out.blk hkb P9.out hpb) BE.out);have Qb:=kp (Bk.new wb (.cells #[.string nmb,.int .i64 sb,.int .i64 0] 94));have HVb:=kp hvb;clear hkb hmb hvb u0 u1 u2 uf z0 z1 z2 zf;go_upto_region 29 with fail
  generalize wb.alloc (.cells #[.string nmb,.int .i64 sb,.int .i64 0] 94)=wc at *;generalize wb.heap.size=qb at *;obtain ⟨u0,u1,u2,uf⟩:=Bk.c3 Pb.out;obtain ⟨z0,z1,z2,zf⟩:=Bk.c3 Qb.out;have Dd:=kp (Db.out.alloc (.cells #[.string nm9,.int .i64 s9,.int .i64 0,.string nmb,.int .i64 sb,.int .i64 0] 94));have Sd:=kp (Bk.new wc (.cells #[.string nm9,.int .i64 s9,.int .i64 0,.string nmb,.int .i64 sb,.int .i64 0] 94));have HOp:=kp (rdop_any hF (st:=(opM (cxR F) 12 0 [pv,qv] qs).2) Dd.out.rd 2 0 (vs:=[(nm9,s9),(nmb,sb)]) (lV:=[v0,v0]) 2 (lies_v2 Sd.out ⟨HV9.out.size,HV9.out.i64⟩ ⟨HVb.out.size,HVb.out.i64⟩) (by simp) (fun h=>by have h1:=HV9.out.same h;have h2:=HVb.out.same h;rw [op12] at h1 h2;simp only [List.map_cons,List.map_nil,h1,h2]));rw [andR,op12_self] at HOp;go_wp2_with fail
  refine HOp.out.mono ?_;rintro e w7 ⟨nm7,s7,rfl,hv7,hk7,hm7⟩;have D7:=kp (Dd.out.call hk7 hm7);clear hk7 hm7;obtain ⟨r0,r1,r2,rf⟩:=Bk.c3 D7.out.cell;go_wp2_with fail
  rw [HS.out];refine RMid.ret hF (q:=opM (cxR F) 12 0 [pv,qv] qs) D7.out Tryz.results146 ?_ ?_ hv7 <;> rfl
def makeR (F:RFix) (s:ByteArray) (l:List V) (st:St):V × St :=
 if s=sNot then opM (cxR F) 1 0 [l.getD 0 v0] st
 else if s=sIte then opM (cxR F) 7 0 l st
 else if s=sLe then opM (cxR F) 8 0 l st
 else if s=sLt then opM (cxR F) 9 0 l st
 else if s=sGe then opM (cxR F) 8 0 [l.getD 1 v0,l.getD 0 v0] st
 else if s=sGt then opM (cxR F) 9 0 [l.getD 1 v0,l.getD 0 v0] st
 else if s=sEq\/s=sDistinct then eqRes l st
 else if s=sImp then impM (cxR F) (l.reverse.getD 0 v0) l.reverse.tail st
 else headM (cxR F) (binN s) l st
def coreR (F:RFix) (r:Sexp->St->V × St) (s:ByteArray) (x:Sexp) (st:St):V × St :=
 if(x.l.tail.length:Int) < (argcN s).1\/(argcN s).2 < (x.l.tail.length:Int) then(v0,failS 30 st)
 else if differsN s x=1 then dfR F r (nthX x 1) st
 else if differsN s x=2 then dfR F r (nthX x 2) st
 else if s=sMinus/\x.l.length=2 then(v0,failS 34 (r (nthX x 1) st).2)
 else if s=sPlus\/s=sMinus then sumM (cxR F) r s x st
 else if(allM r x.l.tail st).2.e≠0 then(v0,(allM r x.l.tail st).2)
 else makeR F s (allM r x.l.tail st).1 (allM r x.l.tail st).2
theorem way_name {s:ByteArray} {k lo hi:Nat} (h:wayN s=some (k,lo,hi)):(s=sNot/\k=0/\lo=1/\hi=1)\/(s=sAnd/\k=1/\lo=2/\hi=1048576)\/(s=sOr/\k=2/\lo=2/\hi=1048576)\/(s=sXor/\k=3/\lo=2/\hi=1048576)\/(s=sImp/\k=4/\lo=2/\hi=1048576)\/(s=sEq/\k=5/\lo=2/\hi=1048576)\/(s=sDistinct/\k=6/\lo=2/\hi=1048576)\/(s=sIte/\k=7/\lo=3/\hi=3)\/(s=sLe/\k=8/\lo=2/\hi=2)\/(s=sLt/\k=9/\lo=2/\hi=2)\/(s=sGe/\k=10/\lo=2/\hi=2)\/(s=sGt/\k=11/\lo=2/\hi=2):=by
 by_cases h0:s=sNot
 ·have e:wayN sNot=some (0,1,1):=by decide
  rw [h0,e] at h;simp only [Option.some.injEq,Prod.mk.injEq] at h;exact .inl ⟨h0,h.1.symm,h.2.1.symm,h.2.2.symm⟩
 by_cases h1:s=sAnd
 ·have e:wayN sAnd=some (1,2,1048576):=by decide
  rw [h1,e] at h;simp only [Option.some.injEq,Prod.mk.injEq] at h;exact .inr <| .inl ⟨h1,h.1.symm,h.2.1.symm,h.2.2.symm⟩
 by_cases h2:s=sOr
 ·have e:wayN sOr=some (2,2,1048576):=by decide
  rw [h2,e] at h;simp only [Option.some.injEq,Prod.mk.injEq] at h;exact .inr <| .inr <| .inl ⟨h2,h.1.symm,h.2.1.symm,h.2.2.symm⟩
 by_cases h3:s=sXor
 ·have e:wayN sXor=some (3,2,1048576):=by decide
  rw [h3,e] at h;simp only [Option.some.injEq,Prod.mk.injEq] at h;exact .inr <| .inr <| .inr <| .inl ⟨h3,h.1.symm,h.2.1.symm,h.2.2.symm⟩
 by_cases h4:s=sImp
 ·have e:wayN sImp=some (4,2,1048576):=by decide
  rw [h4,e] at h;simp only [Option.some.injEq,Prod.mk.injEq] at h;exact .inr <| .inr <| .inr <| .inr <| .inl ⟨h4,h.1.symm,h.2.1.symm,h.2.2.symm⟩
 by_cases h5:s=sEq
 ·have e:wayN sEq=some (5,2,1048576):=by decide
  rw [h5,e] at h;simp only [Option.some.injEq,Prod.mk.injEq] at h;exact .inr <| .inr <| .inr <| .inr <| .inr <| .inl ⟨h5,h.1.symm,h.2.1.symm,h.2.2.symm⟩
 by_cases h6:s=sDistinct
 ·have e:wayN sDistinct=some (6,2,1048576):=by decide
  rw [h6,e] at h;simp only [Option.some.injEq,Prod.mk.injEq] at h;exact .inr <| .inr <| .inr <| .inr <| .inr <| .inr <| .inl ⟨h6,h.1.symm,h.2.1.symm,h.2.2.symm⟩
 by_cases h7:s=sIte
 ·have e:wayN sIte=some (7,3,3):=by decide
  rw [h7,e] at h;simp only [Option.some.injEq,Prod.mk.injEq] at h;exact .inr <| .inr <| .inr <| .inr <| .inr <| .inr <| .inr <| .inl ⟨h7,h.1.symm,h.2.1.symm,h.2.2.symm⟩
 by_cases h8:s=sLe
 ·have e:wayN sLe=some (8,2,2):=by decide
  rw [h8,e] at h;simp only [Option.some.injEq,Prod.mk.injEq] at h;exact .inr <| .inr <| .inr <| .inr <| .inr <| .inr <| .inr <| .inr <| .inl ⟨h8,h.1.symm,h.2.1.symm,h.2.2.symm⟩
 by_cases h9:s=sLt
 ·have e:wayN sLt=some (9,2,2):=by decide
  rw [h9,e] at h;simp only [Option.some.injEq,Prod.mk.injEq] at h;exact .inr <| .inr <| .inr <| .inr <| .inr <| .inr <| .inr <| .inr <| .inr <| .inl ⟨h9,h.1.symm,h.2.1.symm,h.2.2.symm⟩
 by_cases h10:s=sGe
 ·have e:wayN sGe=some (10,2,2):=by decide
  rw [h10,e] at h;simp only [Option.some.injEq,Prod.mk.injEq] at h;exact .inr <| .inr <| .inr <| .inr <| .inr <| .inr <| .inr <| .inr <| .inr <| .inr <| .inl ⟨h10,h.1.symm,h.2.1.symm,h.2.2.symm⟩
 by_cases h11:s=sGt
 ·have e:wayN sGt=some (11,2,2):=by decide
  rw [h11,e] at h;simp only [Option.some.injEq,Prod.mk.injEq] at h;exact .inr <| .inr <| .inr <| .inr <| .inr <| .inr <| .inr <| .inr <| .inr <| .inr <| .inr <| ⟨h11,h.1.symm,h.2.1.symm,h.2.2.symm⟩
 ·unfold wayN at h;rw [if_neg h0,if_neg h1,if_neg h2,if_neg h3,if_neg h4,if_neg h5,if_neg h6,if_neg h7,if_neg h8,if_neg h9,if_neg h10,if_neg h11] at h
  cases h
theorem argc_way {s:ByteArray} {k lo hi:Nat} (h:wayN s=some (k,lo,hi)):argcN s=((lo:Int),(hi:Int)):=by
 rcases way_name h with⟨rfl,rfl,rfl,rfl⟩ | ⟨rfl,rfl,rfl,rfl⟩ | ⟨rfl,rfl,rfl,rfl⟩ | ⟨rfl,rfl,rfl,rfl⟩ | ⟨rfl,rfl,rfl,rfl⟩ | ⟨rfl,rfl,rfl,rfl⟩ | ⟨rfl,rfl,rfl,rfl⟩ | ⟨rfl,rfl,rfl,rfl⟩ | ⟨rfl,rfl,rfl,rfl⟩ | ⟨rfl,rfl,rfl,rfl⟩ | ⟨rfl,rfl,rfl,rfl⟩ | ⟨rfl,rfl,rfl,rfl⟩ <;> decide
theorem argc_none {s:ByteArray} (h:wayN s=none) (h1:s≠sPlus) (h2:s≠sMinus):argcN s=(0,0):=by
 have n0:s≠sNot:=fun e=>by rw [e] at h;revert h;decide
 have n1:s≠sAnd:=fun e=>by rw [e] at h;revert h;decide
 have n2:s≠sOr:=fun e=>by rw [e] at h;revert h;decide
 have n3:s≠sXor:=fun e=>by rw [e] at h;revert h;decide
 have n4:s≠sImp:=fun e=>by rw [e] at h;revert h;decide
 have n5:s≠sEq:=fun e=>by rw [e] at h;revert h;decide
 have n6:s≠sDistinct:=fun e=>by rw [e] at h;revert h;decide
 have n7:s≠sIte:=fun e=>by rw [e] at h;revert h;decide
 have n8:s≠sLe:=fun e=>by rw [e] at h;revert h;decide
 have n9:s≠sLt:=fun e=>by rw [e] at h;revert h;decide
 have n10:s≠sGe:=fun e=>by rw [e] at h;revert h;decide
 have n11:s≠sGt:=fun e=>by rw [e] at h;revert h;decide
 unfold argcN;rw [if_neg n0,if_neg n1,if_neg n2,if_neg n3,if_neg n4,if_neg n5,if_neg n6,if_neg n7,if_neg n8,if_neg n9,if_neg n10,if_neg n11,if_neg h1,if_neg h2]
theorem makeR_eq {F:RFix} {s:ByteArray} {k lo hi:Nat} (h:wayN s=some (k,lo,hi)) {l:List V} {st:St} (he:st.e=0) (hl:lo<=l.length) (hh:l.length<=hi):makeM (cxR F) k l st=makeR F s l st:=by
 rcases way_name h with⟨rfl,rfl,rfl,rfl⟩ | ⟨rfl,rfl,rfl,rfl⟩ | ⟨rfl,rfl,rfl,rfl⟩ | ⟨rfl,rfl,rfl,rfl⟩ | ⟨rfl,rfl,rfl,rfl⟩ | ⟨rfl,rfl,rfl,rfl⟩ | ⟨rfl,rfl,rfl,rfl⟩ | ⟨rfl,rfl,rfl,rfl⟩ | ⟨rfl,rfl,rfl,rfl⟩ | ⟨rfl,rfl,rfl,rfl⟩ | ⟨rfl,rfl,rfl,rfl⟩ | ⟨rfl,rfl,rfl,rfl⟩
 ·unfold makeR;rw [if_pos rfl]
  match l,hl,hh with
  | [a],_,_=>rfl
 ·unfold makeR;rw [if_neg (by decide),if_neg (by decide),if_neg (by decide),if_neg (by decide),if_neg (by decide),if_neg (by decide),if_neg (by decide),if_neg (by decide)];rfl
 ·unfold makeR;rw [if_neg (by decide),if_neg (by decide),if_neg (by decide),if_neg (by decide),if_neg (by decide),if_neg (by decide),if_neg (by decide),if_neg (by decide)];rfl
 ·unfold makeR;rw [if_neg (by decide),if_neg (by decide),if_neg (by decide),if_neg (by decide),if_neg (by decide),if_neg (by decide),if_neg (by decide),if_neg (by decide)];rfl
 ·unfold makeR;rw [if_neg (by decide),if_neg (by decide),if_neg (by decide),if_neg (by decide),if_neg (by decide),if_neg (by decide),if_neg (by decide),if_pos rfl];rfl
 ·unfold makeR;rw [if_neg (by decide),if_neg (by decide),if_neg (by decide),if_neg (by decide),if_neg (by decide),if_neg (by decide),if_pos (.inl rfl)];exact equalR he hl
 ·unfold makeR;rw [if_neg (by decide),if_neg (by decide),if_neg (by decide),if_neg (by decide),if_neg (by decide),if_neg (by decide),if_pos (.inr rfl)];exact distinctR he hl
 ·unfold makeR;rw [if_neg (by decide),if_pos rfl];rfl
 ·unfold makeR;rw [if_neg (by decide),if_neg (by decide),if_pos rfl];rfl
 ·unfold makeR;rw [if_neg (by decide),if_neg (by decide),if_neg (by decide),if_pos rfl];rfl
 ·unfold makeR;rw [if_neg (by decide),if_neg (by decide),if_neg (by decide),if_neg (by decide),if_pos rfl];rfl
 ·unfold makeR;rw [if_neg (by decide),if_neg (by decide),if_neg (by decide),if_neg (by decide),if_neg (by decide),if_pos rfl];rfl
theorem diff_none {s:ByteArray} {x:Sexp} (h:s=sPlus\/s=sMinus):differsN s x=0:=by
 unfold differsN;rw [if_neg];rintro ⟨_,h2⟩;rcases h with rfl | rfl
 ·revert h2;decide
 ·revert h2;decide
theorem differs_len {s:ByteArray} {x:Sexp}:(differsN s x=1->x.l.length=3/\(nthX x 1).l.length=3)/\(differsN s x=2->x.l.length=3/\(nthX x 2).l.length=3):=by
 have hm:∀ y,minusB y=true->y.l.length=3:=fun y h=>by
  unfold minusB at h;simp only [Bool.and_eq_true,decide_eq_true_eq] at h;exact h.1.2
 unfold differsN
 split
 ·rename_i h
  split
  ·rename_i h1
   exact⟨fun _=>⟨h.1,hm _ (by simp only [Bool.and_eq_true] at h1;exact h1.1)⟩,fun(h:1=2)=>absurd h (by decide)⟩
  ·split
   ·rename_i h1
    exact⟨fun(h:2=1)=>absurd h (by decide),fun _=>⟨h.1,hm _ (by simp only [Bool.and_eq_true] at h1;exact h1.1)⟩⟩
   ·exact⟨fun(h:0=1)=>absurd h (by decide),fun(h:0=2)=>absurd h (by decide)⟩
 ·exact⟨fun(h:0=1)=>absurd h (by decide),fun(h:0=2)=>absurd h (by decide)⟩
theorem argc_plus:argcN sPlus=(2,2):=by decide
theorem argc_minus:argcN sMinus=(1,2):=by decide
theorem argc_le {s:ByteArray} (h:0 < (argcN s).1) (h1:s≠sNot) (h2:s≠sMinus):2<=(argcN s).1:=by
 by_cases m0:s=sAnd
 ·rw [m0];decide
 by_cases m1:s=sOr
 ·rw [m1];decide
 by_cases m2:s=sXor
 ·rw [m2];decide
 by_cases m3:s=sImp
 ·rw [m3];decide
 by_cases m4:s=sEq
 ·rw [m4];decide
 by_cases m5:s=sDistinct
 ·rw [m5];decide
 by_cases m6:s=sIte
 ·rw [m6];decide
 by_cases m7:s=sLe
 ·rw [m7];decide
 by_cases m8:s=sLt
 ·rw [m8];decide
 by_cases m9:s=sGe
 ·rw [m9];decide
 by_cases m10:s=sGt
 ·rw [m10];decide
 by_cases m11:s=sPlus
 ·rw [m11];decide
 ·unfold argcN at h;rw [if_neg h1,if_neg m0,if_neg m1,if_neg m2,if_neg m3,if_neg m4,if_neg m5,if_neg m6,if_neg m7,if_neg m8,if_neg m9,if_neg m10,if_neg m11,if_neg h2] at h;exact absurd h (by decide)
theorem list_core {F:RFix} {known:Nat} {x:Sexp} {env:Env} {st:St} (hx:x.l≠[]) (h1:headS x≠sLet) (h2:¬ (Lx.resB (Lx.bs (headS x))=true\/headS x=sTrue\/headS x=sFalse)) :
  listM (cxR F) (termP (cxR F)) known x env st=if 0 < (argcN (headS x)).1 then coreR F (fun y=>termP (cxR F) known y env) (headS x) x st
  else if x.l.tail.length=0 then(v0,failS 30 st) else callM (cxR F) (termP (cxR F)) known (headS x) x.l.tail env st:=by
 unfold listM;rw [if_neg h1,if_neg h2];generalize (fun y=>termP (cxR F) known y env)=r;have htl:x.l.tail.length=x.l.length - 1:=by simp
 have hpos:0 < x.l.length:=List.length_pos_iff.2 hx
 by_cases hp:headS x=sPlus\/headS x=sMinus
 ·rw [if_pos hp];unfold coreR;rw [diff_none hp];rcases hp with hp | hp
  ·rw [hp];have ha:argcN sPlus=(2,2):=by decide
   rw [ha,if_pos (by decide)]
   by_cases h3:x.l.length=3
   ·rw [if_neg (by show ¬ ((x.l.tail.length:Int) < 2\/(2:Int) < x.l.tail.length);omega),if_neg (by decide),if_neg (by decide),if_neg (fun h=>by have:=h.1;revert this;decide),if_pos (.inl rfl)]
   ·rw [if_pos (by show((x.l.tail.length:Int) < 2\/(2:Int) < x.l.tail.length);omega)];unfold sumM;rw [if_neg (fun h=>by have:=h.2;revert this;decide),if_pos h3]
  ·rw [hp];have ha:argcN sMinus=(1,2):=by decide
   rw [ha,if_pos (by decide)]
   by_cases h2:x.l.length=2
   ·rw [if_neg (by show ¬ ((x.l.tail.length:Int) < 1\/(2:Int) < x.l.tail.length);omega),if_neg (by decide),if_neg (by decide),if_pos ⟨rfl,h2⟩];unfold sumM;rw [if_pos ⟨h2,rfl⟩]
   ·by_cases h3:x.l.length=3
    ·rw [if_neg (by show ¬ ((x.l.tail.length:Int) < 1\/(2:Int) < x.l.tail.length);omega),if_neg (by decide),if_neg (by decide),if_neg (fun h=>h2 h.2),if_pos (.inr rfl)]
    ·rw [if_pos (by show((x.l.tail.length:Int) < 1\/(2:Int) < x.l.tail.length);omega)];unfold sumM;rw [if_neg (fun h=>h2 h.1),if_pos h3]
 ·rw [if_neg hp];have hp1:headS x≠sPlus:=fun h=>hp (.inl h);have hp2:headS x≠sMinus:=fun h=>hp (.inr h)
  cases hw:wayN (headS x) with
  | none =>
   rw [argc_none hw hp1 hp2];exact(if_neg (show ¬ (0:Int) < 0 by decide)).symm
  | some q =>
   obtain ⟨k,lo,hi⟩:=q;have ha:=argc_way hw
   have hlo:1<=lo:=by
    rcases way_name hw with⟨_,_,h,_⟩ | ⟨_,_,h,_⟩ | ⟨_,_,h,_⟩ | ⟨_,_,h,_⟩ | ⟨_,_,h,_⟩ | ⟨_,_,h,_⟩ | ⟨_,_,h,_⟩ | ⟨_,_,h,_⟩ | ⟨_,_,h,_⟩ | ⟨_,_,h,_⟩ | ⟨_,_,h,_⟩ | ⟨_,_,h,_⟩ <;> omega
   rw [ha];refine Eq.trans ?_ (if_pos (show(0:Int) < ((lo:Int),(hi:Int)).1 by show(0:Int) < (lo:Int);omega)).symm;unfold coreR;rw [ha]
   show(if x.l.tail.length < lo\/hi < x.l.tail.length then(v0,failS 30 st)
    else if differsN (headS x) x=1 then diffLM (cxR F) r (headS x) x st
    else if differsN (headS x) x=2 then diffRM (cxR F) r (headS x) x st
    else if(allM r x.l.tail st).2.e≠0 then(v0,(allM r x.l.tail st).2) else makeM (cxR F) k (allM r x.l.tail st).1 (allM r x.l.tail st).2) =
    if(x.l.tail.length:Int) < (lo:Int)\/(hi:Int) < (x.l.tail.length:Int) then(v0,failS 30 st)
    else if differsN (headS x) x=1 then dfR F r (nthX x 1) st
    else if differsN (headS x) x=2 then dfR F r (nthX x 2) st
    else if headS x=sMinus/\x.l.length=2 then(v0,failS 34 (r (nthX x 1) st).2)
    else if headS x=sPlus\/headS x=sMinus then sumM (cxR F) r (headS x) x st
    else if(allM r x.l.tail st).2.e≠0 then(v0,(allM r x.l.tail st).2)
    else makeR F (headS x) (allM r x.l.tail st).1 (allM r x.l.tail st).2
   have hl:=allM_len r x.l.tail st;rw [diffLR,diffRR]
   by_cases hb:x.l.tail.length < lo\/hi < x.l.tail.length
   ·rw [if_pos hb,if_pos (show(x.l.tail.length:Int) < (lo:Int)\/(hi:Int) < (x.l.tail.length:Int) by omega)]
   rw [if_neg hb,if_neg (show ¬ ((x.l.tail.length:Int) < (lo:Int)\/(hi:Int) < (x.l.tail.length:Int)) by omega)]
   by_cases hd1:differsN (headS x) x=1
   ·rw [if_pos hd1,if_pos hd1]
   rw [if_neg hd1,if_neg hd1]
   by_cases hd2:differsN (headS x) x=2
   ·rw [if_pos hd2,if_pos hd2]
   rw [if_neg hd2,if_neg hd2,if_neg (show ¬ (headS x=sMinus/\x.l.length=2) from fun h=>hp2 h.1),if_neg hp]
   by_cases he:(allM r x.l.tail st).2.e≠0
   ·rw [if_pos he,if_pos he]
   ·rw [if_neg he,if_neg he];exact makeR_eq hw (Decidable.not_not.1 he) (by rw [hl];omega) (by rw [hl];omega)
section
variable {P:Program} {ops:Array Oper} {Q:Exit->Act->World->Prop} {md:Region.Mode} {S:World->Prop} {m:Nat}
theorem wpTo_two {i j:Nat} {o o2:Oper} {fuel:Nat} {listed:Array Bool} {a:Act} {w:World} (hr:Region.ready md ops listed=[i,j]) (ho:ops[i]?=some o) (ho2:ops[j]?=some o2)
  (h:∀ K':Act->World->Prop,Shut (∀ a w,S w->(S w->wpTo P md ops Q S m fuel (listed.setIfInBounds i true) a w)->K' a w)->if Region.wanted o (yielded ops a.tmps)=true then Oper.wp P o a w K' Q else K' (a.put o.dst undef) w)
  (h2:∀ K':Act->World->Prop,Shut (∀ a w,S w->(S w->wpTo P md ops Q S m fuel (listed.setIfInBounds j true) a w)->K' a w)->if Region.wanted o2 (yielded ops a.tmps)=true then Oper.wp P o2 a w K' Q else K' (a.put o2.dst undef) w) :
  wpTo P md ops Q S m (fuel+1) listed a w:=by
 refine⟨fun h0=>(by rw [hr] at h0;cases h0),fun k hk=>?_⟩;rw [hr] at hk;simp only [List.mem_cons,List.not_mem_nil,or_false] at hk;rcases hk with rfl | rfl
 ·exact wpOp_step ho (fun K' hK=>h K' (fun a w hS hW=>hK a w ⟨fun _=>hS,hW hS⟩))
 ·exact wpOp_step ho2 (fun K' hK=>h2 K' (fun a w hS hW=>hK a w ⟨fun _=>hS,hW hS⟩))
end
theorem fst_at {a:List V} {us:List Vy} (h:a.map Prod.fst=us.map Prod.snd) {k:Nat} {v:V} {u:Vy} (hv:a[k]?=some v) (hu:us[k]?=some u):v.1=u.2:=by
 have h1:=congrArg (fun l=>l[k]?) h
 simpa [hv,hu] using h1
theorem vok_is {u:Vy} {v:V} {st:St} (hok:VyOk u) (h:v.1=u.2):VIs u v st:=⟨hok,fun _=>h.symm⟩
theorem rcore_any {F:RFix} (hF:RFixOk F) {x:Sexp} (hT:∀ y:Sexp,y.full < x.full->RTermC F y) (hfx:x.full<=1500000) (hlo:0 < (argcN (headS x)).1) {w:World} {st:St} (hm:RR F w st.e) {A:Option Addr} {c:Nat} (hx:XAt F.W0 A c x) {Av:Option Addr} {vs:List Vy} (cv:Nat) {env:Env} (hv:VarsS F w Av vs) (hvl:vs.length+x.full<=4000000) (he:st.e=0->EnvEq env vs) :
  Calls Tryz.prog 94 #[.pointer (some ⟨F.rb,0,none⟩),.string (headS x),.agg #[.int .i8 x.kind,.string x.text,.slice A x.l.length c],.slice Av vs.length cv] w (RPost F w (coreR F (fun y=>termP (cxR F) F.g.macros.length y env) (headS x) x st)):=by
 have hln:=len_full x;have hx10:(x.l.length:Int)<=1500000:=by omega
 have HX:=kp hx;have HV:=kp hv;have HE:=kp he;have HXo:=kp hx.opens;have B1:=kp ((brq w).alloc nlq (.cells #[.int .i8 x.kind,.string x.text,.slice A x.l.length c] 30));have Z1:=kp (show(w.alloc (.cells #[.int .i8 x.kind,.string x.text,.slice A x.l.length c] 30)).heap.size=w.heap.size+1 by simp);have D1:=kp (RMid.newOn hm B1.out);have X1:=kp (Bk.keep (Bk.new w (.cells #[.int .i8 x.kind,.string x.text,.slice A x.l.length c] 30)) (.cells #[.string { data:=#[] },.int .i64 0,.int .i64 0] 94));rw [Z1.out] at D1;have HTl:=kp (show x.l.tail=x.l.drop 1 by rw [List.drop_one]);have htl:x.l.tail.length=x.l.length - 1:=by simp
 have HSum:=kp (fun(W:World) (s:ByteArray) (hs:s=sPlus\/s=sMinus) (h3:x.l.length=3) (h:RMid F w (w.heap.size+1) W st.e)=>rsum_any hF (fun y hy=>hT y (full_mem hy)) h.rd hs hx h3 cv (hv.on h.keeps) (fun y hy=>by have:=full_mem hy;omega) he);have HDif:=kp (fun(W:World) (s:ByteArray) (d:Sexp) (Ad:Option Addr) (cd:Nat) (hd:XAt F.W0 Ad cd d) (hdm:d ∈ x.l) (h3:x.l.length=3) (hd3:d.l.length=3) (left:Bool) (h:RMid F w (w.heap.size+1) W st.e)=>rdifference_any hF (fun y hy=>hT y (Nat.lt_trans (full_mem hy) (full_mem hdm))) h.rd s hx h3 hd hd3 left cv (hv.on h.keeps) (fun y hy=>by have h1:=full_mem hy;have h2:=full_mem hdm;omega) he);have HTm:=kp (fun(W:World) (y:Sexp) (Ay:Option Addr) (cy:Nat) (hy:XAt F.W0 Ay cy y) (hym:y ∈ x.l) (h:RMid F w (w.heap.size+1) W st.e)=>hT y (full_mem hym) h.rd hy (hv.on h.keeps) (by have:=full_mem hym;omega) he (cv:=cv));have HAll:=kp (fun(W:World) (L:Option Addr) (hL:Lies 3 SexpR F.W0 L x.l.tail) (cl:Nat) (h:RMid F w (w.heap.size+1) W st.e)=>rall_any hF (fun y hy=>hT y (full_mem (List.mem_of_mem_tail hy))) h.rd cl hL (by omega) cv (hv.on h.keeps) (fun y hy=>by have:=full_mem (List.mem_of_mem_tail hy);omega) he);have HDf:=kp (fun(W:World) (h:Below F.W0.heap.size F.W0 W)=>rdiffers_any hx h);unfold RDiffPost at HDf;have HDl:=kp (differs_len (s:=headS x) (x:=x));have HCo:=kp (rcounts_any (headS x));have HMi:=kp (fun(h:headS x=sMinus)=>show argcN (headS x)=(1,2) by rw [h];exact argc_minus)
 have HPl:=kp (fun(h:headS x=sPlus)=>show argcN (headS x)=(2,2) by rw [h];exact argc_plus);have HLe:=kp (fun h1 h2=>argc_le hlo h1 h2);have HLo:=kp hlo;have HIte:=kp (fun(h:headS x=sIte)=>show argcN (headS x)=(3,3) by rw [h];decide);have HTwo:=kp (fun(h:headS x=sLe\/headS x=sLt\/headS x=sGe\/headS x=sGt)=>show argcN (headS x)=(2,2) by rcases h with h | h | h | h <;> rw [h] <;> decide)
 generalize hr:(fun y=>termP (cxR F) F.g.macros.length y env)=r at *;have HRf:=kp (fun y st=>show termP (cxR F) F.g.macros.length y env st=r y st by rw [← hr])
 have HS:=kp (show coreR F r (headS x) x st=if(x.l.tail.length:Int) < (argcN (headS x)).1\/(argcN (headS x)).2 < (x.l.tail.length:Int) then(v0,failS 30 st)
  else if differsN (headS x) x=1 then dfR F r (nthX x 1) st
  else if differsN (headS x) x=2 then dfR F r (nthX x 2) st
  else if headS x=sMinus/\x.l.length=2 then(v0,failS 34 (r (nthX x 1) st).2)
  else if headS x=sPlus\/headS x=sMinus then sumM (cxR F) r (headS x) x st
  else if(allM r x.l.tail st).2.e≠0 then(v0,(allM r x.l.tail st).2)
  else makeR F (headS x) (allM r x.l.tail st).1 (allM r x.l.tail st).2 from rfl)
 have HBi:=kp (rbinary_any (headS x));clear hm hT hx hv hvl he hr hln hfx hlo;generalize coreR F r (headS x) x st=res at *;generalize differsN (headS x) x=dn at *;generalize headS x=s at *;generalize argcN s=lh at *;obtain ⟨lo,hi⟩:=lh
 replace HS:=kp (show res=if(x.l.tail.length:Int) < lo\/hi < (x.l.tail.length:Int) then(v0,failS 30 st)
  else if dn=1 then dfR F r (nthX x 1) st
  else if dn=2 then dfR F r (nthX x 2) st
  else if s=sMinus/\x.l.length=2 then(v0,failS 34 (r (nthX x 1) st).2)
  else if s=sPlus\/s=sMinus then sumM (cxR F) r s x st
  else if(allM r x.l.tail st).2.e≠0 then(v0,(allM r x.l.tail st).2)
  else makeR F s (allM r x.l.tail st).1 (allM r x.l.tail st).2 from HS.out)
 replace HLo:=kp (show 0 < lo from HLo.out);replace HCo:=kp (show ∀ W,Calls Tryz.prog 91 #[.string s] W fun e w'=>e=.returned (.tuple #[.int .i64 lo,.int .i64 hi])/\W=w' from HCo.out)
 go_enter Tryz.func94,Tryz.ntmps94
 go_upto_region 1 with fail
 generalize (w.alloc (.cells #[.int .i8 x.kind,.string x.text,.slice A x.l.length c] 30)).alloc (.cells #[.string { data:=#[] },.int .i64 0,.int .i64 0] 94)=w1 at *;obtain ⟨q0,q1,q2,qf⟩:=Bk.c3 X1.out;go_wp2_with fail
 refine(HCo.out _).mono ?_;rintro e w' ⟨rfl,rfl⟩;have HTn:=kp htl
 by_cases hb1:(x.l.tail.length:Int) < lo
 ·replace HS:=kp (HS.out.trans (if_pos (.inl hb1)));have HFl:=kp (fails_any hF (st:=st) D1.out.rd 30);have hpos:=HLo.out;have g1:(x.l.length:Int) - 1 < lo:=by omega
  clear hb1 htl;go_wp2_with fail
  refine HFl.out.mono ?_;rintro e w7 ⟨nm7,s7,rfl,hv7,hk7,hm7⟩;have D7:=kp (D1.out.call hk7 hm7);clear hk7 hm7;obtain ⟨r0,r1,r2,rf⟩:=Bk.c3 D7.out.cell;go_wp2_with fail
  rw [HS.out];refine RMid.ret hF (q:=(v0,failS 30 st)) D7.out Tryz.results94 ?_ ?_ hv7 <;> rfl
 have hpos:=HLo.out;have g1:¬ (x.l.length:Int) - 1 < lo:=by omega
 by_cases hb2:hi < (x.l.tail.length:Int)
 ·replace HS:=kp (HS.out.trans (if_pos (.inr hb2)));have HFl:=kp (fails_any hF (st:=st) D1.out.rd 30);have g2:hi < (x.l.length:Int) - 1:=by omega
  clear hb1 hb2 htl;go_wp2_with fail
  refine HFl.out.mono ?_;rintro e w7 ⟨nm7,s7,rfl,hv7,hk7,hm7⟩;have D7:=kp (D1.out.call hk7 hm7);clear hk7 hm7;obtain ⟨r0,r1,r2,rf⟩:=Bk.c3 D7.out.cell;go_wp2_with fail
  rw [HS.out];refine RMid.ret hF (q:=(v0,failS 30 st)) D7.out Tryz.results94 ?_ ?_ hv7 <;> rfl
 have g2:¬ hi < (x.l.length:Int) - 1:=by omega
 replace HS:=kp (HS.out.trans (if_neg (fun h=>by rcases h with h | h <;> contradiction)))
 have g3:(1:Int) < (x.l.length:Int):=by omega
 obtain ⟨b,o,A1,c1,rfl,hx1,hc1⟩:=nth_xs HX.out (i:=1) (by omega);rw [Nat.one_mul] at hc1;have HX1:=kp hx1;have HC1:=kp hc1;have HM1:=kp (nth_mem (x:=x) (i:=1) (by omega));have HM2:=kp (fun(h:x.l.length=3)=>nth_mem (x:=x) (i:=2) (by omega));have HB:=kp (show lo<=(x.l.length:Int) - 1/\(x.l.length:Int) - 1<=hi/\1 < x.l.length from⟨by omega,by omega,by omega⟩);clear hb1 hb2 htl hx1 hc1 hpos;go_wp2_with fail
 refine(HDf.out _ D1.out.rd.below).mono ?_;rintro e w2 ⟨hcase,hb2⟩;have D2:=kp (D1.out.below hb2);have X2:=kp (Bk.on X1.out hb2);clear hb2 q0 q1 q2 qf;rcases hcase with⟨h0,rfl⟩ | ⟨h1,A',c',hxd,rfl⟩ | ⟨h2,A',c',hxd,rfl⟩
 ·have D3:=kp (D2.out.alloc (.cells #[.int .i8 0,.string { data:=#[] },.slice none 0 0] 30));have X3:=kp (Bk.keep X2.out (.cells #[.int .i8 0,.string { data:=#[] },.slice none 0 0] 30));replace HS:=kp ((HS.out.trans (if_neg (by omega))).trans (if_neg (by omega)));clear h0 HDf HDl HDif;go_upto_region 5 with fail
  generalize w2.alloc (.cells #[.int .i8 0,.string { data:=#[] },.slice none 0 0] 30)=w3 at *;obtain ⟨q0,q1,q2,qf⟩:=Bk.c3 X3.out
  by_cases hmin:s=sMinus
  ·have k1:(s.toList == [45])=true:=tl_true hmin;have k2:(s.toList == [43])=false:=tl_false (fun e=>by rw [hmin] at e;revert e;decide)
   by_cases hn2:x.l.length=2
   ·have k3:((x.l.length:Int) == 2)=true:=by rw [hn2];rfl
    replace HS:=kp (HS.out.trans (if_pos ⟨hmin,hn2⟩));have HC:=kp (HTm.out _ _ _ _ HX1.out HM1.out D3.out);rw [HRf.out] at HC;obtain ⟨e0,e1,e2⟩:=HC1.out w3 D3.out.rd.below;clear hmin hn2;generalize nthX x 1=y1 at *;generalize r y1 st=pr at *;go_wp2_with fail
    refine HC.out.mono ?_;rintro e w7 ⟨nm7,s7,rfl,hv7,hk7,hm7⟩;have D7:=kp (D3.out.call hk7 hm7);have HFl:=kp (fails_any hF D7.out.rd 34);clear hk7 hm7 hv7 e0 e1 e2 q0 q1 q2 qf;go_wp2_with fail
    refine HFl.out.mono ?_;rintro e w7 ⟨nm7,s7,rfl,hv7,hk7,hm7⟩;have D7:=kp (D7.out.call hk7 hm7);clear hk7 hm7;obtain ⟨r0,r1,r2,rf⟩:=Bk.c3 D7.out.cell;go_wp2_with fail
    rw [HS.out];refine RMid.ret hF (q:=(v0,failS 34 pr.2)) D7.out Tryz.results94 ?_ ?_ hv7 <;> rfl
   ·have k3:((x.l.length:Int) == 2)=false:=by rw [beq_eq_false_iff_ne];omega
    replace HS:=kp ((HS.out.trans (if_neg (fun h=>hn2 h.2))).trans (if_pos (.inr hmin)))
    have h3:x.l.length=3:=by
     have h1:=HMi.out hmin;have h2:=HB.out;simp only [Prod.mk.injEq] at h1
     omega
    have HC:=kp (HSum.out _ s (.inr hmin) h3 D3.out);generalize sumM (cxR F) r s x st=q at *;clear hmin hn2 h3;go_wp2_with fail
    refine HC.out.mono ?_;rintro e w7 ⟨nm7,s7,rfl,hv7,hk7,hm7⟩;have D7:=kp (D3.out.call hk7 hm7);clear hk7 hm7;obtain ⟨r0,r1,r2,rf⟩:=Bk.c3 D7.out.cell;go_wp2_with fail
    rw [HS.out];refine RMid.ret hF (q:=q) D7.out Tryz.results94 ?_ ?_ hv7 <;> rfl
  have k1:(s.toList == [45])=false:=tl_false hmin;replace HS:=kp (HS.out.trans (if_neg (fun h=>hmin h.1)))
  by_cases hpl:s=sPlus
  ·have k2:(s.toList == [43])=true:=tl_true hpl;replace HS:=kp (HS.out.trans (if_pos (.inl hpl)))
   have h3:x.l.length=3:=by
    have h1:=HPl.out hpl;have h2:=HB.out;simp only [Prod.mk.injEq] at h1
    omega
   have HC:=kp (HSum.out _ s (.inl hpl) h3 D3.out);generalize sumM (cxR F) r s x st=q at *;clear hmin hpl h3;go_wp2_with fail
   refine HC.out.mono ?_;rintro e w7 ⟨nm7,s7,rfl,hv7,hk7,hm7⟩;have D7:=kp (D3.out.call hk7 hm7);clear hk7 hm7;obtain ⟨r0,r1,r2,rf⟩:=Bk.c3 D7.out.cell;go_wp2_with fail
   rw [HS.out];refine RMid.ret hF (q:=q) D7.out Tryz.results94 ?_ ?_ hv7 <;> rfl
  have k2:(s.toList == [43])=false:=tl_false hpl;replace HS:=kp (HS.out.trans (if_neg (fun h=>by rcases h with h | h <;> contradiction)))
  have HLe2:=kp (fun h1=>HLe.out h1 hmin);have hc1:¬ c=1:=by have:=HXo.out.2.1;have:=HB.out;omega
  have HA:=kp (HAll.out _ _ (by have h:=lies_drop HXo.out.1 1;rwa [← HTl.out] at h) (c - 1) D3.out);have hgl:(1:Int)<=(x.l.length:Int):=by omega
  have hgc:(1:Int)<=(c:Int):=by have:=HXo.out.2.1;have:=HB.out;omega
  rw [HTn.out] at HA;generalize allM r x.l.tail st=al at *;obtain ⟨a,st'⟩:=al;clear hmin hpl HTm HSum HMi HPl;go_wp2_with fail
  refine HA.out.mono ?_;rintro e w7 ⟨L7,c7,us,rfl,hul,hrow,hsame,hk7,hm7⟩;have D7:=kp (D3.out.call hk7 hm7);have HUl:=kp hul;have HRw:=kp hrow;have HSame:=kp hsame;have hbase:=D3.out.keeps.size;have hbr:=D3.out.size;have hbf:=D3.out.rd.lt;clear hul hrow hsame hk7 hm7 q0 q1 q2 qf HA HAll;rw [← HUl.out] at HRw;rw [← HUl.out];obtain ⟨m0,m1,m2,m3,m4,m5,m6,m7,m8,mf⟩:=Bk.c9 D7.out.rd.blk
  by_cases he:st'.e=0
  ·have he1:(st'.e != 0)=false:=by simp [he]
   replace HS:=kp (show res=makeR F s a st' from HS.out.trans (if_neg (fun h=>h he)));have HSm:=kp (HSame.out he);have HE0:=kp he;have hu1:1<=us.length:=by have:=HUl.out;have:=HB.out;omega
   have HVr:=kp (HRw.out.varsS (F:=F) hbf);obtain ⟨⟨rb,ro,rfl⟩,hok⟩:=vars_some HVr.out (by omega);have HOk:=kp hok;have HLn:=kp (show a.length=us.length by have:=congrArg List.length HSm.out;simpa using this);have HUb:=kp (show us.length<=1500000/\lo<=(us.length:Int)/\(us.length:Int)<=hi from⟨by have:=HUl.out;omega,by have:=HUl.out;have:=HB.out;omega,by have:=HUl.out;have:=HB.out;omega⟩);generalize w3.heap.size=base at *;clear he hok HSame HUl g1 g2 g3 hgl hgc hc1 HB HE HV X1 X2 X3 D1 D2 D3 B1 Z1 HX HX1 HC1 HM1 HM2 HXo HTl HTn;obtain ⟨u0,hu0⟩:∃ u,us[0]?=some u:=⟨_,gqe (by omega)⟩;obtain ⟨y0,hy0⟩:∃ u,a[0]?=some u:=⟨_,gqe (by have:=HLn.out;omega)⟩;have HU0:=kp hu0;have HY0:=kp hy0;have HF0:=kp (fst_at HSm.out hy0 hu0);have HD0:=kp (show a.getD 0 v0=y0 by rw [List.getD_eq_getElem?_getD,hy0];rfl);have hup:(0:Int) < (us.length:Int):=by omega
   clear hu0 hy0
   by_cases n1:s=sNot
   ·have k4:(s.toList == [110,111,116])=true:=tl_true n1;replace HS:=kp (show res=opM (cxR F) 1 0 [y0] st' by rw [HS.out];unfold makeR;rw [if_pos n1,HD0.out]);obtain ⟨e0,e1,e2⟩:=vars_cells HVr.out (Keeps.refl _ _) HU0.out;rw [Nat.zero_mul,Nat.add_zero] at e0 e1 e2;have DB:=kp (D7.out.alloc (.cells #[.string u0.1,.int .i64 u0.2,.int .i64 0] 94));have NB:=kp (Bk.new w7 (.cells #[.string u0.1,.int .i64 u0.2,.int .i64 0] 94));have HOp:=kp (rdop_any hF (st:=st') DB.out.rd 1 0 (vs:=[u0]) (lV:=[y0]) 1 (lies_v1 NB.out (HOk.out _ (mgq HU0.out))) (by simp) (fun _=>by simp [HF0.out]));generalize opM (cxR F) 1 0 [y0] st'=q at *;clear n1;go_wp2_with fail
    refine HOp.out.mono ?_;rintro e w7 ⟨nm7,s7,rfl,hv7,hk7,hm7⟩;have D7:=kp (DB.out.call hk7 hm7);clear hk7 hm7;obtain ⟨r0,r1,r2,rf⟩:=Bk.c3 D7.out.cell;go_wp2_with fail
    rw [HS.out];refine RMid.ret hF (q:=q) D7.out Tryz.results94 ?_ ?_ hv7 <;> rfl
   have k4:(s.toList == [110,111,116])=false:=tl_false n1;have HL2:=kp (show 2<=us.length by have:=HLe2.out n1;have:=HUb.out;omega)
   by_cases n2:s=sIte
   ·have k5:(s.toList == [105,116,101])=true:=tl_true n2;replace HS:=kp (show res=opM (cxR F) 7 0 a st' by rw [HS.out];unfold makeR;rw [if_neg n1,if_pos n2]);have HOp:=kp (rdop_any hF (st:=st') D7.out.rd 7 0 (vs:=us) (lV:=a) c7 HVr.out.now (by have h1:=HIte.out n2;have h2:=HUb.out;simp only [Prod.mk.injEq] at h1;omega) (fun _=>HSm.out));generalize opM (cxR F) 7 0 a st'=q at *;clear n1 n2;go_wp2_with fail
    refine HOp.out.mono ?_;rintro e w7 ⟨nm7,s7,rfl,hv7,hk7,hm7⟩;have D7:=kp (D7.out.call hk7 hm7);clear hk7 hm7;obtain ⟨r0,r1,r2,rf⟩:=Bk.c3 D7.out.cell;go_wp2_with fail
    rw [HS.out];refine RMid.ret hF (q:=q) D7.out Tryz.results94 ?_ ?_ hv7 <;> rfl
   have k5:(s.toList == [105,116,101])=false:=tl_false n2;have HU2:=kp (fun h=>show us.length<=3 by have h1:=HTwo.out h;have h2:=HUb.out;simp only [Prod.mk.injEq] at h1;omega)
   by_cases n3:s=sLe
   ·have k6:(s.toList == [60,61])=true:=tl_true n3;replace HS:=kp (show res=opM (cxR F) 8 0 a st' by rw [HS.out];unfold makeR;rw [if_neg n1,if_neg n2,if_pos n3]);have HOp:=kp (rdop_any hF (st:=st') D7.out.rd 8 0 (vs:=us) (lV:=a) c7 HVr.out.now (HU2.out (.inl n3)) (fun _=>HSm.out));generalize opM (cxR F) 8 0 a st'=q at *;clear n1 n2 n3;go_wp2_with fail
    refine HOp.out.mono ?_;rintro e w7 ⟨nm7,s7,rfl,hv7,hk7,hm7⟩;have D7:=kp (D7.out.call hk7 hm7);clear hk7 hm7;obtain ⟨r0,r1,r2,rf⟩:=Bk.c3 D7.out.cell;go_wp2_with fail
    rw [HS.out];refine RMid.ret hF (q:=q) D7.out Tryz.results94 ?_ ?_ hv7 <;> rfl
   have k6:(s.toList == [60,61])=false:=tl_false n3
   by_cases n4:s=sLt
   ·have k7:(s.toList == [60])=true:=tl_true n4;replace HS:=kp (show res=opM (cxR F) 9 0 a st' by rw [HS.out];unfold makeR;rw [if_neg n1,if_neg n2,if_neg n3,if_pos n4]);have HOp:=kp (rdop_any hF (st:=st') D7.out.rd 9 0 (vs:=us) (lV:=a) c7 HVr.out.now (HU2.out (.inr (.inl n4))) (fun _=>HSm.out));generalize opM (cxR F) 9 0 a st'=q at *;clear n1 n2 n3 n4;go_wp2_with fail
    refine HOp.out.mono ?_;rintro e w7 ⟨nm7,s7,rfl,hv7,hk7,hm7⟩;have D7:=kp (D7.out.call hk7 hm7);clear hk7 hm7;obtain ⟨r0,r1,r2,rf⟩:=Bk.c3 D7.out.cell;go_wp2_with fail
    rw [HS.out];refine RMid.ret hF (q:=q) D7.out Tryz.results94 ?_ ?_ hv7 <;> rfl
   have k7:(s.toList == [60])=false:=tl_false n4;obtain ⟨u1,hu1⟩:∃ u,us[1]?=some u:=⟨_,gqe (by have:=HL2.out;omega)⟩;obtain ⟨y1,hy1⟩:∃ u,a[1]?=some u:=⟨_,gqe (by have:=HLn.out;have:=HL2.out;omega)⟩;have HU1:=kp hu1;have HF1:=kp (fst_at HSm.out hy1 hu1);have HD1:=kp (show a.getD 1 v0=y1 by rw [List.getD_eq_getElem?_getD,hy1];rfl);have hup1:(1:Int) < (us.length:Int):=by have:=HL2.out;omega
   have hup2:1 < us.length:=by have:=HL2.out;omega
   have hup3:0 < us.length:=by have:=HL2.out;omega
   clear hu1 hy1
   by_cases n5:s=sGe
   ·have k8:(s.toList == [62,61])=true:=tl_true n5;replace HS:=kp (show res=opM (cxR F) 8 0 [y1,y0] st' by rw [HS.out];unfold makeR;rw [if_neg n1,if_neg n2,if_neg n3,if_neg n4,if_pos n5,HD0.out,HD1.out]);clear n1 n2 n3 n4 n5;go_upto_region 25 with fail
    have K0:=kp (Keeps.refl (onRb F) w7).drew;have KB:=kp (K0.out.alloc (.cells #[.string u1.1,.int .i64 u1.2,.int .i64 0,.string u0.1,.int .i64 u0.2,.int .i64 0] 94));have DB:=kp (D7.out.drew.alloc (.cells #[.string u1.1,.int .i64 u1.2,.int .i64 0,.string u0.1,.int .i64 u0.2,.int .i64 0] 94));have NB:=kp (show(w7.drew.alloc (.cells #[.string u1.1,.int .i64 u1.2,.int .i64 0,.string u0.1,.int .i64 u0.2,.int .i64 0] 94)).heap[w7.heap.size]?=some (.cells #[.string u1.1,.int .i64 u1.2,.int .i64 0,.string u0.1,.int .i64 u0.2,.int .i64 0] 94 (0,0)) from Bk.new w7.drew _);have HOp:=kp (rdop_any hF (st:=st') DB.out.rd 8 0 (vs:=[u1,u0]) (lV:=[y1,y0]) 2 (lies_v2 NB.out (HOk.out _ (mgq HU1.out)) (HOk.out _ (mgq HU0.out))) (by simp) (fun _=>by simp [HF0.out,HF1.out]));generalize opM (cxR F) 8 0 [y1,y0] st'=q at *;have HC0:=kp (fun W (hW:Keeps (onRb F) w7 W)=>vars_cells HVr.out hW HU0.out);have HC1:=kp (fun W (hW:Keeps (onRb F) w7 W)=>vars_cells HVr.out hW HU1.out);rw [Nat.zero_mul,Nat.add_zero] at HC0;rw [Nat.one_mul] at HC1;refine wp_region_to (by kernel_rfl) (fun W=>Keeps (onRb F) w7 W) 9 (K0.out) (fun hHeld=>?_);refine mp1 [0,1,2,3,4,5,6] ?_;iterate 7 (refine mtk (v:=?_) ?_ ?_;rotate_left;(focus first | ((intro w hSw;go_simp;try with_reducible rfl);done) | ((intro w hSw;(obtain ⟨e0,e1,e2⟩:=HC1.out _ hSw;go_simp;try with_reducible rfl));done) | ((intro w hSw;(obtain ⟨e0,e1,e2⟩:=HC0.out _ hSw;go_simp;try with_reducible rfl));done));try simp only [pt])
    refine mp0 ?_;refine wpTo_step (i:=7) (o:=Oper.mk _ _ _ _ _ _) (by kernel_rfl) rfl (fun K hK=>?_);go_simp;refine hK.out _ _ (KB.out) (fun hHeld=>?_);clear hK K;try simp only [pt]
    refine wpTo_step (i:=8) (o:=Oper.mk _ _ _ _ _ _) (by kernel_rfl) rfl (fun K hK=>?_);go_simp;refine HOp.out.mono ?_;rintro e w8 ⟨nm7,s7,rfl,hv7,hk7,hm7⟩;have D8:=kp (DB.out.call hk7 hm7);have KW:=kp (KB.out.trans_same hk7);clear hk7 hm7;refine hK.out _ _ KW.out (fun hHeld=>?_);clear hK K;obtain ⟨r0,r1,r2,rf⟩:=Bk.c3 D8.out.cell;refine wpTo_last (o:=Oper.mk _ _ _ _ _ _) (by kernel_rfl) rfl (fun K hK=>?_);go_simp;refine hK.out _ _ ?_;clear hK K;try simp only [pt]
    refine wpTo_done (by kernel_rfl) ?_ _;go_wp2_with fail
    rw [HS.out];refine RMid.ret hF (q:=q) D8.out Tryz.results94 ?_ ?_ hv7 <;> rfl
   have k8:(s.toList == [62,61])=false:=tl_false n5
   by_cases n6:s=sGt
   ·have k9:(s.toList == [62])=true:=tl_true n6;replace HS:=kp (show res=opM (cxR F) 9 0 [y1,y0] st' by rw [HS.out];unfold makeR;rw [if_neg n1,if_neg n2,if_neg n3,if_neg n4,if_neg n5,if_pos n6,HD0.out,HD1.out]);clear n1 n2 n3 n4 n5 n6;go_upto_region 27 with fail
    have K0:=kp (Keeps.refl (onRb F) w7).drew;have KB:=kp (K0.out.alloc (.cells #[.string u1.1,.int .i64 u1.2,.int .i64 0,.string u0.1,.int .i64 u0.2,.int .i64 0] 94));have DB:=kp (D7.out.drew.alloc (.cells #[.string u1.1,.int .i64 u1.2,.int .i64 0,.string u0.1,.int .i64 u0.2,.int .i64 0] 94));have NB:=kp (show(w7.drew.alloc (.cells #[.string u1.1,.int .i64 u1.2,.int .i64 0,.string u0.1,.int .i64 u0.2,.int .i64 0] 94)).heap[w7.heap.size]?=some (.cells #[.string u1.1,.int .i64 u1.2,.int .i64 0,.string u0.1,.int .i64 u0.2,.int .i64 0] 94 (0,0)) from Bk.new w7.drew _);have HOp:=kp (rdop_any hF (st:=st') DB.out.rd 9 0 (vs:=[u1,u0]) (lV:=[y1,y0]) 2 (lies_v2 NB.out (HOk.out _ (mgq HU1.out)) (HOk.out _ (mgq HU0.out))) (by simp) (fun _=>by simp [HF0.out,HF1.out]));generalize opM (cxR F) 9 0 [y1,y0] st'=q at *;have HC0:=kp (fun W (hW:Keeps (onRb F) w7 W)=>vars_cells HVr.out hW HU0.out);have HC1:=kp (fun W (hW:Keeps (onRb F) w7 W)=>vars_cells HVr.out hW HU1.out);rw [Nat.zero_mul,Nat.add_zero] at HC0;rw [Nat.one_mul] at HC1;refine wp_region_to (by kernel_rfl) (fun W=>Keeps (onRb F) w7 W) 9 (K0.out) (fun hHeld=>?_);refine mp1 [0,1,2,3,4,5,6] ?_;iterate 7 (refine mtk (v:=?_) ?_ ?_;rotate_left;(focus first | ((intro w hSw;go_simp;try with_reducible rfl);done) | ((intro w hSw;(obtain ⟨e0,e1,e2⟩:=HC1.out _ hSw;go_simp;try with_reducible rfl));done) | ((intro w hSw;(obtain ⟨e0,e1,e2⟩:=HC0.out _ hSw;go_simp;try with_reducible rfl));done));try simp only [pt])
    refine mp0 ?_;refine wpTo_step (i:=7) (o:=Oper.mk _ _ _ _ _ _) (by kernel_rfl) rfl (fun K hK=>?_);go_simp;refine hK.out _ _ (KB.out) (fun hHeld=>?_);clear hK K;try simp only [pt]
    refine wpTo_step (i:=8) (o:=Oper.mk _ _ _ _ _ _) (by kernel_rfl) rfl (fun K hK=>?_);go_simp;refine HOp.out.mono ?_;rintro e w8 ⟨nm7,s7,rfl,hv7,hk7,hm7⟩;have D8:=kp (DB.out.call hk7 hm7);have KW:=kp (KB.out.trans_same hk7);clear hk7 hm7;refine hK.out _ _ KW.out (fun hHeld=>?_);clear hK K;obtain ⟨r0,r1,r2,rf⟩:=Bk.c3 D8.out.cell;refine wpTo_last (o:=Oper.mk _ _ _ _ _ _) (by kernel_rfl) rfl (fun K hK=>?_);go_simp;refine hK.out _ _ ?_;clear hK K;try simp only [pt]
    refine wpTo_done (by kernel_rfl) ?_ _;go_wp2_with fail
    rw [HS.out];refine RMid.ret hF (q:=q) D8.out Tryz.results94 ?_ ?_ hv7 <;> rfl
   have k9:(s.toList == [62])=false:=tl_false n6
   by_cases n7:s=sEq
   ·have ka:(s.toList == [61])=true:=tl_true n7;replace HS:=kp (show res=eqRes a st' by rw [HS.out];unfold makeR;rw [if_neg n1,if_neg n2,if_neg n3,if_neg n4,if_neg n5,if_neg n6,if_pos (.inl n7)]);have HOp:=kp (requals_any hF D7.out.rd HE0.out s c7 HVr.out HL2.out HUb.out.1 HSm.out);generalize eqRes a st'=q at *;clear n1 n2 n3 n4 n5 n6 n7;go_wp2_with fail
    refine HOp.out.mono ?_;rintro e w7 ⟨nm7,s7,rfl,hv7,hk7,hm7⟩;have D7:=kp (D7.out.call hk7 hm7);clear hk7 hm7;obtain ⟨r0,r1,r2,rf⟩:=Bk.c3 D7.out.cell;go_wp2_with fail
    rw [HS.out];refine RMid.ret hF (q:=q) D7.out Tryz.results94 ?_ ?_ hv7 <;> rfl
   have ka:(s.toList == [61])=false:=tl_false n7
   by_cases n8:s=sDistinct
   ·have kb:(s.toList == [100,105,115,116,105,110,99,116])=true:=tl_true n8;replace HS:=kp (show res=eqRes a st' by rw [HS.out];unfold makeR;rw [if_neg n1,if_neg n2,if_neg n3,if_neg n4,if_neg n5,if_neg n6,if_pos (.inr n8)]);have HOp:=kp (requals_any hF D7.out.rd HE0.out s c7 HVr.out HL2.out HUb.out.1 HSm.out);generalize eqRes a st'=q at *;clear n1 n2 n3 n4 n5 n6 n7 n8;go_wp2_with fail
    refine HOp.out.mono ?_;rintro e w7 ⟨nm7,s7,rfl,hv7,hk7,hm7⟩;have D7:=kp (D7.out.call hk7 hm7);clear hk7 hm7;obtain ⟨r0,r1,r2,rf⟩:=Bk.c3 D7.out.cell;go_wp2_with fail
    rw [HS.out];refine RMid.ret hF (q:=q) D7.out Tryz.results94 ?_ ?_ hv7 <;> rfl
   have kb:(s.toList == [100,105,115,116,105,110,99,116])=false:=tl_false n8
   by_cases n9:s=sImp
   ·have kc:(s.toList == [61,62])=true:=tl_true n9;replace HS:=kp (show res=impM (cxR F) (a.reverse.getD 0 v0) a.reverse.tail st' by rw [HS.out];unfold makeR;rw [if_neg n1,if_neg n2,if_neg n3,if_neg n4,if_neg n5,if_neg n6,if_neg (fun h=>by rcases h with h | h <;> contradiction),if_pos n9])
    clear n1 n2 n3 n4 n5 n6 n7 n8 n9;obtain ⟨k0,hk0⟩:∃ k,us.length=k+1:=⟨us.length - 1,by omega⟩;obtain ⟨ul,hul⟩:∃ u,us[k0]?=some u:=⟨_,gqe (by omega)⟩;obtain ⟨yl,hyl⟩:∃ u,a[k0]?=some u:=⟨_,gqe (by have:=HLn.out;omega)⟩;have HUk0:=kp hul;have HI0:=kp (show VIs (ul.1,ul.2) yl st' from vok_is (HOk.out _ (mgq hul)) (fst_at HSm.out hyl hul))
    replace HS:=kp (show res=impM (cxR F) yl (a.take k0).reverse st' by
     have hrev:a.reverse=yl :: (a.take k0).reverse:=by rw [← take_rev hyl,← hk0,← HLn.out,List.take_length]
     rw [HS.out,hrev]
     rfl)
    have R8:=kp (HRw.out.below ((brq w7).alloc nlq (.cells #[.string ul.1,.int .i64 ul.2,.int .i64 0] 94)));have D8:=kp (D7.out.alloc (.cells #[.string ul.1,.int .i64 ul.2,.int .i64 0] 94));have V8:=kp (Bk.new w7 (.cells #[.string ul.1,.int .i64 ul.2,.int .i64 0] 94));have HNo:=kp (show ∀ g,(Value.slice (some ⟨rb,ro,none⟩) us.length c7).ownBlock=some g->g≠w7.heap.size from fun g hg=>by have:=(HRw.out.own.lt g hg).2;omega);have hvw:w.heap.size<=w7.heap.size:=D7.out.keeps.size;have hvr:w7.heap.size≠w.heap.size+1:=by have:=D7.out.size;omega
    have hvf:¬ onRb F w7.heap.size:=by have:=D7.out.rd.lt;unfold onRb;omega
    obtain ⟨e0,e1,e2⟩:=vars_cells HVr.out (Keeps.refl _ _) hul;have hk1:(k0:Int)<=1500000:=by have:=HUb.out;omega
    have hki:((us.length:Int) - 1)=(k0:Int):=by omega
    have hk2:(k0:Int) < (k0:Int)+1:=by omega
    have hk3:(0:Int)<=(k0:Int):=by omega
    clear hul hyl;rw [hk0] at R8 HNo;rw [hk0];have HKe:=kp hk0;clear hk0 hki;go_upto_region 33 with fail
    generalize w7.alloc (.cells #[.string ul.1,.int .i64 ul.2,.int .i64 0] 94)=w8 at *;generalize w7.heap.size=vb at *;clear e0 e1 e2;go_wp2_with fail
    go_loopw [16] (fun i' wq=>∃ (k:Nat) (nm:ByteArray) (n:Int) (v:V) (st'':St),k<=k0/\i'=.int .i64 ((k:Int) - 1)/\res=impM (cxR F) v (a.take k).reverse st''/\VIs (nm,n) v st''/\wq.heap[vb]?=some (.cells #[.string nm,.int .i64 n,.int .i64 0] 94 (0,0))/\VyRow base wq (.slice (some ⟨rb,ro,none⟩) (k0+1) c7) us/\RMid F w (w.heap.size+1) wq st''.e) (fun i' _=>(intOf i'+1).toNat)
    case atStart=>exact⟨k0,ul.1,ul.2,yl,st',nlq,by go_num,HS.out,HI0.out,V8.out,R8.out,D8.out⟩
    case round =>
     clear V8 R8 D8 HI0 HVr HRw D7 HS;obtain ⟨k,nm,n,v,st'',hk,rfl,hres,his,hvb,hrow,hmid⟩:=hrel;have HRes:=kp hres;have HIs:=kp his;have VR:=kp hvb;have RR':=kp hrow;have DR:=kp hmid;clear hres his hvb hrow hmid
     by_cases hk00:k=0
     ·subst hk00;have HQ:=kp (show res=(v,st'') by rw [HRes.out];rfl);obtain ⟨v0',v1',v2',vf⟩:=Bk.c3 VR.out;obtain ⟨r0,r1,r2,rf⟩:=Bk.c3 DR.out.cell;go_wp2_with fail
      rw [HQ.out];refine RMid.ret hF (q:=(v,st'')) DR.out Tryz.results94 ?_ ?_ ⟨HIs.out.ok.1,HIs.out.ok.2,fun h=>HIs.out.same h⟩ <;> rfl
     ·obtain ⟨j,rfl⟩:∃ j,k=j+1:=⟨k - 1,by omega⟩;have hj0:(0:Int)<=(j:Int):=by omega
      have hlt3:(j:Int) < (k0:Int)+1:=by omega
      obtain ⟨q,hq⟩:∃ q,us[j]?=some q:=⟨_,gqe (by have:=HKe.out;omega)⟩;obtain ⟨y,hy⟩:∃ y,a[j]?=some y:=⟨_,gqe (by have:=HKe.out;have:=HLn.out;omega)⟩;have HUk:=kp hq;have HFk:=kp (fst_at HSm.out hy hq)
      replace HRes:=kp (show res=impM (cxR F) (opM (cxR F) 5 0 [y,v] st'').1 (a.take j).reverse (opM (cxR F) 5 0 [y,v] st'').2 by
       rw [HRes.out,take_rev hy]
       rfl)
      have hki2:(((j+1:Nat):Int) - 1)=(j:Int):=by omega
      rw [hki2];clear hq hy hk00 hki2;have HRc:=kp (fun W (hW:Keeps (onRb F) wr W)=>vars_cells (RR'.out.varsS (F:=F) hbf) hW HUk.out);have HVc:=kp (fun W (hW:Keeps (onRb F) wr W)=>show W.heap[vb]?=some (.cells #[.string nm,.int .i64 n,.int .i64 0] 94 (0,0)) from(hW.block vb (lt_of_block VR.out) hvf).trans VR.out);have K0:=kp (Keeps.refl (onRb F) wr).drew;have KB:=kp (K0.out.alloc (.cells #[.string q.1,.int .i64 q.2,.int .i64 0,.string nm,.int .i64 n,.int .i64 0] 94));have DB:=kp (DR.out.drew.alloc (.cells #[.string q.1,.int .i64 q.2,.int .i64 0,.string nm,.int .i64 n,.int .i64 0] 94));have NB:=kp (show(wr.drew.alloc (.cells #[.string q.1,.int .i64 q.2,.int .i64 0,.string nm,.int .i64 n,.int .i64 0] 94)).heap[wr.heap.size]?=some (.cells #[.string q.1,.int .i64 q.2,.int .i64 0,.string nm,.int .i64 n,.int .i64 0] 94 (0,0)) from Bk.new wr.drew _);have RB:=kp (RR'.out.below ((brq wr).drew.alloc nlq (.cells #[.string q.1,.int .i64 q.2,.int .i64 0,.string nm,.int .i64 n,.int .i64 0] 94)));have HOp:=kp (rdop_any hF (st:=st'') DB.out.rd 5 0 (vs:=[q,(nm,n)]) (lV:=[y,v]) 2 (lies_v2 NB.out (HOk.out _ (mgq HUk.out)) HIs.out.ok) (by simp) (fun h=>by have h1:=HIs.out.same h;simp only [List.map_cons,List.map_nil,HFk.out,← h1]));generalize opM (cxR F) 5 0 [y,v] st''=pr at *;obtain ⟨pv,ps⟩:=pr;go_upto_region 36 with fail
      refine wp_region_to (by kernel_rfl) (fun W=>Keeps (onRb F) wr W) 8 (K0.out) (fun hHeld=>?_);refine mp1 [0,1,2,3,4,5] ?_;iterate 6 (refine mtk (v:=?_) ?_ ?_;rotate_left;(focus first | ((intro w hSw;go_simp;try with_reducible rfl);done) | ((intro w hSw;(obtain ⟨e0,e1,e2⟩:=HRc.out _ hSw;go_simp;try with_reducible rfl));done) | ((intro w hSw;(obtain ⟨v0',v1',v2',vf⟩:=Bk.c3 (HVc.out _ hSw);go_simp;try with_reducible rfl));done));try simp only [pt])
      refine mp0 ?_;refine wpTo_step (i:=6) (o:=Oper.mk _ _ _ _ _ _) (by kernel_rfl) rfl (fun K hK=>?_);go_simp;refine hK.out _ _ (KB.out) (fun hHeld=>?_);clear hK K;try simp only [pt]
      refine wpTo_step (i:=7) (o:=Oper.mk _ _ _ _ _ _) (by kernel_rfl) rfl (fun K hK=>?_);go_simp;refine HOp.out.mono ?_;rintro e w9 ⟨nm7,s7,rfl,hv7,hk7,hm7⟩;have V7:=kp hv7;have D9:=kp (DB.out.call hk7 hm7);have R9:=kp (RB.out.keep hk7 hbf);have KW:=kp (KB.out.trans_same hk7);have B9:=kp (HVc.out _ KW.out);clear hk7 hm7 hv7;refine hK.out _ _ KW.out (fun hHeld=>?_);clear hK K;have DZ:=kp (((D9.out.other hF hvw hvr 0 (.string nm7)).other hF hvw hvr 1 (.int .i64 s7)).other hF hvw hvr 2 (.int .i64 0));have BZ:=kp (Bk.set_at (Bk.set_at (Bk.set_at B9.out 0 (.string nm7)) 1 (.int .i64 s7)) 2 (.int .i64 0))
      have RZ:=kp (show VyRow base (((w9.setCell ⟨vb,0,none⟩ (.string nm7)).setCell ⟨vb,1,none⟩ (.int .i64 s7)).setCell ⟨vb,2,none⟩ (.int .i64 0)) (.slice (some ⟨rb,ro,none⟩) (k0+1) c7) us from
       ⟨keep_row2 R9.out.own ((((Keeps.refl (fun k=>k=vb) w9).setCell (p:=⟨vb,0,none⟩) (.inl rfl) _).setCell (p:=⟨vb,1,none⟩) (.inl rfl) _).setCell (p:=⟨vb,2,none⟩) (.inl rfl) _) (fun g hg hk=>HNo.out g hg hk),R9.out.ok⟩)
      obtain ⟨v0',v1',v2',vf⟩:=Bk.c3 B9.out;refine wpTo_last (o:=Oper.mk _ _ _ _ _ _) (by kernel_rfl) rfl (fun K hK=>?_);go_simp;refine hK.out _ _ ?_;clear hK K;try simp only [pt]
      refine wpTo_done (by kernel_rfl) ?_ _;clear v0' v1' v2' vf;go_wp2_with fail
      go_roundw
      case rel=>exact⟨j,nm7,s7,pv,ps,by omega,by go_num,HRes.out,VIs.of V7.out,BZ.out,RZ.out,DZ.out⟩
      case measure=>simp [intOf]
   have kc:(s.toList == [61,62])=false:=tl_false n9
   replace HS:=kp (show res=leftM (cxR F) (binN s) y0 (a.drop 1) st' by
    rw [HS.out];unfold makeR;rw [if_neg n1,if_neg n2,if_neg n3,if_neg n4,if_neg n5,if_neg n6,if_neg (fun h=>by rcases h with h | h <;> contradiction),if_neg n9]
    unfold headM;rw [HD0.out,List.drop_one])
   clear n1 n2 n3 n4 n5 n6 n7 n8 n9;have hum:(us.length:Int)<=1500000:=by have:=HUb.out;omega
   obtain ⟨e0,e1,e2⟩:=vars_cells HVr.out (Keeps.refl _ _) HU0.out;rw [Nat.zero_mul,Nat.add_zero] at e0 e1 e2;have hul:u0=u0:=rfl;obtain ⟨ul,hule⟩:∃ ul,ul=u0:=⟨_,rfl⟩;rw [← hule] at e0 e1;have R8:=kp (HRw.out.below ((brq w7).alloc nlq (.cells #[.string ul.1,.int .i64 ul.2,.int .i64 0] 94)));have D8:=kp (D7.out.alloc (.cells #[.string ul.1,.int .i64 ul.2,.int .i64 0] 94));have V8:=kp (Bk.new w7 (.cells #[.string ul.1,.int .i64 ul.2,.int .i64 0] 94));have HNo:=kp (show ∀ g,(Value.slice (some ⟨rb,ro,none⟩) us.length c7).ownBlock=some g->g≠w7.heap.size from fun g hg=>by have:=(HRw.out.own.lt g hg).2;omega);have hvw:w.heap.size<=w7.heap.size:=D7.out.keeps.size;have hvr:w7.heap.size≠w.heap.size+1:=by have:=D7.out.size;omega
   have hvf:¬ onRb F w7.heap.size:=by have:=D7.out.rd.lt;unfold onRb;omega
   have HI0:=kp (show VIs (ul.1,ul.2) y0 st' from vok_is (HOk.out _ (by rw [hule];exact mgq HU0.out)) (by rw [hule];exact HF0.out));clear hule hul;go_upto_region 39 with fail
   generalize w7.alloc (.cells #[.string ul.1,.int .i64 ul.2,.int .i64 0] 94)=w8 at *;generalize w7.heap.size=vb at *;clear e0 e1 e2;go_wp2_with fail
   go_loopw [18] (fun j' wq=>∃ (j:Nat) (nm:ByteArray) (n:Int) (v:V) (st'':St),1<=j/\j<=us.length/\j'=.int .i64 j/\res=leftM (cxR F) (binN s) v (a.drop j) st''/\VIs (nm,n) v st''/\wq.heap[vb]?=some (.cells #[.string nm,.int .i64 n,.int .i64 0] 94 (0,0))/\VyRow base wq (.slice (some ⟨rb,ro,none⟩) us.length c7) us/\RMid F w (w.heap.size+1) wq st''.e) (fun j' _=>us.length - (intOf j').toNat)
   case atStart=>exact⟨1,ul.1,ul.2,y0,st',nlq,by omega,rfl,HS.out,HI0.out,V8.out,R8.out,D8.out⟩
   case round =>
    clear V8 R8 D8 HI0 HVr HRw D7 HS;obtain ⟨j,nm,n,v,st'',hj1,hj,rfl,hres,his,hvb,hrow,hmid⟩:=hrel;have HRes:=kp hres;have HIs:=kp his;have VR:=kp hvb;have RR':=kp hrow;have DR:=kp hmid;clear hres his hvb hrow hmid
    by_cases hjl:j < us.length
    ·have hlt3:(j:Int) < (us.length:Int):=by omega
     obtain ⟨q,hq⟩:∃ q,us[j]?=some q:=⟨_,gqe hjl⟩;obtain ⟨y,hy⟩:∃ y,a[j]?=some y:=⟨_,gqe (by have:=HLn.out;omega)⟩;have HUk:=kp hq;have HFk:=kp (fst_at HSm.out hy hq)
     replace HRes:=kp (show res=leftM (cxR F) (binN s) (opM (cxR F) (binN s) 0 [v,y] st'').1 (a.drop (j+1)) (opM (cxR F) (binN s) 0 [v,y] st'').2 by
      rw [HRes.out,List.drop_eq_getElem_cons (show j < a.length by have:=HLn.out;omega)]
      have e:a[j]'(by have:=HLn.out;omega)=y:=by
       have:=hy;rw [gqe (by have:=HLn.out;omega)] at this
       simpa using this
      rw [e]
      rfl)
     clear hq hy;have HRc:=kp (fun W (hW:Keeps (onRb F) wr W)=>vars_cells (RR'.out.varsS (F:=F) hbf) hW HUk.out);have HVc:=kp (fun W (hW:Keeps (onRb F) wr W)=>show W.heap[vb]?=some (.cells #[.string nm,.int .i64 n,.int .i64 0] 94 (0,0)) from(hW.block vb (lt_of_block VR.out) hvf).trans VR.out);have K0:=kp (Keeps.refl (onRb F) wr).drew;have KB:=kp (K0.out.alloc (.cells #[.string nm,.int .i64 n,.int .i64 0,.string q.1,.int .i64 q.2,.int .i64 0] 94));have DB:=kp (DR.out.drew.alloc (.cells #[.string nm,.int .i64 n,.int .i64 0,.string q.1,.int .i64 q.2,.int .i64 0] 94));have NB:=kp (show(wr.drew.alloc (.cells #[.string nm,.int .i64 n,.int .i64 0,.string q.1,.int .i64 q.2,.int .i64 0] 94)).heap[wr.heap.size]?=some (.cells #[.string nm,.int .i64 n,.int .i64 0,.string q.1,.int .i64 q.2,.int .i64 0] 94 (0,0)) from Bk.new wr.drew _);have RB:=kp (RR'.out.below ((brq wr).drew.alloc nlq (.cells #[.string nm,.int .i64 n,.int .i64 0,.string q.1,.int .i64 q.2,.int .i64 0] 94)));have HOp:=kp (rdop_any hF (st:=st'') DB.out.rd (binN s) 0 (vs:=[(nm,n),q]) (lV:=[v,y]) 2 (lies_v2 NB.out HIs.out.ok (HOk.out _ (mgq HUk.out))) (by simp) (fun h=>by have h1:=HIs.out.same h;simp only [List.map_cons,List.map_nil,HFk.out,← h1]));generalize opM (cxR F) (binN s) 0 [v,y] st''=pr at *;obtain ⟨pv,ps⟩:=pr;go_upto_region 42 with fail
     refine wp_region_to (by kernel_rfl) (fun W=>Keeps (onRb F) wr W) 10 (K0.out) (fun hHeld=>?_);refine mp1 [0,1,3,4,5,6,7] ?_;iterate 7 (refine mtk (v:=?_) ?_ ?_;rotate_left;(focus first | ((intro w hSw;go_simp;try with_reducible rfl);done) | ((intro w hSw;(obtain ⟨v0',v1',v2',vf⟩:=Bk.c3 (HVc.out _ hSw);go_simp;try with_reducible rfl));done) | ((intro w hSw;(obtain ⟨e0,e1,e2⟩:=HRc.out _ hSw;go_simp;try with_reducible rfl));done));try simp only [pt])
     refine mp0 ?_;refine wpTo_two (i:=2) (j:=8) (o:=Oper.mk _ _ _ _ _ _) (o2:=Oper.mk _ _ _ _ _ _) (by kernel_rfl) rfl rfl (fun K hK=>?_) (fun K hK=>?_)
     ·go_simp;refine(HBi.out _).mono ?_;rintro e w' ⟨rfl,rfl⟩;refine hK.out _ _ K0.out (fun hHeld=>?_);clear hK K;try simp only [pt]
      refine wpTo_step (i:=8) (o:=Oper.mk _ _ _ _ _ _) (by kernel_rfl) rfl (fun K hK=>?_);go_simp;refine hK.out _ _ (KB.out) (fun hHeld=>?_);clear hK K;try simp only [pt]
      refine wpTo_step (i:=9) (o:=Oper.mk _ _ _ _ _ _) (by kernel_rfl) rfl (fun K hK=>?_);go_simp;refine HOp.out.mono ?_;rintro e w9 ⟨nm7,s7,rfl,hv7,hk7,hm7⟩;have V7:=kp hv7;have D9:=kp (DB.out.call hk7 hm7);have R9:=kp (RB.out.keep hk7 hbf);have KW:=kp (KB.out.trans_same hk7);have B9:=kp (HVc.out _ KW.out);clear hk7 hm7 hv7;refine hK.out _ _ KW.out (fun hHeld=>?_);clear hK K;have DZ:=kp (((D9.out.other hF hvw hvr 0 (.string nm7)).other hF hvw hvr 1 (.int .i64 s7)).other hF hvw hvr 2 (.int .i64 0));have BZ:=kp (Bk.set_at (Bk.set_at (Bk.set_at B9.out 0 (.string nm7)) 1 (.int .i64 s7)) 2 (.int .i64 0))
      have RZ:=kp (show VyRow base (((w9.setCell ⟨vb,0,none⟩ (.string nm7)).setCell ⟨vb,1,none⟩ (.int .i64 s7)).setCell ⟨vb,2,none⟩ (.int .i64 0)) (.slice (some ⟨rb,ro,none⟩) us.length c7) us from
       ⟨keep_row2 R9.out.own ((((Keeps.refl (fun k=>k=vb) w9).setCell (p:=⟨vb,0,none⟩) (.inl rfl) _).setCell (p:=⟨vb,1,none⟩) (.inl rfl) _).setCell (p:=⟨vb,2,none⟩) (.inl rfl) _) (fun g hg hk=>HNo.out g hg hk),R9.out.ok⟩)
      obtain ⟨v0',v1',v2',vf⟩:=Bk.c3 B9.out;refine wpTo_last (o:=Oper.mk _ _ _ _ _ _) (by kernel_rfl) rfl (fun K hK=>?_);go_simp;refine hK.out _ _ ?_;clear hK K;try simp only [pt]
      refine wpTo_done (by kernel_rfl) ?_ _;clear v0' v1' v2' vf;go_wp2_with fail
      go_roundw
      case rel=>exact⟨j+1,nm7,s7,pv,ps,by omega,by omega,by go_num,HRes.out,VIs.of V7.out,BZ.out,RZ.out,DZ.out⟩
      case measure=>simp [intOf];omega
     ·go_simp;refine hK.out _ _ KB.out (fun hHeld=>?_);clear hK K;try simp only [pt]
      refine wpTo_step (i:=2) (o:=Oper.mk _ _ _ _ _ _) (by kernel_rfl) rfl (fun K hK=>?_);go_simp;refine(HBi.out _).mono ?_;rintro e w' ⟨rfl,rfl⟩;refine hK.out _ _ KB.out (fun hHeld=>?_);clear hK K;try simp only [pt]
      refine wpTo_step (i:=9) (o:=Oper.mk _ _ _ _ _ _) (by kernel_rfl) rfl (fun K hK=>?_);go_simp;refine HOp.out.mono ?_;rintro e w9 ⟨nm7,s7,rfl,hv7,hk7,hm7⟩;have V7:=kp hv7;have D9:=kp (DB.out.call hk7 hm7);have R9:=kp (RB.out.keep hk7 hbf);have KW:=kp (KB.out.trans_same hk7);have B9:=kp (HVc.out _ KW.out);clear hk7 hm7 hv7;refine hK.out _ _ KW.out (fun hHeld=>?_);clear hK K;have DZ:=kp (((D9.out.other hF hvw hvr 0 (.string nm7)).other hF hvw hvr 1 (.int .i64 s7)).other hF hvw hvr 2 (.int .i64 0));have BZ:=kp (Bk.set_at (Bk.set_at (Bk.set_at B9.out 0 (.string nm7)) 1 (.int .i64 s7)) 2 (.int .i64 0))
      have RZ:=kp (show VyRow base (((w9.setCell ⟨vb,0,none⟩ (.string nm7)).setCell ⟨vb,1,none⟩ (.int .i64 s7)).setCell ⟨vb,2,none⟩ (.int .i64 0)) (.slice (some ⟨rb,ro,none⟩) us.length c7) us from
       ⟨keep_row2 R9.out.own ((((Keeps.refl (fun k=>k=vb) w9).setCell (p:=⟨vb,0,none⟩) (.inl rfl) _).setCell (p:=⟨vb,1,none⟩) (.inl rfl) _).setCell (p:=⟨vb,2,none⟩) (.inl rfl) _) (fun g hg hk=>HNo.out g hg hk),R9.out.ok⟩)
      obtain ⟨v0',v1',v2',vf⟩:=Bk.c3 B9.out;refine wpTo_last (o:=Oper.mk _ _ _ _ _ _) (by kernel_rfl) rfl (fun K hK=>?_);go_simp;refine hK.out _ _ ?_;clear hK K;try simp only [pt]
      refine wpTo_done (by kernel_rfl) ?_ _;clear v0' v1' v2' vf;go_wp2_with fail
      go_roundw
      case rel=>exact⟨j+1,nm7,s7,pv,ps,by omega,by omega,by go_num,HRes.out,VIs.of V7.out,BZ.out,RZ.out,DZ.out⟩
      case measure=>simp [intOf];omega
    ·obtain rfl:j=us.length:=by omega
     have HQ:=kp (show res=(v,st'') by rw [HRes.out,List.drop_of_length_le (by have:=HLn.out;omega)];rfl);obtain ⟨v0',v1',v2',vf⟩:=Bk.c3 VR.out;obtain ⟨r0,r1,r2,rf⟩:=Bk.c3 DR.out.cell;go_wp2_with fail
     rw [HQ.out];refine RMid.ret hF (q:=(v,st'')) DR.out Tryz.results94 ?_ ?_ ⟨HIs.out.ok.1,HIs.out.ok.2,fun h=>HIs.out.same h⟩ <;> rfl
  ·have he1:(st'.e != 0)=true:=by rw [bne_iff_ne];exact he
   replace HS:=kp (show res=(v0,st') from HS.out.trans (if_pos he));clear he;obtain ⟨r0,r1,r2,rf⟩:=Bk.c3 D7.out.cell;go_wp2_with fail
   rw [HS.out];refine RMid.ret hF (q:=(v0,st')) D7.out Tryz.results94 ?_ ?_ (nil_ok (fun _=>rfl)) <;> rfl
 ·have hl:=HDl.out.1 h1;replace HS:=kp (HS.out.trans (if_pos h1));have D3:=kp (D2.out.alloc (.cells #[.int .i8 (nthX x 1).kind,.string (nthX x 1).text,.slice A' (nthX x 1).l.length c'] 30));have X3:=kp (Bk.keep X2.out (.cells #[.int .i8 (nthX x 1).kind,.string (nthX x 1).text,.slice A' (nthX x 1).l.length c'] 30));have P3:=kp (Bk.new w2 (.cells #[.int .i8 (nthX x 1).kind,.string (nthX x 1).text,.slice A' (nthX x 1).l.length c'] 30));have HC:=kp (HDif.out _ s _ _ _ hxd HM1.out hl.1 hl.2 true D3.out);clear hl h1 hxd;generalize dfR F r (nthX x 1) st=q at *;go_upto_region 5 with fail
  generalize w2.alloc (.cells #[.int .i8 (nthX x 1).kind,.string (nthX x 1).text,.slice A' (nthX x 1).l.length c'] 30)=w3 at *;obtain ⟨q0,q1,q2,qf⟩:=Bk.c3 X3.out;obtain ⟨f0,f1,f2,ff⟩:=Bk.c3 P3.out;go_wp2_with fail
  refine HC.out.mono ?_;rintro e w7 ⟨nm7,s7,rfl,hv7,hk7,hm7⟩;have D7:=kp (D3.out.call hk7 hm7);clear hk7 hm7;obtain ⟨r0,r1,r2,rf⟩:=Bk.c3 D7.out.cell;go_wp2_with fail
  rw [HS.out];refine RMid.ret hF (q:=q) D7.out Tryz.results94 ?_ ?_ hv7 <;> rfl
 ·have hl:=HDl.out.2 h2;replace HS:=kp ((HS.out.trans (if_neg (by omega))).trans (if_pos h2));have D3:=kp (D2.out.alloc (.cells #[.int .i8 (nthX x 2).kind,.string (nthX x 2).text,.slice A' (nthX x 2).l.length c'] 30));have X3:=kp (Bk.keep X2.out (.cells #[.int .i8 (nthX x 2).kind,.string (nthX x 2).text,.slice A' (nthX x 2).l.length c'] 30));have P3:=kp (Bk.new w2 (.cells #[.int .i8 (nthX x 2).kind,.string (nthX x 2).text,.slice A' (nthX x 2).l.length c'] 30));have HC:=kp (HDif.out _ s _ _ _ hxd (HM2.out hl.1) hl.1 hl.2 false D3.out);clear hl h2 hxd;generalize dfR F r (nthX x 2) st=q at *;go_upto_region 5 with fail
  generalize w2.alloc (.cells #[.int .i8 (nthX x 2).kind,.string (nthX x 2).text,.slice A' (nthX x 2).l.length c'] 30)=w3 at *;obtain ⟨q0,q1,q2,qf⟩:=Bk.c3 X3.out;obtain ⟨f0,f1,f2,ff⟩:=Bk.c3 P3.out;go_wp2_with fail
  refine HC.out.mono ?_;rintro e w7 ⟨nm7,s7,rfl,hv7,hk7,hm7⟩;have D7:=kp (D3.out.call hk7 hm7);clear hk7 hm7;obtain ⟨r0,r1,r2,rf⟩:=Bk.c3 D7.out.cell;go_wp2_with fail
  rw [HS.out];refine RMid.ret hF (q:=q) D7.out Tryz.results94 ?_ ?_ hv7 <;> rfl
end El
end Go.Proofs.YtpmdcckapddchaaGreat
