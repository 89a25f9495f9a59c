import Derived.Test.YtpmdcckapddchaaGreatDoorShort
import Derived.Test.YtpmdcckapddchaaGreatDoorMzg
import Derived.Test.YtpmdcckapddchaaGreatDoorMw
import Derived.Lib.ItoaMem
import Derived.Test.YtpmdcckapddchaaGreatDoorMb
/- merged by wip/merge.py from: ElWri4 RWri RWri2 -/
set_option maxRecDepth 100000
set_option maxHeartbeats 51200000
namespace Go.Proofs.YtpmdcckapddchaaGreatDoor
namespace El
open Go.RowKit Dt Sg
theorem put_all {W0:World} {B b gb tb:Nat} {A2 At:Option Addr} {c2 ct:Nat} {g:Sig} {t:List Node} (hF:WrF W0 B b gb tb A2 At c2 ct g t) (k:Nat):k < t.length->PutK W0 B b gb tb g t k:=by
 induction k using Nat.strongRecOn with
 | _ k ih=>exact fun hk=>put_step hF hk (fun j hj=>ih j hj (by omega))
def TreeLaw:Prop:=∀ (w:World) (A:Option Addr) (t:List Node) (c:Nat),Lies 8 NodeR w A t->t.length<=1000000->t.length<=c->c<=maxLen->Ahead t->∀ k:Nat,k < t.length ->
 Calls Tryz.prog 20 #[.agg #[.slice A t.length c],.int .i64 k] w fun e w'=>e=.returned (.int .i64 (treeN t k))/\Below w.heap.size w w'
theorem itoa_some (n:Int):Lib.itoa n≠[]:=by
 have hd:∀ u,Lib.decDigits u≠[]:=fun u=>by
  rw [Lib.decDigits]
  split <;> simp
 by_cases h:0<=n
 ·obtain ⟨u,rfl⟩:∃ u:Nat,n=(u:Int):=⟨n.toNat,by omega⟩;rw [Lib.itoa_nonneg];exact hd u
 ·obtain ⟨u,hu,rfl⟩:∃ u:Nat,1<=u/\n=-(u:Int):=⟨(-n).toNat,by omega,by omega⟩;rw [Lib.itoa_neg u hu];simp
theorem text_some (g:Sig) (n:Node) (xs:List Sexp):(exprN g n xs).textL≠[]:=by
 have hq:∀ l,Lx.quoteL l≠[]:=fun l=>by
  cases l with
  | nil=>decide
  | cons a l=>unfold Lx.quoteL;split <;> simp
 by_cases h0:n.op=0
 ·rw [text_true h0];simp
 ·by_cases h10:n.op=10
  ·rw [text_num h10,num_text]
   split
   ·simp
   ·exact itoa_some _
  ·by_cases h11:n.op=11
   ·by_cases hn:n.n < 0
    ·rw [text_sub h11 hn];simp
    ·rw [text_add h11 hn];simp
   ·by_cases h12:n.op=12
    ·rw [text_diff h12];simp
    ·by_cases h13:n.op=13
     ·by_cases hl:n.len=0
      ·rw [text_name h13 hl];exact hq _
      ·rw [text_app h13 hl];simp
     ·rw [text_op h0 h10 h11 h12 h13];simp
theorem textO_bad {g:Sig} {te:Int} {t:List Node} {id:Int} (h:te≠0\/id < 0\/(t.length:Int)<=id):textO g te t id=({ data:=#[] },2):=by unfold textO;rw [if_pos h]
theorem textO_ok {g:Sig} {t:List Node} {k:Nat} (hk:k < t.length):textO g 0 t k=if 4096 < treeN t k then({ data:=#[] },41) else if 8192 < (exprX g t k).textL.length then({ data:=#[] },41) else(bytesN (exprX g t k).textL,0):=by
 unfold textO;rw [if_neg (by omega)]
def TextPost (o:ByteArray × Int) (w:World) (e:Ending) (w':World):Prop:=e=.returned (.tuple #[.string o.1,.int .i64 o.2])/\Below w.heap.size w w'
theorem etext_any (hTr:TreeLaw) {w:World} {A1 A2 A3:Option Addr} {c1 c2 c3:Nat} {g:Sig} (h:SigAt w A1 c1 A2 c2 A3 c3 g) (hl1:g.sorts.length<=1000000) (hl2:g.funs.length<=1000000) (hl3:g.macros.length<=1000000) {A:Option Addr} {t:List Node} {c:Nat} (ht:Lies 8 NodeR w A t) (hn:t.length<=1000000) (hc:t.length<=c) (hcm:c<=maxLen)
  (htab:∀ u,Below w.heap.size w u->TabOk u) (hnames:∀ f ∈ g.funs,(f.name.size:Int)<=140737488351232) (id:Int) :
  Calls Tryz.prog 8 #[.agg #[.slice A1 g.sorts.length c1,.slice A2 g.funs.length c2,.slice A3 g.macros.length c3],.agg #[.slice A t.length c],.int .i64 id] w (TextPost (textO g (tableE g t) t id) w):=by
 have HT:=kp ht;have HS:=kp h;have HN:=kp (And.intro hn (And.intro hc hcm));have HNm:=kp (And.intro htab hnames);have HTt:=kp (fun W (hW:Below w.heap.size w W)=>tytable_any (h.on hW) hl1 hl2 hl3 (c:=c) (ht.on NodeR.lasts hW) hn hc hcm);have HTe:=kp (fun W (hW:Below w.heap.size w W) (ha:Ahead t)=>hTr W A t c (ht.on NodeR.lasts hW) hn hc hcm ha);have HAh:=kp (fun h=>ahead_of (g:=g) (t:=t) h);have HTO:=kp (fun(b:Int) w' (h:textO g (tableE g t) t id=({ data:=#[] },b)) (hb:Below w.heap.size w w')=>(show TextPost (textO g (tableE g t) t id) w (.returned (.tuple #[.string { data:=#[] },.int .i64 b])) w' from by unfold TextPost;rw [h];exact⟨rfl,hb⟩));have S1:=kp (Bk.keep (Bk.new w (.cells #[.slice A1 g.sorts.length c1,.slice A2 g.funs.length c2,.slice A3 g.macros.length c3] 26)) (.cells #[.slice A t.length c] 29));have T1:=kp (Bk.new (w.alloc (.cells #[.slice A1 g.sorts.length c1,.slice A2 g.funs.length c2,.slice A3 g.macros.length c3] 26)) (.cells #[.slice A t.length c] 29));rw [show(w.alloc (.cells #[.slice A1 g.sorts.length c1,.slice A2 g.funs.length c2,.slice A3 g.macros.length c3] 26)).heap.size=w.heap.size+1 by simp] at T1;have B1:=kp (((brq w).alloc nlq (.cells #[.slice A1 g.sorts.length c1,.slice A2 g.funs.length c2,.slice A3 g.macros.length c3] 26)).alloc (by simp) (.cells #[.slice A t.length c] 29));have Z1:=kp (show w.heap.size+2<=((w.alloc (.cells #[.slice A1 g.sorts.length c1,.slice A2 g.funs.length c2,.slice A3 g.macros.length c3] 26)).alloc (.cells #[.slice A t.length c] 29)).heap.size by simp)
 have HOk:=kp (show ∀ k:Nat,k < t.length->tableE g t=0->id=(k:Int)->textO g (tableE g t) t id=if 4096 < treeN t k then({ data:=#[] },41) else if 8192 < (exprX g t k).textL.length then({ data:=#[] },41) else(bytesN (exprX g t k).textL,0) from fun k hk h0 hid=>by rw [h0,hid];exact textO_ok hk);have HBad:=kp (fun hb=>textO_bad (g:=g) (te:=tableE g t) (t:=t) (id:=id) hb);have HLn:=kp (fun h k hk=>text_len (g:=g) (t:=t) h k hk);have HEx:=kp (fun k n (hk:t[k]?=some n) h=>exprX_eq (g:=g) (ahead_of (g:=g) (t:=t) h) hk);have HW:=kp (fun W (hW:Below w.heap.size w W) (h0:tableE g t=0) gb tb (q1:W.cell? ⟨gb,1,none⟩=some (.slice A2 g.funs.length c2)) (q2:gb < W.heap.size) (q3:W.cell? ⟨tb,0,none⟩=some (.slice A t.length c)) (q4:tb < W.heap.size)=>(⟨q1,q2,q3,q4,h.funs.on FunR.lasts hW,ht.on NodeR.lasts hW,h0,nlq,fun u hu=>htab u (hW.trans (hu.mono hW.size)),hn,hnames⟩:WrF W W.heap.size W.heap.size gb tb A2 A c2 c g t));clear h ht hTr hn hc hcm htab hnames;generalize hte:tableE g t=te at *;generalize hres:textO g te t id=res at *
 go_enter Tryz.func8,Tryz.ntmps8
 go_upto_region 1 with fail
 generalize (w.alloc (.cells #[.slice A1 g.sorts.length c1,.slice A2 g.funs.length c2,.slice A3 g.macros.length c3] 26)).alloc (.cells #[.slice A t.length c] 29)=w1 at *;obtain ⟨s0,s1,s2,sf⟩:=Bk.c3 S1.out;obtain ⟨t0,tf⟩:=Bk.c1 T1.out;go_wp2_with fail
 refine(HTt.out w1 B1.out).mono ?_;rintro e w2 ⟨rfl,hb2⟩;have B2:=kp (B1.out.trans (hb2.mono B1.out.size));have S2:=kp (Bk.on S1.out hb2);have T2:=kp (Bk.on T1.out hb2);have Z2:=kp (Nat.le_trans Z1.out hb2.size);clear hb2 s0 s1 s2 sf t0 tf S1 T1 Z1;obtain ⟨t0,tf⟩:=Bk.c1 T2.out
 by_cases h0:te=0
 ·have h0':(te != 0)=false:=by simp [h0]
  by_cases hneg:id < 0
  ·have hR:=kp (HBad.out (.inr (.inl hneg)));go_wp2_with fail
   go_ret2;exact HTO.out 2 _ hR.out B2.out
  ·by_cases hge:(t.length:Int)<=id
   ·have hR:=kp (HBad.out (.inr (.inr hge)));go_wp2_with fail
    go_ret2;exact HTO.out 2 _ hR.out B2.out
   ·obtain ⟨k,rfl⟩:∃ k:Nat,id=(k:Int):=⟨id.toNat,by omega⟩;have hk:k < t.length:=by omega
    have hR:=kp (HOk.out k hk h0 rfl);have HTe1:=kp (HTe.out w2 B2.out (HAh.out h0) k hk);have HL:=kp (HLn.out h0 k hk);obtain ⟨n,hnk⟩:∃ n,t[k]?=some n:=⟨_,gqe hk⟩;have HE:=kp (show(exprX g t k).textL≠[] by rw [HEx.out k n hnk h0];exact text_some _ _ _);have HW0:=kp (fun W hW=>HW.out W hW h0);have hk2:(k:Int) < (t.length:Int):=by omega
    clear HTt HTe HAh HOk HBad HLn HEx HW hnk;go_wp2_with fail
    refine HTe1.out.mono ?_;rintro e w3 ⟨rfl,hb3⟩;have B3:=kp (B2.out.trans (hb3.mono B2.out.size));have S3:=kp (Bk.on S2.out hb3);have T3:=kp (Bk.on T2.out hb3);clear hb3 t0 tf S2 T2 Z2 HTe1;generalize treeN t k=tn at *
    by_cases h4:4096 < tn
    ·have hR2:=kp (hR.out.trans (if_pos h4));have h4':decide (tn > 4096)=true:=decide_eq_true h4;go_wp2_with fail
     go_ret2;exact HTO.out 41 _ hR2.out B3.out
    ·have hR2:=kp (hR.out.trans (if_neg h4));have h4':decide (tn > 4096)=false:=dfq h4;have hlen:=HL.out (by omega);have HF:=kp (HW0.out w3 B3.out w.heap.size (w.heap.size+1) (by rw [cell_of_cells S3.out];rfl) (lt_of_block S3.out) (by rw [cell_of_cells T3.out];rfl) (lt_of_block T3.out));have HE0:=kp (show EW w3.heap.size w3.heap.size (.pointer (some ⟨w.heap.size,0,none⟩)) (.pointer (some ⟨w.heap.size+1,0,none⟩)) [] (w3.alloc (.cells #[.pointer none,.slice none 0 0,.pointer (some ⟨w.heap.size,0,none⟩),.pointer (some ⟨w.heap.size+1,0,none⟩)] 70)) from .inl ⟨nlq,.slice none 0 0,heap_alloc_new w3 _,World.ownsRow_nil _ _ _ _,by simp [Value.ownBlock]⟩);have B4:=kp ((brq w3).alloc nlq (.cells #[.pointer none,.slice none 0 0,.pointer (some ⟨w.heap.size,0,none⟩),.pointer (some ⟨w.heap.size+1,0,none⟩)] 70));have HP:=kp (put_all HF.out k hk (w3.alloc (.cells #[.pointer none,.slice none 0 0,.pointer (some ⟨w.heap.size,0,none⟩),.pointer (some ⟨w.heap.size+1,0,none⟩)] 70)) [] B4.out HE0.out (by rw [List.length_nil];omega));rw [List.nil_append] at HP;generalize (exprX g t k).textL=T at *;clear HL HF HE0 HW0 hR;go_wp2_with fail
     refine HP.out.mono ?_;rintro e w5 ⟨rfl,h5,hb5⟩;have B5:=kp (B3.out.trans ((B4.out.trans hb5.below).mono B3.out.size));have HLn:=kp (e_blen_any _ _ _ _ h5);have HSg:=kp (e_bstring_any _ _ _ _ h5 HE.out);clear h5 hb5;go_wp2_with fail
     refine HLn.out.mono ?_;rintro e w5' ⟨rfl,rfl⟩
     by_cases h8:8192 < T.length
     ·have h8':decide ((T.length:Int) > 8192)=true:=decide_eq_true (by omega);have hR3:=kp (hR2.out.trans (if_pos h8));go_wp2_with fail
      go_ret2;exact HTO.out 41 _ hR3.out B5.out
     ·have h8':decide ((T.length:Int) > 8192)=false:=dfq (by omega);have hR3:=kp (hR2.out.trans (if_neg h8));go_wp2_with fail
      refine HSg.out.mono ?_;rintro e w6 ⟨rfl,hb6⟩;have HZ:=kp (show TextPost res w (.returned (.tuple #[.string (bytesN T),.int .i64 0])) w6 from by unfold TextPost;rw [hR3.out];exact⟨rfl,B5.out.trans (hb6.mono B3.out.size)⟩);clear hb6;go_wp2_with fail
      go_ret2;exact HZ.out
 ·have h0':(te != 0)=true:=by simp [h0]
  have hR:=kp (HBad.out (.inl h0));go_wp2_with fail
  go_ret2;exact HTO.out 2 _ hR.out B2.out
theorem bytesN_size (l:List UInt8):(bytesN l).size=l.length:=by rw [← Lx.bs_length];unfold bytesN;rw [Lx.bs_mk]
end El
end Go.Proofs.YtpmdcckapddchaaGreatDoor
