import Derived.Test.YtmcbolkpbklfeaaGreatDoorShort
import Derived.Test.YtmcbolkpbklfeaaGreatDoorMj
import Derived.Test.YtmcbolkpbklfeaaGreatDoorMf
import Derived.Test.YtmcbolkpbklfeaaGreatDoorMd
import Derived.Test.YtmcbolkpbklfeaaGreatDoorMb
import Derived.Test.YtmcbolkpbklfeaaGreatDoorMc
import Derived.Lib.ItoaLen
import Derived.Deep.RegionHeld3
import Derived.WalkMore
/- merged by wip/merge.py from: CmdNames CmdWords CmdLists CmdFun CmdDefine -/
set_option maxRecDepth 100000
set_option maxHeartbeats 51200000
namespace Go.Proofs.YtmcbolkpbklfeaaGreatDoor
namespace Cm
open Go.RowKit Dt
theorem info_str:(Tryz.prog.info? 9).map (fun i=>(i.zero,i.size,i.bytes))=some (some (.string { data:=#[] }),1,16):=by kernel_rfl
theorem shape_of_owns {w:World} {B n s:Nat} {t:TypeId} {v:Value} {xs:List Value} (h:w.ownsRow B t s v n xs):∃ A c,v=.slice A n c:=by
 rcases h.2 with⟨rfl,rfl⟩ | ⟨g,cap,cur,rfl,_⟩
 ·exact⟨none,0,rfl⟩
 ·exact⟨_,cap,rfl⟩
theorem owns_keep {S:Nat->Prop} {w w':World} {B m n:Nat} {t:TypeId} {v:Value} {xs:List Value} (h:w.ownsRow B t m v n xs) (hk:Keeps S w w') (hS:∀ k,S k->k < B):w'.ownsRow B t m v n xs:=by
 refine⟨h.1,?_⟩;rcases h.2 with h1 | ⟨g,cap,cur,h1,h2,h3,h4⟩
 ·exact .inl h1
 ·exact .inr ⟨g,cap,cur,h1,h2,(hk.block g (lt_of_block h3) (fun hs=>by have:=hS g hs;omega)).trans h3,h4⟩
theorem ParB.grown {w w':World} {pb:Nat} {L:Value} {cv:Nat->Value} {b:Bool} {row:Option Nat} (h:ParB w pb L cv b) (hg:w.grownBy w' row) (hne:row≠some pb):ParB w' pb L cv b:=by
 obtain ⟨cs,h1,h2⟩:=h.block;exact⟨cs,by rw [hg.block _ (lt_of_block h1) (fun e=>hne e.symm)];exact h1,h2⟩
section
variable {α:Type} {n:Nat} {R:World->List Value->α->Prop} {t:TypeId} {w0 w w':World} {base:Nat} {v:Value} {xs:List α}
theorem grows_keep {S:Nat->Prop} (h:Grows n R t w0 base w v xs) (hk:Keeps S w w') (hS:∀ k,S k->k < base):Grows n R t w0 base w' v xs:=by
 obtain ⟨vals,ho,hr⟩:=h.row;refine⟨vals,⟨ho.1,?_⟩,hr⟩;rcases ho.2 with h1 | ⟨g,cap,cur,h1,h2,h3,h4⟩
 ·exact .inl h1
 ·exact .inr ⟨g,cap,cur,h1,h2,(hk.block g (lt_of_block h3) (fun hs=>by have:=hS g hs;omega)).trans h3,h4⟩
theorem grows_new {A:Option Addr} {c:Nat} (hR:Flat R) (h:Grows n R t w0 base w (.slice A xs.length c) xs):NewLies n R base w A xs:=by
 obtain ⟨vals,ho,hr⟩:=h.row;rcases ho.2 with⟨h1,h2⟩ | ⟨g,cap,cur,h1,hg,hat,h2,h3,h4,h5⟩
 ·exact .inl (List.length_eq_zero_iff.1 h2)
 ·simp only [Value.slice.injEq] at h1;refine .inr ⟨g,0,h1.1,hg,(Array.getElem?_eq_some_iff.1 hat).1,fun i x hx=>?_⟩;obtain ⟨vs,e1,e2,e3⟩:=hr i x hx;refine⟨vs,e1,fun j u hu=>?_,hR _ _ _ _ e2⟩;rw [Nat.zero_add,cell_of_row w g (i * n+j) cur t (0,0) hat];have:=e3 j u hu;rw [← h5,List.getElem?_take] at this
  split at this
  ·simpa using this
  ·cases this
end
def okL (b:Bool) (x:Sexp) (lo hi:Nat):List Sexp:=if b || !sized x lo hi then [] else x.l
def noSym (y:Sexp):Bool:=!decide (y.kind=0)
def NamesPost (w:World) (pb:Nat) (L:Value) (cv:Nat->Value) (b:Bool) (ys:List Sexp) (e:Ending) (w':World):Prop :=
 ∃ A' c',(e=.returned (.slice A' ys.length c')/\ys.length<=c'/\c'<=maxLen)/\NewLies 1 StrR w.heap.size w' A' (ys.map Sexp.text)/\ParB w' pb L cv (b || ys.any noSym)/\KeepP pb w w'
theorem any_take {f:Sexp->Bool} {ys:List Sexp} {k:Nat} {y:Sexp} (h:ys[k]?=some y):(ys.take (k+1)).any f=((ys.take k).any f || f y):=by
 rw [List.take_add_one,h];simp
theorem map_take' {β:Type} {f:Sexp->β} {ys:List Sexp} {k:Nat} {y:Sexp} (h:ys[k]?=some y):(ys.take (k+1)).map f=(ys.take k).map f ++ [f y]:=by
 rw [List.take_add_one,h];simp
theorem names_any {W0 w:World} {pb:Nat} {L:Value} {cv:Nat->Value} {b:Bool} (h:ParB w pb L cv b) (x:Sexp) (A:Option Addr) (c:Nat) (hr:SexpR W0 [.int .i8 x.kind,.string x.text,.slice A x.l.length c] x) (hb:Below W0.heap.size W0 w) (hp:W0.heap.size<=pb) (lo hi:Nat) :
  Calls Tryz.prog 117 #[ptrP pb,agS x A c,.int .i64 lo,.int .i64 hi] w (NamesPost w pb L cv (b || !sized x lo hi) (okL b x lo hi)):=by
 obtain ⟨_,_,e,hl,_,_,_,hlb,_⟩:=hr.open';simp only [List.cons.injEq,Value.slice.injEq,and_true,true_and] at e;obtain ⟨rfl,rfl⟩:=e;have HLt:=kp h.lt;have HS:=kp (fun W (hW:ParB W pb L cv b)=>list_any hW x A c lo hi (by omega));have HY:=kp (fun W cv b (hW:ParB W pb L cv b) y A' c'=>symbol_any hW y A' c')
 obtain ⟨Av,cw,hV,hlv,hll⟩:∃ Av cw,(if b || !sized x lo hi then .slice none 0 0 else .slice A x.l.length c:Value)=.slice Av (okL b x lo hi).length cw/\Lies 3 SexpR W0 Av (okL b x lo hi)/\(okL b x lo hi).length<=4398046511104:=by
  unfold okL
  split
  ·exact⟨none,0,rfl,.inl rfl,Nat.zero_le _⟩
  ·exact⟨A,c,rfl,hl,by omega⟩
 have HV:=kp hV;have HL:=kp hlv;have HBW:=kp hb;have HP1:=kp (h.below ((Below.refl _ _).alloc nlq (.cells #[.int .i8 x.kind,.string x.text,.slice A x.l.length c] 81)));have HK1:=kp (show KeepP pb w (w.alloc (.cells #[.int .i8 x.kind,.string x.text,.slice A x.l.length c] 81)) from(Keeps.refl _ _).alloc _);clear h hr hl hb hV hlv;generalize okL b x lo hi=ys at *;generalize (b || !sized x lo hi)=q at *;unfold agS ptrP at *;have HLen:=kp hll;clear hll hlb;generalize x.kind=xk at *;generalize x.text=xt at *;generalize x.l.length=xn at *
 go_enter Tryz.func117,Tryz.ntmps117
 go_wp2_with fail
 refine(HS.out _ HP1.out).mono ?_;rintro e w1 ⟨rfl,h1,k1⟩;rw [HV.out];have P1:=kp h1;have K1:=kp (HK1.out.trans_same k1);obtain ⟨i0,hi0,z0,z1,z2⟩:=info_parts info_str;have I0:=kp hi0;have I1:=kp z0;have I2:=kp z1;have I3:=kp z2;clear h1 k1 hi0 z0 z1 z2;go_wp2_with fail
 go_loopw [8,17] (fun v' i' wr=>∃ k:Nat,k<=ys.length/\i'=.int .i64 k/\Grows 1 StrR 9 W0 w.heap.size wr v' ((ys.take k).map Sexp.text)/\ParB wr pb L cv (q || (ys.take k).any noSym)/\KeepP pb w wr) (fun _ i' _=>ys.length - (intOf i').toNat)
 case atStart=>exact⟨0,Nat.zero_le _,rfl,Grows.nil _,by simpa using P1.out,K1.out⟩
 case round =>
  obtain ⟨k,hk,rfl,hg,hpr,hkp⟩:=hrel;have HG:=kp hg;have HPr:=kp hpr;have HKp:=kp hkp;obtain ⟨vals,ho,hrr⟩:=hg.row;have hlk:((ys.take k).map Sexp.text).length=k:=by simp;omega
  have hvl:vals.length=((ys.take k).map Sexp.text).length * 1:=ho.1;rw [hlk] at ho;obtain ⟨Ao,co,rfl⟩:=shape_of_owns ho;have HOw:=kp ho;have HRr:=kp hrr;have HLk:=kp hlk;have HVl:=kp hvl;clear hg hpr ho hrr hlk hvl
  by_cases hlt:k < ys.length
  ·have hlt2:(k:Int) < (ys.length:Int):=by omega
   have hyk:=gqe hlt;generalize ys[k]=y at hyk;have HBr:=kp (HBW.out.trans (keepP_below hkp hp HBW.out.size));obtain ⟨bb,o,A2,c2,rfl,hbl,e0,e1,e2,hr2⟩:=sexp_cells (HL.out.on SexpR.lasts HBr.out) hyk;have HSt:=kp (show(y.text.size:Int)<=140737488351232 by obtain ⟨_,_,_,_,_,_,h1,_⟩:=hr2.open';exact h1);have HAn:=kp (any_take (f:=noSym) hyk);have HMp:=kp (map_take' (f:=Sexp.text) hyk);obtain ⟨q0,q1,q2,_⟩:=box_cells wr (.int .i8 y.kind) (.string y.text) (.slice A2 y.l.length c2) 81;have HP2:=kp (HPr.out.below ((Below.refl _ _).alloc nlq (.cells #[.int .i8 y.kind,.string y.text,.slice A2 y.l.length c2] 81)));have HK2:=kp (show KeepP pb wr (wr.alloc (.cells #[.int .i8 y.kind,.string y.text,.slice A2 y.l.length c2] 81)) from(Keeps.refl _ _).alloc _);have HSz:=kp hkp.size;clear hkp hr2 hyk;go_wp2_with fail
   refine(HY.out _ _ _ HP2.out y A2 c2).mono ?_;rintro e w2 ⟨rfl,h2,k2⟩;have K2:=kp (HK2.out.trans_same k2);have P2:=kp (h2.below ((Below.refl _ _).alloc nlq (.cells #[.string y.text] 9)))
   have HOw2:=kp (show World.ownsRow (w2.alloc (.cells #[.string y.text] 9)) w.heap.size 9 1 (.slice Ao k co) k vals from
    (owns_keep HOw.out K2.out (fun j hj=>by subst hj;exact HLt.out)).alloc _)
   have HC:=kp (Cells.new w2 [.string y.text] 9 (0,0));have HSz2:=kp (Nat.le_trans HSz.out K2.out.size);clear h2 k2 q0 q1 q2 e0 e1 e2;have hk48:k < 4398046511104:=Nat.lt_of_lt_of_le hlt HLen.out
   go_wp2_with (at_builtin;refine wpList_append_at rfl (.tmp 21) (.tmp 25) _ rfl w.heap.size 9 i0 (.string { data:=#[] }) 1 16 Tryz.underlying25 I0.out I1.out I2.out I3.out rfl (by decide) (.slice Ao k co) k vals rfl HOw2.out (some ⟨w2.heap.size,0,none⟩) 1 1 [.string y.text] rfl rfl HC.out (by simp [Value.oneCell']) (by unfold maxLen;omega) (by omega) (by have:=HSz2.out;simp;omega) ?_)
   intro v' w3 hown hgr hat
   have HG3:=kp (show Grows 1 StrR 9 W0 w.heap.size w3 v' ((ys.take (k+1)).map Sexp.text) from by
    rw [HMp.out];exact Grows.push (vs:=[.string y.text]) HVl.out HRr.out (by rw [HLk.out];exact hown) ⟨rfl,HSt.out⟩ rfl)
   have HP3:=kp (P2.out.grown hgr (fun e=>by have:=(HOw2.out.lt pb e).1;have:=HLt.out;omega));have HK3:=kp (show KeepP pb w w3 from((HKp.out.trans_same K2.out).alloc _).grown hgr (fun j hj=>.inr (HOw2.out.lt j hj).1));clear hown hgr hat;go_wp2_with fail
   go_roundw
   case rel=>exact⟨k+1,by omega,by go_num,HG3.out,by rw [HAn.out,← Bool.or_assoc];exact HP3.out,HK3.out⟩
   case measure=>simp [intOf];omega
  ·obtain rfl:k=ys.length:=by omega
   have HNL:=kp (show NewLies 1 StrR w.heap.size wr Ao (ys.map Sexp.text) from grows_new (n:=1) (t:=9) (w0:=W0) (c:=co) strR_flat (by
    have h:=HG.out;rw [List.take_length] at h;rw [List.length_map];exact h))
   have HSh:=kp (show ys.length<=co/\co<=maxLen by
    obtain ⟨A9,c9,e,h1,h2⟩:=HG.out.shape;simp only [Value.slice.injEq] at e;obtain ⟨_,_,rfl⟩:=e;rw [HLk.out] at h1;exact⟨h1,h2⟩)
   have HPe:=kp (show ParB wr pb L cv (q || ys.any noSym) by have h:=HPr.out;rw [List.take_length] at h;exact h);clear hkp;go_wp2_with fail
   go_ret;exact⟨Ao,co,⟨rfl,HSh.out⟩,HNL.out,HPe.out,HKp.out⟩
end Cm
namespace Cm
open Go.RowKit Dt
theorem info_sexp:(Tryz.prog.info? 81).map (fun i=>(i.zero,i.size,i.bytes))=some (some (.agg #[.int .i8 0,.string { data:=#[] },.slice none 0 0]),3,48):=by kernel_rfl
theorem sexp_ret {f:Func} {w:World} {b:Nat} {r0 r1 r2:Value} {act:Act} {t:TypeId} {R:Ending->World->Prop} (hf:f.results=#[.cell 2 81]) (hb:w.heap[b]?=some (.cells #[r0,r1,r2] t (0,0))) (h2:act.tmps[2]?=some (.pointer (some ⟨b,0,none⟩))) (hd:act.defers=[]) (hR:R (.returned (.agg #[r0,r1,r2])) w) :
  bodyPost Tryz.prog f R .ret act w:=by
 obtain ⟨y0,y1,y2,_⟩:=three_cells hb;refine bodyPost_ret (v:=.agg #[r0,r1,r2]) ?_ hd hR;simp [results,hf,go_sem,y0,y1,y2,h2]
theorem sym_any (s:ByteArray) (w:World):Calls Tryz.prog 178 #[.string s] w fun e w'=>e=.returned (.agg #[.int .i8 0,.string s,.slice none 0 0])/\Below w.heap.size w w':=by
 go_enter Tryz.func178,Tryz.ntmps178
 go_wp2_with fail
 exact sexp_ret Tryz.results178 (blk_new _ _) rfl rfl ⟨rfl,(Below.refl _ _).alloc nlq _⟩
theorem clist_any (A:Option Addr) (n c:Nat) (w:World):Calls Tryz.prog 177 #[.slice A n c] w fun e w'=>e=.returned (.agg #[.int .i8 3,.string { data:=#[] },.slice A n c])/\Below w.heap.size w w':=by
 go_enter Tryz.func177,Tryz.ntmps177
 go_wp2_with fail
 exact sexp_ret Tryz.results177 (blk_new _ _) rfl rfl ⟨rfl,(Below.refl _ _).alloc nlq _⟩
theorem numeral_any (n:Int) (hn:I64 n) (w:World) (ht:TabOk w):Calls Tryz.prog 179 #[.int .i64 n] w fun e w'=>e=.returned (.agg #[.int .i8 1,.string ⟨(textL n).toArray⟩,.slice none 0 0])/\Below w.heap.size w w':=by
 have HT:=kp (text_any n hn (w.alloc (.cells #[.int .i8 0,.string { data:=#[] },.slice none 0 0] 81)) (ht.on ((Below.refl _ _).alloc nlq _)));have HZ:=kp (blk_new w (.cells #[.int .i8 0,.string { data:=#[] },.slice none 0 0] 81));clear ht
 go_enter Tryz.func179,Tryz.ntmps179
 go_wp2_with fail
 refine HT.out.mono ?_;rintro e w1 ⟨rfl,hb⟩;have HB:=kp (((brq w).alloc nlq (.cells #[.int .i8 0,.string { data:=#[] },.slice none 0 0] 81)).trans (hb.mono (by simp)));have HZ1:=kp ((hb.block _ (lt_of_block HZ.out)).trans HZ.out);obtain ⟨z0,z1,z2,zf⟩:=three_cells HZ1.out;clear hb;go_wp2_with fail
 exact sexp_ret (w:=set3 w1 w.heap.size (.int .i8 1) (.string ⟨(textL n).toArray⟩) (.slice none 0 0)) Tryz.results179 (three_set HZ1.out _ _ _) rfl rfl ⟨rfl,(set3_keeps (S:=fun _=>False) (Keeps.of_below HB.out _) (.inr nlq) _ _ _).none_below⟩
theorem str_size {w:World} {A:Option Addr} {l:List ByteArray} (h:Lies 1 StrR w A l) {k:Nat} (hk:k < l.length):((l.getD k noS).size:Int)<=140737488351232:=by
 obtain ⟨b,o,vs,hA,_,_,hc,hr⟩:=h.at' (gqe hk);rw [List.getD_eq_getElem?_getD,gqe hk];exact hr.2
def SymR (_:World) (vs:List Value) (s:ByteArray):Prop:=vs=[.int .i8 0,.string s,.slice none 0 0]/\(s.size:Int)<=140737488351232
theorem symR_flat:Flat SymR:=fun _ _ _ _ h=>h
theorem NewLies.mono {α:Type} {n B B':Nat} {R:World->List Value->α->Prop} {w:World} {A:Option Addr} {xs:List α} (h:NewLies n R B w A xs) (hB:B'<=B):NewLies n R B' w A xs :=
 h.imp_right fun⟨b,o,h1,h2,h3⟩=>⟨b,o,h1,Nat.le_trans hB h2,h3⟩
theorem take_snoc {α:Type} {l:List α} {k:Nat} {d:α} (h:k < l.length):l.take (k+1)=l.take k ++ [l.getD k d]:=by
 rw [List.take_add_one,List.getD_eq_getElem?_getD,gqe h];simp
def SymsPost (w:World) (l:List ByteArray) (e:Ending) (w':World):Prop :=
 ∃ A' c',(e=.returned (.agg #[.int .i8 3,.string { data:=#[] },.slice A' l.length c'])/\l.length<=c'/\c'<=maxLen)/\NewLies 3 SymR w.heap.size w' A' l/\Below w.heap.size w w'
theorem syms_any (l:List ByteArray) (A:Option Addr) (c:Nat) (w:World) (hl:Lies 1 StrR w A l) (h2:l.length<=1000000):Calls Tryz.prog 176 #[.slice A l.length c] w (SymsPost w l):=by
 have HL:=kp hl;have HC:=kp (fun W=>clist_any none 0 0 W);have HS:=kp (fun s W=>sym_any s W);have HZ:=kp (blk_new w (.cells #[.int .i8 0,.string { data:=#[] },.slice none 0 0] 81));obtain ⟨i0,hi0,z0,z1,z2⟩:=info_parts info_sexp;have I0:=kp hi0;have I1:=kp z0;have I2:=kp z1;have I3:=kp z2;clear hi0 z0 z1 z2 hl
 go_enter Tryz.func176,Tryz.ntmps176
 go_wp2_with fail
 refine(HC.out _).mono ?_;rintro e w1 ⟨rfl,hb1⟩;have B1:=kp (((brq w).alloc nlq (.cells #[.int .i8 0,.string { data:=#[] },.slice none 0 0] 81)).trans (hb1.mono (by simp)));have Z1:=kp ((hb1.block _ (lt_of_block HZ.out)).trans HZ.out);have M0:=kp (blk_new w1 (.cells #[.int .i8 3,.string { data:=#[] },.slice none 0 0] 81));have HNm:=kp (show w.heap.size < w1.heap.size from lt_of_block Z1.out);have B2:=kp (B1.out.alloc B1.out.size (.cells #[.int .i8 3,.string { data:=#[] },.slice none 0 0] 81));have Z2:=kp ((Below.heap_alloc w1 (.cells #[.int .i8 3,.string { data:=#[] },.slice none 0 0] 81) _ (lt_of_block Z1.out)).trans Z1.out);clear hb1 HZ B1 Z1;go_upto_region 2 with fail
 have HBs0:=kp (show w1.heap.size+1=(w1.alloc (.cells #[.int .i8 3,.string { data:=#[] },.slice none 0 0] 81)).heap.size by simp);generalize (w1.alloc (.cells #[.int .i8 3,.string { data:=#[] },.slice none 0 0] 81))=w2 at *;generalize hm:w1.heap.size=m at *;clear hm;generalize hbs:m+1=bs at *;have HMb:=kp (show m < bs by omega);clear hbs;go_wp2_with fail
 go_loopw [9] (fun i' wr=>∃ k:Nat,k<=l.length/\i'=.int .i64 k/\∃ v':Value,Grows 3 SymR 81 w bs wr v' (l.take k)/\wr.heap[m]?=some (.cells #[.int .i8 3,.string { data:=#[] },v'] 81 (0,0))/\Keeps (fun j=>j=m\/bs<=j) w2 wr) (fun i' _=>l.length - (intOf i').toNat)
 case atStart=>exact⟨0,Nat.zero_le _,rfl,.slice none 0 0,Grows.nil _,M0.out,Keeps.refl _ _⟩
 case round =>
  obtain ⟨k,hk,rfl,v',hg,hm,hkp⟩:=hrel;have HG:=kp hg;have HM:=kp hm;have HKp:=kp hkp;obtain ⟨vals,ho,hrr⟩:=hg.row;have hlk:(l.take k).length=k:=by simp;omega
  have hvl:vals.length=(l.take k).length * 3:=ho.1;rw [hlk] at ho;obtain ⟨Ao,co,rfl⟩:=shape_of_owns ho;have HOw:=kp ho;have HRr:=kp hrr;have HLk:=kp hlk;have HVl:=kp hvl;have HBr:=kp (show Below w.heap.size w wr from B2.out.trans (hkp.below (fun j hj=>by have:=HNm.out;have:=HMb.out;omega) B2.out.size));have HBs:=kp (show bs<=wr.heap.size by have:=HBs0.out;have:=hkp.size;omega);clear hg hm ho hrr hlk hvl hkp
  by_cases hlt:k < l.length
  ·have hlt2:(k:Int) < (l.length:Int):=by omega
   obtain ⟨b,o,rfl,p0⟩:=str_get (HL.out.on StrR.lasts HBr.out) hlt;have HSz:=kp (str_size HL.out hlt);have HTk:=kp (take_snoc (d:=noS) hlt);generalize l.getD k noS=s at *;go_wp2_with fail
   clear p0;have PBx:=kp (brq wr).drew;have hMl:=kp (lt_of_block HM.out);obtain ⟨q0,q1,q2,_⟩:=three_cells HM.out;refine wp_region_to (by kernel_rfl) (fun W=>W.cell? ⟨m,2,none⟩=some (.slice Ao k co)) 7 (q2) (fun hHeld=>?_);clear q0 q1 q2;refine wpTo_take (i:=0) (oi:=Oper.mk _ _ _ _ _ _) (v:=?_) rfl (by kernel_rfl) (by kernel_rfl) (by kernel_rfl) (by kernel_rfl) (fun _ _ _ h=>h) (Or.inl ⟨by rfl,?_⟩) (by assumption) ?_;rotate_left
   ·(intro w hSw;go_simp;try with_reducible rfl)
   try simp only [pt]
   refine wpTo_take (i:=1) (oi:=Oper.mk _ _ _ _ _ _) (v:=?_) rfl (by kernel_rfl) (by kernel_rfl) (by kernel_rfl) (by kernel_rfl) (fun _ _ _ h=>h) (Or.inl ⟨by rfl,?_⟩) (by assumption) ?_;rotate_left
   ·(intro w hSw;go_simp;try with_reducible rfl)
   try simp only [pt]
   refine wpTo_take (i:=2) (oi:=Oper.mk _ _ _ _ _ _) (v:=?_) rfl (by kernel_rfl) (by kernel_rfl) (by kernel_rfl) (by kernel_rfl) (fun _ _ _ h=>h) (Or.inl ⟨by rfl,?_⟩) (by assumption) ?_;rotate_left
   ·(intro w hSw;go_simp;try with_reducible rfl)
   try simp only [pt]
   refine wpTo_step (i:=3) (o:=Oper.mk _ _ _ _ _ _) (by kernel_rfl) rfl (fun K hK=>?_);go_simp
   go_wp2_with (go_at_call 178;refine(HS.out s _).mono ?_;rintro e w8 ⟨rfl,hb8⟩;have B8:=kp (PBx.out.trans hb8);have M8:=kp ((B8.out.block _ hMl.out).trans HM.out);obtain ⟨q0,q1,q2,_⟩:=three_cells M8.out)
   refine hK.out _ _ (q2) (fun hHeld=>?_);clear hK K;try simp only [pt]
   have O8:=kp (owns_keep HOw.out (Keeps.of_below B8.out (fun _=>False)) (fun _ h=>h.elim));have OA:=kp (show World.ownsRow (w8.alloc (.cells #[.int .i8 0,.string s,.slice none 0 0] 81)) bs 81 3 (.slice Ao k co) k vals from O8.out.alloc _);have BA:=kp (B8.out.alloc B8.out.size (.cells #[.int .i8 0,.string s,.slice none 0 0] 81));have MA:=kp ((BA.out.block _ hMl.out).trans HM.out);have CA:=kp (Cells.new w8 [.int .i8 0,.string s,.slice none 0 0] 81 (0,0));obtain ⟨r0,r1,r2,_⟩:=three_cells MA.out;clear hb8 q0 q1 q2;refine wpTo_step (i:=4) (o:=Oper.mk _ _ _ _ _ _) (by kernel_rfl) rfl (fun K hK=>?_);go_simp;refine hK.out _ _ (r2) (fun hHeld=>?_);clear hK K;try simp only [pt]
   clear r0 r1 r2;refine wpTo_step (i:=5) (o:=Oper.mk _ _ _ _ _ _) (by kernel_rfl) rfl (fun K hK=>?_)
   (refine step_append_at (by rfl) _ _ _ (by rfl) bs 81 i0 (.agg #[.int .i8 0,.string { data:=#[] },.slice none 0 0]) 3 48 Tryz.underlying63 I0.out I1.out I2.out I3.out rfl (by decide) (.slice Ao k co) k vals (by rfl) OA.out (some ⟨w8.heap.size,0,none⟩) 1 1 [.int .i8 0,.string s,.slice none 0 0] (by rfl) rfl CA.out (by simp [Value.oneCell']) (by unfold maxLen;omega) (by omega) (by have:=HBs.out;have:=BA.out.size;omega) ?_;intro v' w9 hown hgr hat;obtain ⟨A9,c9,rfl⟩:=shape_of_owns hown;have M9:=kp ((hgr.block m (Nat.lt_of_lt_of_le hMl.out BA.out.size) (fun e=>by have h1:=(OA.out.lt m e.symm).1;have h2:=HMb.out;omega)).trans MA.out);obtain ⟨r0,r1,r2,rf⟩:=three_cells M9.out)
   refine hK.out _ _ (r2) (fun hHeld=>?_);clear hK K;try simp only [pt]
   have K9:=kp (show Keeps (fun j=>bs<=j) wr w9 from(Keeps.of_below BA.out _).grown hgr (fun j hj=>.inl (OA.out.lt j hj).1));refine wpTo_step (i:=6) (o:=Oper.mk _ _ _ _ _ _) (by kernel_rfl) rfl (fun K hK=>?_);go_simp;refine hK.out _ _ ((by assumption)) (fun hHeld=>?_);clear hK K;try simp only [pt]
   clear r0 r1 r2 rf;obtain ⟨r0,r1,r2,rf⟩:=three_cells M9.out;refine wpTo_last (o:=Oper.mk _ _ _ _ _ _) (by kernel_rfl) rfl (fun K hK=>?_);go_simp;refine hK.out _ _ ?_;clear hK K;try simp only [pt]
   refine wpTo_done (by kernel_rfl) ?_ _;clear hHeld r0 r1 r2 rf;have M10:=kp (show(w9.setCell ⟨m,2,none⟩ (.slice A9 (k+1) c9)).heap[m]?=some (.cells #[.int .i8 3,.string { data:=#[] },.slice A9 (k+1) c9] 81 (0,0)) from by simp [World.setCell,Array.getElem?_modify,M9.out]);have K10:=kp (show Keeps (fun j=>j=m\/bs<=j) wr (w9.setCell ⟨m,2,none⟩ (.slice A9 (k+1) c9)) from(K9.out.mono (fun j hj=>.inr hj)).setCell (p:=⟨m,2,none⟩) (.inl (.inl rfl)) _)
   have HG10:=kp (show Grows 3 SymR 81 w bs w9 (.slice A9 (k+1) c9) (l.take (k+1)) from by
    rw [HTk.out];exact Grows.push (vs:=[.int .i8 0,.string s,.slice none 0 0]) HVl.out HRr.out (by rw [HLk.out];exact hown) ⟨rfl,HSz.out⟩ rfl)
   have HG11:=kp (HG10.out.setCell (p:=⟨m,2,none⟩) (.slice A9 (k+1) c9) HMb.out);clear hown hgr hat;go_wp2_with fail
   go_roundw
   case rel=>exact⟨k+1,by omega,by go_num,.slice A9 (k+1) c9,HG11.out,M10.out,HKp.out.trans_same K10.out⟩
   case measure=>simp [intOf];omega
  ·obtain rfl:k=l.length:=by omega
   obtain ⟨q0,q1,q2,_⟩:=three_cells HM.out;have Zr:=kp ((HKp.out.block _ (lt_of_block Z2.out) (by have:=HNm.out;have:=HMb.out;omega)).trans Z2.out);obtain ⟨z0,z1,z2,zf⟩:=three_cells Zr.out;have HNL:=kp (show NewLies 3 SymR bs wr Ao l from grows_new (n:=3) (t:=81) (w0:=w) (c:=co) symR_flat (by have h:=HG.out;rw [List.take_length] at h;exact h))
   have HSh:=kp (show l.length<=co/\co<=maxLen by
    obtain ⟨A9,c9,e,h1,h2⟩:=HG.out.shape;simp only [Value.slice.injEq] at e;obtain ⟨_,_,rfl⟩:=e;rw [HLk.out] at h1;exact⟨h1,h2⟩)
   go_wp2_with fail
   have KZ:=set3_keeps (S:=fun j=>j=w.heap.size) (Keeps.refl _ wr) (.inl rfl) (.int .i8 3) (.string { data:=#[] }) (.slice Ao l.length co)
   exact sexp_ret (w:=set3 wr w.heap.size (.int .i8 3) (.string { data:=#[] }) (.slice Ao l.length co)) Tryz.results176 (three_set Zr.out _ _ _) rfl rfl
    ⟨Ao,co,⟨rfl,HSh.out⟩,(HNL.out.keep symR_flat KZ (fun j hj=>by have:=HNm.out;have:=HMb.out;omega)).mono (by have:=HNm.out;have:=HMb.out;omega),(set3_keeps (S:=fun _=>False) (Keeps.of_below HBr.out _) (.inr nlq) _ _ _).none_below⟩
theorem lies_flat {α:Type} {n:Nat} {R:World->List Value->α->Prop} {w:World} {A:Option Addr} {l:List α} (hone:∀ W vs x,R W vs x->∀ u ∈ vs,u.oneCell'=true) (h:Lies n R w A l) :
  ∃ vals:List Value,vals.length=l.length * n/\Cells w A vals/\(∀ u ∈ vals,u.oneCell'=true)/\∀ i x,l[i]?=some x->∃ vs:List Value,vs.length=n/\R w vs x/\∀ j u,vs[j]?=some u->vals[i * n+j]?=some u:=by
 rcases h with h | ⟨b,o,rfl,hlt,hr⟩
 ·subst h;exact⟨[],by simp,.inl rfl,by simp,fun i x hx=>by simp at hx⟩
 ·have key:∀ k,k<=l.length->∃ vals:List Value,vals.length=k * n/\(∀ u ∈ vals,u.oneCell'=true)/\(∀ j u,vals[j]?=some u->w.cell? ⟨b,o+j,none⟩=some u)/\∀ i x,i < k->l[i]?=some x->∃ vs:List Value,vs.length=n/\R w vs x/\∀ j u,vs[j]?=some u->vals[i * n+j]?=some u:=by
   intro k
   induction k with
   | zero=>intro _;exact⟨[],by simp,by simp,fun j u hu=>by simp at hu,fun i x hi=>by omega⟩
   | succ k ih =>
    intro hk;obtain ⟨vals,h1,h2,h3,h4⟩:=ih (by omega);have hx:=gqe (show k < l.length by omega);generalize l[k]=x at hx;obtain ⟨vs,e1,e2,e3⟩:=hr k x hx;refine⟨vals ++ vs,by rw [List.length_append,h1,e1,Nat.succ_mul],fun u hu=>?_,fun j u hu=>?_,fun i y hi hy=>?_⟩
    ·rcases List.mem_append.1 hu with hu | hu
     ·exact h2 u hu
     ·exact hone w vs x e3 u hu
    ·by_cases hj:j < vals.length
     ·rw [List.getElem?_append_left hj] at hu;exact h3 j u hu
     ·rw [List.getElem?_append_right (by omega)] at hu;have:=e2 _ u hu;rw [h1] at this
      rwa [show o+k * n+(j - k * n)=o+j by omega] at this
    ·by_cases he:i < k
     ·obtain ⟨us,a1,a2,a3⟩:=h4 i y he hy;refine⟨us,a1,a2,fun j u hu=>?_⟩;have:=a3 j u hu;rw [List.getElem?_append_left (gqs this).1];exact this
     ·obtain rfl:i=k:=by omega
      rw [hx] at hy
      cases hy
      exact⟨vs,e1,e3,fun j u hu=>by rw [List.getElem?_append_right (by omega),h1,show i * n+j - i * n=j by omega];exact hu⟩
  obtain ⟨vals,h1,h2,h3,h4⟩:=key l.length nlq;exact⟨vals,h1,.inr ⟨b,o,rfl,hlt,h3⟩,h2,fun i x hx=>h4 i x (gqs hx).1 hx⟩
theorem one_sexp (W:World) (vs:List Value) (x:Sexp) (h:SexpR W vs x):∀ u ∈ vs,u.oneCell'=true:=by
 obtain ⟨A,c,rfl,_⟩:=h.open';intro u hu;simp at hu;rcases hu with rfl | rfl | rfl <;> rfl
abbrev Bit:=Sexp × Option Addr × Nat
def cells3:List Bit->List Value
 | []=>[]
 | y :: r=>.int .i8 y.1.kind :: .string y.1.text :: .slice y.2.1 y.1.l.length y.2.2 :: cells3 r
def BitR (w:World) (y:Bit):Prop:=SexpR w [.int .i8 y.1.kind,.string y.1.text,.slice y.2.1 y.1.l.length y.2.2] y.1
theorem cells3_len:∀ ys:List Bit,(cells3 ys).length=ys.length * 3
 | []=>rfl
 | y :: r=>by unfold cells3;simp only [List.length_cons,cells3_len r];omega
theorem cells3_at:∀ (ys:List Bit) (i:Nat) (y:Bit),ys[i]?=some y->∀ j u,[Value.int .i8 y.1.kind,.string y.1.text,.slice y.2.1 y.1.l.length y.2.2][j]?=some u->(cells3 ys)[i * 3+j]?=some u
 | [],i,y,h=>by simp at h
 | y0 :: r,0,y,h=>fun j u hu=>by
  simp at h;subst h;have hj:j < 3:=by have:=(gqs hu).1;simpa using this
  unfold cells3
  match j,hj with
  | 0,_=>simpa using hu
  | 1,_=>simpa using hu
  | 2,_=>simpa using hu
 | y0 :: r,i+1,y,h=>fun j u hu=>by
  simp at h;have:=cells3_at r i y h j u hu;unfold cells3;rw [show(i+1) * 3+j=(i * 3+j)+1+1+1 by omega]
  simpa using this
theorem lit_lies {w:World} {nb:Nat} {t:TypeId} {ys:List Bit} {cs:Array Value} (hb:w.heap[nb]?=some (.cells cs t (0,0))) (hc:cs.toList=cells3 ys) (hr:∀ y ∈ ys,BitR w y):Lies 3 SexpR w (some ⟨nb,0,none⟩) (ys.map Prod.fst):=by
 refine .inr ⟨nb,0,rfl,lt_of_block hb,fun i x hx=>?_⟩;rw [List.getElem?_map] at hx
 cases hy:ys[i]? with
 | none=>rw [hy] at hx;cases hx
 | some y =>
  rw [hy] at hx;simp at hx;subst hx;refine⟨_,rfl,fun j u hu=>?_,hr y (mgq hy)⟩;rw [Nat.zero_add,cell_of_cells hb,← Array.getElem?_toList,hc];exact cells3_at ys i y hy j u hu
theorem owns_lies {w:World} {base n c:Nat} {t:TypeId} {A:Option Addr} {vals:List Value} {xs:List Sexp} (ho:w.ownsRow base t 3 (.slice A n c) n vals) (hn:xs.length=n)
  (hv:∀ i x,xs[i]?=some x->∃ vs:List Value,vs.length=3/\SexpR w vs x/\∀ j u,vs[j]?=some u->vals[i * 3+j]?=some u):Lies 3 SexpR w A xs:=by
 rcases ho.2 with⟨h1,h2⟩ | ⟨g,cap,cur,h1,hg,hat,h2,h3,h4,h5⟩
 ·exact .inl (List.length_eq_zero_iff.1 (by omega))
 ·simp only [Value.slice.injEq] at h1;refine .inr ⟨g,0,h1.1,(Array.getElem?_eq_some_iff.1 hat).1,fun i x hx=>?_⟩;obtain ⟨vs,e1,e2,e3⟩:=hv i x hx;refine⟨vs,e1,fun j u hu=>?_,e2⟩;rw [Nat.zero_add,cell_of_row w g (i * 3+j) cur t (0,0) hat];have:=e3 j u hu;rw [← h5,List.getElem?_take] at this
  split at this
  ·simpa using this
  ·cases this
theorem lit_more {w w0:World} {ys:List Bit} {xs:List Sexp} {vals:List Value} (hb:Below w0.heap.size w0 w) (hr:∀ y ∈ ys,BitR w y)
  (hx:∀ i x,xs[i]?=some x->∃ vs:List Value,vs.length=3/\SexpR w0 vs x/\∀ j u,vs[j]?=some u->vals[i * 3+j]?=some u) :
  ∀ i x,(ys.map Prod.fst ++ xs)[i]?=some x->∃ vs:List Value,vs.length=3/\SexpR w vs x/\∀ j u,vs[j]?=some u->(cells3 ys ++ vals)[i * 3+j]?=some u:=fun i x h=>by
 by_cases hi:i < ys.length
 ·rw [List.getElem?_append_left (by simpa using hi),List.getElem?_map] at h
  cases hy:ys[i]? with
  | none=>rw [hy] at h;cases h
  | some y =>
   rw [hy] at h;simp at h;subst h;refine⟨_,rfl,hr y (mgq hy),fun j u hu=>?_⟩;have:=cells3_at ys i y hy j u hu;rw [List.getElem?_append_left (gqs this).1];exact this
 ·rw [List.getElem?_append_right (by simpa using hi)] at h;obtain ⟨vs,e1,e2,e3⟩:=hx _ x h;refine⟨vs,e1,SexpR.lasts _ _ _ _ hb e2,fun j u hu=>?_⟩;have:=e3 j u hu;simp only [List.length_map] at this;rw [List.getElem?_append_right (by rw [cells3_len];omega),cells3_len,show i * 3+j - ys.length * 3=(i - ys.length) * 3+j by omega];exact this
theorem leaf_r (w:World) (k:Int) (s:ByteArray) (hs:(s.size:Int)<=140737488351232) (hk:(Lit.int .i8 k).wf=true):BitR w (.mk k s [],none,0) :=
 SexpR.make (w:=w) (A:=none) (k:=k) (t:=s) (c:=0) (l:=[]) (.inl rfl) (Nat.zero_le _) (Nat.zero_le _) hs (by simp) hk
theorem list_r {w:World} {A:Option Addr} {l:List Sexp} {c:Nat} (hl:Lies 3 SexpR w A l) (hc:l.length<=c) (hm:c<=maxLen) (hb:l.length * 48<=140737488351232):BitR w (listX l,A,c) :=
 SexpR.make (w:=w) (A:=A) (k:=3) (t:=noS) (c:=c) (l:=l) hl hc hm (by decide) hb (by decide)
theorem syms_lies {w:World} {A:Option Addr} {l:List ByteArray} (h:Lies 3 SymR w A l):Lies 3 SexpR w A (l.map symX) :=
 h.imp (by simp) fun i s x vs hs hx hr=>by
  rw [List.getElem?_map,hs] at hx;simp at hx;subst hx;obtain ⟨rfl,h⟩:=hr;exact leaf_r w 0 s h (by decide)
theorem owns_shape {w:World} {base n c s:Nat} {t:TypeId} {A:Option Addr} {vals:List Value} (ho:w.ownsRow base t s (.slice A n c) n vals):n<=c/\c<=maxLen:=by
 rcases ho.2 with⟨h1,h2⟩ | ⟨g,cap,cur,h1,_,_,h2,h3,_⟩
 ·simp only [Value.slice.injEq] at h1;obtain ⟨_,_,rfl⟩:=h1;exact⟨by omega,Nat.zero_le _⟩
 ·simp only [Value.slice.injEq] at h1;obtain ⟨_,_,rfl⟩:=h1;exact⟨h2,h3⟩
theorem strs_two (w:World) (a b:ByteArray) (ha:(a.size:Int)<=140737488351232) (hb:(b.size:Int)<=140737488351232) (t:TypeId):Lies 1 StrR (w.alloc (.cells #[.string a,.string b] t)) (some ⟨w.heap.size,0,none⟩) [a,b]:=by
 have hh:=blk_new w (.cells #[.string a,.string b] t);refine .inr ⟨_,0,rfl,lt_of_block hh,fun i x hx=>?_⟩
 match i,hx with
 | 0,hx =>
  simp at hx;subst hx
  exact⟨[.string a],rfl,fun j u hu=>by
   have:j=0:=by have:=(gqs hu).1;simpa using this
   subst this;rw [cell_of_cells hh];simpa using hu,rfl,ha⟩
 | 1,hx =>
  simp at hx;subst hx
  exact⟨[.string b],rfl,fun j u hu=>by
   have:j=0:=by have:=(gqs hu).1;simpa using this
   subst this;rw [cell_of_cells hh];simpa using hu,rfl,hb⟩
 | i+2,hx=>simp at hx
theorem strs_one (w:World) (a:ByteArray) (ha:(a.size:Int)<=140737488351232):Lies 1 StrR (w.alloc (.cells #[.string a] 9)) (some ⟨w.heap.size,0,none⟩) [a]:=by
 have hh:=blk_new w (.cells #[.string a] 9);refine .inr ⟨_,0,rfl,lt_of_block hh,fun i x hx=>?_⟩
 match i,hx with
 | 0,hx =>
  simp at hx;subst hx
  exact⟨[.string a],rfl,fun j u hu=>by
   have:j=0:=by have:=(gqs hu).1;simpa using this
   subst this;rw [cell_of_cells hh];simpa using hu,rfl,ha⟩
 | i+1,hx=>simp at hx
theorem size_text (n:Int) (hn:I64 n):(ByteArray.mk (textL n).toArray).size<=140737488351232:=by
 show(textL n).toArray.size<=_;rw [List.size_toArray];unfold I64 at hn;unfold textL
 split
 ·rename_i hm
  have hb:=mayB_iff.1 hm;have h1:=Lib.itoa_length_le n (by omega) (by omega);have h2:=Lib.itoa_length_le (-n) (by omega) (by omega)
  split
  ·simp only [List.length_append,List.length_cons,List.length_nil];omega
  ·omega
 ·simp
theorem size_textL (n:Int) (hn:I64 n):(((⟨(textL n).toArray⟩:ByteArray).size:Nat):Int)<=140737488351232:=by
 have h:(⟨(textL n).toArray⟩:ByteArray).size<=140737488351232:=size_text n hn
 omega
theorem eachO_sym:∀ l:List Sexp,eachO symN l=if l.any noSym then none else some (l.map Sexp.text)
 | []=>rfl
 | y :: l=>by
  unfold eachO;rw [eachO_sym l];unfold symN;rw [List.any_cons]
  by_cases h:y.kind=0
  ·rw [if_pos h,show noSym y=false by unfold noSym;simp [h],Bool.false_or]
   split <;> rfl
  ·rw [if_neg h,show noSym y=true by unfold noSym;simp [h],Bool.true_or]
   rfl
theorem namesN_eq (x:Sexp):namesN x=if x.kind=3 then(if x.l.any noSym then none else some (x.l.map Sexp.text)) else none:=by
 unfold namesN listN
 split
 ·rw [Option.bind_some,eachO_sym]
 ·rfl
theorem four_of {xs:List Sexp} (h:xs.length=4):∃ a b c d,xs=[a,b,c,d]:=by
 match xs,h with
 | [a,b,c,d],_=>exact⟨a,b,c,d,rfl⟩
theorem funO_not {r:List Sexp} (h:r.length≠3):funO r=none:=by
 unfold funO
 split
 ·exact absurd rfl h
 ·rfl
theorem strs_flat {w w':World} {A:Option Addr} {l:List ByteArray} {B:Nat} (h:NewLies 1 StrR B w A l) {S:Nat->Prop} (hk:Keeps S w w') (hS:∀ b,S b->b < B):Lies 1 StrR w' A l:=(h.keep strR_flat hk hS).lies
theorem fun_made {w':World} {A:Option Addr} {c:Nat} {xs:List Sexp} {cv:Nat->Value} {b:Bool} (hb:b=(((false || !decide (xs.length=4)) || decide (xs.length<=1)) || !decide ((partS xs 1).kind=0)))
  (hl:Lies 1 StrR w' A ((okL (b || decide (xs.length<=2)) (partS xs 2) 0 3).map Sexp.text)) (h1:(okL (b || decide (xs.length<=2)) (partS xs 2) 0 3).length<=c) (h2:c<=maxLen)
  (hs1:((partS xs 1).text.size:Int)<=140737488351232) (hs2:((partS xs 3).text.size:Int)<=140737488351232)
  (hcv:cells8 cv=[.int .i8 3,.string (partS xs 1).text,.int .i64 0,.slice none 0 0,.slice A (okL (b || decide (xs.length<=2)) (partS xs 2) 0 3).length c,.slice none 0 0,.string (partS xs 3).text,.slice none 0 0]) :
  Made w' cv (((((b || decide (xs.length<=2)) || !sized (partS xs 2) 0 3) || (okL (b || decide (xs.length<=2)) (partS xs 2) 0 3).any noSym) || decide (xs.length<=3)) || !decide ((partS xs 3).kind=0)) (funO xs.tail):=by
 subst hb
 by_cases h4:xs.length=4
 ·obtain ⟨y,s,x,t,rfl⟩:=four_of h4;show Made w' cv _ ((symN s).bind fun a=>(namesN x).bind fun l=>if l.length<=3 then(symN t).map fun b=>{ noCmd with kind:=3,name:=a,args:=l,res:=b } else none)
  by_cases hk:s.kind=0
  ·have es:symN s=some s.text:=by unfold symN;rw [if_pos hk]
   have e1:(((false || !decide ([y,s,x,t].length=4)) || decide ([y,s,x,t].length<=1)) || !decide ((partS [y,s,x,t] 1).kind=0))=false:=by simp [partS,hk]
   rw [e1] at hl h1 hcv ⊢;have e2:(false || decide ([y,s,x,t].length<=2))=false:=by simp
   rw [e2] at hl h1 hcv ⊢;have e3:partS [y,s,x,t] 2=x:=rfl;have e4:partS [y,s,x,t] 3=t:=rfl;have e5:partS [y,s,x,t] 1=s:=rfl;rw [e3] at hl h1;rw [e3,e4,e5] at hcv;rw [e3,e4,Bool.false_or];rw [e4] at hs2;rw [e5] at hs1;rw [es,Option.bind_some,namesN_eq]
   by_cases h3:x.kind=3
   ·rw [if_pos h3]
    by_cases hn:x.l.length<=3
    ·have hz:sized x 0 3=true:=by unfold sized;simp [h3,hn]
     have ho:okL false x 0 3=x.l:=by unfold okL;rw [hz];rfl
     rw [ho] at hl h1 hcv ⊢;rw [hz]
     cases ha:x.l.any noSym with
     | true=>show _=true;simp
     | false =>
      rw [if_neg (by decide),Option.bind_some,if_pos (by simpa using hn)]
      by_cases hk2:t.kind=0
      ·rw [show symN t=some t.text by unfold symN;rw [if_pos hk2]];refine⟨by simp [hk2],?_⟩;rw [hcv];refine⟨none,0,A,c,none,0,none,0,by simp [cmdCells,noCmd],?_⟩;exact⟨.inl rfl,hl,.inl rfl,.inl rfl,nlq,by simpa using h1,nlq,nlq,Nat.zero_le _,h2,Nat.zero_le _,Nat.zero_le _,Nat.zero_le _,(by decide:(Lit.int .i8 3).wf=true),(show I64 0 from⟨by decide,by decide⟩),hs1,hs2⟩
      ·rw [show symN t=none by unfold symN;rw [if_neg hk2]];show _=true;simp [hk2]
    ·have hz:sized x 0 3=false:=by unfold sized;simp [hn]
     rw [hz]
     have e:((if x.l.any noSym=true then none else some (x.l.map Sexp.text)).bind fun l=>if l.length<=3 then(symN t).map fun b=>({ noCmd with kind:=3,name:=s.text,args:=l,res:=b }:Cmd) else none)=none:=by
      split
      ·rfl
      ·rw [Option.bind_some,if_neg (by simpa using hn)]
     rw [e];show _=true;simp
   ·have hz:sized x 0 3=false:=by unfold sized;simp [h3]
    rw [if_neg h3,hz];show _=true;simp
  ·rw [show symN s=none by unfold symN;rw [if_neg hk]];show _=true;simp [partS,hk]
 ·rw [funO_not (by rw [List.length_tail];omega)];show _=true;simp [h4]
theorem fun_any {W0 w:World} {pb:Nat} {A:Option Addr} {c:Nat} {xs:List Sexp} (h:ParB w pb (.slice A xs.length c) zeroV false) (hx:Lies 3 SexpR W0 A xs) (hb:Below W0.heap.size W0 w) (hp:W0.heap.size<=pb) :
  Calls Tryz.prog 73 #[ptrP pb] w (FormPost W0.heap.size w pb (.slice A xs.length c) (funO xs.tail)):=by
 have HK:=kp (kind_any h 3 4);have HJ:=kp (fun W cv b (hW:ParB W pb (.slice A xs.length c) cv b) (hB:Below W0.heap.size W0 W) k=>part_any hW hx hB k);have HS:=kp (fun W cv b (hW:ParB W pb (.slice A xs.length c) cv b) A' c' y=>symbol_any hW y A' c');have HN:=kp (fun W cv b (hW:ParB W pb (.slice A xs.length c) cv b) (hB:Below W0.heap.size W0 W) A' c' y hr=>names_any hW y A' c' hr hB hp 0 3);have HB:=kp hb;have HT:=kp (fun k=>partS_size hx k);have HE:=kp (fun w' A2 c2 cv b hb hl h1 h2=>fun_made (w':=w') (A:=A2) (c:=c2) (cv:=cv) (xs:=xs) (b:=b) hb hl h1 h2 (partS_size hx 1) (partS_size hx 3));clear h hx hb;unfold ptrP at *
 go_enter Tryz.func73,Tryz.ntmps73
 go_wp2_with fail
 refine HK.out.mono ?_;rintro e w1 ⟨rfl,h1,k1⟩;have P1:=kp h1;have K1:=kp k1;have B1:=kp (HB.out.trans (keepP_below k1 hp HB.out.size));clear h1 k1;go_wp2_with fail
 refine(HJ.out _ _ _ P1.out B1.out 1).mono ?_;rintro e w2 ⟨A2,c2,⟨rfl,r2⟩,h2,k2⟩;have P2:=kp h2;have K2:=kp (K1.out.trans_same k2);clear h2 k2 r2;go_wp2_with fail
 refine(HS.out _ _ _ P2.out A2 c2 _).mono ?_;rintro e w3 ⟨rfl,h3,k3⟩;have P3:=kp h3;have K3:=kp (K2.out.trans_same k3);have B3:=kp (HB.out.trans (keepP_below K3.out hp HB.out.size));clear h3 k3;generalize hbb:(((false || !decide (xs.length=4)) || decide (xs.length<=1)) || !decide ((partS xs 1).kind=0))=b3 at *;clear hbb;go_wp2_with fail
 refine(HJ.out _ _ _ P3.out B3.out 2).mono ?_;rintro e w4 ⟨A4,c4,⟨rfl,r4⟩,h4,k4⟩;have P4:=kp h4;have K4:=kp (K3.out.trans_same k4);have R4:=kp r4;have B4:=kp (HB.out.trans (keepP_below K4.out hp HB.out.size));clear h4 k4 r4;go_wp2_with fail
 refine(HN.out _ _ _ P4.out B4.out A4 c4 _ R4.out).mono ?_;rintro e w5 ⟨A5,c5,⟨rfl,n1,n2⟩,l5,h5,k5⟩;have L5:=kp (And.intro l5 (And.intro n1 n2));have K5:=kp (K4.out.trans_same k5);have hlt4:=kp P4.out.lt;have f2:=h5.free 2;have d2:=h5.cell 1 (by omega);have f5:=h5.free 5;have d5:=h5.cell 4 (by omega);have HP6:=kp ((h5.setCmd 1 (by omega) (.string (partS xs 1).text)).setCmd 4 (by omega) (.slice A5 (okL (b3 || decide (xs.length<=2)) (partS xs 2) 0 3).length c5));have HK6:=kp (show KeepP pb w5 _ from((Keeps.refl (fun k=>k=pb) w5).setCell (p:=⟨pb,1+1,none⟩) (.inl rfl) (.string (partS xs 1).text)).setCell (p:=⟨pb,1+4,none⟩) (.inl rfl) (.slice A5 (okL (b3 || decide (xs.length<=2)) (partS xs 2) 0 3).length c5));have B6:=kp (HB.out.trans (keepP_below (K5.out.trans_same HK6.out) hp HB.out.size));clear h5 k5 l5 n1 n2;go_wp2_with fail
 refine(HJ.out _ _ _ HP6.out B6.out 3).mono ?_;rintro e w7 ⟨A7,c7,⟨rfl,r7⟩,h7,k7⟩;have P7:=kp h7;have K7:=kp (HK6.out.trans_same k7);clear h7 k7 r7 d2 f2 d5 f5;go_wp2_with fail
 refine(HS.out _ _ _ P7.out A7 c7 _).mono ?_;rintro e w8 ⟨rfl,h8,k8⟩;have P8:=kp h8;have K8:=kp (K7.out.trans_same k8);have f7:=h8.free 7;have d7:=h8.cell 6 (by omega);clear h8 k8;go_wp2_with fail
 go_end0
 have KE:=K8.out.setCell (p:=⟨pb,7,none⟩) (.inl rfl) (.string (partS xs 3).text);exact⟨_,_,rfl,P8.out.setCmd 6 (by omega) _,K5.out.trans_same KE,fun W' hW=>HE.out W' A5 c5 _ b3 rfl (strs_flat (L5.out.1.keep strR_flat KE (fun j hj=>by subst hj;exact hlt4.out)) hW (fun j hj=>Nat.lt_trans hj.2 hlt4.out)) L5.out.2.1 L5.out.2.2 rfl⟩
theorem upv_upv (f:Nat->Value) (i:Nat) (u v:Value):upv (upv f i u) i v=upv f i v:=by
 funext j
 unfold upv
 by_cases h:j=i
 ·rw [if_pos h,if_pos h]
 ·rw [if_neg h,if_neg h,if_neg h]
theorem info_pair:(Tryz.prog.info? 173).map (fun i=>(i.zero,i.size,i.bytes))=some (some (.agg #[.string { data:=#[] },.string { data:=#[] }]),2,32):=by kernel_rfl
theorem eachO_len {α β:Type} {f:α->Option β}:∀ {l:List α} {r:List β},eachO f l=some r->r.length=l.length
 | [],r,h=>by simp only [eachO,Option.some.injEq] at h;subst h;rfl
 | x :: l,r,h=>by
  unfold eachO at h;obtain ⟨y,_,h⟩:=bind_some' h;obtain ⟨q,e,rfl⟩:=map_some' h;rw [List.length_cons,List.length_cons,eachO_len e]
theorem eachO_snoc {α β:Type} {f:α->Option β} (x:α):∀ {l:List α} {r:List β},eachO f l=some r->eachO f (l ++ [x])=(f x).map fun y=>r ++ [y]
 | [],r,h=>by
  simp only [eachO,Option.some.injEq] at h;subst h;rw [List.nil_append];unfold eachO
  cases f x <;> rfl
 | z :: l,r,h=>by
  unfold eachO at h;obtain ⟨y,e1,h⟩:=bind_some' h;obtain ⟨q,e,rfl⟩:=map_some' h;rw [List.cons_append];unfold eachO;rw [e1,Option.bind_some,eachO_snoc x e]
  cases f x <;> rfl
theorem eachO_none {α β:Type} {f:α->Option β} {x:α} (hx:f x=none):∀ {l:List α},x ∈ l->eachO f l=none
 | z :: l,h=>by
  unfold eachO;rcases List.mem_cons.1 h with e | e
  ·subst e;rw [hx];rfl
  ·rw [eachO_none hx e];cases f z <;> rfl
theorem pairN_bad {y:Sexp} (h:((false || !sized y 2 2) || (okL false y 2 2).any noSym)=true):pairN y=none:=by
 unfold pairN;rw [namesN_eq]
 by_cases h3:y.kind=3
 ·rw [if_pos h3]
  by_cases hl:y.l.length=2
  ·have hz:sized y 2 2=true:=by unfold sized;simp [h3,hl]
   have ho:okL false y 2 2=y.l:=by unfold okL;rw [hz];rfl
   rw [hz,ho] at h;have:y.l.any noSym=true:=by simpa using h
   rw [if_pos this];rfl
  ·split
   ·rfl
   ·rw [Option.bind_some]
    split
    ·rename_i a b e
     exact absurd (by have:=congrArg List.length e;simpa using this) hl
    ·rfl
 ·rw [if_neg h3];rfl
theorem pairN_good {y:Sexp} (h:((false || !sized y 2 2) || (okL false y 2 2).any noSym)=false):∃ a b,okL false y 2 2=[a,b]/\pairN y=some (a.text,b.text):=by
 have hz:sized y 2 2=true:=by
  cases hh:sized y 2 2 with
  | true=>rfl
  | false=>rw [hh] at h;simp at h
 have ho:okL false y 2 2=y.l:=by unfold okL;rw [hz];rfl
 rw [hz,ho] at h;have ha:y.l.any noSym=false:=by simpa using h
 unfold sized at hz;rw [Bool.and_eq_true,Bool.and_eq_true,decide_eq_true_eq,decide_eq_true_eq,decide_eq_true_eq] at hz;obtain ⟨a,b,e⟩:=two_of (xs:=y.l) (by omega);refine⟨a,b,by rw [ho,e],?_⟩;unfold pairN;rw [namesN_eq,if_pos hz.1,if_neg (by rw [ha];decide),e]
 rfl
theorem five_of {xs:List Sexp} (h:xs.length=5):∃ a b c d e,xs=[a,b,c,d,e]:=by
 match xs,h with
 | [a,b,c,d,e],_=>exact⟨a,b,c,d,e,rfl⟩
theorem defineO_open {xs:List Sexp} {c:Cmd} (h:defineO xs.tail=some c):xs.length=5/\(partS xs 1).kind=0/\(∃ ps,paramsN (partS xs 2)=some ps/\ps.length<=3)/\(partS xs 3).kind=0:=by
 unfold defineO at h
 split at h
 ·rename_i s x t y e
  have hl:xs.length=5:=by have:=congrArg List.length e;rw [List.length_tail] at this;simp at this;omega
  obtain ⟨a0,a1,a2,a3,a4,rfl⟩:=five_of hl;simp at e;obtain ⟨rfl,rfl,rfl,rfl⟩:=e;obtain ⟨a,e1,h⟩:=bind_some' h;obtain ⟨ps,e2,h⟩:=bind_some' h
  split at h
  ·rename_i h3
   obtain ⟨b,e3,_⟩:=map_some' h;refine⟨rfl,?_,⟨ps,e2,h3⟩,?_⟩
   ·unfold symN at e1
    split at e1
    ·assumption
    ·cases e1
   ·unfold symN at e3
    split at e3
    ·assumption
    ·cases e3
  ·cases h
 ·cases h
def DefP (xs:List Sexp) (β:Bool) (ps:List (ByteArray × ByteArray)):Prop :=
 (β=false/\xs.length=5/\(partS xs 1).kind=0/\paramsN (partS xs 2)=some ps/\ps.length<=3)\/(β=true/\defineO xs.tail=none)
theorem paramsN_sized {x:Sexp} {ps:List (ByteArray × ByteArray)} (h:paramsN x=some ps) (hl:ps.length<=3):sized x 0 3=true/\eachO pairN x.l=some ps:=by
 unfold paramsN listN at h
 split at h
 ·rename_i hk
  rw [Option.bind_some] at h;have:=eachO_len h;refine⟨?_,h⟩;unfold sized;simp [hk];omega
 ·cases h
theorem defP_end {xs:List Sexp} {b:Bool} {ps:List (ByteArray × ByteArray)} (hb:b=((((false || !decide (xs.length=5)) || decide (xs.length<=1)) || !decide ((partS xs 1).kind=0)) || decide (xs.length<=2)))
  (h:eachO pairN (okL b (partS xs 2) 0 3)=some ps):DefP xs (b || !sized (partS xs 2) 0 3) ps:=by
 cases hq:(b || !sized (partS xs 2) 0 3) with
 | false =>
  refine .inl ⟨rfl,?_⟩;have ho:okL b (partS xs 2) 0 3=(partS xs 2).l:=by unfold okL;rw [hq];rfl
  rw [Bool.or_eq_false_iff] at hq;obtain ⟨h1,h2⟩:=hq;rw [ho] at h;rw [h1] at hb
  have h5:xs.length=5:=by
   by_cases h5:xs.length=5
   ·exact h5
   ·simp [h5] at hb
  have hk:(partS xs 1).kind=0:=by
   by_cases hk:(partS xs 1).kind=0
   ·exact hk
   ·simp [hk] at hb
  have hz:sized (partS xs 2) 0 3=true:=by simpa using h2
  unfold sized at hz;rw [Bool.and_eq_true,Bool.and_eq_true,decide_eq_true_eq,decide_eq_true_eq,decide_eq_true_eq] at hz;refine⟨h5,hk,?_,by rw [eachO_len h];exact hz.2.2⟩;unfold paramsN listN;rw [if_pos hz.1,Option.bind_some,h]
 | true =>
  refine .inr ⟨rfl,?_⟩
  cases hd:defineO xs.tail with
  | none=>rfl
  | some c =>
   obtain ⟨h5,h1,⟨ps',h2,h3⟩,_⟩:=defineO_open hd;have hz:=(paramsN_sized h2 h3).1;have:b=false:=by rw [hb];simp [h5,h1]
   rw [this,hz] at hq
   cases hq
theorem okL_mem {b:Bool} {x y:Sexp} {lo hi k:Nat} (h:(okL b x lo hi)[k]?=some y):(b || !sized x lo hi)=false/\y ∈ x.l:=by
 unfold okL at h
 split at h
 ·simp at h
 ·rename_i hq
  exact⟨by simpa using hq,mgq h⟩
theorem defP_break {xs:List Sexp} {b:Bool} {y:Sexp} {k:Nat} {ps:List (ByteArray × ByteArray)} (h:(okL b (partS xs 2) 0 3)[k]?=some y) (hy:pairN y=none):DefP xs true ps:=by
 refine .inr ⟨rfl,?_⟩
 cases hd:defineO xs.tail with
 | none=>rfl
 | some c =>
  obtain ⟨h5,h1,⟨ps',h2,h3⟩,_⟩:=defineO_open hd;have:=(paramsN_sized h2 h3).2;rw [eachO_none hy (okL_mem h).2] at this
  cases this
theorem define_made {W0 w':World} {A A12:Option Addr} {c c12 nb:Nat} {xs:List Sexp} {cv:Nat->Value} {β:Bool} {ps:List (ByteArray × ByteArray)} (hP:DefP xs β ps)
  (hl:Lies 2 PairR w' A ps) (h1:ps.length<=c) (h2:c<=maxLen)
  (hs1:((partS xs 1).text.size:Int)<=140737488351232) (hs2:((partS xs 3).text.size:Int)<=140737488351232)
  (hr:SexpR W0 [.int .i8 (partS xs 4).kind,.string (partS xs 4).text,.slice A12 (partS xs 4).l.length c12] (partS xs 4)) (hb:Below W0.heap.size W0 w')
  (hn:w'.heap[nb]?=some (.cells #[.int .i8 (partS xs 4).kind,.string (partS xs 4).text,.slice A12 (partS xs 4).l.length c12] 81 (0,0)))
  (hcv:cells8 cv=[.int .i8 4,.string (partS xs 1).text,.int .i64 0,.slice none 0 0,.slice none 0 0,.slice A ps.length c,.string (partS xs 3).text,.slice (some ⟨nb,0,none⟩) 1 1]) :
  Made w' cv (((β || decide (xs.length<=3)) || !decide ((partS xs 3).kind=0)) || decide (xs.length<=4)) (defineO xs.tail):=by
 rcases hP with⟨rfl,h5,hk,hps,hp3⟩ | ⟨rfl,hd⟩
 ·obtain ⟨y,s,x,t,u,rfl⟩:=five_of h5;show Made w' cv _ ((symN s).bind fun a=>(paramsN x).bind fun l=>if l.length<=3 then(symN t).map fun b=>{ noCmd with kind:=4,name:=a,params:=l,res:=b,terms:=[u] } else none);have es:symN s=some s.text:=by unfold symN;exact if_pos hk
  have ep:paramsN x=some ps:=hps;rw [es,Option.bind_some,ep,Option.bind_some,if_pos hp3]
  by_cases hk2:t.kind=0
  ·rw [show symN t=some t.text by unfold symN;rw [if_pos hk2]];refine⟨by simp [partS,hk2],?_⟩;rw [hcv];refine⟨none,0,none,0,A,c,some ⟨nb,0,none⟩,1,by simp [cmdCells,noCmd,partS],?_⟩;exact⟨.inl rfl,.inl rfl,hl,lies_one (x:=u) hn (SexpR.lasts _ _ _ _ hb hr),nlq,nlq,h1,nlq,Nat.zero_le _,Nat.zero_le _,h2,(by decide:1<=maxLen),(show [u].length * 48<=140737488351232 by simp),(by decide:(Lit.int .i8 4).wf=true),(show I64 0 from⟨by decide,by decide⟩),hs1,hs2⟩
  ·rw [show symN t=none by unfold symN;rw [if_neg hk2]];show _=true;simp [partS,hk2]
 ·rw [hd];show _=true;simp
theorem define_any {W0 w:World} {pb:Nat} {A:Option Addr} {c:Nat} {xs:List Sexp} (h:ParB w pb (.slice A xs.length c) zeroV false) (hx:Lies 3 SexpR W0 A xs) (hb:Below W0.heap.size W0 w) (hp:W0.heap.size<=pb) :
  Calls Tryz.prog 74 #[ptrP pb] w (FormPost W0.heap.size w pb (.slice A xs.length c) (defineO xs.tail)):=by
 have HLt:=kp h.lt;have HK:=kp (kind_any h 4 5);have HJ:=kp (fun W cv b (hW:ParB W pb (.slice A xs.length c) cv b) (hB:Below W0.heap.size W0 W) k=>part_any hW hx hB k);have HS:=kp (fun W cv b (hW:ParB W pb (.slice A xs.length c) cv b) A' c' y=>symbol_any hW y A' c');have HLs:=kp (fun W cv b (hW:ParB W pb (.slice A xs.length c) cv b) A' c' y hn=>list_any hW y A' c' 0 3 hn);have HN:=kp (fun W cv b (hW:ParB W pb (.slice A xs.length c) cv b) (hB:Below W0.heap.size W0 W) A' c' y hr=>names_any hW y A' c' hr hB hp 2 2);have HB:=kp hb;have HT:=kp (fun k=>partS_size hx k);clear h hx hb;unfold ptrP at *
 go_enter Tryz.func74,Tryz.ntmps74
 go_step3
 go_wp2_with fail
 refine HK.out.mono ?_;rintro e w1 ⟨rfl,h1,k1⟩;have P1:=kp h1;have K1:=kp k1;have B1:=kp (HB.out.trans (keepP_below k1 hp HB.out.size));clear h1 k1;go_wp2_with fail
 refine(HJ.out _ _ _ P1.out B1.out 1).mono ?_;rintro e w2 ⟨A2,c2,⟨rfl,r2⟩,h2,k2⟩;have P2:=kp h2;have K2:=kp (K1.out.trans_same k2);clear h2 k2 r2;go_wp2_with fail
 refine(HS.out _ _ _ P2.out A2 c2 _).mono ?_;rintro e w3 ⟨rfl,h3,k3⟩;have f2:=h3.free 2;have d2:=h3.cell 1 (by omega);have P3:=kp (h3.setCmd 1 (by omega) (.string (partS xs 1).text));have K3:=kp ((K2.out.trans_same k3).setCell (p:=⟨pb,1+1,none⟩) (.inl rfl) (.string (partS xs 1).text));have B3:=kp (HB.out.trans (keepP_below K3.out hp HB.out.size));clear h3 k3;go_wp2_with fail
 go_step3
 go_wp2_with fail
 refine(HJ.out _ _ _ P3.out B3.out 2).mono ?_;rintro e w4 ⟨A4,c4,⟨rfl,r4⟩,h4,k4⟩;have P4:=kp h4;have K4:=kp (K3.out.trans_same k4);have R4:=kp r4;obtain ⟨_,_,e4,hl4,_,_,_,hlb4,_⟩:=r4.open';simp only [List.cons.injEq,Value.slice.injEq,and_true,true_and] at e4;obtain ⟨rfl,rfl⟩:=e4;clear h4 k4 r4 d2 f2;generalize hbb:((((false || !decide (xs.length=5)) || decide (xs.length<=1)) || !decide ((partS xs 1).kind=0)) || decide (xs.length<=2))=b4 at *;have HBB:=kp hbb;clear hbb;go_wp2_with fail
 refine(HLs.out _ _ _ P4.out A4 c4 _ (by omega)).mono ?_;rintro e w5 ⟨rfl,h5,k5⟩
 obtain ⟨Av,cw,hV,hlv,hll⟩:∃ Av cw,(if b4 || !sized (partS xs 2) 0 3 then .slice none 0 0 else .slice A4 (partS xs 2).l.length c4:Value)=.slice Av (okL b4 (partS xs 2) 0 3).length cw/\Lies 3 SexpR W0 Av (okL b4 (partS xs 2) 0 3)/\(okL b4 (partS xs 2) 0 3).length<=4398046511104:=by
  unfold okL
  split
  ·exact⟨none,0,rfl,.inl rfl,Nat.zero_le _⟩
  ·exact⟨A4,c4,rfl,hl4,by omega⟩
 rw [hV];have HL:=kp hlv;have HLen:=kp hll;have P5:=kp h5;have K5:=kp (K4.out.trans_same k5);have HEnd:=kp (fun ps (h:eachO pairN (okL b4 (partS xs 2) 0 3)=some ps)=>defP_end HBB.out.symm h);have HBrk:=kp (fun y k ps (h:(okL b4 (partS xs 2) 0 3)[k]?=some y) (hy:pairN y=none)=>defP_break (ps:=ps) h hy);have HMem:=kp (fun y k (h:(okL b4 (partS xs 2) 0 3)[k]?=some y)=>(okL_mem h).1);clear h5 k5 hV hlv hll hl4 hlb4 R4 HBB;generalize (okL b4 (partS xs 2) 0 3)=ys at *;generalize (b4 || !sized (partS xs 2) 0 3)=q at *;obtain ⟨i0,hi0,z0,z1,z2⟩:=info_parts info_pair;have I0:=kp hi0;have I1:=kp z0;have I2:=kp z1;have I3:=kp z2;clear hi0 z0 z1 z2;go_wp2_with fail
 go_loopw [20] (fun i' wr=>∃ k:Nat,k<=ys.length/\i'=.int .i64 k/\∃ (ps:List (ByteArray × ByteArray)) (v':Value),eachO pairN (ys.take k)=some ps/\Grows 2 PairR 173 W0 w.heap.size wr v' ps/\ParB wr pb (.slice A xs.length c) (upv (upv (upv zeroV 0 (.int .i8 4)) 1 (.string (partS xs 1).text)) 5 v') q/\KeepP pb w wr) (fun i' _=>ys.length - (intOf i').toNat)
 case atStart =>
  refine⟨0,Nat.zero_le _,rfl,[],.slice none 0 0,rfl,Grows.nil _,?_,K5.out⟩;have h:=P5.out
  have e:upv (upv (upv zeroV 0 (.int .i8 4)) 1 (.string (partS xs 1).text)) 5 (.slice none 0 0)=upv (upv zeroV 0 (.int .i8 4)) 1 (.string (partS xs 1).text):=by
   funext j
   unfold upv
   by_cases hj:j=5
   ·subst hj;rfl
   ·rw [if_neg hj]
  rw [e];exact h
 case round =>
  obtain ⟨k,hk,rfl,ps,v',heo,hg,hpr,hkp⟩:=hrel;have HG:=kp hg;have HPr:=kp hpr;have HKp:=kp hkp;have HEo:=kp heo;obtain ⟨vals,ho,hrr⟩:=hg.row;have hlk:ps.length=k:=by rw [eachO_len heo];simp;omega
  subst hlk;have hvl:vals.length=ps.length * 2:=ho.1;obtain ⟨Ao,co,rfl⟩:=shape_of_owns ho;have HOw:=kp ho;have HRr:=kp hrr;have HVl:=kp hvl;clear hg hpr ho hrr hvl heo
  by_cases hlt:ps.length < ys.length
  ·have hlt2:(ps.length:Int) < (ys.length:Int):=by omega
   have hyk:=gqe hlt;generalize ys[ps.length]=y at hyk;have HQ:=HMem.out y _ hyk;subst HQ;have HBr:=kp (HB.out.trans (keepP_below hkp hp HB.out.size));have hlz:=HL.out;obtain ⟨bb,o,A6,c6,rfl,hbl,e0,e1,e2,hr2⟩:=sexp_cells (HL.out.on SexpR.lasts HBr.out) hyk;obtain ⟨bb0,o0,A60,c60,hA0,_,_,_,e20,hr0⟩:=sexp_cells HL.out hyk;obtain ⟨q0,q1,q2,_⟩:=box_cells wr (.int .i8 y.kind) (.string y.text) (.slice A6 y.l.length c6) 81;have HP2:=kp (HPr.out.below ((Below.refl _ _).alloc nlq (.cells #[.int .i8 y.kind,.string y.text,.slice A6 y.l.length c6] 81)));have HK2:=kp (show KeepP pb wr (wr.alloc (.cells #[.int .i8 y.kind,.string y.text,.slice A6 y.l.length c6] 81)) from(Keeps.refl _ _).alloc _);have HSz:=kp hkp.size;have HYk:=kp hyk
   have HR0:=kp (show SexpR W0 [.int .i8 y.kind,.string y.text,.slice A6 y.l.length c6] y by
    obtain ⟨rfl,rfl⟩:=aiq hA0;have:=(HBr.out.cell (p:=⟨bb,o+ps.length * 3+2,none⟩) (by assumption)).trans e20;rw [e2] at this;simp only [Option.some.injEq,Value.slice.injEq,true_and] at this;obtain ⟨rfl,rfl⟩:=this;exact hr0)
   have B6:=kp (HBr.out.trans (keepP_below HK2.out hp HBr.out.size));clear hkp hr2 hyk hr0 hA0 e20;go_wp2_with fail
   refine(HN.out _ _ _ HP2.out B6.out A6 c6 y HR0.out).mono ?_;rintro e w6 ⟨A7,c7,⟨rfl,n1,n2⟩,l7,h7,k7⟩;have K7:=kp (HK2.out.trans_same k7);have L7:=kp l7;have P7:=kp h7;have x9:=h7.badc;have HSzp:=kp HPr.out.lt;clear h7 k7 l7 q0 q1 q2 e0 e1 e2 n1 n2
   cases hbad:((false || !sized y 2 2) || (okL false y 2 2).any noSym) with
   | true =>
    rw [hbad] at x9;have HPN:=kp (HBrk.out y _ ps HYk.out (pairN_bad hbad));go_wp2_with fail
    have HPe:=kp (show ParB w6 pb (.slice A xs.length c) (upv (upv (upv zeroV 0 (.int .i8 4)) 1 (.string (partS xs 1).text)) 5 (.slice Ao ps.length co)) true by have h:=P7.out;rw [hbad] at h;exact h);have HKe:=kp (HKp.out.trans_same K7.out);have HGe:=kp (grows_keep HG.out K7.out (fun j hj=>by subst hj;exact HLt.out));have HNL:=kp (grows_new (n:=2) (t:=173) (w0:=W0) (c:=co) pairR_flat HGe.out)
    have HShp:=kp (show ps.length<=co/\co<=maxLen by
     obtain ⟨A9,c9,e,h1,h2⟩:=HGe.out.shape;simp only [Value.slice.injEq] at e;obtain ⟨_,_,rfl⟩:=e;exact⟨h1,h2⟩)
    have HPP:=HPN;clear x9;have HT3:=kp (HT.out 3);have hne9:=kp HPe.out.lt;have B9:=kp (HB.out.trans (keepP_below HKe.out hp HB.out.size));go_wp2_with fail
    refine(HJ.out _ _ _ HPe.out B9.out 3).mono ?_;rintro e u1 ⟨A9,c9,⟨rfl,r9⟩,h9,k9⟩;have P9:=kp h9;have K9:=kp k9;clear h9 k9 r9;go_wp2_with fail
    refine(HS.out _ _ _ P9.out A9 c9 _).mono ?_;rintro e u2 ⟨rfl,h9,k9⟩;have K10:=kp (K9.out.trans_same k9);have f7:=h9.free 7;have d7:=h9.cell 6 (by omega);have P10:=kp (h9.setCmd 6 (by omega) (.string (partS xs 3).text));have K11:=kp (K10.out.setCell (p:=⟨pb,1+6,none⟩) (.inl rfl) (.string (partS xs 3).text));have B11:=kp (HB.out.trans (keepP_below (HKe.out.trans_same K11.out) hp HB.out.size));clear h9 k9;go_wp2_with fail
    refine(HJ.out _ _ _ P10.out B11.out 4).mono ?_;rintro e u3 ⟨A12,c12,⟨rfl,r12⟩,h12,k12⟩;have R12:=kp r12;have hne12:u3.heap.size≠pb:=by have:=h12.lt;omega
    have hple12:pb<=u3.heap.size:=by have:=h12.lt;omega
    have HP12:=h12.below ((Below.refl _ _).alloc nlq (.cells #[.int .i8 (partS xs 4).kind,.string (partS xs 4).text,.slice A12 (partS xs 4).l.length c12] 81));have P12:=kp HP12;have K12:=kp (show KeepP pb w6 (u3.alloc (.cells #[.int .i8 (partS xs 4).kind,.string (partS xs 4).text,.slice A12 (partS xs 4).l.length c12] 81)) from(K11.out.trans_same k12).alloc _);have f8:=HP12.free 8;have d8:=HP12.cell 7 (by omega);have f8':=h12.free 8;have d8':=h12.cell 7 (by omega);clear h12 k12 r12 HP12 d7 f7;unfold agS;go_wp2_with fail
    go_end0
    have KE:=K12.out.setCell (p:=⟨pb,8,none⟩) (.inl rfl) (.slice (some ⟨u3.heap.size,0,none⟩) 1 1);exact⟨_,_,rfl,P12.out.setCmd 7 (by omega) _,HKe.out.trans_same KE,fun W' hW=>define_made HPP.out ((HNL.out.keep pairR_flat KE (fun j hj=>by subst hj;exact HLt.out)).keep pairR_flat hW (fun j hj=>Nat.lt_trans hj.2 HLt.out)).lies HShp.out.1 HShp.out.2 (HT.out 1) HT3.out R12.out (stay_below (HB.out.trans (keepP_below (HKe.out.trans_same KE) hp HB.out.size)) hW) (stay_blk ((Below.heap_setCell _ _ _ _ hne12).trans (blk_new _ _)) hW hple12) rfl⟩
   | false =>
    rw [hbad] at x9;obtain ⟨a,b,hok,hpn⟩:=pairN_good hbad;have HPn:=kp hpn;have l7:=L7.out;rw [hok] at l7;rw [hok];have hln:([a,b]:List Sexp).length=2:=rfl;rw [hln];have hl7:Lies 1 StrR w6 A7 [a.text,b.text]:=l7.lies;obtain ⟨bn,on,rfl,c0⟩:=str_get hl7 (k:=0) (by simp);obtain ⟨bn',on',e7,c1⟩:=str_get hl7 (k:=1) (by simp);obtain ⟨rfl,rfl⟩:=aiq e7
    have hbn:bn < w6.heap.size:=by
     rcases hl7 with h | ⟨b',o',h,hlt,_⟩
     ·cases h
     ·simp only [Option.some.injEq,Addr.mk.injEq,and_true] at h;rw [h.1];exact hlt
    have hBn:wr.heap.size<=bn:=by
     rcases l7 with h | ⟨b',o',h,hge,_,_⟩
     ·cases h
     ·simp only [Option.some.injEq,Addr.mk.injEq,and_true] at h;rw [h.1];simp at hge;omega
    have HBg:=kp hBn
    have hsa:(a.text.size:Int)<=140737488351232/\(b.text.size:Int)<=140737488351232:=by
     rcases hl7 with h | ⟨b',o',h,hlt,hrow⟩
     ·cases h
     ·obtain ⟨_,_,_,h1⟩:=hrow 0 a.text rfl;obtain ⟨_,_,_,h2⟩:=hrow 1 b.text rfl;exact⟨h1.2,h2.2⟩
    replace c0:w6.cell? ⟨bn,on,none⟩=some (.string a.text):=by simpa using c0
    replace c1:w6.cell? ⟨bn,on+1,none⟩=some (.string b.text):=by simpa using c1
    have HSab:=kp hsa;have HBn:=kp hbn;have C0:=kp c0;have C1:=kp c1;have P7d:=kp (show ParB w6 pb (.slice A xs.length c) (upv (upv (upv zeroV 0 (.int .i8 4)) 1 (.string (partS xs 1).text)) 5 (.slice Ao ps.length co)) false by have h:=P7.out;rw [hbad] at h;exact h);have HOw7:=kp (owns_keep HOw.out K7.out (fun j hj=>by subst hj;exact HLt.out));clear l7 hl7 hpn hok hbad P7 L7 hsa hbn hln hBn;have pc:=P7d.out.cell 5 (by omega);have pf:=P7d.out.free 6;go_wp2_with fail
    have PA:=kp (P7d.out.below ((brq w6).drew.alloc nlq (.cells #[.string a.text,.string b.text] 173)));have HKA:=kp (show KeepP pb w (w6.drew.alloc (.cells #[.string a.text,.string b.text] 173)) from((HKp.out.trans_same K7.out).drew).alloc _);have HOwA:=kp (show World.ownsRow (w6.drew.alloc (.cells #[.string a.text,.string b.text] 173)) w.heap.size 173 2 (.slice Ao ps.length co) ps.length vals from HOw7.out.drew.alloc _);have HCA:=kp (Cells.new w6.drew [.string a.text,.string b.text] 173 (0,0));have HSA:=kp (show w.heap.size<=w6.heap.size from Nat.le_trans HSz.out K7.out.size);have hk48:ps.length < 4398046511104:=Nat.lt_of_lt_of_le hlt HLen.out;refine wp_region_to (by kernel_rfl) (fun W=>W.cell? ⟨pb,6,none⟩=some (.slice Ao ps.length co)/\W.cell? ⟨bn,on,none⟩=some (.string a.text)/\W.cell? ⟨bn,on+1,none⟩=some (.string b.text)) 18 (⟨pc,c0,c1⟩) (fun hHeld=>?_);clear pc pf;refine wpTo_take (i:=0) (oi:=Oper.mk _ _ _ _ _ _) (v:=?_) rfl (by kernel_rfl) (by kernel_rfl) (by kernel_rfl) (by kernel_rfl) (fun _ _ _ h=>h) (Or.inl ⟨by rfl,?_⟩) (by assumption) ?_;rotate_left
    ·(intro w hSw;go_simp;try with_reducible rfl)
    try simp only [pt]
    refine wpTo_take (i:=1) (oi:=Oper.mk _ _ _ _ _ _) (v:=?_) rfl (by kernel_rfl) (by kernel_rfl) (by kernel_rfl) (by kernel_rfl) (fun _ _ _ h=>h) (Or.inl ⟨by rfl,?_⟩) (by assumption) ?_;rotate_left
    ·(intro w hSw;go_simp;try with_reducible rfl)
    try simp only [pt]
    refine wpTo_take (i:=2) (oi:=Oper.mk _ _ _ _ _ _) (v:=?_) rfl (by kernel_rfl) (by kernel_rfl) (by kernel_rfl) (by kernel_rfl) (fun _ _ _ h=>h) (Or.inl ⟨by rfl,?_⟩) (by assumption) ?_;rotate_left
    ·(intro w hSw;go_simp;try with_reducible rfl)
    try simp only [pt]
    refine wpTo_take (i:=3) (oi:=Oper.mk _ _ _ _ _ _) (v:=?_) rfl (by kernel_rfl) (by kernel_rfl) (by kernel_rfl) (by kernel_rfl) (fun _ _ _ h=>h) (Or.inl ⟨by rfl,?_⟩) (by assumption) ?_;rotate_left
    ·(intro w hSw;go_simp;try with_reducible rfl)
    try simp only [pt]
    refine wpTo_take (i:=4) (oi:=Oper.mk _ _ _ _ _ _) (v:=?_) rfl (by kernel_rfl) (by kernel_rfl) (by kernel_rfl) (by kernel_rfl) (fun _ _ _ h=>h) (Or.inl ⟨by rfl,?_⟩) (by assumption) ?_;rotate_left
    ·(intro w hSw;go_simp;try with_reducible rfl)
    try simp only [pt]
    refine wpTo_take (i:=5) (oi:=Oper.mk _ _ _ _ _ _) (v:=?_) rfl (by kernel_rfl) (by kernel_rfl) (by kernel_rfl) (by kernel_rfl) (fun _ _ _ h=>h) (Or.inl ⟨by rfl,?_⟩) (by assumption) ?_;rotate_left
    ·(intro w hSw;go_simp;try with_reducible rfl)
    try simp only [pt]
    refine wpTo_take (i:=6) (oi:=Oper.mk _ _ _ _ _ _) (v:=?_) rfl (by kernel_rfl) (by kernel_rfl) (by kernel_rfl) (by kernel_rfl) (fun _ _ _ h=>h) (Or.inl ⟨by rfl,?_⟩) (by assumption) ?_;rotate_left
    ·(intro w hSw;go_simp;try with_reducible rfl)
    try simp only [pt]
    refine wpTo_take (i:=7) (oi:=Oper.mk _ _ _ _ _ _) (v:=?_) rfl (by kernel_rfl) (by kernel_rfl) (by kernel_rfl) (by kernel_rfl) (fun _ _ _ h=>h) (Or.inl ⟨by rfl,?_⟩) (by assumption) ?_;rotate_left
    ·(intro w hSw;go_simp;try with_reducible rfl)
    try simp only [pt]
    refine wpTo_take (i:=8) (oi:=Oper.mk _ _ _ _ _ _) (v:=?_) rfl (by kernel_rfl) (by kernel_rfl) (by kernel_rfl) (by kernel_rfl) (fun _ _ _ h=>h) (Or.inl ⟨by rfl,?_⟩) (by assumption) ?_;rotate_left
    ·(intro w hSw;go_simp;try with_reducible rfl)
    try simp only [pt]
    refine wpTo_take (i:=9) (oi:=Oper.mk _ _ _ _ _ _) (v:=?_) rfl (by kernel_rfl) (by kernel_rfl) (by kernel_rfl) (by kernel_rfl) (fun _ _ _ h=>h) (Or.inl ⟨by rfl,?_⟩) (by assumption) ?_;rotate_left
    ·(intro w hSw;go_simp;try with_reducible rfl)
    try simp only [pt]
    refine wpTo_take (i:=10) (oi:=Oper.mk _ _ _ _ _ _) (v:=?_) rfl (by kernel_rfl) (by kernel_rfl) (by kernel_rfl) (by kernel_rfl) (fun _ _ _ h=>h) (Or.inl ⟨by rfl,?_⟩) (by assumption) ?_;rotate_left
    ·(intro w hSw;go_simp;try with_reducible rfl)
    try simp only [pt]
    refine wpTo_take (i:=11) (oi:=Oper.mk _ _ _ _ _ _) (v:=?_) rfl (by kernel_rfl) (by kernel_rfl) (by kernel_rfl) (by kernel_rfl) (fun _ _ _ h=>h) (Or.inl ⟨by rfl,?_⟩) (by assumption) ?_;rotate_left
    ·(intro w hSw;go_simp;try with_reducible rfl)
    try simp only [pt]
    refine wpTo_take (i:=12) (oi:=Oper.mk _ _ _ _ _ _) (v:=?_) rfl (by kernel_rfl) (by kernel_rfl) (by kernel_rfl) (by kernel_rfl) (fun _ _ _ h=>h) (Or.inl ⟨by rfl,?_⟩) (by assumption) ?_;rotate_left
    ·(intro w hSw;go_simp;try with_reducible rfl)
    try simp only [pt]
    refine wpTo_step (i:=13) (o:=Oper.mk _ _ _ _ _ _) (by kernel_rfl) rfl (fun K hK=>?_);go_simp;refine hK.out _ _ (⟨PA.out.cell 5 (by omega),(((brq w6).drew.alloc nlq _).cell (p:=⟨bn,on,none⟩) HBn.out).trans C0.out,(((brq w6).drew.alloc nlq _).cell (p:=⟨bn,on+1,none⟩) HBn.out).trans C1.out⟩) (fun hHeld=>?_);clear hK K;try simp only [pt]
    refine wpTo_step (i:=14) (o:=Oper.mk _ _ _ _ _ _) (by kernel_rfl) rfl (fun K hK=>?_)
    (refine step_append_at (by rfl) _ _ _ (by rfl) w.heap.size 173 i0 (.agg #[.string { data:=#[] },.string { data:=#[] }]) 2 32 Tryz.underlying108 I0.out I1.out I2.out I3.out rfl (by decide) (.slice Ao ps.length co) ps.length vals (by rfl) HOwA.out (some ⟨w6.heap.size,0,none⟩) 1 1 [.string a.text,.string b.text] (by rfl) rfl HCA.out (by simp [Value.oneCell']) (by unfold maxLen;omega) (by omega) (by have:=HSA.out;simp;omega) ?_;intro v' w8 hown hgr hat;obtain ⟨A8,c8,rfl⟩:=shape_of_owns hown;have P8:=kp (PA.out.grown hgr (fun e=>by have:=(HOwA.out.lt pb e).1;have:=HLt.out;omega));have hcb:∀ j,w8.cell? ⟨bn,j,none⟩=w6.cell? ⟨bn,j,none⟩:=fun j=>(World.cell?_of_block (hgr.block bn (by have:=HBn.out;simp;omega) (fun e=>by have h1:=(HOw.out.lt bn e.symm).2;have h2:=HBg.out;omega))).trans (((brq w6).drew.alloc nlq _).cell (p:=⟨bn,j,none⟩) HBn.out))
    refine hK.out _ _ (⟨P8.out.cell 5 (by omega),(hcb _).trans C0.out,(hcb _).trans C1.out⟩) (fun hHeld=>?_);clear hK K;try simp only [pt]
    have HG8:=kp (show Grows 2 PairR 173 W0 w.heap.size w8 (.slice A8 (ps.length+1) c8) (ps ++ [(a.text,b.text)]) from
     Grows.push (vs:=[.string a.text,.string b.text]) HVl.out HRr.out hown ⟨rfl,HSab.out⟩ rfl)
    have HK8:=kp (show KeepP pb w w8 from HKA.out.grown hgr (fun j hj=>.inr (HOwA.out.lt j hj).1));clear hown hgr hat hcb;refine wpTo_step (i:=15) (o:=Oper.mk _ _ _ _ _ _) (by kernel_rfl) rfl (fun K hK=>?_);go_simp;refine hK.out _ _ ((by assumption)) (fun hHeld=>?_);clear hK K;try simp only [pt]
    refine wpTo_step (i:=16) (o:=Oper.mk _ _ _ _ _ _) (by kernel_rfl) rfl (fun K hK=>?_);go_simp;refine hK.out _ _ ((by assumption)) (fun hHeld=>?_);clear hK K;try simp only [pt]
    refine wpTo_step (i:=17) (o:=Oper.mk _ _ _ _ _ _) (by kernel_rfl) rfl (fun K hK=>?_);go_simp;refine hK.out _ _ ((by assumption)) (fun hHeld=>?_);clear hK K;try simp only [pt]
    have pf:=P8.out.free 6;have pc:=P8.out.cell 5 (by omega);refine wpTo_last (o:=Oper.mk _ _ _ _ _ _) (by kernel_rfl) rfl (fun K hK=>?_);go_simp;refine hK.out _ _ ?_;clear hK K;try simp only [pt]
    refine wpTo_done (by kernel_rfl) ?_ _;clear hHeld pf pc;go_wp2_with fail
    have HP9:=kp (P8.out.setCmd 5 (by omega) (.slice A8 (ps.length+1) c8));have HK9:=kp (HK8.out.setCell (p:=⟨pb,1+5,none⟩) (.inl rfl) (.slice A8 (ps.length+1) c8));have HG9:=kp (HG8.out.setCell (p:=⟨pb,1+5,none⟩) (.slice A8 (ps.length+1) c8) HLt.out)
    have HEn:=kp (show eachO pairN (ys.take (ps.length+1))=some (ps ++ [(a.text,b.text)]) by
     rw [List.take_add_one,HYk.out];show eachO pairN (ys.take ps.length ++ [y])=_;rw [eachO_snoc y HEo.out,HPn.out]
     rfl)
    go_roundw
    case rel=>exact⟨ps.length+1,by omega,by go_num,ps ++ [(a.text,b.text)],.slice A8 (ps.length+1) c8,HEn.out,HG9.out,by rw [upv_upv] at HP9;exact HP9.out,HK9.out⟩
    case measure=>simp [intOf];omega
  ·obtain hle:ps.length=ys.length:=by omega
   have HPP:=kp (HEnd.out ps (by have h:=HEo.out;rw [hle,List.take_length] at h;exact h));have HPe:=HPr;have HKe:=HKp;have HNL:=kp (grows_new (n:=2) (t:=173) (w0:=W0) (c:=co) pairR_flat HG.out)
   have HShp:=kp (show ps.length<=co/\co<=maxLen by
    obtain ⟨A9,c9,e,h1,h2⟩:=HG.out.shape;simp only [Value.slice.injEq] at e;obtain ⟨_,_,rfl⟩:=e;exact⟨h1,h2⟩)
   clear hkp;go_wp2_with fail
   have HT3:=kp (HT.out 3);have hne9:=kp HPe.out.lt;have B9:=kp (HB.out.trans (keepP_below HKe.out hp HB.out.size));go_wp2_with fail
   refine(HJ.out _ _ _ HPe.out B9.out 3).mono ?_;rintro e u1 ⟨A9,c9,⟨rfl,r9⟩,h9,k9⟩;have P9:=kp h9;have K9:=kp k9;clear h9 k9 r9;go_wp2_with fail
   refine(HS.out _ _ _ P9.out A9 c9 _).mono ?_;rintro e u2 ⟨rfl,h9,k9⟩;have K10:=kp (K9.out.trans_same k9);have f7:=h9.free 7;have d7:=h9.cell 6 (by omega);have P10:=kp (h9.setCmd 6 (by omega) (.string (partS xs 3).text));have K11:=kp (K10.out.setCell (p:=⟨pb,1+6,none⟩) (.inl rfl) (.string (partS xs 3).text));have B11:=kp (HB.out.trans (keepP_below (HKe.out.trans_same K11.out) hp HB.out.size));clear h9 k9;go_wp2_with fail
   refine(HJ.out _ _ _ P10.out B11.out 4).mono ?_;rintro e u3 ⟨A12,c12,⟨rfl,r12⟩,h12,k12⟩;have R12:=kp r12;have hne12:u3.heap.size≠pb:=by have:=h12.lt;omega
   have hple12:pb<=u3.heap.size:=by have:=h12.lt;omega
   have HP12:=h12.below ((Below.refl _ _).alloc nlq (.cells #[.int .i8 (partS xs 4).kind,.string (partS xs 4).text,.slice A12 (partS xs 4).l.length c12] 81));have P12:=kp HP12;have K12:=kp (show KeepP pb wr (u3.alloc (.cells #[.int .i8 (partS xs 4).kind,.string (partS xs 4).text,.slice A12 (partS xs 4).l.length c12] 81)) from(K11.out.trans_same k12).alloc _);have f8:=HP12.free 8;have d8:=HP12.cell 7 (by omega);have f8':=h12.free 8;have d8':=h12.cell 7 (by omega);clear h12 k12 r12 HP12 d7 f7;unfold agS;go_wp2_with fail
   go_end0
   have KE:=K12.out.setCell (p:=⟨pb,8,none⟩) (.inl rfl) (.slice (some ⟨u3.heap.size,0,none⟩) 1 1);exact⟨_,_,rfl,P12.out.setCmd 7 (by omega) _,HKe.out.trans_same KE,fun W' hW=>define_made HPP.out ((HNL.out.keep pairR_flat KE (fun j hj=>by subst hj;exact HLt.out)).keep pairR_flat hW (fun j hj=>Nat.lt_trans hj.2 HLt.out)).lies HShp.out.1 HShp.out.2 (HT.out 1) HT3.out R12.out (stay_below (HB.out.trans (keepP_below (HKe.out.trans_same KE) hp HB.out.size)) hW) (stay_blk ((Below.heap_setCell _ _ _ _ hne12).trans (blk_new _ _)) hW hple12) rfl⟩
end Cm
end Go.Proofs.YtmcbolkpbklfeaaGreatDoor
