/- Part 16 of the walks, merged: each text under its own heading. Conditions: none of its own; each lemma states what it asks. -/
import Derived.Test.YtjpjalmilfgckaaGreatDoorIm7
import Derived.Test.YtjpjalmilfgckaaGreatDoorIm8
import Derived.Test.YtjpjalmilfgckaaGreatDoorIm9
import Derived.Test.YtjpjalmilfgckaaGreatDoorIm10
import Derived.Test.YtjpjalmilfgckaaGreatDoorIm12
import Derived.Test.YtjpjalmilfgckaaGreatDoorIm14
import Derived.Test.YtjpjalmilfgckaaGreatDoorIm15
import Derived.Laws.BitsAllLaws
import Derived.Deep.Fields
import Derived.Lib.LaidIn
import Derived.Lib.LaidU8T
import GoSem.PinnedTables
set_option maxRecDepth 100000
set_option linter.unusedVariables false
set_option linter.unusedSimpArgs false
namespace Go.Proofs.YtjpjalmilfgckaaGreatDoor
open Go.RowKit
def oddC (c:Co):Bool := !mayK c.2.2.1
theorem mayodd_any (i:Int) (nm:ByteArray) (k:Int) (nl u:Bool) (x:Int) (s:ByteArray) (w:World) :
  Calls Tryz.prog 152 #[.agg #[.int .i64 i,.string nm,.int .i64 k,.bool nl,.bool u,.int .i64 x,.string s]] w fun e w'=>e=.returned (.bool (!mayK k))/\Below w.heap.size w w':=by
 have B1:=Lib.hid (Blk.new w 45 #[.int .i64 i,.string nm,.int .i64 k,.bool nl,.bool u,.int .i64 x,.string s])
 have c2:=B1.out.cell 2
 have c3:=B1.out.cell 3
 go_enter Tryz.func152,Tryz.ntmps152
 go_wp2_with fail
 with_reducible refine (may_any k nl _).mono ?_
 rintro e w1 ⟨rfl,hb1⟩
 have HB:=Lib.hid (bon ((Below.refl _ w).alloc (Nat.le_refl _) (.cells #[.int .i64 i,.string nm,.int .i64 k,.bool nl,.bool u,.int .i64 x,.string s] 45)) hb1)
 clear hb1 c2 c3
 go_wp2
 go_ret
 exact ⟨rfl,HB.out⟩
set_option maxHeartbeats 1000000 in
theorem oddidx_any (A:Option Addr) (n c:Nat) (cs:List Co) (w:World) (hr:Reads w w.heap.size 7 A n (cos cs)) (hn:n<=maxLen) :
  Calls Tryz.prog 193 #[.slice A n c,.func (.func 152) #[] #[]] w fun e w'=>(∃ r:Int,e=.returned (.int .i64 r)/\decide (0<=r)=cs.any oddC)/\Below w.heap.size w w':=by
 have Hr:=Lib.hid hr
 have Hl:=Lib.hid (cos_len hr)
 have hn63:n<=9223372036854775807:=by simp only [maxLen] at hn;omega
 have hin:=callFunc_in Tryz.func152 (by kernel_rfl) (by kernel_rfl)
 clear hr hn
 go_enter Tryz.func193,Tryz.ntmps193
 go_wp2
 go_loopw [8] (fun i wr=>∃ k:Nat,k<=n/\i=.int .i64 (k:Int)/\Hid (∀ j c,j<k->cs[j]? = some c->oddC c=false)/\Hid (Below w.heap.size w wr)) (fun i _=>n-(intOf i).toNat)
 case atStart=>exact ⟨0,Nat.zero_le _,rfl,Lib.hid (fun j c h=>by omega),Lib.hid (Below.refl _ _)⟩
 case round=>
  obtain ⟨k,hk,rfl,HN,HB⟩:=hrel
  by_cases hlt:k<n
  ·obtain ⟨ad,co,rfl,hbk,hco,hat⟩:=cos_at (Hr.out.below HB.out) hlt
   have h0:=hat.c0
   have h1:=hat.c1
   have h2:=hat.c2
   have h3:=hat.c3
   have h4:=hat.c4
   have h5:=hat.c5
   have h6:=hat.c6
   have Hco:=Lib.hid hco
   have hki:(k:Int)<(n:Int):=by omega
   clear hco hat
   go_wp2_with fail
   with_reducible refine (mayodd_any co.1 co.2.1 co.2.2.1 co.2.2.2.1 co.2.2.2.2.1 co.2.2.2.2.2.1 co.2.2.2.2.2.2 _).mono ?_
   rintro e w1 ⟨rfl,hb1⟩
   have HB2:=Lib.hid (bon HB.out hb1)
   clear hb1 h0 h1 h2 h3 h4 h5 h6 hbk
   cases hm:mayK co.2.2.1 with
   | true=>
    have HN2:=Lib.hid (show ∀ j c,j<k+1->cs[j]? = some c->oddC c=false from fun j c hj hc=>by
     rcases Nat.lt_or_ge j k with h | h
     ·exact HN.out j c h hc
     obtain rfl:j=k:=by omega
     rw [Hco.out] at hc
     cases hc
     simp [oddC,hm])
    clear hm
    go_wp2
    go_roundw
    case rel=>exact ⟨k+1,by omega,by go_num,HN2,HB2⟩
    case measure=>simp [intOf];omega
   | false=>
    have HE:=Lib.hid (show decide (0<=(k:Int))=cs.any oddC by
     have h1:cs.any oddC=true:=List.any_eq_true.2 ⟨co,List.mem_of_getElem? Hco.out,by simp [oddC,hm]⟩
     rw [h1]
     simp)
    clear hm
    go_wp2
    go_ret
    exact ⟨⟨_,rfl,HE.out⟩,HB2.out⟩
  obtain rfl:k=n:=by omega
  have HE:=Lib.hid (show decide (0<=(-1:Int))=cs.any oddC by
   have h1:cs.any oddC=false:=by
    rw [List.any_eq_false]
    intro c hc
    obtain ⟨j,hj⟩:=List.getElem?_of_mem hc
    have:=HN.out j c (by have:=(List.getElem?_eq_some_iff.1 hj).1;rw [Hl.out] at this;exact this) hj
    simp [this]
   rw [h1]
   rfl)
  go_wp2
  go_ret
  exact ⟨⟨_,rfl,HE.out⟩,HB.out⟩
theorem oddin_any (A:Option Addr) (n c:Nat) (cs:List Co) (w:World) (hr:Reads w w.heap.size 7 A n (cos cs)) (hn:n<=maxLen) :
  Calls Tryz.prog 153 #[.slice A n c,.func (.func 152) #[] #[]] w fun e w'=>e=.returned (.bool (cs.any oddC))/\Below w.heap.size w w':=by
 go_enter Tryz.func153,Tryz.ntmps153
 go_wp2_with fail
 with_reducible refine (oddidx_any A n c cs w hr hn).mono ?_
 rintro e w1 ⟨⟨r,rfl,he⟩,hb1⟩
 have HB:=Lib.hid hb1
 have HE:=Lib.hid he
 clear hb1 he hr hn
 go_wp2
 go_ret
 exact ⟨by rw [<-HE.out];rfl,HB.out⟩
theorem mayCs_eq (cs:List Co):mayCs cs=(decide (1<=cs.length/\cs.length<=32) && !(cs.any oddC)):=by
 unfold mayCs
 congr 1
 rw [List.not_any_eq_all_not]
 congr 1
 funext c
 simp [oddC]
theorem bmay_any (A:Option Addr) (n c:Nat) (cs:List Co) (w:World) (hr:Reads w w.heap.size 7 A n (cos cs)) (hn:n<=maxLen) :
  Calls Tryz.prog 96 #[.slice A n c] w fun e w'=>e=.returned (.bool (mayCs cs))/\Below w.heap.size w w':=by
 have hl:=cos_len hr
 have hE:=mayCs_eq cs
 rw [hl] at hE
 have HE:=Lib.hid hE
 clear hE
 by_cases h1:1<=n
 ·by_cases h2:n<=32
  ·have d1:decide ((1:Int)<=(n:Int))=true:=by simp;omega
   have d2:decide ((n:Int)<=32)=true:=by simp;omega
   have HE:=Lib.hid (show mayCs cs = !(cs.any oddC) by rw [HE.out];simp [h1,h2])
   clear hl
   go_enter Tryz.func96,Tryz.ntmps96
   go_wp2_with fail
   with_reducible refine (oddin_any A n c cs w hr hn).mono ?_
   rintro e w1 ⟨rfl,hb1⟩
   have HB:=Lib.hid hb1
   clear hb1 hr
   go_wp2
   go_ret
   exact ⟨by rw [HE.out];rfl,HB.out⟩
  have d1:decide ((1:Int)<=(n:Int))=true:=by simp;omega
  have d2:decide ((n:Int)<=32)=false:=by simp;omega
  have HE:=Lib.hid (show mayCs cs=false by rw [HE.out];simp [h2])
  clear hl hr
  go_enter Tryz.func96,Tryz.ntmps96
  go_wp2
  go_ret
  exact ⟨by rw [HE.out];rfl,Below.refl _ _⟩
 have d1:decide ((1:Int)<=(n:Int))=false:=by simp;omega
 have HE:=Lib.hid (show mayCs cs=false by rw [HE.out];simp [h1])
 clear hl hr
 go_enter Tryz.func96,Tryz.ntmps96
 go_wp2
 go_ret
 exact ⟨by rw [HE.out];rfl,Below.refl _ _⟩
theorem itemsE_drop (cs:List Co) (l:List It) (k:Nat) (it:It) (h:l[k]? = some it) :
  itemsE cs (l.drop k)=if rowE cs it.1=0 then (if it.2=0 then 172 else itemsE cs (l.drop (k+1))) else rowE cs it.1:=by
 obtain ⟨g,rfl⟩:=List.getElem?_eq_some_iff.1 h
 rw [List.drop_eq_getElem_cons g,itemsE]
set_option maxHeartbeats 2000000 in
theorem bcheck_any (A:Option Addr) (n c:Nat) (cs:List Co) (v s:Int) (I:Option Addr) (m d:Nat) (l:List It) (w:World) (hr:Reads w w.heap.size 7 A n (cos cs)) (hn:n<=maxLen) (hi:ItemsAt w w.heap.size I m l) (hm:m<=maxLen) (hT:Tabs w) :
  Calls Tryz.prog 40 #[.slice A n c,.agg #[.int .i64 v,.int .i64 s,.slice I m d]] w fun e w'=>e=endN (batE cs (v,s,l))/\Below w.heap.size w w':=by
 have Hr:=Lib.hid hr
 have Hi:=Lib.hid hi
 have HT:=Lib.hid hT
 have Hl:=Lib.hid hi.len
 have Hn:=Lib.hid hn
 have Hm:=Lib.hid hm
 have hm63:m<=9223372036854775807:=by simp only [maxLen] at hm;omega
 have B1:=Lib.hid (Blk.new w 30 #[.int .i64 v,.int .i64 s,.slice I m d])
 have HB:=Lib.hid ((Below.refl _ w).alloc (Nat.le_refl _) (.cells #[.int .i64 v,.int .i64 s,.slice I m d] 30))
 clear hr hi hT hn hm
 go_enter Tryz.func40,Tryz.ntmps40
 go_wp2_with fail
 with_reducible refine (bmay_any A n c cs _ (Hr.out.on HB.out) Hn.out).mono ?_
 rintro e w1 ⟨rfl,hb1⟩
 have B1:=Lib.hid (B1.out.on hb1)
 have HB:=Lib.hid (bon HB.out hb1)
 clear hb1
 have c0:=B1.out.cell 0
 have c1:=B1.out.cell 1
 have c2:=B1.out.cell 2
 by_cases hb:baB cs (v,s,l)=true
 ·have hbb:=hb
  unfold baB at hbb
  simp only [Bool.and_eq_true,decide_eq_true_eq] at hbb
  obtain ⟨hmay,hv0,hv1,hs0⟩:=hbb
  have HE0:=Lib.hid (show batE cs (v,s,l)=if 1048576<l.length then 5 else itemsE cs l by unfold batE;rw [if_pos hb])
  rw [hmay]
  have d1:decide (0<=v)=true:=by simpa using hv0
  have d2:decide (v<=2147483647)=true:=by simpa using hv1
  have d3:decide (0<=s)=true:=by simpa using hs0
  clear hmay hb
  go_wp2_with fail
  with_reducible refine (need_yes 2 _).mono ?_
  rintro e w2 ⟨rfl,rfl⟩
  by_cases hM:m<=1048576
  ·have d4:decide ((m:Int)<=1048576)=true:=by simp;omega
   have HE0:=Lib.hid (show batE cs (v,s,l)=itemsE cs l by rw [HE0.out,if_neg (by rw [Hl.out];omega)])
   clear d1 d2 d3 hv0 hv1 hs0
   go_wp2_with fail
   with_reducible refine (need_yes 5 _).mono ?_
   rintro e w2 ⟨rfl,rfl⟩
   go_wp2
   go_loopw [32] (fun i wr=>∃ k:Nat,k<=m/\i=.int .i64 (k:Int)/\Hid (itemsE cs l=itemsE cs (l.drop k))/\Hid (Below w.heap.size w wr)) (fun i _=>m-(intOf i).toNat)
   case atStart=>exact ⟨0,Nat.zero_le _,rfl,Lib.hid rfl,HB⟩
   case round=>
    obtain ⟨k,hk,rfl,HE,HL⟩:=hrel
    by_cases hlt:k<m
    ·obtain ⟨ad,A',c',it,rfl,hbk,hit,h0,h1,hrow,hc1,hc2⟩:=(Hi.out.below HL.out).at_ hlt
     have HD:=Lib.hid (itemsE_drop cs l k it hit)
     have HB1:=Lib.hid (bal HL.out (.cells #[.slice A' it.1.length c',.int .i64 it.2] 26))
     have BI:=Lib.hid (Blk.new wr 26 #[.slice A' it.1.length c',.int .i64 it.2])
     have Hrow:=Lib.hid ((hrow.more HL.out.size).al (.cells #[.slice A' it.1.length c',.int .i64 it.2] 26))
     have Hc:=Lib.hid (Nat.le_trans hc1 hc2)
     have hki:(k:Int)<(m:Int):=by omega
     clear hit hrow hc1 hc2 c0 c1 c2
     generalize hrl:it.1.length=rl at *
     have Hrl:=Lib.hid hrl
     clear hrl
     go_wp2_with fail
     with_reducible refine (prow_any A n c cs A' rl c' it.1 _ (Hr.out.on HB1.out) Hrow.out Hc.out (HT.out.on HB1.out)).mono ?_
     rintro e w3 ⟨rfl,hb3⟩
     have HB3:=Lib.hid (bon HB1.out hb3)
     have BI:=Lib.hid (BI.out.on hb3)
     clear hb3 h0 h1 hbk
     by_cases hz:rowE cs it.1=0
     ·have HD:=Lib.hid (show itemsE cs (l.drop k)=if it.2=0 then 172 else itemsE cs (l.drop (k+1)) by rw [HD.out,if_pos hz])
      generalize rowE cs it.1=E0 at hz ⊢
      subst hz
      go_wp2_with fail
      with_reducible refine (must_yes _).mono ?_
      rintro e w4 ⟨rfl,rfl⟩
      have c1:=BI.out.cell 1
      by_cases hw0:it.2=0
      ·have HX:=Lib.hid (show batE cs (v,s,l)=172 by rw [HE0.out,HE.out,HD.out,if_pos hw0])
       generalize it.2=W0 at *
       subst hw0
       go_wp2_with fail
       with_reducible refine (need_no 172 _).mono ?_
       rintro e w5 ⟨rfl,rfl⟩
       go_wp2
       refine ⟨rfl,?_,HB3.out⟩
       rw [HX.out]
       exact (endN_not (by decide)).symm
      have HX:=Lib.hid (show itemsE cs l=itemsE cs (l.drop (k+1)) by rw [HE.out,HD.out,if_neg hw0])
      have dw:(it.2 != 0)=true:=by simpa using hw0
      generalize it.2=W0 at *
      clear hw0
      go_wp2_with fail
      with_reducible refine (need_yes 172 _).mono ?_
      rintro e w5 ⟨rfl,rfl⟩
      go_wp2
      go_roundw
      case rel=>exact ⟨k+1,by omega,by go_num,HX,HB3⟩
      case measure=>simp [intOf];omega
     have HX:=Lib.hid (show rowE cs it.1=batE cs (v,s,l) by rw [HE0.out,HE.out,HD.out,if_neg hz])
     rw [HX.out] at hz ⊢
     have Hz:=Lib.hid hz
     clear hz
     go_wp2_with fail
     with_reducible refine (must_no (batE cs (v,s,l)) Hz.out _).mono ?_
     rintro e w4 ⟨rfl,rfl⟩
     go_wp2
     exact ⟨rfl,(endN_not Hz.out).symm,HB3.out⟩
    obtain rfl:k=m:=by omega
    have HE1:=Lib.hid (show batE cs (v,s,l)=0 by rw [HE0.out,HE.out,List.drop_of_length_le (by rw [Hl.out];exact Nat.le_refl _)];rfl)
    go_wp2
    go_end0
    exact ⟨by rw [HE1.out];rfl,HL.out⟩
  have d4:decide ((m:Int)<=1048576)=false:=by simp;omega
  have HE1:=Lib.hid (show batE cs (v,s,l)=5 by rw [HE0.out,if_pos (by rw [Hl.out];omega)])
  clear d1 d2 d3 hv0 hv1 hs0
  go_wp2_with fail
  with_reducible refine (need_no 5 _).mono ?_
  rintro e w2 ⟨rfl,rfl⟩
  go_wp2
  refine ⟨rfl,?_,HB.out⟩
  rw [HE1.out]
  exact (endN_not (by decide)).symm
 have HE1:=Lib.hid (show batE cs (v,s,l)=2 by unfold batE;rw [if_neg hb])
 have fin:∀ w',Below w.heap.size w w'->(thr 2=endN (batE cs (v,s,l))/\Below w.heap.size w w'):=fun w' h=>⟨by rw [HE1.out];exact (endN_not (by decide)).symm,h⟩
 have Hfin:=Lib.hid fin
 unfold baB at hb
 simp only [Bool.and_eq_true,decide_eq_true_eq] at hb
 clear fin
 cases hmay:mayCs cs with
 | false=>
  clear hb hmay
  go_wp2_with fail
  with_reducible refine (need_no 2 _).mono ?_
  rintro e w2 ⟨rfl,rfl⟩
  go_wp2
  exact ⟨rfl,Hfin.out _ HB.out⟩
 | true=>
  by_cases hv0:0<=v
  ·have d1:decide (0<=v)=true:=by simpa using hv0
   by_cases hv1:v<=2147483647
   ·have d2:decide (v<=2147483647)=true:=by simpa using hv1
    have hs0:¬0<=s:=fun h=>hb ⟨hmay,hv0,hv1,h⟩
    have d3:decide (0<=s)=false:=by simpa using hs0
    clear hb hmay hv0 hv1 hs0
    go_wp2_with fail
    with_reducible refine (need_no 2 _).mono ?_
    rintro e w2 ⟨rfl,rfl⟩
    go_wp2
    exact ⟨rfl,Hfin.out _ HB.out⟩
   have d2:decide (v<=2147483647)=false:=by simpa using hv1
   clear hb hmay hv0 hv1
   go_wp2_with fail
   with_reducible refine (need_no 2 _).mono ?_
   rintro e w2 ⟨rfl,rfl⟩
   go_wp2
   exact ⟨rfl,Hfin.out _ HB.out⟩
  have d1:decide (0<=v)=false:=by simpa using hv0
  clear hb hmay hv0
  go_wp2_with fail
  with_reducible refine (need_no 2 _).mono ?_
  rintro e w2 ⟨rfl,rfl⟩
  go_wp2
  exact ⟨rfl,Hfin.out _ HB.out⟩
end Go.Proofs.YtjpjalmilfgckaaGreatDoor
namespace Go.Proofs.YtjpjalmilfgckaaGreatDoor
open Go.RowKit
def CTab (w:World):Prop:=∀ i,i<16->w.cell? ⟨0,i,none⟩=some (.int .u32 ((step4 i:Nat):Int))
theorem CTab.on {w w':World} (h:CTab w) (hb:Below w.heap.size w w'):CTab w':=fun i hi=>
 (hb.cell (p:=⟨0,i,none⟩) (World.block_lt_of_cell? _ _ (h i hi))).trans (h i hi)
theorem not32_xor (r:Nat) (h:r<4294967296):bits .xor .u32 4294967295 (r:Int)=((4294967295-r:Nat):Int):=by
 rw [show (4294967295:Int)=((4294967295:Nat):Int) from rfl,u32_xor_nat 4294967295 r (by decide) h]
 congr 1
 apply Nat.eq_of_testBit_eq
 intro i
 rw [show 4294967295-r=2 ^ 32-(r+1) by omega,Nat.testBit_two_pow_sub_succ h,Nat.testBit_xor,show (4294967295:Nat)=2 ^ 32-1 from rfl,Nat.testBit_two_pow_sub_one]
 by_cases hi:i<32
 ·simp [hi]
 have:r.testBit i=false:=Nat.testBit_lt_two_pow (Nat.lt_of_lt_of_le h (Nat.pow_le_pow_right (n:=2) (by decide) (by omega:32<=i)))
 simp [hi,this]
theorem unary_not32 (r:Nat) (h:r<4294967296):Op.unary .xor (.int .u32 (r:Int))=pure (.int .u32 ((4294967295-r:Nat):Int)):=by
 rw [unary_xor,intBits_xor]
 congr 2
 exact not32_xor r h
theorem ctab_at (l:Nat) (h:l<16) (w:World):(Instr.indexAt 212 (.pointer (some ⟨0,0,none⟩)) (.int .u32 (l:Int))).run Tryz.prog w=.ok (.pointer (some ⟨0,l,none⟩)) w:=by
 have hu:=Tryz.underlying212
 have hz:=Tryz.sizeOf67 w
 simp only [Instr.indexAt,run_underlying hu,asIntOf,Instr.sureAddr,Sem.run_bind,Sem.run_pure,Result.andThen_ok]
 rw [if_pos (by omega)]
 simp only [hz,Sem.run_bind,Sem.run_pure,Result.andThen_ok]
 by_cases h0:l=0
 ·subst h0;rfl
 simp [Addr.add,h0]
theorem half_walk (w:World) (X:Nat) (hX:X<4294967296) (hT:CTab w):∃ q l Y:Nat,(X:Int) / 16=(q:Int)/\(X:Int) % 16=(l:Int)/\w.cell? ⟨0,l,none⟩=some (.int .u32 ((step4 l:Nat):Int)) /\
  bits .xor .u32 (q:Int) ((step4 l:Nat):Int)=(Y:Int)/\(∀ w',(Instr.indexAt 212 (.pointer (some ⟨0,0,none⟩)) (.int .u32 (l:Int))).run Tryz.prog w'=.ok (.pointer (some ⟨0,l,none⟩)) w')/\Y<4294967296/\Y=step4 X:=by
 have hl:X % 16<16:=Nat.mod_lt _ (by decide)
 refine ⟨X / 16,X % 16,step4 X,by omega,by omega,hT _ hl,?_,ctab_at _ hl,step4_lt hX,rfl⟩
 rw [u32_xor_nat _ _ (by omega) (step4_lt (by omega)),<-step4_half]
set_option maxHeartbeats 1000000 in
theorem update_any (s:Nat) (hs:s<4294967296) (A:Option Addr) (n c:Nat) (xs:List UInt8) (w:World) (hr:Reads w w.heap.size 1 A n (u8s xs)) (hn:n<=maxLen) (hT:CTab w) :
  Calls Tryz.prog 115 #[.int .u32 (s:Int),.slice A n c] w fun e w'=>e=.returned (.int .u32 ((crcU s xs:Nat):Int))/\w=w':=by
 have Hr:=Lib.hid hr
 have HT:=Lib.hid hT
 have Hl:=Lib.hid (reads_len hr)
 have hn63:n<=9223372036854775807:=by simp only [maxLen] at hn;omega
 clear hr hT hn
 have hx1:=unary_not32 s hs
 go_enter Tryz.func115,Tryz.ntmps115
 go_wp2
 go_loopw [5,12] (fun r i wr=>∃ j:Nat,j<=n/\i=.int .i64 (j:Int)/\r=.int .u32 ((crcR (4294967295-s) (xs.take j):Nat):Int)/\wr=w) (fun _ i _=>n-(intOf i).toNat)
 case atStart=>exact ⟨0,Nat.zero_le _,rfl,rfl,rfl⟩
 case round=>
  obtain ⟨j,hj,rfl,rfl,rfl⟩:=hrel
  have hlt0:=crcR_lt (r:=4294967295-s) (by omega) (xs.take j)
  obtain ⟨R,hR⟩:∃ R,R=crcR (4294967295-s) (xs.take j):=⟨_,rfl⟩
  rw [<-hR] at hlt0 ⊢
  have HR:=Lib.hid hR
  clear hR
  by_cases hlt:j<n
  ·obtain ⟨ad,v,rfl,hbk,hu,hcell⟩:=Hr.out.at_ hlt
   obtain ⟨x,hx,rfl⟩:=u8s_get _ _ _ hu
   have Hx:=Lib.hid hx
   clear hx hu hbk
   have hxl:=x.toNat_lt
   have e1:(x.toNat:Int) % 4294967296=(x.toNat:Int):=by omega
   have e2:=u32_xor_nat R x.toNat hlt0 (by omega)
   obtain ⟨X,hX⟩:∃ X,X=R ^^^ x.toNat:=⟨_,rfl⟩
   have hXl:X<4294967296:=by rw [hX];exact xorb_lt hlt0 x
   rw [<-hX] at e2
   obtain ⟨q,l,Y,e3,e4,c1,e5,hl,hYl,hYX⟩:=half_walk wr X hXl HT.out
   obtain ⟨q2,l2,Z,e6,e7,c2,e8,hl2,hZl,hZY⟩:=half_walk wr Y hYl HT.out
   have HE:=Lib.hid (show Z=crcR (4294967295-s) (xs.take (j+1)) by
    rw [List.take_add_one,Hx.out,crcR_append,<-HR.out,hZY,hYX,hX]
    rfl)
   clear hX hYX hZY
   go_wp2
   go_roundw
   case rel=>exact ⟨j+1,by omega,by go_num,by rw [HE.out],trivial⟩
   case measure=>simp [intOf];omega
  obtain rfl:j=n:=by omega
  have hx2:=unary_not32 R hlt0
  have HE:=Lib.hid (show 4294967295-R=crcU s xs by rw [HR.out,List.take_of_length_le (by rw [Hl.out];exact Nat.le_refl _)];rfl)
  rw [HE.out] at hx2
  go_wp2
  go_ret
  exact ⟨rfl,rfl⟩
end Go.Proofs.YtjpjalmilfgckaaGreatDoor
namespace Go.Proofs.YtjpjalmilfgckaaGreatDoor
open Go.RowKit
theorem csum_any (A:Option Addr) (n c:Nat) (xs:List UInt8) (w:World) (hr:Reads w w.heap.size 1 A n (u8s xs)) (hn:n<=maxLen) (hT:CTab w) :
  Calls Tryz.prog 49 #[.slice A n c] w fun e w'=>e=.returned (.int .u32 ((crcS xs:Nat):Int))/\w=w':=by
 have Hr:=Lib.hid hr
 have HT:=Lib.hid hT
 have cU:Calls Tryz.prog 115 #[.int .u32 0,.slice A n c] w _:=update_any 0 (by decide) A n c xs w Hr.out hn HT.out
 have CU:=Lib.hid cU
 clear hr hT cU
 go_enter Tryz.func49,Tryz.ntmps49
 go_wp2_with fail
 with_reducible refine CU.out.mono ?_
 rintro e w1 ⟨rfl,rfl⟩
 go_wp2
 go_ret
 exact ⟨rfl,rfl⟩
theorem sumB_cells (s:Nat):u8s (sumB s)=[.int .u8 ((s % 256:Nat):Int),.int .u8 ((s / 256 % 256:Nat):Int),.int .u8 ((s / 65536 % 256:Nat):Int),.int .u8 ((s / 16777216 % 256:Nat):Int)]:=by
 simp only [u8s,sumB,List.map_cons,List.map_nil,UInt8.toNat_ofNat']
def FourB (s:Nat) (w:World) (e:Ending) (w':World):Prop:=
 ∃ g,e=.returned (.slice (some ⟨g,0,none⟩) 4 4)/\g=w.heap.size/\w'.ownsRow w.heap.size 5 1 (.slice (some ⟨g,0,none⟩) 4 4) 4 (u8s (sumB s))/\Below w.heap.size w w'
theorem four_new (s:Nat) (w:World) (a b c d:Int) (ha:a=((s % 256:Nat):Int)) (hb:b=((s / 256 % 256:Nat):Int)) (hc:c=((s / 65536 % 256:Nat):Int)) (hd:d=((s / 16777216 % 256:Nat):Int)) :
  FourB s w (.returned (.slice (some ⟨w.heap.size,0,none⟩) 4 4)) (w.alloc (.cells #[.int .u8 a,.int .u8 b,.int .u8 c,.int .u8 d] 5)):=by
 subst ha hb hc hd
 refine ⟨_,rfl,rfl,?_,(Below.refl _ _).alloc (Nat.le_refl _) _⟩
 exact (Blk.new w 5 _).own (n:=4) (xs:=u8s (sumB s)) (Nat.le_refl _) (by rw [sumB_cells]) rfl (by decide)
theorem bsum_any (A:Option Addr) (n c:Nat) (xs:List UInt8) (w:World) (hr:Reads w w.heap.size 1 A n (u8s xs)) (hn:n<=maxLen) (hT:CTab w) :
  Calls Tryz.prog 45 #[.slice A n c] w (FourB (crcS xs) w):=by
 have Hr:=Lib.hid hr
 have HT:=Lib.hid hT
 clear hr hT
 have hs:crcS xs<4294967296:=crcU_lt 0 xs
 have CS:=Lib.hid (csum_any A n c xs w Hr.out hn HT.out)
 generalize crcS xs=s at hs CS ⊢
 go_enter Tryz.func45,Tryz.ntmps45
 go_wp2_with fail
 with_reducible refine CS.out.mono ?_
 rintro e w1 ⟨rfl,rfl⟩
 go_wp2
 go_ret
 refine four_new s w _ _ _ _ ?_ ?_ ?_ ?_<;>omega
end Go.Proofs.YtjpjalmilfgckaaGreatDoor
namespace Go.Proofs.YtjpjalmilfgckaaGreatDoor
open Go.RowKit
abbrev K9 (n:Int):Prop := -9223372036854775808<=n/\n<=9223372036854775807
end Go.Proofs.YtjpjalmilfgckaaGreatDoor
namespace Go.Proofs.YtjpjalmilfgckaaGreatDoor
open Go.RowKit Go.Deep Go.ChangeShapes Go.WideShapes Go.Shelf Go.Lib
theorem cells_of {H:Type} {enc:TypeId×Value->H} {w:World} {held:Bool} {a:Option Addr} {len cap:Nat} {d:DataW H} {p:List MemPlace} (h:DataW.Trod enc Tryz.prog w 0 (fun _=>true) held 24 (.slice a len cap) d p) :
  ∃ xs:List Cl,Reads w w.heap.size 3 a len (cls xs)/\len<=cap/\cap<=maxLen/\ClOk xs:=by
 haveI:Inhabited Cl:=⟨(false,0,⟨#[]⟩)⟩
 refine structs_of 3 (fun c:Cl=>[.bool c.1,.int .i64 c.2.1,.string c.2.2]) (fun c => -9223372036854775808<=c.2.1/\c.2.1<=9223372036854775807/\c.2.2.size<=maxLen) (by decide) (fun _=>rfl)
  Tryz.underlying24 (by kernel_rfl) (fun n cs y hy=>?_) h
 obtain ⟨m,hl,hc⟩:=struct_cells Tryz.underlying23 (by kernel_rfl) (by kernel_rfl) hy
 match cs,hl with
 | [v0,v1,v2],_=>
  obtain ⟨y0,g0⟩:=hc 0 _ _ rfl rfl
  obtain ⟨y1,g1⟩:=hc 1 _ _ rfl rfl
  obtain ⟨y2,g2⟩:=hc 2 _ _ rfl rfl
  obtain ⟨u,e0,-⟩:=DataW.trod_bool Tryz.underlying4 g0
  obtain ⟨k,e1,_,b1⟩:=DataW.trod_int Tryz.underlying2 g1
  obtain ⟨s,e2,_,b2⟩:=DataW.trod_string Tryz.underlying9 g2
  cases e0
  cases e1
  cases e2
  exact ⟨(u,k,s),rfl,(bounds_i64 b1).1,(bounds_i64 b1).2,b2⟩
theorem type_of {H:Type} {enc:TypeId×Value->H} {w:World} {held:Bool} {cs:Array Value} {d:DataW H} {p:List MemPlace} (h:DataW.Trod enc Tryz.prog w 0 (fun _=>true) held 43 (.agg cs) d p) :
  ∃ (k:Int) (nl:Bool),cs=#[.int .i64 k,.bool nl] /\ -9223372036854775808<=k/\k<=9223372036854775807:=by
 obtain ⟨fuel,hf⟩:=h
 obtain ⟨m,hl,hc⟩:=struct_cells Tryz.underlying43 (by kernel_rfl) (by kernel_rfl) hf
 obtain ⟨cl,hcl⟩:∃ cl,cl=cs.toList:=⟨_,rfl⟩
 have hcs:cs=cl.toArray:=by rw [hcl]
 have hcells:(Value.agg cs).cells=cs:=rfl
 rw [hcells,<-hcl] at hl hc
 match cl,hl with
 | [v0,v1],_=>
  obtain ⟨y0,g0⟩:=hc 0 _ _ rfl rfl
  obtain ⟨y1,g1⟩:=hc 1 _ _ rfl rfl
  obtain ⟨k,e0,_,b0⟩:=DataW.trod_int Tryz.underlying3 g0
  obtain ⟨u,e1,-⟩:=DataW.trod_bool Tryz.underlying4 g1
  cases e0
  cases e1
  exact ⟨k,u,hcs,(bounds_i64 b0).1,(bounds_i64 b0).2⟩
theorem first_eq:Pinned.utf8First=firstData:=by kernel_rfl
theorem tabs_of {w : World} (h1 : VarReads Tryz.prog w "unicode/utf8.first" firstData) (h2 : VarReads Tryz.prog w "unicode/utf8.acceptRanges" acceptData) : Tabs w :=
 utf8Tabs_of_readsT (U8Types.of196 Tryz.laysValid) ⟨by kernel_rfl,by kernel_rfl,by kernel_rfl,by kernel_rfl,by kernel_rfl,by kernel_rfl,by kernel_rfl⟩ h1 h2
end Go.Proofs.YtjpjalmilfgckaaGreatDoor
namespace Go.Proofs.YtjpjalmilfgckaaGreatDoor
open Go.RowKit
theorem putO_ok {k:Int} {nl:Bool} {l:List Cl} (xs:List UInt8) (h:putE k nl l=0):putO k nl l xs=putB k nl l xs:=by unfold putO;rw [if_pos h]
theorem putE_ok {k:Int} {nl:Bool} {l:List Cl} (hk:mayK k=true) (ha:allC k nl l=true):putE k nl l=0:=by simp [putE,hk,ha]
end Go.Proofs.YtjpjalmilfgckaaGreatDoor
