/- Part 14 of the walks, merged: each text under its own heading. Conditions: none of its own; each lemma states what it asks. -/
import Derived.Test.YtjpjalmilfgckaaGreatDoorIm7
import Derived.Test.YtjpjalmilfgckaaGreatDoorIm8
import Derived.Test.YtjpjalmilfgckaaGreatDoorIm9
import Derived.Test.YtjpjalmilfgckaaGreatDoorIm10
import Derived.Test.YtjpjalmilfgckaaGreatDoorIm13
set_option maxRecDepth 100000
set_option linter.unusedVariables false
set_option linter.unusedSimpArgs false
namespace Go.Proofs.YtjpjalmilfgckaaGreatDoor
open Go.RowKit
theorem reads_any (k:Int) (w:World) (h1:1<=k) (h5:k<=5):Calls Tryz.prog 157 #[.int .i64 k] w fun e w'=>e=.returned (.func (.func (getF k)) #[] #[])/\w=w':=by
 have hix:(Instr.index 244 (.agg #[.nilFunc,.func (.func 195) #[] #[],.func (.func 196) #[] #[],.func (.func 196) #[] #[],.func (.func 197) #[] #[],.func (.func 198) #[] #[]]) (.int .i64 k)).run Tryz.prog w=.ok (.func (.func (getF k)) #[] #[]) w:=by
  rcases (show k=1\/k=2\/k=3\/k=4\/k=5 by omega) with rfl | rfl | rfl | rfl | rfl
  all_goals kernel_rfl
 go_enter Tryz.func157,Tryz.ntmps157
 go_wp2
 go_ret
 exact ⟨rfl,rfl⟩
theorem getF_any (base g:Nat) (k:Int) (a:Nat) (B:Option Addr) (m cb:Nat) (xs:List UInt8) (N:Nat) (w:World) (h1:1<=k) (h5:k<=5) (h:ColG w base base g k a none 0 0 [] B m cb xs) (ha:a<=m) (hN:N<=1048576) (hT:TabB base w) :
  Calls Tryz.prog (getF k) #[.pointer (some ⟨g,0,none⟩),.int .i64 (N:Int)] w (GotF (getB k (xs.drop a) (N:Int)) base g k a B m cb xs w):=by
 rcases (show k=1\/k=2\/k=3\/k=4\/k=5 by omega) with rfl | rfl | rfl | rfl | rfl
 ·exact getBools_any base g a B m cb xs N w h ha (by omega) (by omega)
 ·have e:getB 2 (xs.drop a) (N:Int)=iterC (stepI 2 (xs.drop a)) N:=by simp only [getB,show ¬(2:Int)=1 by decide,show ¬(2:Int)=4 by decide,show ¬(2:Int)=5 by decide,if_false,Int.toNat_natCast]
  rw [e]
  exact getInts_any base g 2 a B m cb xs N w h ha hN (.inl rfl) hT
 ·have e:getB 3 (xs.drop a) (N:Int)=iterC (stepI 3 (xs.drop a)) N:=by simp only [getB,show ¬(3:Int)=1 by decide,show ¬(3:Int)=4 by decide,show ¬(3:Int)=5 by decide,if_false,Int.toNat_natCast]
  rw [e]
  exact getInts_any base g 3 a B m cb xs N w h ha hN (.inr rfl) hT
 ·exact getTexts_any base g a B m cb xs N w h ha (by omega) (by omega) hT
 have e:getB 5 (xs.drop a) (N:Int)=iterC (stepR (xs.drop a)) N:=by simp only [getB,show ¬(5:Int)=1 by decide,show ¬(5:Int)=4 by decide,if_true,if_false,Int.toNat_natCast]
 rw [e]
 exact getRaws_any base g 5 a B m cb xs N w h ha hN
theorem getF_in (k:Int) (h1:1<=k) (h5:k<=5) (args:Array Value) (w:World):(callFunc (getF k) args).run Tryz.prog w=.ok (.enter (getF k) args) w:=by
 rcases (show k=1\/k=2\/k=3\/k=4\/k=5 by omega) with rfl | rfl | rfl | rfl | rfl
 ·exact callFunc_in Tryz.func195 (by kernel_rfl) (by kernel_rfl) args w
 ·exact callFunc_in Tryz.func196 (by kernel_rfl) (by kernel_rfl) args w
 ·exact callFunc_in Tryz.func196 (by kernel_rfl) (by kernel_rfl) args w
 ·exact callFunc_in Tryz.func197 (by kernel_rfl) (by kernel_rfl) args w
 exact callFunc_in Tryz.func198 (by kernel_rfl) (by kernel_rfl) args w
theorem Apart.blk {w w':World} {B g p:Nat} {t:TypeId} {cs:Array Value} (h:Apart B g w w') (hb:Blk w p t cs) (hp:p<B) (hg:p≠g):Blk w' p t cs:=(h p hp hg).trans hb
theorem reads_cellb (w:World) (b:Nat) (hb:b=w.heap.size) (u:Bool) (x:Int) (s:ByteArray):Reads (w.alloc (.cells #[.bool u,.int .i64 x,.string s] 23)) (w.alloc (.cells #[.bool u,.int .i64 x,.string s] 23)).heap.size 3 (some ⟨b,0,none⟩) 1 (cls [(u,x,s)]):=by
 subst hb
 exact reads_cell w u x s
theorem cls_drop (l:List Cl) (k:Nat):(cls l).drop (k*3)=cls (l.drop k):=by
 induction k generalizing l with
 | zero=>simp
 | succ k ih=>
  cases l with
  | nil=>simp [cls]
  | cons c l=>
   have:=ih l
   simp only [List.drop_succ_cons]
   rw [<-this]
   simp [cls,Nat.add_mul]
theorem Reads.offblk {w:World} {B size n g i:Nat} {A:Option Addr} {xs:List Value} {v:Value} (h:Reads w B size A n xs) (hne:∀ ad,A=some ad->ad.block≠g):Reads (w.setCell ⟨g,i,none⟩ v) B size A n xs:=by
 refine ⟨h.1,fun hn=>?_⟩
 obtain ⟨ad,e,h1,h2⟩:=h.2 hn
 exact ⟨ad,e,h1,fun j u hu=>(World.cell?_setCell_other w _ _ _ (fun e2=>hne ad e (by rw [<-block_of_add ad j,<-e2]))).trans (h2 j u hu)⟩
def GotC3 (r:GotC) (w:World) (e:Ending) (w':World):Prop:=
 Below w.heap.size w w'/\match r with
  | .error n=>e=.returned (.tuple #[.slice none 0 0,.int .i64 0,.int .i64 (n:Int)])/\n≠0
  | .ok (l,s)=>l.length<=1048576/\∃ A c,e=.returned (.tuple #[.slice A l.length c,.int .i64 (s:Int),.int .i64 0])/\l.length<=c/\c<=maxLen/\w'.ownsRow w.heap.size 23 3 (.slice A l.length c) l.length (cls l)
set_option maxHeartbeats 2000000 in
theorem cget_any (B:Option Addr) (m cb:Nat) (xs:List UInt8) (k:Int) (nl:Bool) (n:Int) (w:World) (hr:Reads w w.heap.size 1 B m (u8s xs)) (hm:m<=cb) (hc:cb<=maxLen) (hT:Tabs w) :
  Calls Tryz.prog 98 #[.slice B m cb,.agg #[.int .i64 k,.bool nl],.int .i64 n] w (GotC3 (getC k nl xs n) w):=by
 have HT:=Lib.hid hT.low
 have Hr:=Lib.hid hr
 have Hmc:=Lib.hid (And.intro hm hc)
 have B4:=Lib.hid (Blk.new w 43 #[.int .i64 k,.bool nl])
 clear hr hm hc hT
 go_enter Tryz.func98,Tryz.ntmps98
 go_wp2_with fail
 with_reducible refine (may_any k nl _).mono ?_
 rintro e w1 ⟨rfl,hb1⟩
 have HB:=Lib.hid (bon ((Below.refl _ w).alloc (Nat.le_refl _) (.cells #[.int .i64 k,.bool nl] 43)) hb1)
 replace B4:=Lib.hid (B4.out.on hb1)
 clear hb1
 cases hmk:mayK k with
 | false=>
  have HE:=Lib.hid (show getC k nl xs n=.error 2 by unfold getC;rw [if_pos hmk])
  have c40:=B4.out.cell 0
  go_wp2
  go_ret3
  rw [HE.out]
  exact ⟨HB.out,rfl,by decide⟩
 | true=>
  obtain ⟨hk1,hk5⟩:1<=k/\k<=5:=by simpa [mayK] using hmk
  by_cases hn0:n<0
  ·have d1:decide (n<0)=true:=decide_eq_true hn0
   have HE:=Lib.hid (show getC k nl xs n=.error 6 by unfold getC;rw [if_neg (by simp [hmk]),if_pos (.inl hn0)])
   go_wp2
   go_ret3
   rw [HE.out]
   exact ⟨HB.out,rfl,by decide⟩
  have d1:decide (n<0)=false:=decide_eq_false hn0
  by_cases hn1:1048576<n
  ·have d2:decide (1048576<n)=true:=decide_eq_true hn1
   have HE:=Lib.hid (show getC k nl xs n=.error 6 by unfold getC;rw [if_neg (by simp [hmk]),if_pos (.inr hn1)])
   go_wp2
   go_ret3
   rw [HE.out]
   exact ⟨HB.out,rfl,by decide⟩
  have d2:decide (1048576<n)=false:=decide_eq_false hn1
  have hgc:getC k nl xs n=if nl=false then getB k xs n else if (unpackL xs n).2.2=0 then
    (match getB k (xs.drop (unpackL xs n).2.1) (countL (unpackL xs n).1 : Int) with
     | .ok (l,s)=>.ok (mergeL (unpackL xs n).1 l,(unpackL xs n).2.1+s)
     | .error e=>.error e)
   else .error (unpackL xs n).2.2:=by
   unfold getC
   rw [if_neg (by simp [hmk]),if_neg (by omega)]
   rfl
  have Hgc:=Lib.hid hgc
  obtain ⟨N,rfl⟩:∃ N:Nat,n=(N:Int):=⟨n.toNat,by omega⟩
  have HN:=Lib.hid (show N<=1048576 by omega)
  have c40:=B4.out.cell 0
  have c41:=(B4.out.alloc (.cells #[.int .i64 k,.slice none 0 0,.slice B m cb,.int .i64 0] 142)).cell 1
  have HC:=Lib.hid (show ColG (w1.alloc (.cells #[.int .i64 k,.slice none 0 0,.slice B m cb,.int .i64 0] 142)) w.heap.size w.heap.size w1.heap.size k (0:Nat) none 0 0 [] B m cb xs from
   ⟨Blk.new w1 _ _,HB.out.size,World.ownsRow_nil _ _ _ _,Nat.le_refl _,(Hr.out.below HB.out).alloc HB.out.size _,Hmc.out.1,Hmc.out.2⟩)
  have B40:=B4
  have B4:=Lib.hid (B4.out.alloc (.cells #[.int .i64 k,.slice none 0 0,.slice B m cb,.int .i64 0] 142))
  have HB:=Lib.hid (HB.out.alloc HB.out.size (.cells #[.int .i64 k,.slice none 0 0,.slice B m cb,.int .i64 0] 142))
  have Hg:=Lib.hid (show w.heap.size≠w1.heap.size from Nat.ne_of_lt B40.out.lt)
  have c42:=B4.out.cell 0
  have hin:=fun args w'=>getF_in k hk1 hk5 args w'
  clear hgc hn0 hn1
  cases nl with
  | false=>
   have hgc2:=Hgc.out
   rw [if_pos rfl] at hgc2
   have Hgc:=Lib.hid hgc2
   clear hgc2
   go_wp2_with fail
   with_reducible refine (reads_any k _ hk1 hk5).mono ?_
   rintro e w6 ⟨rfl,rfl⟩
   go_wp2_with fail
   with_reducible refine (getF_any w.heap.size w1.heap.size k 0 B m cb xs N _ hk1 hk5 HC.out (Nat.zero_le _) HN.out (HT.out.keep HB.out)).mono ?_
   rintro e w7 ⟨hb7,hp7,hm7⟩
   have HB7:=Lib.hid (HB.out.trans hb7)
   have B7:=Lib.hid (hp7.blk B4.out B4.out.lt Hg.out)
   rw [List.drop_zero] at hm7
   rcases hg:getB k xs (N:Int) with er | ⟨l,s⟩
   ·rw [hg] at hm7
    obtain ⟨rfl,he⟩:=hm7
    have HE:=Lib.hid (Hgc.out.trans hg)
    have hne:((er:Int)==0)=false:=by simp;omega
    have hne2:((er:Int) != 0)=true:=by simp;omega
    clear hb7 hp7 hg
    go_wp2
    go_ret3
    rw [HE.out]
    exact ⟨HB7.out,rfl,he⟩
   rw [hg] at hm7
   obtain ⟨rfl,q1,q2,A7,c7,q3,q4,q5⟩:=hm7
   have HE:=Lib.hid (Hgc.out.trans hg)
   have Q:=Lib.hid (And.intro q2 (And.intro q3 q4))
   have HC7:=Lib.hid q5
   have c71:=B7.out.cell 1
   have HL1:=Lib.hid (show ∀ w',w'=w7.drew->w'.cell? ⟨w1.heap.size,1,none⟩=some (.slice A7 l.length c7) from fun w' h=>by rw [h];exact HC7.out.blk.cell 1)
   have HL3:=Lib.hid (show ∀ w',w'=w7.drew->w'.cell? ⟨w1.heap.size,3,none⟩=some (.int .i64 (s:Int)) from fun w' h=>by rw [h];have:=HC7.out.blk.cell 3;rw [Nat.zero_add] at this;exact this)
   clear hb7 hp7 hg q1 q2 q3 q4 q5
   go_wp2
   have hS:w7.drew=w7.drew:=rfl
   refine hR (fun w'=>w'=w7.drew) [ff 0,ff 1,ff 2,ff 3,ff 4,ff 5,ff 6,ff 7,ff 8,ff 9,ff 10] ?_
   iterate 3
    refine hP hS ?_
   refine hP1 hS HL1.out ?_
   iterate 3
    refine hP hS ?_
   refine hP1 hS HL3.out ?_
   iterate 3
    refine hP hS ?_
   refine held_end ?_
   go_wp2
   go_ret3
   rw [HE.out]
   exact ⟨HB7.out.drew,Q.out.1,A7,c7,rfl,Q.out.2.1,Q.out.2.2,HC7.out.onDrew.cells⟩
  | true=>
   have hgc2:=Hgc.out
   rw [if_neg (by simp)] at hgc2
   have Hgc:=Lib.hid hgc2
   clear hgc2
   go_wp2_with fail
   with_reducible refine (bools_any w.heap.size w1.heap.size k 0 B m cb xs N _ HC.out (Nat.zero_le _) (by have:=HN.out;omega) (by have:=HN.out;omega)).mono ?_
   rintro e w3 ⟨AT,cT,rfl,q1,q2,q3,q4,q5,q6,q7⟩
   rw [List.drop_zero] at q1 q3 q4 q5
   simp only [List.drop_zero]
   generalize hu:unpackL xs (N:Int)=r at *
   obtain ⟨bl,sz,er⟩:=r
   have hbl:bl.length<=1048576:=by have:=(unpackL_size xs (N:Int)).2.1;rw [hu] at this;exact this
   clear hu
   simp only at q1 q3 q4 q5 Hgc
   rw [Nat.zero_add] at q4 q5
   have HB:=Lib.hid (HB.out.trans q6)
   have B4:=Lib.hid (q7.blk B4.out B4.out.lt Hg.out)
   by_cases he:er=0
   ·subst he
    have hgc2:=Hgc.out
    simp only [if_true] at hgc2
    have Hgc:=Lib.hid hgc2
    have HC:=Lib.hid q4
    have HL:=Lib.hid q3
    have HQ:=Lib.hid q5
    have c40:=B4.out.cell 0
    have hcl:countL bl<=1048576:=Nat.le_trans (countL_le bl) hbl
    have Hcl:=Lib.hid hcl
    have Hbl:=Lib.hid hbl
    clear q3 q4 q5 q6 q7 hgc2 hbl hcl c41 c42
    go_wp2_with fail
    with_reducible refine (mcount_any AT bl.length cT bl _ HL.out q1 q2).mono ?_
    rintro e w5 ⟨rfl,rfl⟩
    go_wp2_with fail
    with_reducible refine (reads_any k _ hk1 hk5).mono ?_
    rintro e w6 ⟨rfl,rfl⟩
    go_wp2_with fail
    with_reducible refine (getF_any w.heap.size w1.heap.size k sz B m cb xs (countL bl) _ hk1 hk5 HC.out HQ.out Hcl.out (HT.out.keep HB.out)).mono ?_
    rintro e w7 ⟨hb7,hp7,hm7⟩
    have HB7:=Lib.hid (HB.out.trans hb7)
    have B7:=Lib.hid (hp7.blk B4.out B4.out.lt Hg.out)
    rcases hg:getB k (xs.drop sz) (countL bl:Int) with er | ⟨l,s⟩
    ·rw [hg] at hm7
     obtain ⟨rfl,he⟩:=hm7
     have HE:=Lib.hid (show getC k true xs (N:Int)=.error er by rw [Hgc.out,hg];simp)
     have hne:((er:Int)==0)=false:=by simp;omega
     have hne2:((er:Int) != 0)=true:=by simp;omega
     clear hb7 hp7 hg
     go_wp2
     go_ret3
     rw [HE.out]
     exact ⟨HB7.out,rfl,he⟩
    rw [hg] at hm7
    obtain ⟨rfl,q3,q4,A7,c7,q5,q6,q7⟩:=hm7
    have HE:=Lib.hid (show getC k true xs (N:Int)=.ok (mergeL bl l,sz+s) by rw [Hgc.out,hg];simp)
    have HC7:=Lib.hid q7
    have c71:=B7.out.cell 1
    obtain ⟨b2,hb2⟩:∃ b2,b2=w7.heap.size:=⟨_,rfl⟩
    have HL7:=Lib.hid ((hp7.reads HL.out HC.out.blk (not_bls _)).more (B':=b2) (by rw [hb2];exact hb7.size))
    have HR7:=Lib.hid (show Reads w7 b2 3 A7 l.length (cls l) by rw [hb2];exact Reads.of_own HC7.out.cells)
    have Hlen:=Lib.hid (show l.length=countL bl from (getB_only k hk1 hk5 _ _ l s hg).1)
    have Hno:=Lib.hid (show ∀ c∈l,c.1=false from fun c hc=>((getB_only k hk1 hk5 _ _ l s hg).2.1 c hc).1)
    have Hwg:=Lib.hid (show w.heap.size<=w1.heap.size from HC7.out.far)
    have Hb2:=Lib.hid (show b2<=w7.heap.size by omega)
    have Hgb:=Lib.hid (show w1.heap.size<b2 by rw [hb2];exact HC7.out.blk.lt)
    have Hwb:=Lib.hid (show w.heap.size<=b2 by rw [hb2];exact HB7.out.size)
    have HG7:=Lib.hid HC7.out.blk
    have Hc7:=Lib.hid q5
    obtain ⟨j0,hj0,hk0,hj1,hk2⟩:=info_parts cell_info
    have hbl2:=Hbl.out
    clear hb7 hp7 hg q3 q4 q5 q6 q7 hb2 HB
    generalize w1.heap.size=g at *
    go_wp2
    go_loopw [6,66] (fun v i wr=>∃ (j:Nat) (A6:Option Addr) (c6:Nat) (A1:Option Addr) (c1:Nat),j<=bl.length/\v=.slice A6 j c6/\i=.int .i64 (j:Int)/\Hid (wr.ownsRow b2 23 3 (.slice A6 j c6) j (cls (mergeL (bl.take j) l))) /\
     Hid (Blk wr g 142 #[.int .i64 k,.slice A1 (l.length-countL (bl.take j)) c1,.slice B m cb,.int .i64 ((sz+s:Nat):Int)])/\Hid (l.length-countL (bl.take j)<=c1)/\Hid (Reads wr b2 3 A1 (l.length-countL (bl.take j)) (cls (l.drop (countL (bl.take j)))))/\Hid (Reads wr b2 1 AT bl.length (bls bl))/\Hid (b2<=wr.heap.size)/\Hid (Below w.heap.size w wr)) (fun _ i _=>bl.length-(intOf i).toNat)
    case atStart=>exact ⟨0,none,0,A7,c7,Nat.zero_le _,rfl,rfl,Lib.hid (by simpa [mergeL,cls] using World.ownsRow_nil _ _ _ _),by simpa [countL] using HG7,by simpa [countL] using Hc7,by simpa [countL] using HR7,HL7,Hb2,HB7⟩
    case round=>
     obtain ⟨j,A6,c6,A1,c1,hj,rfl,rfl,HO,HG,Hc1,HR,HL,Hb2,HB⟩:=hrel
     by_cases hlt:j<bl.length
     ·obtain ⟨ad,u,rfl,hbk,hu,hcell⟩:=HL.out.at_ hlt
      obtain ⟨is,hx,rfl⟩:=bls_get _ _ _ hu
      have Hx:=Lib.hid hx
      have hms:=mergeL_step bl l j is hx (by rw [Hlen.out];exact Nat.le_refl _)
      have Hms:=Lib.hid hms
      have hs1:j+1<=maxLen:=by simp only [maxLen];omega
      have hs2:(j+1)*32<=70368744177664:=by omega
      clear hu hx hbk hms
      have hbA:=Lib.hid ((Below.refl wr.heap.size wr).alloc (Nat.le_refl _) (.cells #[.bool true,.int .i64 0,.string ⟨#[]⟩] 23))
      obtain ⟨W0,hW0⟩:∃ W0,W0=wr.alloc (.cells #[.bool true,.int .i64 0,.string ⟨#[]⟩] 23):=⟨_,rfl⟩
      have HX:=Lib.hid (show Blk W0 wr.heap.size 23 #[.bool true,.int .i64 0,.string ⟨#[]⟩] by rw [hW0];exact Blk.new wr _ _)
      rw [<-hW0] at hbA
      cases is with
      | false=>
       have hct:=count_step bl j false Hx.out
       simp only [Bool.false_eq_true,if_false,Nat.add_zero] at hct
       have Hms:=Lib.hid (show mergeL (bl.take (j+1)) l=mergeL (bl.take j) l++[(true,0,⟨#[]⟩)] by rw [Hms.out];rfl)
       have HG:=Lib.hid (HG.out.on hbA.out)
       have HR:=Lib.hid (HR.out.below (hbA.out.mono Hb2.out))
       have HL:=Lib.hid (HL.out.below (hbA.out.mono Hb2.out))
       have HO:=Lib.hid (own_below HO.out hbA.out)
       have HB:=Lib.hid (HB.out.trans (hbA.out.mono HB.out.size))
       have Hb2:=Lib.hid (Nat.le_trans Hb2.out hbA.out.size)
       rw [<-hct] at HG Hc1 HR
       obtain ⟨n1,hn1⟩:∃ n1,n1=l.length-countL (bl.take (j+1)):=⟨_,rfl⟩
       rw [<-hn1] at HG Hc1 HR
       have Hn1:=Lib.hid hn1
       clear hct hn1
       subst hW0
       have x0:=HX.out.cell 0
       have x1:=HX.out.cell 1
       have x2:=HX.out.cell 2
       have HOa:=Lib.hid (own_below HO.out ((Below.refl _ (wr.alloc (.cells #[.bool true,.int .i64 0,.string ⟨#[]⟩] 23))).alloc (Nat.le_refl _) (.cells #[.bool true,.int .i64 0,.string ⟨#[]⟩] 23)))
       have HGa:=Lib.hid (HG.out.alloc (.cells #[.bool true,.int .i64 0,.string ⟨#[]⟩] 23))
       skip
       go_wp2_with (at_builtin
                    refine wpList_append_any _ rfl (.tmp 86) (.tmp 88) 24 rfl b2 23 j0 (.agg #[.bool false,.int .i64 0,.string ⟨#[]⟩]) 3 32 Tryz.underlying24 hj0 hk0 hj1 hk2 rfl (by decide) A6 j c6 _ rfl HOa.out (some ⟨_,0,none⟩) 1 1 (cls [(true,0,⟨#[]⟩)]) rfl (by exact reads_cellb _ _ (by simp) _ _ _) (cls_one _) hs1 hs2 (Nat.le_trans Hb2.out (by simp)) ?_
                    intro A8 c8 w8 r1 r2 r3 r4 r5
                    have HG:=Lib.hid (HGa.out.apart HOa.out (by decide) r3)
                    have R1:=Lib.hid r1
                    have R2:=Lib.hid r2
                    clear r1 r2 r3 r4 r5)
       have R1:=Lib.hid (show w8.ownsRow b2 23 3 (.slice A8 (j+1) c8) (j+1) (cls (mergeL (bl.take (j+1)) l)) by rw [Hms.out,cls_append];exact R1.out)
       have HR:=Lib.hid ((HR.out.alloc Hb2.out (.cells #[.bool true,.int .i64 0,.string ⟨#[]⟩] 23)).below R2.out)
       have HL:=Lib.hid ((HL.out.alloc Hb2.out (.cells #[.bool true,.int .i64 0,.string ⟨#[]⟩] 23)).below R2.out)
       have HB:=Lib.hid ((HB.out.alloc HB.out.size (.cells #[.bool true,.int .i64 0,.string ⟨#[]⟩] 23)).trans (R2.out.mono Hwb.out))
       have Hb3:=Lib.hid (show b2<=w8.heap.size from Nat.le_trans (Nat.le_trans Hb2.out (by simp)) R2.out.size)
       go_roundw
       case rel=>
        exact ⟨j+1,A8,c8,A1,c1,by omega,rfl,by go_num,R1,by rw [<-Hn1.out];exact HG,by rw [<-Hn1.out];exact Hc1,by rw [<-Hn1.out];exact HR,HL,Hb3,HB⟩
       case measure=>simp [intOf];omega
      | true=>
       go_wp2
       have hcs:=count_step bl j true Hx.out
       have hle:=countL_append (bl.take (j+1)) (bl.drop (j+1))
       rw [List.take_append_drop] at hle
       simp only [if_true] at hcs
       obtain ⟨cj,hcj⟩:∃ cj,cj=countL (bl.take j):=⟨_,rfl⟩
       rw [<-hcj] at HG Hc1 HR Hms hcs
       have Hcs:=Lib.hid hcs
       obtain ⟨n1,hn1e⟩:∃ n1,n1=l.length-cj:=⟨_,rfl⟩
       rw [<-hn1e] at HG Hc1 HR
       have Hn1e:=Lib.hid hn1e
       have hn1:1<=n1:=by have:=Hlen.out;omega
       have hn1c:n1<=c1:=Hc1.out
       have h1c:1<=c1:=by omega
       have hn1z:0<n1:=hn1
       have hn1i:(0:Int)<(n1:Int):=by omega
       have hn1j:(1:Int)<=(n1:Int):=by omega
       clear hn1e
       rw [<-hW0]
       clear hW0 hcs hle hcj
       obtain ⟨ad2,u,m2,s2,rfl,hbk2,hx2,h0,h1,h2⟩:=cls_at (HR.out.below (hbA.out.mono Hb2.out)) hn1
       rw [Nat.zero_mul,addc_zero] at h0 h1 h2
       have hx3:l[cj]? = some (u,m2,s2):=by rw [List.getElem?_drop] at hx2;simpa using hx2
       have hu:u=false:=Hno.out _ (List.mem_of_getElem? hx3)
       subst hu
       have Hms:=Lib.hid (show mergeL (bl.take (j+1)) l=mergeL (bl.take j) l++[(false,m2,s2)] by rw [Hms.out,hx3];rfl)
       have hG0:=HG.out.on hbA.out
       have hne:ad2.block≠g:=by
        intro hg
        unfold Blk at hG0
        simp only [World.cell?,hg,hG0] at h0
        split at h0
        ·cases h0
        have:=Array.mem_of_getElem? h0
        simp at this
       have HG0:=Lib.hid hG0
       have HV:∀ w',Apart b2 g W0 w'->∀ i,w'.cell? ⟨ad2.block,i,none⟩=W0.cell? ⟨ad2.block,i,none⟩:=fun w' h i=>World.cell?_of_block (h _ hbk2 hne)
       have HV0:=Lib.hid (show ∀ w',Apart b2 g W0 w'->w'.cell? ad2=some (.bool false) from fun w' h=>(World.cell?_of_block (h _ hbk2 hne)).trans h0)
       have HV1:=Lib.hid (show ∀ w',Apart b2 g W0 w'->w'.cell? ⟨ad2.block,ad2.off+1,none⟩=some (.int .i64 m2) from fun w' h=>(HV w' h _).trans h1)
       have HV2:=Lib.hid (show ∀ w',Apart b2 g W0 w'->w'.cell? ⟨ad2.block,ad2.off+2,none⟩=some (.string s2) from fun w' h=>(HV w' h _).trans h2)
       have hcut:=HR.out.cut (k:=1) hn1 hn1c
       obtain ⟨A9,hA9⟩:∃ A9,(if c1=1 then some ad2 else some ⟨ad2.block,ad2.off+3,none⟩)=A9:=⟨_,rfl⟩
       rw [Option.map_some,Nat.one_mul,addc_pos _ _ (by decide),hA9] at hcut
       have Hcut:=Lib.hid (show Reads wr b2 3 A9 (n1-1) (cls (l.drop (cj+1))) by have e:=cls_drop (l.drop cj) 1;rw [Nat.one_mul] at e;rw [e,List.drop_drop] at hcut;exact hcut)
       have Hne9:=Lib.hid (show ∀ ad,A9=some ad->ad.block≠g by
        intro ad h
        rw [<-hA9] at h
        split at h
        ·injection h with h;subst h;exact hne
        injection h with h;subst h;exact hne)
       obtain ⟨WX,hWX⟩:∃ WX,WX=((W0.setCell ⟨wr.heap.size,0,none⟩ (.bool false)).setCell ⟨wr.heap.size,1,none⟩ (.int .i64 m2)).setCell ⟨wr.heap.size,2,none⟩ (.string s2):=⟨_,rfl⟩
       have hbX:=Lib.hid (show Below wr.heap.size wr WX by rw [hWX];exact ((hbA.out.setCell (p:=⟨wr.heap.size,0,none⟩) (Nat.le_refl _) _).setCell (p:=⟨wr.heap.size,1,none⟩) (Nat.le_refl _) _).setCell (p:=⟨wr.heap.size,2,none⟩) (Nat.le_refl _) _)
       have HXX:=Lib.hid (show Blk WX wr.heap.size 23 #[.bool false,.int .i64 m2,.string s2] by rw [hWX];exact ((HX.out.set_ 0 (.bool false)).set_ 1 (.int .i64 m2)).set_ 2 (.string s2))
       have HGX:=Lib.hid (HG.out.on hbX.out)
       have HSX:=Lib.hid (show Apart b2 g W0 WX.drew from fun k hk hg=>(hbX.out.block k (Nat.lt_of_lt_of_le hk Hb2.out)).trans (hbA.out.block k (Nat.lt_of_lt_of_le hk Hb2.out)).symm)
       obtain ⟨WG,hWG⟩:∃ WG,WG=WX.setCell ⟨g,1,none⟩ (.slice A9 (n1-1) (c1-1)):=⟨_,rfl⟩
       have HWX:=Lib.hid hWX
       have HWG:=Lib.hid hWG
       clear hWX hWG
       have hS:Apart b2 g W0 W0.drew:=Apart.refl _ _ _
       have Hgp:=Lib.hid (show g<wr.heap.size from HG.out.lt)
       clear HV h0 h1 h2 hx2 hx3 hbk2 hcell hcut hG0 hne
       refine nR (fun w'=>Apart b2 g W0 w') (.pure 0 (.pure 1 (.pure 2 (.pure 3 (.pure 7 (.pure 8 (.pure 9 (.fork 4 10 (.pure 5 (.pure 6 (.fork 10 12 (.pure 11 (.eff 12 (.pure 13 (.pure 14 (.eff 15 .done))))) (.eff 10 (.pure 11 (.pure 13 (.pure 14 (.eff 15 .done)))))))) (.pure 11 (.eff 4 (.pure 5 (.pure 6 (.eff 12 (.pure 13 (.pure 14 (.eff 15 .done)))))))))))))))) ?_
       iterate 7
        refine nP hS ?_
       refine plan_fork ?_ ?_
       ·have c1':=HG0.out.cell 1
        refine nE fun K hK=>?_
        go_simp
        refine held_go hK hS fun hS=>?_
        clear hK K
        try simp only [zp]
        clear c1'
        refine nP hS ?_
        refine nP3 hS HV0.out HV1.out HV2.out ?_
        refine plan_fork ?_ ?_
        ·have c1':=HG0.out.cell 1
         refine nE fun K hK=>?_
         go_simp
         refine held_go hK hS fun hS=>?_
         clear hK K
         try simp only [zp]
         clear c1'
         refine nP hS ?_
         have c1':=HX.out.cell 0
         have c2':=HX.out.cell 1
         have c3':=HX.out.cell 2
         have f1':=HX.out.frozen 0
         have f2':=HX.out.frozen 1
         have f3':=HX.out.frozen 2
         refine nE fun K hK=>?_
         go_simp
         clear c1' c2' c3' f1' f2' f3'
         rw [<-HWX.out]
         refine held_go hK (by exact HSX.out) fun hS=>?_
         clear hK K
         try simp only [zp]
         refine nP hS ?_
         refine nP hS ?_
         have c2':=HGX.out.cell 1
         have f2':=HGX.out.frozen 1
         refine nE fun K hK=>?_
         go_simp
         clear c2' f2'
         rw [<-HWG.out]
         refine held_go hK (by exact (by rw [HWG.out];exact (Apart.trans HSX.out (Apart.refl _ _ _)).set 1 _)) fun hS=>?_
         clear hK K
         try simp only [zp]
         refine plan_end ?_
         obtain ⟨W5,hW5⟩:∃ W5,W5=WG.drew:=⟨_,rfl⟩
         have HX:=Lib.hid (show Blk W5 wr.heap.size 23 #[.bool false,.int .i64 m2,.string s2] by rw [hW5,HWG.out];exact (HXX.out.far (p:=⟨g,1,none⟩) (Nat.ne_of_gt Hgp.out) _).drew)
         have HO:=Lib.hid (show W5.ownsRow b2 23 3 (.slice A6 j c6) j (cls (mergeL (bl.take j) l)) by rw [hW5,HWG.out];exact own_below (own_far (own_below HO.out hbX.out) HGX.out (by decide) 1 _) ((Below.refl _ _).drew))
         have HG:=Lib.hid (show Blk W5 g 142 #[.int .i64 k,.slice A9 (n1-1) (c1-1),.slice B m cb,.int .i64 ((sz+s:Nat):Int)] by rw [hW5,HWG.out];exact (HGX.out.set_ 1 _).drew)
         have HR:=Lib.hid (show Reads W5 b2 3 A9 (n1-1) (cls (l.drop (cj+1))) by rw [hW5,HWG.out];exact ((Hcut.out.below (hbX.out.mono Hb2.out)).offblk Hne9.out).drew)
         have HL:=Lib.hid (show Reads W5 b2 1 (some ad) bl.length (bls bl) by rw [hW5,HWG.out];exact ((HL.out.below (hbX.out.mono Hb2.out)).notin HGX.out (not_bls _)).drew)
         have HB:=Lib.hid (show Below w.heap.size w W5 by rw [hW5,HWG.out];exact ((HB.out.trans (hbX.out.mono HB.out.size)).setCell (p:=⟨g,1,none⟩) Hwg.out _).drew)
         have Hb2:=Lib.hid (show b2<=W5.heap.size by rw [hW5,HWG.out];have h1:=hbX.out.size;have h2:=Hb2.out;simp;omega)
         rw [<-hW5]
         have Hc1:=Lib.hid (show n1-1<=c1-1 by omega)
         have Hn1:=Lib.hid (show n1-1=l.length-countL (bl.take (j+1)) by rw [Hcs.out];have:=Hn1e.out;omega)
         rw [<-Hcs.out] at HR
         obtain ⟨n2,hn2⟩:∃ n2,n2=n1-1:=⟨_,rfl⟩
         rw [<-hn2] at HG HR Hc1 Hn1
         obtain ⟨c2,hc2⟩:∃ c2,c2=c1-1:=⟨_,rfl⟩
         rw [<-hc2] at HG Hc1
         clear hW5 hn1 hn1c h1c hn1z hn1i hn1j hn2 hc2 hS
         have x0:=HX.out.cell 0
         have x1:=HX.out.cell 1
         have x2:=HX.out.cell 2
         have HOa:=Lib.hid (own_below HO.out ((Below.refl _ W5).alloc (Nat.le_refl _) (.cells #[.bool false,.int .i64 m2,.string s2] 23)))
         have HGa:=Lib.hid (HG.out.alloc (.cells #[.bool false,.int .i64 m2,.string s2] 23))
         skip
         go_wp2_with (at_builtin
                      refine wpList_append_any _ rfl (.tmp 86) (.tmp 88) 24 rfl b2 23 j0 (.agg #[.bool false,.int .i64 0,.string ⟨#[]⟩]) 3 32 Tryz.underlying24 hj0 hk0 hj1 hk2 rfl (by decide) A6 j c6 _ rfl HOa.out (some ⟨_,0,none⟩) 1 1 (cls [(false,m2,s2)]) rfl (by exact reads_cellb _ _ (by simp) _ _ _) (cls_one _) hs1 hs2 (Nat.le_trans Hb2.out (by simp)) ?_
                      intro A8 c8 w8 r1 r2 r3 r4 r5
                      have HG:=Lib.hid (HGa.out.apart HOa.out (by decide) r3)
                      have R1:=Lib.hid r1
                      have R2:=Lib.hid r2
                      clear r1 r2 r3 r4 r5)
         have R1:=Lib.hid (show w8.ownsRow b2 23 3 (.slice A8 (j+1) c8) (j+1) (cls (mergeL (bl.take (j+1)) l)) by rw [Hms.out,cls_append];exact R1.out)
         have HR:=Lib.hid ((HR.out.alloc Hb2.out (.cells #[.bool false,.int .i64 m2,.string s2] 23)).below R2.out)
         have HL:=Lib.hid ((HL.out.alloc Hb2.out (.cells #[.bool false,.int .i64 m2,.string s2] 23)).below R2.out)
         have HB:=Lib.hid ((HB.out.alloc HB.out.size (.cells #[.bool false,.int .i64 m2,.string s2] 23)).trans (R2.out.mono Hwb.out))
         have Hb3:=Lib.hid (show b2<=w8.heap.size from Nat.le_trans (Nat.le_trans Hb2.out (by simp)) R2.out.size)
         go_roundw
         case rel=>
          exact ⟨j+1,A8,c8,A9,c2,by omega,rfl,by go_num,R1,by rw [<-Hn1.out];exact HG,by rw [<-Hn1.out];exact Hc1,by rw [<-Hn1.out];exact HR,HL,Hb3,HB⟩
         case measure=>simp [intOf];omega
        have c1':=HX.out.cell 0
        have c2':=HX.out.cell 1
        have c3':=HX.out.cell 2
        have f1':=HX.out.frozen 0
        have f2':=HX.out.frozen 1
        have f3':=HX.out.frozen 2
        refine nE fun K hK=>?_
        go_simp
        clear c1' c2' c3' f1' f2' f3'
        rw [<-HWX.out]
        refine held_go hK (by exact HSX.out) fun hS=>?_
        clear hK K
        try simp only [zp]
        have c1':=HGX.out.cell 1
        refine nE fun K hK=>?_
        go_simp
        refine held_go hK hS fun hS=>?_
        clear hK K
        try simp only [zp]
        clear c1'
        refine nP hS ?_
        refine nP hS ?_
        refine nP hS ?_
        have c2':=HGX.out.cell 1
        have f2':=HGX.out.frozen 1
        refine nE fun K hK=>?_
        go_simp
        clear c2' f2'
        rw [<-HWG.out]
        refine held_go hK (by exact (by rw [HWG.out];exact (Apart.trans HSX.out (Apart.refl _ _ _)).set 1 _)) fun hS=>?_
        clear hK K
        try simp only [zp]
        refine plan_end ?_
        obtain ⟨W5,hW5⟩:∃ W5,W5=WG.drew:=⟨_,rfl⟩
        have HX:=Lib.hid (show Blk W5 wr.heap.size 23 #[.bool false,.int .i64 m2,.string s2] by rw [hW5,HWG.out];exact (HXX.out.far (p:=⟨g,1,none⟩) (Nat.ne_of_gt Hgp.out) _).drew)
        have HO:=Lib.hid (show W5.ownsRow b2 23 3 (.slice A6 j c6) j (cls (mergeL (bl.take j) l)) by rw [hW5,HWG.out];exact own_below (own_far (own_below HO.out hbX.out) HGX.out (by decide) 1 _) ((Below.refl _ _).drew))
        have HG:=Lib.hid (show Blk W5 g 142 #[.int .i64 k,.slice A9 (n1-1) (c1-1),.slice B m cb,.int .i64 ((sz+s:Nat):Int)] by rw [hW5,HWG.out];exact (HGX.out.set_ 1 _).drew)
        have HR:=Lib.hid (show Reads W5 b2 3 A9 (n1-1) (cls (l.drop (cj+1))) by rw [hW5,HWG.out];exact ((Hcut.out.below (hbX.out.mono Hb2.out)).offblk Hne9.out).drew)
        have HL:=Lib.hid (show Reads W5 b2 1 (some ad) bl.length (bls bl) by rw [hW5,HWG.out];exact ((HL.out.below (hbX.out.mono Hb2.out)).notin HGX.out (not_bls _)).drew)
        have HB:=Lib.hid (show Below w.heap.size w W5 by rw [hW5,HWG.out];exact ((HB.out.trans (hbX.out.mono HB.out.size)).setCell (p:=⟨g,1,none⟩) Hwg.out _).drew)
        have Hb2:=Lib.hid (show b2<=W5.heap.size by rw [hW5,HWG.out];have h1:=hbX.out.size;have h2:=Hb2.out;simp;omega)
        rw [<-hW5]
        have Hc1:=Lib.hid (show n1-1<=c1-1 by omega)
        have Hn1:=Lib.hid (show n1-1=l.length-countL (bl.take (j+1)) by rw [Hcs.out];have:=Hn1e.out;omega)
        rw [<-Hcs.out] at HR
        obtain ⟨n2,hn2⟩:∃ n2,n2=n1-1:=⟨_,rfl⟩
        rw [<-hn2] at HG HR Hc1 Hn1
        obtain ⟨c2,hc2⟩:∃ c2,c2=c1-1:=⟨_,rfl⟩
        rw [<-hc2] at HG Hc1
        clear hW5 hn1 hn1c h1c hn1z hn1i hn1j hn2 hc2 hS
        have x0:=HX.out.cell 0
        have x1:=HX.out.cell 1
        have x2:=HX.out.cell 2
        have HOa:=Lib.hid (own_below HO.out ((Below.refl _ W5).alloc (Nat.le_refl _) (.cells #[.bool false,.int .i64 m2,.string s2] 23)))
        have HGa:=Lib.hid (HG.out.alloc (.cells #[.bool false,.int .i64 m2,.string s2] 23))
        skip
        go_wp2_with (at_builtin
                     refine wpList_append_any _ rfl (.tmp 86) (.tmp 88) 24 rfl b2 23 j0 (.agg #[.bool false,.int .i64 0,.string ⟨#[]⟩]) 3 32 Tryz.underlying24 hj0 hk0 hj1 hk2 rfl (by decide) A6 j c6 _ rfl HOa.out (some ⟨_,0,none⟩) 1 1 (cls [(false,m2,s2)]) rfl (by exact reads_cellb _ _ (by simp) _ _ _) (cls_one _) hs1 hs2 (Nat.le_trans Hb2.out (by simp)) ?_
                     intro A8 c8 w8 r1 r2 r3 r4 r5
                     have HG:=Lib.hid (HGa.out.apart HOa.out (by decide) r3)
                     have R1:=Lib.hid r1
                     have R2:=Lib.hid r2
                     clear r1 r2 r3 r4 r5)
        have R1:=Lib.hid (show w8.ownsRow b2 23 3 (.slice A8 (j+1) c8) (j+1) (cls (mergeL (bl.take (j+1)) l)) by rw [Hms.out,cls_append];exact R1.out)
        have HR:=Lib.hid ((HR.out.alloc Hb2.out (.cells #[.bool false,.int .i64 m2,.string s2] 23)).below R2.out)
        have HL:=Lib.hid ((HL.out.alloc Hb2.out (.cells #[.bool false,.int .i64 m2,.string s2] 23)).below R2.out)
        have HB:=Lib.hid ((HB.out.alloc HB.out.size (.cells #[.bool false,.int .i64 m2,.string s2] 23)).trans (R2.out.mono Hwb.out))
        have Hb3:=Lib.hid (show b2<=w8.heap.size from Nat.le_trans (Nat.le_trans Hb2.out (by simp)) R2.out.size)
        go_roundw
        case rel=>
         exact ⟨j+1,A8,c8,A9,c2,by omega,rfl,by go_num,R1,by rw [<-Hn1.out];exact HG,by rw [<-Hn1.out];exact Hc1,by rw [<-Hn1.out];exact HR,HL,Hb3,HB⟩
        case measure=>simp [intOf];omega
       have c1':=HG0.out.cell 1
       refine nE fun K hK=>?_
       go_simp
       refine held_go hK hS fun hS=>?_
       clear hK K
       try simp only [zp]
       clear c1'
       refine nP hS ?_
       have c1':=HG0.out.cell 1
       refine nE fun K hK=>?_
       go_simp
       refine held_go hK hS fun hS=>?_
       clear hK K
       try simp only [zp]
       clear c1'
       refine nP hS ?_
       refine nP3 hS HV0.out HV1.out HV2.out ?_
       have c1':=HX.out.cell 0
       have c2':=HX.out.cell 1
       have c3':=HX.out.cell 2
       have f1':=HX.out.frozen 0
       have f2':=HX.out.frozen 1
       have f3':=HX.out.frozen 2
       refine nE fun K hK=>?_
       go_simp
       clear c1' c2' c3' f1' f2' f3'
       rw [<-HWX.out]
       refine held_go hK (by exact HSX.out) fun hS=>?_
       clear hK K
       try simp only [zp]
       refine nP hS ?_
       refine nP hS ?_
       have c2':=HGX.out.cell 1
       have f2':=HGX.out.frozen 1
       refine nE fun K hK=>?_
       go_simp
       clear c2' f2'
       rw [<-HWG.out]
       refine held_go hK (by exact (by rw [HWG.out];exact (Apart.trans HSX.out (Apart.refl _ _ _)).set 1 _)) fun hS=>?_
       clear hK K
       try simp only [zp]
       refine plan_end ?_
       obtain ⟨W5,hW5⟩:∃ W5,W5=WG.drew:=⟨_,rfl⟩
       have HX:=Lib.hid (show Blk W5 wr.heap.size 23 #[.bool false,.int .i64 m2,.string s2] by rw [hW5,HWG.out];exact (HXX.out.far (p:=⟨g,1,none⟩) (Nat.ne_of_gt Hgp.out) _).drew)
       have HO:=Lib.hid (show W5.ownsRow b2 23 3 (.slice A6 j c6) j (cls (mergeL (bl.take j) l)) by rw [hW5,HWG.out];exact own_below (own_far (own_below HO.out hbX.out) HGX.out (by decide) 1 _) ((Below.refl _ _).drew))
       have HG:=Lib.hid (show Blk W5 g 142 #[.int .i64 k,.slice A9 (n1-1) (c1-1),.slice B m cb,.int .i64 ((sz+s:Nat):Int)] by rw [hW5,HWG.out];exact (HGX.out.set_ 1 _).drew)
       have HR:=Lib.hid (show Reads W5 b2 3 A9 (n1-1) (cls (l.drop (cj+1))) by rw [hW5,HWG.out];exact ((Hcut.out.below (hbX.out.mono Hb2.out)).offblk Hne9.out).drew)
       have HL:=Lib.hid (show Reads W5 b2 1 (some ad) bl.length (bls bl) by rw [hW5,HWG.out];exact ((HL.out.below (hbX.out.mono Hb2.out)).notin HGX.out (not_bls _)).drew)
       have HB:=Lib.hid (show Below w.heap.size w W5 by rw [hW5,HWG.out];exact ((HB.out.trans (hbX.out.mono HB.out.size)).setCell (p:=⟨g,1,none⟩) Hwg.out _).drew)
       have Hb2:=Lib.hid (show b2<=W5.heap.size by rw [hW5,HWG.out];have h1:=hbX.out.size;have h2:=Hb2.out;simp;omega)
       rw [<-hW5]
       have Hc1:=Lib.hid (show n1-1<=c1-1 by omega)
       have Hn1:=Lib.hid (show n1-1=l.length-countL (bl.take (j+1)) by rw [Hcs.out];have:=Hn1e.out;omega)
       rw [<-Hcs.out] at HR
       obtain ⟨n2,hn2⟩:∃ n2,n2=n1-1:=⟨_,rfl⟩
       rw [<-hn2] at HG HR Hc1 Hn1
       obtain ⟨c2,hc2⟩:∃ c2,c2=c1-1:=⟨_,rfl⟩
       rw [<-hc2] at HG Hc1
       clear hW5 hn1 hn1c h1c hn1z hn1i hn1j hn2 hc2 hS
       have x0:=HX.out.cell 0
       have x1:=HX.out.cell 1
       have x2:=HX.out.cell 2
       have HOa:=Lib.hid (own_below HO.out ((Below.refl _ W5).alloc (Nat.le_refl _) (.cells #[.bool false,.int .i64 m2,.string s2] 23)))
       have HGa:=Lib.hid (HG.out.alloc (.cells #[.bool false,.int .i64 m2,.string s2] 23))
       skip
       go_wp2_with (at_builtin
                    refine wpList_append_any _ rfl (.tmp 86) (.tmp 88) 24 rfl b2 23 j0 (.agg #[.bool false,.int .i64 0,.string ⟨#[]⟩]) 3 32 Tryz.underlying24 hj0 hk0 hj1 hk2 rfl (by decide) A6 j c6 _ rfl HOa.out (some ⟨_,0,none⟩) 1 1 (cls [(false,m2,s2)]) rfl (by exact reads_cellb _ _ (by simp) _ _ _) (cls_one _) hs1 hs2 (Nat.le_trans Hb2.out (by simp)) ?_
                    intro A8 c8 w8 r1 r2 r3 r4 r5
                    have HG:=Lib.hid (HGa.out.apart HOa.out (by decide) r3)
                    have R1:=Lib.hid r1
                    have R2:=Lib.hid r2
                    clear r1 r2 r3 r4 r5)
       have R1:=Lib.hid (show w8.ownsRow b2 23 3 (.slice A8 (j+1) c8) (j+1) (cls (mergeL (bl.take (j+1)) l)) by rw [Hms.out,cls_append];exact R1.out)
       have HR:=Lib.hid ((HR.out.alloc Hb2.out (.cells #[.bool false,.int .i64 m2,.string s2] 23)).below R2.out)
       have HL:=Lib.hid ((HL.out.alloc Hb2.out (.cells #[.bool false,.int .i64 m2,.string s2] 23)).below R2.out)
       have HB:=Lib.hid ((HB.out.alloc HB.out.size (.cells #[.bool false,.int .i64 m2,.string s2] 23)).trans (R2.out.mono Hwb.out))
       have Hb3:=Lib.hid (show b2<=w8.heap.size from Nat.le_trans (Nat.le_trans Hb2.out (by simp)) R2.out.size)
       go_roundw
       case rel=>
        exact ⟨j+1,A8,c8,A9,c2,by omega,rfl,by go_num,R1,by rw [<-Hn1.out];exact HG,by rw [<-Hn1.out];exact Hc1,by rw [<-Hn1.out];exact HR,HL,Hb3,HB⟩
       case measure=>simp [intOf];omega
     obtain rfl:j=bl.length:=by omega
     have HL3:=Lib.hid (show ∀ w',w'=wr.drew->w'.cell? ⟨g,3,none⟩=some (.int .i64 ((sz+s:Nat):Int)) from fun w' h=>by rw [h];exact HG.out.cell 3)
     have Hml:=Lib.hid (show (mergeL bl l).length=bl.length from mergeL_len bl l (by rw [Hlen.out];exact Nat.le_refl _))
     go_wp2
     have hS:wr.drew=wr.drew:=rfl
     refine hR (fun w'=>w'=wr.drew) [ff 0,ff 1,ff 2,ff 3,ff 4,ff 5,ff 6,ff 7] ?_
     iterate 4
      refine hP hS ?_
     refine hP1 hS HL3.out ?_
     iterate 3
      refine hP hS ?_
     refine held_end ?_
     go_wp2
     go_ret3
     rw [HE.out]
     have ho:=HO.out
     rw [List.take_of_length_le (Nat.le_refl _)] at ho
     obtain ⟨q1,q2⟩:=own_caps ho
     refine ⟨HB.out.drew,by rw [Hml.out];exact hbl2,A6,c6,by rw [Hml.out];rfl,by rw [Hml.out];exact q1,q2,?_⟩
     rw [Hml.out]
     exact own_mono (own_below ho ((Below.refl _ _).drew)) Hwb.out
   have HE:=Lib.hid (show getC k true xs (N:Int)=.error er by rw [Hgc.out,if_neg he])
   have hne:((er:Int)==0)=false:=by simp;omega
   have hne2:((er:Int) != 0)=true:=by simp;omega
   clear q1 q2 q3 q4 q5 q6 q7
   go_wp2
   go_ret3
   rw [HE.out]
   exact ⟨HB.out,rfl,he⟩
end Go.Proofs.YtjpjalmilfgckaaGreatDoor
namespace Go.Proofs.YtjpjalmilfgckaaGreatDoor
open Go.RowKit
def coV (c:Co):List Value:=[.int .i64 c.1,.string c.2.1,.int .i64 c.2.2.1,.bool c.2.2.2.1,.bool c.2.2.2.2.1,.int .i64 c.2.2.2.2.2.1,.string c.2.2.2.2.2.2]
def cos (l:List Co):List Value:=l.flatMap coV
theorem cos_length (l:List Co):(cos l).length=7*l.length:=by
 rw [cos,flatMap_length _ 7 (fun _=>rfl)]
 omega
theorem cos_len {w:World} {B n:Nat} {A:Option Addr} {l:List Co} (h:Reads w B 7 A n (cos l)):l.length=n:=by
 have:=h.1
 rw [cos_length] at this
 omega
theorem cos_one (l:List Co):∀ u∈cos l,u.oneCell'=true:=by
 intro u hu
 obtain ⟨c,-,hc⟩:=List.mem_flatMap.1 hu
 simp [coV] at hc
 rcases hc with rfl | rfl | rfl | rfl | rfl | rfl | rfl<;>rfl
structure CoAt (w:World) (p:Addr) (c:Co):Prop where
 c0:w.cell? p=some (.int .i64 c.1)
 c1:w.cell? ⟨p.block,p.off+1,none⟩=some (.string c.2.1)
 c2:w.cell? ⟨p.block,p.off+2,none⟩=some (.int .i64 c.2.2.1)
 c3:w.cell? ⟨p.block,p.off+3,none⟩=some (.bool c.2.2.2.1)
 c4:w.cell? ⟨p.block,p.off+4,none⟩=some (.bool c.2.2.2.2.1)
 c5:w.cell? ⟨p.block,p.off+5,none⟩=some (.int .i64 c.2.2.2.2.2.1)
 c6:w.cell? ⟨p.block,p.off+6,none⟩=some (.string c.2.2.2.2.2.2)
theorem cos_at {w:World} {B n k:Nat} {A:Option Addr} {l:List Co} (h:Reads w B 7 A n (cos l)) (hk:k<n):∃ ad c,A=some ad/\ad.block<B/\l[k]? = some c/\CoAt w (ad.add (k*7)) c:=by
 have hl:=cos_len h
 obtain ⟨ad,e,hb,hc⟩:=h.2 (by omega)
 have key:∀ j v,(coV l[k])[j]? = some v->w.cell? ((ad.add (k*7)).add j)=some v:=fun j v hv=>by
  have hj:j<7:=(List.getElem?_eq_some_iff.1 hv).1
  rw [add_of_add]
  exact hc _ _ (by rw [cos,flatMap_at _ 7 (fun _=>rfl) l k j l[k] (List.getElem?_eq_getElem (by omega)) hj];exact hv)
 refine ⟨ad,l[k],e,hb,List.getElem?_eq_getElem (by omega),?_,?_,?_,?_,?_,?_,?_⟩
 ·have:=key 0 _ rfl
  rwa [addc_zero] at this
 ·have:=key 1 _ rfl
  rwa [addc_pos _ _ (by decide)] at this
 ·have:=key 2 _ rfl
  rwa [addc_pos _ _ (by decide)] at this
 ·have:=key 3 _ rfl
  rwa [addc_pos _ _ (by decide)] at this
 ·have:=key 4 _ rfl
  rwa [addc_pos _ _ (by decide)] at this
 ·have:=key 5 _ rfl
  rwa [addc_pos _ _ (by decide)] at this
 have:=key 6 _ rfl
 rwa [addc_pos _ _ (by decide)] at this
theorem CoAt.on {w w':World} {p:Addr} {c:Co} {B:Nat} (h:CoAt w p c) (hb:Below B w w') (hp:p.block<B):CoAt w' p c:=
 ⟨(hb.cell hp).trans h.c0, (hb.cell (p := ⟨p.block, p.off + 1, none⟩) hp).trans h.c1, (hb.cell (p := ⟨p.block, p.off + 2, none⟩) hp).trans h.c2, (hb.cell (p := ⟨p.block, p.off + 3, none⟩) hp).trans h.c3,
  (hb.cell (p:=⟨p.block,p.off+4,none⟩) hp).trans h.c4,(hb.cell (p:=⟨p.block,p.off+5,none⟩) hp).trans h.c5,(hb.cell (p:=⟨p.block,p.off+6,none⟩) hp).trans h.c6⟩
abbrev Hd:=Option Addr×Nat×Nat
def itV (h:Hd) (it:It):List Value:=[.slice h.1 h.2.1 h.2.2,.int .i64 it.2]
def its (hs:List Hd) (l:List It):List Value:=(hs.zip l).flatMap fun p=>itV p.1 p.2
theorem its_length (hs:List Hd) (l:List It) (h:hs.length=l.length):(its hs l).length=2*l.length:=by
 rw [its,flatMap_length _ 2 (fun _=>rfl),List.length_zip]
 omega
def RowsAt (w:World) (B:Nat) (hs:List Hd) (l:List It):Prop:=hs.length=l.length/\∀ (j:Nat) h it,hs[j]? = some h->l[j]? = some it->Reads w B 3 h.1 h.2.1 (cls it.1)/\h.2.1<=h.2.2/\h.2.2<=maxLen
def ItemsAt (w:World) (B:Nat) (A:Option Addr) (n:Nat) (l:List It):Prop:=∃ hs,Reads w B 2 A n (its hs l)/\RowsAt w B hs l
section
variable {w w':World} {B B' n:Nat} {A:Option Addr} {hs:List Hd} {l:List It}
theorem RowsAt.below (h:RowsAt w B hs l) (hb:Below B w w'):RowsAt w' B hs l:=⟨h.1,fun j g it h1 h2=>⟨(h.2 j g it h1 h2).1.below hb,(h.2 j g it h1 h2).2⟩⟩
theorem RowsAt.more (h:RowsAt w B hs l) (hB:B<=B'):RowsAt w B' hs l:=⟨h.1,fun j g it h1 h2=>⟨(h.2 j g it h1 h2).1.more hB,(h.2 j g it h1 h2).2⟩⟩
theorem RowsAt.on (h:RowsAt w w.heap.size hs l) (hb:Below w.heap.size w w'):RowsAt w' w'.heap.size hs l:=(h.below hb).more hb.size
theorem RowsAt.al (h:RowsAt w w.heap.size hs l) (o:Obj):RowsAt (w.alloc o) (w.alloc o).heap.size hs l:=h.on (bal (Below.refl _ _) o)
theorem RowsAt.nil:RowsAt w B [] []:=⟨rfl,fun j g it h=>by simp at h⟩
theorem RowsAt.snoc {h:Hd} {it:It} (h0:RowsAt w B hs l) (h1:Reads w B 3 h.1 h.2.1 (cls it.1)) (h2:h.2.1<=h.2.2) (h3:h.2.2<=maxLen):RowsAt w B (hs++[h]) (l++[it]):=by
 refine ⟨by simp [h0.1],fun j g jt g1 g2=>?_⟩
 rcases Nat.lt_or_ge j hs.length with hj | hj
 ·rw [List.getElem?_append_left hj] at g1
  rw [List.getElem?_append_left (by rw [<-h0.1];exact hj)] at g2
  exact h0.2 j g jt g1 g2
 rw [List.getElem?_append_right hj] at g1
 rw [List.getElem?_append_right (by rw [<-h0.1];exact hj),<-h0.1] at g2
 obtain ⟨h4,h5⟩:j-hs.length=0/\True:=⟨by have:=(List.getElem?_eq_some_iff.1 g1).1;simp at this;omega,trivial⟩
 rw [h4] at g1 g2
 simp only [List.getElem?_cons_zero,Option.some.injEq] at g1 g2
 subst g1 g2
 exact ⟨h1,h2,h3⟩
theorem RowsAt.take (h:RowsAt w B hs l) (k:Nat):RowsAt w B (hs.take k) (l.take k):=by
 refine ⟨by simp [h.1],fun j g it g1 g2=>?_⟩
 rw [List.getElem?_take] at g1 g2
 split at g1
 ·rename_i hk
  rw [if_pos hk] at g2
  exact h.2 j g it g1 g2
 cases g1
theorem its_take (hl:hs.length=l.length) (k:Nat):(its hs l).take (k*2)=its (hs.take k) (l.take k):=by
 induction k generalizing hs l with
 | zero=>simp [its]
 | succ k ih=>
  cases hs with
  | nil=>simp [its]
  | cons h hs=>
   cases l with
   | nil=>simp at hl
   | cons it l=>
    have:=ih (hs:=hs) (l:=l) (by simpa using hl)
    have e1:its (h::hs) (it::l)=itV h it++its hs l:=rfl
    have e2:its ((h::hs).take (k+1)) ((it::l).take (k+1))=itV h it++its (hs.take k) (l.take k):=rfl
    have e3:(itV h it).length=2:=rfl
    rw [e1,e2,<-this,show (k+1)*2=(itV h it).length+k*2 by rw [e3];omega,List.take_append,List.take_of_length_le (by omega),Nat.add_sub_cancel_left]
theorem its_snoc (hl:hs.length=l.length) (h:Hd) (it:It):its (hs++[h]) (l++[it])=its hs l++itV h it:=by
 unfold its
 rw [List.zip_append hl]
 simp
theorem ItemsAt.len (h:ItemsAt w B A n l):l.length=n:=by
 obtain ⟨hs,h1,h2⟩:=h
 have:=h1.1
 rw [its_length hs l h2.1] at this
 omega
theorem ItemsAt.below (h:ItemsAt w B A n l) (hb:Below B w w'):ItemsAt w' B A n l:=by
 obtain ⟨hs,h1,h2⟩:=h
 exact ⟨hs,h1.below hb,h2.below hb⟩
theorem ItemsAt.more (h:ItemsAt w B A n l) (hB:B<=B'):ItemsAt w B' A n l:=by
 obtain ⟨hs,h1,h2⟩:=h
 exact ⟨hs,h1.more hB,h2.more hB⟩
theorem ItemsAt.on (h:ItemsAt w w.heap.size A n l) (hb:Below w.heap.size w w'):ItemsAt w' w'.heap.size A n l:=(h.below hb).more hb.size
theorem ItemsAt.al (h:ItemsAt w w.heap.size A n l) (o:Obj):ItemsAt (w.alloc o) (w.alloc o).heap.size A n l:=h.on (bal (Below.refl _ _) o)
theorem ItemsAt.drew (h:ItemsAt w B A n l):ItemsAt w.drew B A n l:=h
theorem ItemsAt.nil:ItemsAt w B none 0 []:=⟨[],Reads.none_,RowsAt.nil⟩
theorem ItemsAt.head (h:ItemsAt w B A n l) {k:Nat} (hk:k<=n):ItemsAt w B A k (l.take k):=by
 obtain ⟨hs,h1,h2⟩:=h
 have:=h1.head hk
 rw [its_take h2.1] at this
 exact ⟨hs.take k,this,h2.take k⟩
theorem ItemsAt.at_ {k:Nat} (h:ItemsAt w B A n l) (hk:k<n):∃ ad A' c' it,A=some ad/\ad.block<B/\l[k]? = some it/\w.cell? (ad.add (k*2))=some (.slice A' it.1.length c') /\
  w.cell? ⟨(ad.add (k*2)).block,(ad.add (k*2)).off+1,none⟩=some (.int .i64 it.2)/\Reads w B 3 A' it.1.length (cls it.1)/\it.1.length<=c'/\c'<=maxLen:=by
 have hl:=h.len
 obtain ⟨hs,h1,h2⟩:=h
 obtain ⟨ad,e,hb,hc⟩:=h1.2 (by omega)
 have hkh:k<hs.length:=by rw [h2.1];omega
 have hit:=List.getElem?_eq_getElem (l:=l) (i:=k) (by omega)
 have hhd:=List.getElem?_eq_getElem hkh
 obtain ⟨g1,g2,g3⟩:=h2.2 k _ _ hhd hit
 have hln:=cls_len g1
 have key:∀ j v,(itV hs[k] l[k])[j]? = some v->w.cell? ((ad.add (k*2)).add j)=some v:=fun j v hv=>by
  have hj:j<2:=(List.getElem?_eq_some_iff.1 hv).1
  rw [add_of_add]
  refine hc _ _ ?_
  rw [its,flatMap_at _ 2 (fun _=>rfl) (hs.zip l) k j (hs[k],l[k]) (by rw [List.getElem?_zip_eq_some];exact ⟨hhd,hit⟩) hj]
  exact hv
 refine ⟨ad,hs[k].1,hs[k].2.2,l[k],e,hb,hit,?_,?_,by rw [hln];exact g1,by rw [hln];exact g2,g3⟩
 ·have:=key 0 _ rfl
  rw [addc_zero] at this
  rw [hln]
  exact this
 have:=key 1 _ rfl
 rwa [addc_pos _ _ (by decide)] at this
end
def ItOk (l:List It):Prop:=∀ it∈l,ClOk it.1 /\ -9223372036854775808<=it.2/\it.2<=9223372036854775807
theorem ItOk.take {l:List It} (h:ItOk l) (k:Nat):ItOk (l.take k):=fun it hit=>h it (List.mem_of_mem_take hit)
end Go.Proofs.YtjpjalmilfgckaaGreatDoor
