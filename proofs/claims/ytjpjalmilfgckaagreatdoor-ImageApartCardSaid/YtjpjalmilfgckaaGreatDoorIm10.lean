/- Part 10 of the walks, merged: each text under its own heading. Conditions: none of its own; each lemma states what it asks. -/
import Derived.Test.YtjpjalmilfgckaaGreatDoorIm7
import Derived.Test.YtjpjalmilfgckaaGreatDoorIm9
import Derived.Lib.ConvBytes
set_option maxRecDepth 100000
set_option linter.unusedVariables false
set_option linter.unusedSimpArgs false
namespace Go.Proofs.YtjpjalmilfgckaaGreatDoor
open Go.RowKit
theorem putF_any (base g:Nat) (k at_:Int) (A:Option Addr) (n c:Nat) (l:List Cl) (B:Option Addr) (m cb:Nat) (xs:List UInt8) (w:World) (h1:1<=k) (h5:k<=5) (h:ColW w base g k at_ A n c l B m cb xs) (hok:ClOk l) (hsz:∀ c∈l,c.2.2.size<=1024) (hm:m+2048*n<=1099511627776) (hs:base<=w.heap.size)
  (htot:(xs++putD (l.map fun c=>c.2.2)).length<=1099511627776) :
  Calls Tryz.prog (putF k) #[.pointer (some ⟨g,0,none⟩)] w fun e w'=>e=.returned (.tuple #[])/\∃ B2 m2 c2,ColW w' base g k at_ A n c l B2 m2 c2 (xs++bareB k l)/\Below base w w':=by
 rcases (show k=1\/k=2\/k=3\/k=4\/k=5 by omega) with rfl | rfl | rfl | rfl | rfl
 ·exact putBools_any base g 1 at_ A n c l B m cb xs w h (by omega)
 ·exact putInts_any base g 2 at_ A n c l B m cb xs w h hok (by omega) hs
 ·exact putInts_any base g 3 at_ A n c l B m cb xs w h hok (by omega) hs
 ·exact putTexts_any base g 4 at_ A n c l B m cb xs w h (by omega) hok htot
 exact putRaws_any base g 5 at_ A n c l B m cb xs w h hok hsz hm hs
theorem putF_in (k:Int) (h1:1<=k) (h5:k<=5) (args:Array Value) (w:World):(callFunc (putF k) args).run Tryz.prog w=.ok (.enter (putF k) args) w:=by
 rcases (show k=1\/k=2\/k=3\/k=4\/k=5 by omega) with rfl | rfl | rfl | rfl | rfl
 ·exact callFunc_in Tryz.func163 (by kernel_rfl) (by kernel_rfl) args w
 ·exact callFunc_in Tryz.func164 (by kernel_rfl) (by kernel_rfl) args w
 ·exact callFunc_in Tryz.func164 (by kernel_rfl) (by kernel_rfl) args w
 ·exact callFunc_in Tryz.func165 (by kernel_rfl) (by kernel_rfl) args w
 exact callFunc_in Tryz.func166 (by kernel_rfl) (by kernel_rfl) args w
theorem check_any3 (k:Int) (nl u:Bool) (x:Int) (s:ByteArray) (w:World) (hT:Tabs w):Calls Tryz.prog 105 #[.agg #[.int .i64 k,.bool nl],.agg #[.bool u,.int .i64 x,.string s]] w fun e w'=>e=.returned (.int .i64 (checkE k nl (u,x,s)))/\Below w.heap.size w w':=check_any k nl (u,x,s) w hT
theorem checkE_two (k:Int) (nl:Bool) (c:Cl) (hk:mayK k=true):checkE k nl c=0\/checkE k nl c=90:=by
 unfold checkE
 rw [if_pos hk]
 generalize (if c.1=true then nl&&decide (c.2.1=0/\c.2.2=⟨#[]⟩) else isC k c)=I
 cases I
 ·exact .inr rfl
 exact .inl rfl
theorem allC_step {k:Int} {nl:Bool} {l:List Cl} {j:Nat} {c:Cl} (h:allC k nl (l.take j)=true) (hc:l[j]? = some c) (h0:checkE k nl c=0):allC k nl (l.take (j+1))=true:=by
 unfold allC at *
 rw [List.take_add_one,hc]
 simp [h0] at *
 exact h
theorem allC_bad {k:Int} {nl:Bool} {l:List Cl} {j:Nat} {c:Cl} (hc:l[j]? = some c) (h0:checkE k nl c=90):allC k nl l=false:=by
 unfold allC
 rw [List.all_eq_false]
 exact ⟨c,List.mem_of_getElem? hc,by simp [h0]⟩
theorem someC_step {l:List Cl} {j:Nat} {c:Cl} (hc:l[j]? = some c):someC (l.take (j+1))=if c.1=true then someC (l.take j) else someC (l.take j)++[c]:=by
 unfold someC
 rw [List.take_add_one,hc]
 cases h:c.1<;>simp [h]
theorem size_of_ok {k:Int} {c:Cl} (h1:1<=k) (h5:k<=5) (h:isC k c=true):c.2.2.size<=1024:=by
 rcases (show k=1\/k=2\/k=3\/k=4\/k=5 by omega) with rfl | rfl | rfl | rfl | rfl
 ·simp [isC] at h;rw [h.1];decide
 ·simp [isC] at h;rw [h.1];decide
 ·simp [isC] at h;rw [h.1];decide
 ·simp [isC,sizeC] at h;exact h.1.2
 simp [isC,sizeC] at h;exact h.2
theorem some_sizes {k:Int} {nl:Bool} {l:List Cl} (hk:mayK k=true) (h:allC k nl l=true):∀ c∈someC l,c.2.2.size<=1024:=by
 obtain ⟨h1,h5⟩:1<=k/\k<=5:=by simpa [mayK] using hk
 intro c hc
 obtain ⟨hm,hu⟩:=List.mem_filter.1 hc
 have hu:c.1=false:=by simpa using hu
 unfold allC at h
 have:=List.all_eq_true.1 h c hm
 simp only [checkE,hk,if_true,hu,Bool.false_eq_true,if_false,beq_iff_eq] at this
 by_cases hi:isC k c=true
 ·exact size_of_ok h1 h5 hi
 simp [hi] at this
theorem packL_le (l:List Bool):(packL l).length<=l.length:=by rw [packL_length];unfold need;omega
set_option maxHeartbeats 4000000 in
theorem cput_any (A:Option Addr) (n c:Nat) (xs:List UInt8) (k:Int) (nl:Bool) (B:Option Addr) (m cB:Nat) (l:List Cl) (w:World) (hr:Reads w w.heap.size 1 A n (u8s xs)) (hn:n<=274877906944)
  (hr2:Reads w w.heap.size 3 B m (cls l)) (hm:m<=1048576) (hok:ClOk l) (hT:Tabs w) :
  Calls Tryz.prog 42 #[.slice A n c,.agg #[.int .i64 k,.bool nl],.slice B m cB] w fun e w'=>∃ A' n' c',e=.returned (.tuple #[.slice A' n' c',.int .i64 (putE k nl l)])/\n'<=c'/\c'<=maxLen /\
   w'.ownsRow w.heap.size 5 1 (.slice A' n' c') n' (u8s (putO k nl l xs))/\Below w.heap.size w w':=by
 have HT:=Lib.hid hT
 have Hr:=Lib.hid hr
 have Hr2:=Lib.hid hr2
 have Hok:=Lib.hid hok
 have Hln:=Lib.hid (cls_len hr2)
 have B4:=Lib.hid (Blk.new w 43 #[.int .i64 k,.bool nl])
 clear hr hr2 hok hT
 go_enter Tryz.func42,Tryz.ntmps42
 go_wp2_with fail
 with_reducible refine (may_any k nl _).mono ?_
 rintro e w1 ⟨rfl,hb1⟩
 have hb2:=Lib.hid (bon ((Below.refl _ w).alloc (Nat.le_refl _) (.cells #[.int .i64 k,.bool nl] 43)) hb1)
 replace B4:=Lib.hid (B4.out.on hb1)
 clear hb1
 have c40:=B4.out.cell 0
 have c41:=B4.out.cell 1
 cases hmk:mayK k with
 | false=>
  go_wp2
  go_ret2
  exact ⟨none,0,0,by simp [putE,hmk],Nat.le_refl _,by decide,by rw [show putO k nl l xs=[] by simp [putO,putE,hmk]];exact World.ownsRow_nil _ _ _ _,hb2.out⟩
 | true=>
  have Hm:=Lib.hid hm
  have Hn:=Lib.hid hn
  obtain ⟨hk1,hk5⟩:1<=k/\k<=5:=by simpa [mayK] using hmk
  have H40:=Lib.hid (show ∀ w',Below w1.heap.size w1 w'->w'.cell? ⟨w.heap.size,0,none⟩=some (.int .i64 k) from fun w' h=>(h.cell (p:=⟨w.heap.size,0,none⟩) B4.out.lt).trans c40)
  go_wp2
  have hS:Below w1.heap.size w1 w1.drew:=(Below.refl _ _).drew
  refine nR (fun w'=>Below w1.heap.size w1 w') (.pure 0 (.pure 1 (.pure 2 (.eff 3 (.pure 4 (.eff 5 (.pure 6 .done))))))) ?_
  refine nP hS ?_
  refine nP1 hS H40.out ?_
  refine nP hS ?_
  refine nE fun K hK=>?_
  go_simp
  with_reducible refine (clone_any A n c xs _ ((Hr.out.on hb2.out).on hS) (by omega)).mono ?_
  rintro e w2 ⟨A3,c3,rfl,q1,q2,q3,q4⟩
  have hb3:=Lib.hid (hb2.out.trans ((bon hS q4).mono hb2.out.size))
  have Q3:=Lib.hid (own_mono q3 (show w.heap.size<=w1.drew.heap.size from hb2.out.size))
  have Q1:=Lib.hid (And.intro q1 q2)
  have B5:=Lib.hid ((B4.out.on hS).on q4)
  refine held_go hK (by exact bon hS q4) fun hS=>?_
  clear hK K
  try simp only [zp]
  clear q1 q2 q3 q4
  refine nP hS ?_
  refine nE fun K hK=>?_
  go_simp
  refine held_go hK (by exact bal hS _) fun hS=>?_
  clear hK K
  try simp only [zp]
  refine nP hS ?_
  refine plan_end ?_
  clear hS
  have HC:=Lib.hid (show ColW (w2.alloc (.cells #[.int .i64 k,.slice none 0 0,.slice A3 n c3,.int .i64 0] 142)) w.heap.size w2.heap.size k 0 none 0 0 [] A3 n c3 xs from
   ⟨Blk.new w2 _ _,hb3.out.size,World.ownsRow_nil _ _ _ _,Q3.out.alloc _,Q1.out.1,Q1.out.2⟩)
  have B6:=Lib.hid (B5.out.alloc (.cells #[.int .i64 k,.slice none 0 0,.slice A3 n c3,.int .i64 0] 142))
  have hb4:=Lib.hid (hb3.out.alloc hb3.out.size (.cells #[.int .i64 k,.slice none 0 0,.slice A3 n c3,.int .i64 0] 142))
  have hgw:=Lib.hid hb3.out.size
  clear c40 c41 H40
  have Hg0:=Lib.hid B5.out.lt
  generalize w2.heap.size=g at *
  obtain ⟨i0,hi0,hz0,hz1,hz2⟩:=info_parts u8_info
  obtain ⟨j0,hj0,hk0,hj1,hk2⟩:=info_parts cell_info
  go_wp2
  go_loopw [22] (fun i wr=>∃ (j nA:Nat) (A1:Option Addr) (cA:Nat),j<=m/\i=.int .i64 (j:Int)/\nA<=j/\Hid (allC k nl (l.take j)=true)/\Hid (ColW wr w.heap.size g k 0 A1 nA cA (someC (l.take j)) A3 n c3 xs)/\Hid (Blk wr w.heap.size 43 #[.int .i64 k,.bool nl])/\Hid (Below w.heap.size w wr)) (fun i _=>m-(intOf i).toNat)
  case atStart=>exact ⟨0,0,none,0,Nat.zero_le _,rfl,Nat.le_refl _,Lib.hid rfl,HC,B6,hb4⟩
  case round=>
   obtain ⟨j,nA,A1,cA,hj,rfl,hnA,hall,HC,B6,HB⟩:=hrel
   by_cases hlt:j<m
   ·obtain ⟨ad,u,x,s,rfl,hbk,hx,h0,h1,h2⟩:=cls_at (Hr2.out.below HB.out) hlt
    have Hx:=Lib.hid hx
    have hbs:=Lib.hid HB.out.size
    have c40:=(B6.out.alloc (.cells #[.bool u,.int .i64 x,.string s] 23)).cell 0
    have c41:=(B6.out.alloc (.cells #[.bool u,.int .i64 x,.string s] 23)).cell 1
    have hbA:=Lib.hid ((Below.refl wr.heap.size wr).alloc (Nat.le_refl _) (.cells #[.bool u,.int .i64 x,.string s] 23))
    have BX:=Lib.hid (Blk.new wr 23 #[.bool u,.int .i64 x,.string s])
    have HT2:=Lib.hid (HT.out.on (HB.out.alloc HB.out.size (.cells #[.bool u,.int .i64 x,.string s] 23)))
    clear hx hbk
    go_wp2_with fail
    with_reducible refine (check_any3 k nl u x s _ HT2.out).mono ?_
    rintro e w5 ⟨rfl,hb5⟩
    have HCr:=HC
    have HC:=Lib.hid ((HC.out.below hbA.out).below hb5)
    have HX:=Lib.hid (BX.out.on hb5)
    have B6:=Lib.hid ((B6.out.alloc (.cells #[.bool u,.int .i64 x,.string s] 23)).on hb5)
    have HB:=Lib.hid (bon (HB.out.alloc HB.out.size (.cells #[.bool u,.int .i64 x,.string s] 23)) hb5)
    rcases checkE_two k nl (u,x,s) hmk with h0 | h0
    ·have hall2:=Lib.hid (allC_step hall.out Hx.out h0)
     have Hstep:=Lib.hid (someC_step Hx.out)
     have hlow:=(ColW.low (HCr.out) (Nat.le_refl _):(∀ q,(Value.slice A1 nA cA).ownBlock=some q->q<wr.heap.size)/\g≠wr.heap.size)
     have Hrow:=Lib.hid hlow.1
     have Hgp:=Lib.hid hlow.2
     have Hbs:=Lib.hid HB.out.size
     have Hnx:=Lib.hid (show nA<=2097152 by have:=Hm.out;omega)
     clear hlow c40 c41 h1 h2 hb5
     generalize checkE k nl (u,x,s)=E0 at h0
     subst h0
     have hx0:=HX.out.cell 0
     cases u with
     | true=>
      have Hstep:=Lib.hid (show someC (l.take (j+1))=someC (l.take j) by rw [Hstep.out];rfl)
      have HC:=Lib.hid (show ColW w5 w.heap.size g k 0 A1 nA cA (someC (l.take (j+1))) A3 n c3 xs by rw [Hstep.out];exact HC.out)
      go_wp2
      go_roundw
      case rel=>exact ⟨j+1,nA,A1,cA,by omega,by go_num,by omega,hall2,HC,B6,HB⟩
      case measure=>simp [intOf];omega
     | false=>
      have Hstep:=Lib.hid (show someC (l.take (j+1))=someC (l.take j)++[(false,x,s)] by rw [Hstep.out];rfl)
      go_wp2
      clear hx0
      have hS:Below w.heap.size w5 w5.drew/\Blk w5.drew wr.heap.size 23 #[.bool false,.int .i64 x,.string s]:=⟨(Below.refl _ _).drew,HX.out⟩
      have HV0:=Lib.hid (show ∀ w',Below w.heap.size w5 w'/\Blk w' wr.heap.size 23 #[.bool false,.int .i64 x,.string s]->w'.cell? ⟨wr.heap.size,0,none⟩=some (.bool false) from fun w' h=>h.2.cell 0)
      have HV1:=Lib.hid (show ∀ w',Below w.heap.size w5 w'/\Blk w' wr.heap.size 23 #[.bool false,.int .i64 x,.string s]->w'.cell? ⟨wr.heap.size,1,none⟩=some (.int .i64 x) from fun w' h=>h.2.cell 1)
      have HV2:=Lib.hid (show ∀ w',Below w.heap.size w5 w'/\Blk w' wr.heap.size 23 #[.bool false,.int .i64 x,.string s]->w'.cell? ⟨wr.heap.size,2,none⟩=some (.string s) from fun w' h=>h.2.cell 2)
      have HCW:=HC
      have HC:=Lib.hid (HC.out.onDrew)
      refine nR (fun w'=>Below w.heap.size w5 w'/\Blk w' wr.heap.size 23 #[.bool false,.int .i64 x,.string s]) (.pure 0 (.pure 1 (.pure 2 (.pure 3 (.pure 5 (.fork 4 6 (.eff 6 (.eff 7 (.pure 8 (.pure 9 (.eff 10 .done))))) (.eff 4 (.eff 7 (.pure 8 (.pure 9 (.eff 10 .done))))))))))) ?_
      iterate 4
       refine nP hS ?_
      refine nP3 hS HV0.out HV1.out HV2.out ?_
      refine plan_fork ?_ ?_
      ·have c1:=HC.out.blk.cell 1
       refine nE fun K hK=>?_
       go_simp
       refine held_go hK hS fun hS=>?_
       clear hK K
       try simp only [zp]
       clear c1
       refine nE fun K hK=>?_
       go_simp
       have HR:=Lib.hid ((reads_cell w5 false x s).drew)
       have HC:=Lib.hid ((HCW.out.below ((Below.refl _ w5).alloc (Nat.le_refl _) (.cells #[.bool false,.int .i64 x,.string s] 23))).onDrew)
       refine held_go hK (by exact ⟨hS.1.alloc (Nat.le_trans (Nat.le_trans HC.out.low0 Hbs.out) hS.1.size) _,hS.2.alloc _⟩) fun hS=>?_
       clear hK K
       try simp only [zp]
       refine nE fun K hK=>?_
       refine wp_append_any _ (.tmp 37) (.tmp 39) 24 rfl w.heap.size 23 j0 (.agg #[.bool false,.int .i64 0,.string ⟨#[]⟩]) 3 32 Tryz.underlying24 hj0 hk0 hj1 hk2 rfl (by decide) A1 nA cA _ rfl HC.out.cells (some ⟨_,0,none⟩) 1 1 (cls [(false,x,s)]) rfl HR.out (cls_one _) (by have:=Hnx.out;simp only [maxLen];omega) (by have:=Hnx.out;omega) (Nat.le_trans Hbs.out hS.1.size) ?_
       intro A9 c9 w9 r1 r2 r3 r4 r5
       rw [<-cls_append] at r1
       have HA:=Lib.hid (HC.out.app r3 r2 r1)
       have R2:=Lib.hid r2
       have r2:=r2.mono HC.out.low0
       have HX9:=Lib.hid (blk_row hS.2 r3 Hrow.out)
       have hT:=Lib.hid (hS.1.trans r2)
       have G9:=Lib.hid r3
       clear r1 r2 r3 r4 r5
       refine held_go hK (by exact ⟨hT.out,HX9.out⟩) fun hS=>?_
       clear hK K
       try simp only [zp]
       refine nP hS ?_
       refine nP hS ?_
       have c2:=HA.out.2.cell 1
       have f2:=HA.out.2.frozen 1
       refine nE fun K hK=>?_
       go_simp
       clear c2 f2
       refine held_go hK (by exact ⟨hT.out.setCell (p:=⟨g,1,none⟩) HC.out.far _,HX9.out.far (p:=⟨g,1,none⟩) Hgp.out.symm _⟩) fun hS=>?_
       clear hK K
       try simp only [zp]
       refine plan_end ?_
       have hT:=Lib.hid (hT.out.setCell (p:=⟨g,1,none⟩) HC.out.far (.slice A9 (nA+1) c9))
       clear HX9 HR
       clear HV0 HV1 HV2
       have HC0:=HC
       have HC:=Lib.hid (show ColW _ w.heap.size g k 0 A9 (nA+1) c9 (someC (l.take (j+1))) A3 n c3 xs by rw [Hstep.out];exact HA.out.1)
       have B6:=Lib.hid (((B6.out.alloc (.cells #[.bool false,.int .i64 x,.string s] 23)).drew.apart HC0.out.cells (by decide) G9.out).far (p:=⟨g,1,none⟩) (Nat.ne_of_lt Hg0.out) (.slice A9 (nA+1) c9))
       have HB:=Lib.hid (HB.out.trans hT.out)
       go_wp2
       go_roundw
       case rel=>exact ⟨j+1,_,A9,c9,by omega,by go_num,by omega,hall2,HC,B6,HB⟩
       case measure=>simp [intOf];omega
      refine nE fun K hK=>?_
      go_simp
      have HR:=Lib.hid ((reads_cell w5 false x s).drew)
      have HC:=Lib.hid ((HCW.out.below ((Below.refl _ w5).alloc (Nat.le_refl _) (.cells #[.bool false,.int .i64 x,.string s] 23))).onDrew)
      refine held_go hK (by exact ⟨hS.1.alloc (Nat.le_trans (Nat.le_trans HC.out.low0 Hbs.out) hS.1.size) _,hS.2.alloc _⟩) fun hS=>?_
      clear hK K
      try simp only [zp]
      have c1:=HC.out.blk.cell 1
      refine nE fun K hK=>?_
      go_simp
      refine held_go hK hS fun hS=>?_
      clear hK K
      try simp only [zp]
      clear c1
      refine nE fun K hK=>?_
      refine wp_append_any _ (.tmp 37) (.tmp 39) 24 rfl w.heap.size 23 j0 (.agg #[.bool false,.int .i64 0,.string ⟨#[]⟩]) 3 32 Tryz.underlying24 hj0 hk0 hj1 hk2 rfl (by decide) A1 nA cA _ rfl HC.out.cells (some ⟨_,0,none⟩) 1 1 (cls [(false,x,s)]) rfl HR.out (cls_one _) (by have:=Hnx.out;simp only [maxLen];omega) (by have:=Hnx.out;omega) (Nat.le_trans Hbs.out hS.1.size) ?_
      intro A9 c9 w9 r1 r2 r3 r4 r5
      rw [<-cls_append] at r1
      have HA:=Lib.hid (HC.out.app r3 r2 r1)
      have R2:=Lib.hid r2
      have r2:=r2.mono HC.out.low0
      have HX9:=Lib.hid (blk_row hS.2 r3 Hrow.out)
      have hT:=Lib.hid (hS.1.trans r2)
      have G9:=Lib.hid r3
      clear r1 r2 r3 r4 r5
      refine held_go hK (by exact ⟨hT.out,HX9.out⟩) fun hS=>?_
      clear hK K
      try simp only [zp]
      refine nP hS ?_
      refine nP hS ?_
      have c2:=HA.out.2.cell 1
      have f2:=HA.out.2.frozen 1
      refine nE fun K hK=>?_
      go_simp
      clear c2 f2
      refine held_go hK (by exact ⟨hT.out.setCell (p:=⟨g,1,none⟩) HC.out.far _,HX9.out.far (p:=⟨g,1,none⟩) Hgp.out.symm _⟩) fun hS=>?_
      clear hK K
      try simp only [zp]
      refine plan_end ?_
      have hT:=Lib.hid (hT.out.setCell (p:=⟨g,1,none⟩) HC.out.far (.slice A9 (nA+1) c9))
      clear HX9 HR
      clear HV0 HV1 HV2
      have HC0:=HC
      have HC:=Lib.hid (show ColW _ w.heap.size g k 0 A9 (nA+1) c9 (someC (l.take (j+1))) A3 n c3 xs by rw [Hstep.out];exact HA.out.1)
      have B6:=Lib.hid (((B6.out.alloc (.cells #[.bool false,.int .i64 x,.string s] 23)).drew.apart HC0.out.cells (by decide) G9.out).far (p:=⟨g,1,none⟩) (Nat.ne_of_lt Hg0.out) (.slice A9 (nA+1) c9))
      have HB:=Lib.hid (HB.out.trans hT.out)
      go_wp2
      go_roundw
      case rel=>exact ⟨j+1,_,A9,c9,by omega,by go_num,by omega,hall2,HC,B6,HB⟩
      case measure=>simp [intOf];omega
    have hall2:=Lib.hid (allC_bad Hx.out h0)
    generalize checkE k nl (u,x,s)=E0 at h0
    subst h0
    go_wp2
    go_ret2
    exact ⟨none,0,0,by simp [putE,hmk,hall2.out],Nat.le_refl _,by decide,by rw [show putO k nl l xs=[] by simp [putO,putE,hmk,hall2.out]];exact World.ownsRow_nil _ _ _ _,HB.out⟩
   obtain rfl:j=m:=by omega
   have hmap:l.take j=l:=List.take_of_length_le (by rw [Hln.out];exact Nat.le_refl _)
   rw [hmap] at hall HC
   have HE:=Lib.hid (show putE k nl l=0 by simp [putE,hmk,hall.out])
   have hsl:=someC_le l
   rw [Hln.out] at hsl
   have HsZ:=Lib.hid (some_sizes hmk hall.out)
   have HsO:=Lib.hid (show ClOk (someC l) from fun c hc=>Hok.out c (List.mem_filter.1 hc).1)
   have hpd:=putD_le ((someC l).map fun c=>c.2.2) (by intro s hs;obtain ⟨c,hc,rfl⟩:=List.mem_map.1 hs;exact HsZ.out c hc)
   rw [List.length_map] at hpd
   have Hxl:=Lib.hid (show xs.length=n from reads_len Hr.out)
   have Hnl:=Lib.hid (show nA=(someC l).length from (cls_len (Reads.of_own HC.out.cells)).symm)
   have Hpl:=Lib.hid (show (packL (l.map fun c => !c.1)).length+n<=274877906944+1048576 by have:=packL_le (l.map fun c => !c.1);rw [List.length_map,Hln.out] at this;have:=Hn.out;have:=Hm.out;omega)
   have H5:=Lib.hid (Nat.le_of_lt Hg0.out)
   have c41:=B6.out.cell 1
   clear hmap hlt
   cases nl with
   | false=>
    have HO:=Lib.hid (show putO k false l xs=xs++bareB k (someC l) by simp [putO,HE.out,putB])
    have Htot:=Lib.hid (show n+2048*nA<=1099511627776/\(xs++putD ((someC l).map fun c=>c.2.2)).length<=1099511627776 by
     have:=Hn.out;have:=Hm.out;have:=Hxl.out;have:=Hnl.out
     rw [List.length_append]
     constructor<;>omega)
    clear hpd hsl
    have c40:=B6.out.cell 0
    have hin:=fun args w'=>putF_in k hk1 hk5 args w'
    go_wp2_with fail
    with_reducible refine (writes_any k _ hk1 hk5).mono ?_
    rintro e w6 ⟨rfl,rfl⟩
    go_wp2_with fail
    with_reducible refine (putF_any w.heap.size g k 0 A1 nA cA (someC l) A3 n c3 (xs) _ hk1 hk5 HC.out HsO.out HsZ.out Htot.out.1 HB.out.size Htot.out.2).mono ?_
    rintro e w7 ⟨rfl,B2,m2,c9,hC9,hB9⟩
    have HC9:=Lib.hid hC9
    have HB9:=Lib.hid (HB.out.trans hB9)
    have c2:=hC9.blk.cell 2
    clear hC9 hB9
    go_wp2
    go_ret2
    exact ⟨B2,m2,c9,by rw [HE.out];rfl,HC9.out.le,HC9.out.max,by rw [HO.out];exact HC9.out.bytes,HB9.out⟩
   | true=>
    have HO:=Lib.hid (show putO k true l xs=(xs++packL (l.map fun c => !c.1))++bareB k (someC l) by simp [putO,HE.out,putB])
    have Htot:=Lib.hid (show n+(packL (l.map fun c => !c.1)).length+2048*nA<=1099511627776/\((xs++packL (l.map fun c => !c.1))++putD ((someC l).map fun c=>c.2.2)).length<=1099511627776 by
     have:=Hn.out;have:=Hm.out;have:=Hxl.out;have:=Hnl.out;have:=Hpl.out
     simp only [List.length_append]
     constructor<;>omega)
    clear hpd hsl
    go_wp2
    clear c41
    have hS:Below w.heap.size wr wr.drew:=(Below.refl _ _).drew
    have HC:=Lib.hid HC.out.onDrew
    have B6:=Lib.hid B6.out.drew
    refine nR (fun w'=>Below w.heap.size wr w') (.pure 0 (.pure 1 (.pure 2 (.pure 3 (.pure 5 (.fork 4 6 (.eff 6 (.eff 7 (.eff 8 (.pure 9 (.pure 10 (.eff 11 .done)))))) (.fork 4 7 (.eff 7 (.eff 8 (.pure 9 (.pure 10 (.eff 11 .done))))) (.eff 4 (.eff 8 (.pure 9 (.pure 10 (.eff 11 .done)))))))))))) ?_
    iterate 5
     refine nP hS ?_
    refine plan_fork ?_ ?_
    ·have c2:=HC.out.blk.cell 2
     refine nE fun K hK=>?_
     go_simp
     refine held_go hK hS fun hS=>?_
     clear hK K
     try simp only [zp]
     clear c2
     refine nE fun K hK=>?_
     go_simp
     with_reducible refine (mapThere B j cB l _ (((Hr2.out.below HB.out).below hS).more (Nat.le_trans HB.out.size hS.size)) (Nat.le_trans Hm.out (by decide))).mono ?_
     rintro e w5 ⟨AM,cM,rfl,q1,q2,q3,q4⟩
     have M1:=Lib.hid q1
     have M2:=Lib.hid q2
     have M3:=Lib.hid q3
     have HC:=Lib.hid (HC.out.below q4)
     have B6:=Lib.hid (B6.out.on q4)
     have hT:=Lib.hid (hS.trans (q4.mono (Nat.le_trans HB.out.size hS.size)))
     clear q1 q2 q3 q4
     refine held_go hK (by exact hT.out) fun hS=>?_
     clear hK K
     try simp only [zp]
     clear hT
     refine nE fun K hK=>?_
     go_simp
     with_reducible refine (mpack_any AM j cM _ _ (Reads.of_own M3.out) M1.out M2.out (Nat.le_trans Hm.out (by decide))).mono ?_
     rintro e w5 ⟨AP,cP,rfl,q1,q2,q3,q4⟩
     have N1:=Lib.hid q1
     have N3:=Lib.hid q3
     have HC:=Lib.hid (HC.out.below q4)
     have B6:=Lib.hid (B6.out.on q4)
     have hT:=Lib.hid (hS.trans (q4.mono (Nat.le_trans HB.out.size hS.size)))
     clear q1 q3 q4 q2
     refine held_go hK (by exact hT.out) fun hS=>?_
     clear hK K
     try simp only [zp]
     clear hT
     refine nE fun K hK=>?_
     refine wp_append_any _ (.tmp 50) (.tmp 53) 35 rfl w.heap.size 5 i0 (.int .u8 0) 1 1 Tryz.underlying35 hi0 hz0 hz1 hz2 rfl (by decide) A3 n c3 _ rfl HC.out.bytes AP _ cP _ rfl (Reads.of_own N3.out) (u8s_one _) (by have:=Hpl.out;simp only [maxLen];omega) (by have:=Hpl.out;omega) (Nat.le_trans HB.out.size hS.size) ?_
     intro A8 c8 w8 r1 r2 r3 r4 r5
     obtain ⟨b1,b2⟩:=HC.out.grow r3
     have B1:=Lib.hid b1
     have B2:=Lib.hid b2
     have R1:=Lib.hid r1
     have R4:=Lib.hid (And.intro r4 r5)
     have B6:=Lib.hid (B6.out.apart HC.out.bytes (by decide) r3)
     have hT:=Lib.hid (hS.trans r2)
     clear b1 b2 r1 r2 r3 r4 r5
     refine held_go hK (by exact hT.out) fun hS=>?_
     clear hK K
     try simp only [zp]
     refine nP hS ?_
     refine nP hS ?_
     have c2:=B1.out.cell 2
     have f2:=B1.out.frozen 2
     refine nE fun K hK=>?_
     go_simp
     clear c2 f2
     refine held_go hK (by exact hT.out.setCell (p:=⟨g,2,none⟩) H5.out _) fun hS=>?_
     clear hK K
     try simp only [zp]
     refine plan_end ?_
     have HC:=Lib.hid (show ColW _ w.heap.size g k 0 A1 nA cA (someC l) A8 (n+(packL (l.map fun c => !c.1)).length) c8 (xs++packL (l.map fun c => !c.1)) from ⟨B1.out.set_ 2 _,H5.out,own_far B2.out B1.out (by decide) 2 _,own_far (by rw [u8s_append];exact R1.out) B1.out (by decide) 2 _,R4.out.1,R4.out.2⟩)
     have B6:=Lib.hid (B6.out.far (Nat.ne_of_lt Hg0.out) (Value.slice A8 (n+(packL (l.map fun c => !c.1)).length) c8):Blk (w8.setCell ⟨g,2,none⟩ _) w.heap.size 43 #[.int .i64 k,.bool true])
     have HB:=Lib.hid (HB.out.trans hS)
     clear hS hT M1 M2 M3 N1 N3 B1 B2 R1 R4
     have c40:=B6.out.cell 0
     have hin:=fun args w'=>putF_in k hk1 hk5 args w'
     go_wp2_with fail
     with_reducible refine (writes_any k _ hk1 hk5).mono ?_
     rintro e w6 ⟨rfl,rfl⟩
     go_wp2_with fail
     with_reducible refine (putF_any w.heap.size g k 0 A1 nA cA (someC l) A8 (n+(packL (l.map fun c => !c.1)).length) c8 (xs++packL (l.map fun c => !c.1)) _ hk1 hk5 HC.out HsO.out HsZ.out Htot.out.1 HB.out.size Htot.out.2).mono ?_
     rintro e w7 ⟨rfl,B2,m2,c9,hC9,hB9⟩
     have HC9:=Lib.hid hC9
     have HB9:=Lib.hid (HB.out.trans hB9)
     have c2:=hC9.blk.cell 2
     clear hC9 hB9
     go_wp2
     go_ret2
     exact ⟨B2,m2,c9,by rw [HE.out];rfl,HC9.out.le,HC9.out.max,by rw [HO.out];exact HC9.out.bytes,HB9.out⟩
    refine nE fun K hK=>?_
    go_simp
    with_reducible refine (mapThere B j cB l _ (((Hr2.out.below HB.out).below hS).more (Nat.le_trans HB.out.size hS.size)) (Nat.le_trans Hm.out (by decide))).mono ?_
    rintro e w5 ⟨AM,cM,rfl,q1,q2,q3,q4⟩
    have M1:=Lib.hid q1
    have M2:=Lib.hid q2
    have M3:=Lib.hid q3
    have HC:=Lib.hid (HC.out.below q4)
    have B6:=Lib.hid (B6.out.on q4)
    have hT:=Lib.hid (hS.trans (q4.mono (Nat.le_trans HB.out.size hS.size)))
    clear q1 q2 q3 q4
    refine held_go hK (by exact hT.out) fun hS=>?_
    clear hK K
    try simp only [zp]
    clear hT
    refine plan_fork ?_ ?_
    ·have c2:=HC.out.blk.cell 2
     refine nE fun K hK=>?_
     go_simp
     refine held_go hK hS fun hS=>?_
     clear hK K
     try simp only [zp]
     clear c2
     refine nE fun K hK=>?_
     go_simp
     with_reducible refine (mpack_any AM j cM _ _ (Reads.of_own M3.out) M1.out M2.out (Nat.le_trans Hm.out (by decide))).mono ?_
     rintro e w5 ⟨AP,cP,rfl,q1,q2,q3,q4⟩
     have N1:=Lib.hid q1
     have N3:=Lib.hid q3
     have HC:=Lib.hid (HC.out.below q4)
     have B6:=Lib.hid (B6.out.on q4)
     have hT:=Lib.hid (hS.trans (q4.mono (Nat.le_trans HB.out.size hS.size)))
     clear q1 q3 q4 q2
     refine held_go hK (by exact hT.out) fun hS=>?_
     clear hK K
     try simp only [zp]
     clear hT
     refine nE fun K hK=>?_
     refine wp_append_any _ (.tmp 50) (.tmp 53) 35 rfl w.heap.size 5 i0 (.int .u8 0) 1 1 Tryz.underlying35 hi0 hz0 hz1 hz2 rfl (by decide) A3 n c3 _ rfl HC.out.bytes AP _ cP _ rfl (Reads.of_own N3.out) (u8s_one _) (by have:=Hpl.out;simp only [maxLen];omega) (by have:=Hpl.out;omega) (Nat.le_trans HB.out.size hS.size) ?_
     intro A8 c8 w8 r1 r2 r3 r4 r5
     obtain ⟨b1,b2⟩:=HC.out.grow r3
     have B1:=Lib.hid b1
     have B2:=Lib.hid b2
     have R1:=Lib.hid r1
     have R4:=Lib.hid (And.intro r4 r5)
     have B6:=Lib.hid (B6.out.apart HC.out.bytes (by decide) r3)
     have hT:=Lib.hid (hS.trans r2)
     clear b1 b2 r1 r2 r3 r4 r5
     refine held_go hK (by exact hT.out) fun hS=>?_
     clear hK K
     try simp only [zp]
     refine nP hS ?_
     refine nP hS ?_
     have c2:=B1.out.cell 2
     have f2:=B1.out.frozen 2
     refine nE fun K hK=>?_
     go_simp
     clear c2 f2
     refine held_go hK (by exact hT.out.setCell (p:=⟨g,2,none⟩) H5.out _) fun hS=>?_
     clear hK K
     try simp only [zp]
     refine plan_end ?_
     have HC:=Lib.hid (show ColW _ w.heap.size g k 0 A1 nA cA (someC l) A8 (n+(packL (l.map fun c => !c.1)).length) c8 (xs++packL (l.map fun c => !c.1)) from ⟨B1.out.set_ 2 _,H5.out,own_far B2.out B1.out (by decide) 2 _,own_far (by rw [u8s_append];exact R1.out) B1.out (by decide) 2 _,R4.out.1,R4.out.2⟩)
     have B6:=Lib.hid (B6.out.far (Nat.ne_of_lt Hg0.out) (Value.slice A8 (n+(packL (l.map fun c => !c.1)).length) c8):Blk (w8.setCell ⟨g,2,none⟩ _) w.heap.size 43 #[.int .i64 k,.bool true])
     have HB:=Lib.hid (HB.out.trans hS)
     clear hS hT M1 M2 M3 N1 N3 B1 B2 R1 R4
     have c40:=B6.out.cell 0
     have hin:=fun args w'=>putF_in k hk1 hk5 args w'
     go_wp2_with fail
     with_reducible refine (writes_any k _ hk1 hk5).mono ?_
     rintro e w6 ⟨rfl,rfl⟩
     go_wp2_with fail
     with_reducible refine (putF_any w.heap.size g k 0 A1 nA cA (someC l) A8 (n+(packL (l.map fun c => !c.1)).length) c8 (xs++packL (l.map fun c => !c.1)) _ hk1 hk5 HC.out HsO.out HsZ.out Htot.out.1 HB.out.size Htot.out.2).mono ?_
     rintro e w7 ⟨rfl,B2,m2,c9,hC9,hB9⟩
     have HC9:=Lib.hid hC9
     have HB9:=Lib.hid (HB.out.trans hB9)
     have c2:=hC9.blk.cell 2
     clear hC9 hB9
     go_wp2
     go_ret2
     exact ⟨B2,m2,c9,by rw [HE.out];rfl,HC9.out.le,HC9.out.max,by rw [HO.out];exact HC9.out.bytes,HB9.out⟩
    refine nE fun K hK=>?_
    go_simp
    with_reducible refine (mpack_any AM j cM _ _ (Reads.of_own M3.out) M1.out M2.out (Nat.le_trans Hm.out (by decide))).mono ?_
    rintro e w5 ⟨AP,cP,rfl,q1,q2,q3,q4⟩
    have N1:=Lib.hid q1
    have N3:=Lib.hid q3
    have HC:=Lib.hid (HC.out.below q4)
    have B6:=Lib.hid (B6.out.on q4)
    have hT:=Lib.hid (hS.trans (q4.mono (Nat.le_trans HB.out.size hS.size)))
    clear q1 q3 q4 q2
    refine held_go hK (by exact hT.out) fun hS=>?_
    clear hK K
    try simp only [zp]
    clear hT
    have c2:=HC.out.blk.cell 2
    refine nE fun K hK=>?_
    go_simp
    refine held_go hK hS fun hS=>?_
    clear hK K
    try simp only [zp]
    clear c2
    refine nE fun K hK=>?_
    refine wp_append_any _ (.tmp 50) (.tmp 53) 35 rfl w.heap.size 5 i0 (.int .u8 0) 1 1 Tryz.underlying35 hi0 hz0 hz1 hz2 rfl (by decide) A3 n c3 _ rfl HC.out.bytes AP _ cP _ rfl (Reads.of_own N3.out) (u8s_one _) (by have:=Hpl.out;simp only [maxLen];omega) (by have:=Hpl.out;omega) (Nat.le_trans HB.out.size hS.size) ?_
    intro A8 c8 w8 r1 r2 r3 r4 r5
    obtain ⟨b1,b2⟩:=HC.out.grow r3
    have B1:=Lib.hid b1
    have B2:=Lib.hid b2
    have R1:=Lib.hid r1
    have R4:=Lib.hid (And.intro r4 r5)
    have B6:=Lib.hid (B6.out.apart HC.out.bytes (by decide) r3)
    have hT:=Lib.hid (hS.trans r2)
    clear b1 b2 r1 r2 r3 r4 r5
    refine held_go hK (by exact hT.out) fun hS=>?_
    clear hK K
    try simp only [zp]
    refine nP hS ?_
    refine nP hS ?_
    have c2:=B1.out.cell 2
    have f2:=B1.out.frozen 2
    refine nE fun K hK=>?_
    go_simp
    clear c2 f2
    refine held_go hK (by exact hT.out.setCell (p:=⟨g,2,none⟩) H5.out _) fun hS=>?_
    clear hK K
    try simp only [zp]
    refine plan_end ?_
    have HC:=Lib.hid (show ColW _ w.heap.size g k 0 A1 nA cA (someC l) A8 (n+(packL (l.map fun c => !c.1)).length) c8 (xs++packL (l.map fun c => !c.1)) from ⟨B1.out.set_ 2 _,H5.out,own_far B2.out B1.out (by decide) 2 _,own_far (by rw [u8s_append];exact R1.out) B1.out (by decide) 2 _,R4.out.1,R4.out.2⟩)
    have B6:=Lib.hid (B6.out.far (Nat.ne_of_lt Hg0.out) (Value.slice A8 (n+(packL (l.map fun c => !c.1)).length) c8):Blk (w8.setCell ⟨g,2,none⟩ _) w.heap.size 43 #[.int .i64 k,.bool true])
    have HB:=Lib.hid (HB.out.trans hS)
    clear hS hT M1 M2 M3 N1 N3 B1 B2 R1 R4
    have c40:=B6.out.cell 0
    have hin:=fun args w'=>putF_in k hk1 hk5 args w'
    go_wp2_with fail
    with_reducible refine (writes_any k _ hk1 hk5).mono ?_
    rintro e w6 ⟨rfl,rfl⟩
    go_wp2_with fail
    with_reducible refine (putF_any w.heap.size g k 0 A1 nA cA (someC l) A8 (n+(packL (l.map fun c => !c.1)).length) c8 (xs++packL (l.map fun c => !c.1)) _ hk1 hk5 HC.out HsO.out HsZ.out Htot.out.1 HB.out.size Htot.out.2).mono ?_
    rintro e w7 ⟨rfl,B2,m2,c9,hC9,hB9⟩
    have HC9:=Lib.hid hC9
    have HB9:=Lib.hid (HB.out.trans hB9)
    have c2:=hC9.blk.cell 2
    clear hC9 hB9
    go_wp2
    go_ret2
    exact ⟨B2,m2,c9,by rw [HE.out];rfl,HC9.out.le,HC9.out.max,by rw [HO.out];exact HC9.out.bytes,HB9.out⟩
end Go.Proofs.YtjpjalmilfgckaaGreatDoor
namespace Go.Proofs.YtjpjalmilfgckaaGreatDoor
open Go.RowKit
theorem intsB_le (l:List Cl):(intsB l).length<=10*l.length:=by
 induction l with
 | nil=>simp [intsB]
 | cons c l ih=>
  have:=leb_le (zig c.2.1)
  simp only [intsB,List.flatMap_cons,List.length_append,List.length_cons] at *
  omega
theorem rawsB_le (l:List Cl) (h:∀ c∈l,c.2.2.size<=1024):(rawsB l).length<=1034*l.length:=by
 induction l with
 | nil=>simp [rawsB]
 | cons c l ih=>
  have h1:=leb_le c.2.2.size
  have h2:=h c (by simp)
  have h3:=ih (fun x hx=>h x (by simp [hx]))
  have h4:c.2.2.data.toList.length=c.2.2.size:=by rw [Array.length_toList];rfl
  simp only [rawsB,List.flatMap_cons,List.length_append,List.length_cons] at *
  omega
theorem putB_leB (k:Int) (nl:Bool) (l:List Cl) (hk:mayK k=true) (ha:allC k nl l=true):(putB k nl l []).length<=10+1046*l.length:=by
 have hs:=some_sizes hk ha
 have hl:(someC l).length<=l.length:=List.length_filter_le _ _
 have h1:((if nl then packL (l.map fun c => !c.1) else []:List UInt8)).length<=l.length:=by
  split
  ·have:=packL_le (l.map fun c => !c.1)
   simpa using this
  simp
 have h2:(bareB k (someC l)).length<=10+1044*l.length:=by
  unfold bareB
  split
  ·have:=packL_le ((someC l).map fun c=>c.2.1==1)
   simp only [List.length_map] at this
   omega
  split
  ·have:=putD_le ((someC l).map fun c=>c.2.2) (fun s hs2=>by
    obtain ⟨c,hc,rfl⟩:=List.mem_map.1 hs2
    exact hs c hc)
   simp only [List.length_map] at this
   omega
  split
  ·have:=rawsB_le (someC l) hs
   omega
  have:=intsB_le (someC l)
  omega
 unfold putB
 simp only [List.nil_append,List.length_append]
 omega
theorem Fits.colB_le {cs:List Co} {b:Ba} (h:Fits cs b) (k:Nat):(colB cs b.2.2 k).length<=10+1046*b.2.2.length:=by
 unfold colB
 split
 ·rename_i c hc
  have:=putB_leB c.2.2.1 c.2.2.2.1 (colC b.2.2 k) (mayCs_at h.may hc) (h.col hc)
  simpa [colC] using this
 simp
theorem Fits.colsB_le {cs:List Co} {b:Ba} (h:Fits cs b) (j:Nat):(colsB cs b.2.2 j).length<=j*(10+1046*b.2.2.length):=by
 induction j with
 | zero=>simp [colsB]
 | succ j ih=>
  have:=h.colB_le j
  rw [colsB_succ,List.length_append,Nat.succ_mul]
  omega
theorem headB_le (v s:Int) (n:Nat):(headB v s n).length<=33:=by
 have h1:=leb_le v.toNat
 have h2:=leb_le s.toNat
 have h3:=leb_le n
 simp only [headB,List.length_append,List.length_cons,List.length_nil]
 omega
theorem wsB_le (l:List It):(wsB l).length<=10*l.length:=by
 induction l with
 | nil=>simp [wsB]
 | cons c l ih=>
  have:=leb_le (zig c.2)
  simp only [wsB,List.flatMap_cons,List.length_append,List.length_cons] at *
  omega
theorem mayCs_len {cs:List Co} (h:mayCs cs=true):1<=cs.length/\cs.length<=32:=by
 unfold mayCs at h
 simp only [Bool.and_eq_true,decide_eq_true_eq] at h
 exact h.1
def preB (cs:List Co) (b:Ba) (j:Nat):List UInt8:=headB b.1 b.2.1 b.2.2.length++colsB cs b.2.2 j
theorem preB_zero (cs:List Co) (b:Ba):preB cs b 0=headB b.1 b.2.1 b.2.2.length:=by simp [preB,colsB]
theorem preB_succ (cs:List Co) (b:Ba) (j:Nat) (c:Co) (h:cs[j]? = some c):preB cs b (j+1)=putB c.2.2.1 c.2.2.2.1 (colC b.2.2 j) (preB cs b j):=by
 unfold preB
 rw [colsB_succ,<-List.append_assoc]
 unfold colB
 rw [h]
 unfold putB
 simp
theorem Fits.preB_le {cs:List Co} {b:Ba} (h:Fits cs b) (j:Nat) (hj:j<=cs.length):(preB cs b j).length<=40000000000:=by
 have h1:=h.colsB_le j
 have h2:=headB_le b.1 b.2.1 b.2.2.length
 have h3:=(mayCs_len h.may).2
 have h4:=h.rows
 have h5:j*(10+1046*b.2.2.length)<=32*(10+1046*1048576):=Nat.mul_le_mul (by omega) (by omega)
 unfold preB
 rw [List.length_append]
 omega
def preW (cs:List Co) (b:Ba) (i:Nat):List UInt8:=preB cs b cs.length++wsB (b.2.2.take i)
theorem preW_zero (cs:List Co) (b:Ba):preW cs b 0=preB cs b cs.length:=by simp [preW,wsB]
theorem preW_succ (cs:List Co) (b:Ba) (i:Nat) (it:It) (h:b.2.2[i]? = some it):preW cs b (i+1)=preW cs b i++leb (zig it.2):=by
 unfold preW wsB
 rw [List.take_add_one,h]
 simp
theorem preW_end (cs:List Co) (b:Ba):preW cs b b.2.2.length=bodyB cs b:=by
 unfold preW preB bodyB
 rw [List.take_length,List.append_assoc]
theorem Fits.preW_le {cs:List Co} {b:Ba} (h:Fits cs b) (i:Nat):(preW cs b i).length<=50000000000:=by
 have h1:=h.preB_le cs.length (Nat.le_refl _)
 have h2:=wsB_le (b.2.2.take i)
 have h3:=h.rows
 have h4:(b.2.2.take i).length<=b.2.2.length:=List.length_take_le' _ _
 unfold preW
 rw [List.length_append]
 omega
theorem Fits.body_le {cs:List Co} {b:Ba} (h:Fits cs b):(bodyB cs b).length<=50000000000:=by
 rw [<-preW_end]
 exact h.preW_le _
theorem Fits.enc_le {cs:List Co} {b:Ba} (h:Fits cs b):(encA cs b).length<=60000000000:=by
 have:=h.body_le
 rw [encA_len]
 omega
def cutc (c:Cl):Cl:=(c.1,c.2.1,c.2.2.extract 0 (min c.2.2.size 300))
def cutr (r:List Cl):List Cl:=(r.take 40).map cutc
def cuti (it:It):It:=(cutr it.1,it.2)
theorem cutr_ok {r:List Cl} (h:ClOk r):ClOk (cutr r):=by
 intro c hc
 obtain ⟨d,hd,rfl⟩:=List.mem_map.1 hc
 obtain ⟨h1,h2,h3⟩:=h d (List.mem_of_mem_take hd)
 refine ⟨h1,h2,?_⟩
 simp only [cutc,ByteArray.size_extract]
 omega
end Go.Proofs.YtjpjalmilfgckaaGreatDoor
namespace Go.Proofs.YtjpjalmilfgckaaGreatDoor
open Go.RowKit
structure Touch (w w':World) (g:Nat) (r:Option Nat):Prop where
 os:w'.os=w.os
 tape:w'.tape=w.tape
 output:w'.output=w.output
 size:w.heap.size<=w'.heap.size
 block:∀ k,k<w.heap.size->k≠g->some k≠r->w'.heap[k]? = w.heap[k]?
def Next (w:World) (r r':Option Nat):Prop:=r'=r\/∃ k,r'=some k/\w.heap.size<=k
section
variable {w w1 w2:World} {g:Nat} {r r1 r2:Option Nat}
theorem Touch.refl:Touch w w g r:=⟨rfl,rfl,rfl,Nat.le_refl _,fun _ _ _ _=>rfl⟩
theorem Next.refl:Next w r r:=.inl rfl
theorem Touch.trans (h:Touch w w1 g r) (hn:Next w r r1) (h2:Touch w1 w2 g r1):Touch w w2 g r:=
 ⟨h2.os.trans h.os, h2.tape.trans h.tape, h2.output.trans h.output, Nat.le_trans h.size h2.size, fun k hk h3 h4 => by
  refine (h2.block k (Nat.lt_of_lt_of_le hk h.size) h3 ?_).trans (h.block k hk h3 h4)
  rcases hn with rfl | ⟨q,rfl,hq⟩
  ·exact h4
  intro e
  injection e with e
  omega⟩
theorem Next.trans (h:Next w r r1) (hs:w.heap.size<=w1.heap.size) (h2:Next w1 r1 r2):Next w r r2:=by
 rcases h2 with rfl | ⟨k,rfl,hk⟩
 ·exact h
 exact .inr ⟨k,rfl,Nat.le_trans hs hk⟩
theorem Touch.of_below (h:Below w.heap.size w w1):Touch w w1 g r:=⟨h.os,h.tape,h.output,h.size,fun k hk _ _=>h.block k hk⟩
theorem Touch.of_grown (h:w.grownBy w1 r):Touch w w1 g r:=⟨h.os,h.tape,h.output,h.size,fun k hk _ h4=>h.block k hk h4⟩
theorem Touch.set (w:World) (i:Nat) (u:Value):Touch w (w.setCell ⟨g,i,none⟩ u) g r:=by
 have h:=grown_set' w g i u
 exact ⟨h.os,h.tape,h.output,h.size,fun k hk h3 _=>h.block k hk (by simpa using h3)⟩
 where grown_set' (w:World) (g i:Nat) (u:Value):w.grownBy (w.setCell ⟨g,i,none⟩ u) (some g):=
 ⟨rfl,rfl,rfl,by simp [World.setCell],fun k hk hne=>Below.heap_setCell w ⟨g,i,none⟩ u k (by intro e;exact hne (by rw [e]))⟩
theorem Touch.below {B:Nat} (h:Touch w w1 g r) (hB:B<=w.heap.size) (hg:B<=g) (hr:∀ k,r=some k->B<=k):Below B w w1:=
 ⟨h.os,h.tape,h.output,h.size,fun k hk=>h.block k (by omega) (by omega) (fun e=>by have:=hr k e.symm;omega)⟩
end
theorem own_touch {w w':World} {base size n g2:Nat} {e:TypeId} {v:Value} {xs:List Value} {r:Option Nat} (h:w.ownsRow base e size v n xs) (ht:Touch w w' g2 r) (h1:v.ownBlock≠some g2) (h2:v.ownBlock=none\/v.ownBlock≠r):w'.ownsRow base e size v n xs:=by
 rcases h.2 with ⟨rfl,h0⟩ | ⟨g,cap,cur,rfl,h3,h4,h5⟩
 ·exact ⟨h.1,.inl ⟨rfl,h0⟩⟩
 refine ⟨h.1,.inr ⟨g,cap,cur,rfl,h3,?_,h5⟩⟩
 have hlt:g<w.heap.size:=by
  rcases Nat.lt_or_ge g w.heap.size with hlt | hge
  ·exact hlt
  rw [Array.getElem?_eq_none hge] at h4;cases h4
 refine (ht.block g hlt (by simpa [Value.ownBlock] using h1) ?_).trans h4
 rcases h2 with h2 | h2
 ·simp [Value.ownBlock] at h2
 exact h2
theorem own_blk {w:World} {base size n g:Nat} {e t:TypeId} {v:Value} {xs:List Value} {cs:Array Value} (h:w.ownsRow base e size v n xs) (hb:Blk w g t cs) (hne:e≠t):v.ownBlock≠some g:=by
 rcases h.2 with ⟨rfl,h0⟩ | ⟨g2,cap,cur,rfl,h1,h2,h3⟩
 ·simp [Value.ownBlock]
 simp only [Value.ownBlock,ne_eq,Option.some.injEq]
 rintro rfl
 unfold Blk at hb
 rw [h2] at hb
 injection hb with hb
 injection hb with _ h4
 exact hne h4
section
variable {P:Program} {w:World}
theorem wpList_append_blk {ops:Array Oper} {rest:List Oper} {o:Oper} {a:Act} {Q:Exit->Act->World->Prop} (hgd:o.guard=none) (s x:Operand) (t:TypeId)
  (ho:o.op=.call { callee:=.builtin .append,args:=#[s,x],argTypes:=#[t,t] })
  (base:Nat) (e:TypeId) (i:TypeInfo) (z:Value) (size bytes:Nat) (ht:P.underlying t=some (.slice e)) (hi:P.info? e=some i) (hz:i.zero=some z)
  (hsize:i.size=size) (hby:i.bytes=bytes) (hzs:z.cells.size=size) (hsz:0<size)
  (A0:Option Addr) (n c0:Nat) (xs:List Value) (hs:a.eval s=.slice A0 n c0) (hown:w.ownsRow base e size (.slice A0 n c0) n xs)
  (A:Option Addr) (m c:Nat) (news:List Value) (hx:a.eval x=.slice A m c) (hr:Reads w w.heap.size size A m news) (h1:∀ u∈news,u.oneCell'=true)
  (h63:n+m<=maxLen) (hbytes:(n+m)*bytes<=70368744177664) (hbase:base<=w.heap.size)
  (h:∀ A' c' w',w'.ownsRow base e size (.slice A' (n+m) c') (n+m) (xs++news)->w.grownBy w' (Value.slice A0 n c0).ownBlock->((Value.slice A' (n+m) c').ownBlock=(Value.slice A0 n c0).ownBlock\/(Value.slice A' (n+m) c').ownBlock=some w.heap.size)->wpList P ops Q rest (a.put o.dst (.slice A' (n+m) c')) w'):wpList P ops Q (o::rest) a w:=
 wpList_plain hgd fun K hK=>by
  obtain ⟨v',w',hrun,h2,h3,h5⟩:=run_append_any (P:=P) w base t o.type e i z size bytes ht hi hz hsize hby hzs hsz _ n xs hown _ A m c news hr h1 h63 (by omega) hbase
  obtain ⟨A',c',rfl,hl1,hl2⟩:=own_shape h2
  unfold Oper.wp execOp
  simp only [ho,resolve,invoke,builtin,Sem.run_bind,Sem.run_pure,Result.andThen_ok,List.map_toArray,List.map_cons,List.map_nil,hs,hx,hrun]
  exact hK _ _ (h A' c' w' h2 h3 h5)
end
def rawB (B:List UInt8) (most:Int) (full:Bool) (b:List UInt8):List UInt8×Bool:=
 if full=true\/most-(B.length:Int)<(b.length:Int) then (B,true) else (B++b,false)
def PWr (w:World) (base g:Nat) (r:Option Nat) (B:List UInt8) (most:Int) (full:Bool):Prop:=
 base<=g/\∃ (A:Option Addr) (c:Nat),Blk w g 159 #[.slice A B.length c,.bool true,.int .i64 most,.bool full]/\w.ownsRow base 5 1 (.slice A B.length c) B.length (u8s B)/\(Value.slice A B.length c).ownBlock=r
section
variable {w w':World} {base g g2:Nat} {r r2:Option Nat} {B B2:List UInt8} {most most2:Int} {full full2:Bool}
theorem PWr.lt (h:PWr w base g r B most full):g<w.heap.size/\base<=g/\∀ k,r=some k->base<=k/\k<w.heap.size:=by
 obtain ⟨h0,A,c,h1,h2,rfl⟩:=h
 exact ⟨h1.lt,h0,fun k hk=>h2.lt k hk⟩
theorem PWr.on (h:PWr w base g r B most full) (hb:Below w.heap.size w w'):PWr w' base g r B most full:=by
 obtain ⟨h0,A,c,h1,h2,h3⟩:=h
 exact ⟨h0,A,c,h1.on hb,own_below h2 hb,h3⟩
end
def Wr (base g:Nat) (r:Option Nat) (B:List UInt8) (most:Int) (full:Bool) (b:List UInt8) (w:World) (e:Ending) (w':World):Prop:=
 e=.returned (.tuple #[])/\Touch w w' g r/\∃ r',Next w r r'/\PWr w' base g r' (rawB B most full b).1 most (rawB B most full b).2
theorem Wr.from_ {base g:Nat} {r:Option Nat} {B:List UInt8} {most:Int} {full:Bool} {b:List UInt8} {w w1:World} {e:Ending} {w':World} (h:Wr base g r B most full b w1 e w') (hb:Below w.heap.size w w1):Wr base g r B most full b w e w':=by
 obtain ⟨h1,h2,r',h3,h4⟩:=h
 refine ⟨h1,(Touch.of_below hb).trans Next.refl h2,r',?_,h4⟩
 exact Next.refl.trans hb.size h3
end Go.Proofs.YtjpjalmilfgckaaGreatDoor
namespace Go.Proofs.YtjpjalmilfgckaaGreatDoor
open Go.RowKit
theorem i64_wrap_in (x:Int) (h1 : -9223372036854775808<=x) (h2:x<=9223372036854775807):IntKind.i64.wrap x=x:=by
 simp only [IntKind.wrap,IntKind.signed,IntKind.bits]
 simp
 omega
theorem Blk.apart' {w w':World} {base size n g:Nat} {e t:TypeId} {v:Value} {xs:List Value} {cs:Array Value} (hb:Blk w g t cs) (h:w.ownsRow base e size v n xs) (hne:e≠t) (hg:w.grownBy w' v.ownBlock):Blk w' g t cs:=by
 refine (hg.block g hb.lt ?_).trans hb
 exact fun e=>own_blk h hb hne e.symm
theorem own_far3 {w:World} {base size n g:Nat} {e t:TypeId} {v:Value} {xs:List Value} {cs:Array Value} (h:w.ownsRow base e size v n xs) (hb:Blk w g t cs) (hne:e≠t) (i:Nat) (u:Value):(w.setCell ⟨g,i,none⟩ u).ownsRow base e size v n xs:=by
 refine own_touch h (Touch.set (g:=g) (r:=none) w i u) (own_blk h hb hne) ?_
 rcases v.ownBlock with _ | k
 ·exact .inl rfl
 exact .inr (by simp)
theorem ownsRow_drew {w:World} {base size n:Nat} {e:TypeId} {v:Value} {xs:List Value} (h:w.ownsRow base e size v n xs):w.drew.ownsRow base e size v n xs:=h
set_option maxHeartbeats 1000000 in
theorem wraw_any (base g:Nat) (r:Option Nat) (B:List UInt8) (most:Int) (full:Bool) (A:Option Addr) (l c:Nat) (xs:List UInt8) (w:World) (hp:PWr w base g r B most full) (hm0:0<=most) (hm1:most<=9223372036854775807) (hr:Reads w w.heap.size 1 A l (u8s xs)) (hb:B.length+l<=1099511627776) :
  Calls Tryz.prog 55 #[.pointer (some ⟨g,0,none⟩),.slice A l c] w (Wr base g r B most full xs w):=by
 obtain ⟨i0,hi0,hz0,hz1,hz2⟩:=info_parts u8_info
 have hp0:=Lib.hid hp
 obtain ⟨hbg,A0,c0,hblk,hown,hrr⟩:=hp
 have hxl:=reads_len hr
 have d0:=hblk.cell 0
 have d1:=hblk.cell 1
 have d2:=hblk.cell 2
 have d3:=hblk.cell 3
 have f0:=hblk.frozen 0
 have f3:=hblk.frozen 3
 have Hblk:=Lib.hid hblk
 have Hrr:=Lib.hid hrr
 have Hxl:=Lib.hid hxl
 generalize hn:B.length=n at *
 have Hn:=Lib.hid hn
 have hglt:=hblk.lt
 have hbw:base<=w.heap.size:=by omega
 clear hblk hrr hxl hn
 rcases full with _ | _
 ·have hL:∀ w',w'=w.drew->w'.cell? ⟨g,2,none⟩=some (.int .i64 most):=fun w' h=>by rw [h];exact d2
  have hL2:∀ w',w'=w.drew->w'.cell? ⟨g,0,none⟩=some (.slice A0 n c0):=fun w' h=>by rw [h];exact d0
  have HL:=Lib.hid hL
  have HL2:=Lib.hid hL2
  have Hsub:=Lib.hid (i64_wrap_in (most-(n:Int)) (by omega) (by omega))
  clear hL hL2
  by_cases hbig:most-(n:Int)<(l:Int)
  ·have db:decide (most-(n:Int)<(l:Int))=true:=by simp;omega
   have hraw:rawB B most false xs=(B,true):=by unfold rawB;rw [if_pos (.inr (by rw [Hn.out,Hxl.out];exact hbig))]
   have Hraw:=Lib.hid hraw
   clear hraw
   go_enter Tryz.func55,Tryz.ntmps55
   go_wp2
   have hS:w.drew=w.drew:=rfl
   refine hR (fun w'=>w'=w.drew) [ff 0,ff 1,ff 2,ff 3,ff 4,ff 5,ff 6,ff 7,ff 8,ff 9,ff 10,ff 11,ff 12,ff 13,ff 14] ?_
   iterate 5
    refine hP hS ?_
   refine hP1 hS HL.out ?_
   iterate 4
    refine hP hS ?_
   refine hP1 hS HL2.out ?_
   refine hP hS ?_
   refine hP hS ?_
   rw [Hsub.out]
   refine hP hS ?_
   refine hP hS ?_
   refine held_end ?_
   clear hS
   go_wp2
   go_end0
   have hb4:=(Hblk.out.set_ 3 (.bool true)).drew
   refine ⟨rfl,?_,r,Next.refl,?_⟩
   ·exact (Touch.set w 3 (.bool true)).trans Next.refl (Touch.of_below ((Below.refl _ _).drew))
   rw [Hraw.out]
   refine ⟨hbg,A0,c0,?_,?_,?_⟩
   ·rw [Hn.out];exact hb4
   ·rw [Hn.out]
    exact ownsRow_drew (own_far3 hown Hblk.out (by decide) 3 (.bool true))
   rw [Hn.out];exact Hrr.out
  have db:decide (most-(n:Int)<(l:Int))=false:=by simp;omega
  have hraw:rawB B most false xs=(B++xs,false):=by unfold rawB;rw [if_neg (by rw [Hn.out,Hxl.out];simp;omega)]
  have Hraw:=Lib.hid hraw
  have hs1:n+l<=maxLen:=by simp only [maxLen];omega
  have hs2:(n+l)*1<=70368744177664:=by omega
  clear hraw
  go_enter Tryz.func55,Tryz.ntmps55
  go_wp2
  have hS:w.drew=w.drew:=rfl
  refine hR (fun w'=>w'=w.drew) [ff 0,ff 1,ff 2,ff 3,ff 4,ff 5,ff 6,ff 7,ff 8,ff 9,ff 10,ff 11,ff 12,ff 13,ff 14] ?_
  iterate 5
   refine hP hS ?_
  refine hP1 hS HL.out ?_
  iterate 4
   refine hP hS ?_
  refine hP1 hS HL2.out ?_
  refine hP hS ?_
  refine hP hS ?_
  rw [Hsub.out]
  refine hP hS ?_
  refine hP hS ?_
  refine held_end ?_
  clear hS
  go_wp2_with (at_builtin
               refine wpList_append_blk rfl (.tmp 9) (.tmp 10) 35 rfl base 5 i0 (.int .u8 0) 1 1 Tryz.underlying35 hi0 hz0 hz1 hz2 rfl (by decide) A0 n c0 (u8s B) rfl (ownsRow_drew hown) A l c (u8s xs) rfl hr.drew (u8s_one _) hs1 hs2 hbw ?_
               intro A2 c2 w2 hown2 hg2 hbk2
               have hblk2:=Blk.apart' Hblk.out.drew (ownsRow_drew hown) (by decide) hg2
               have e0:=hblk2.cell 0
               have fe0:=hblk2.frozen 0
               have Hblk2:=Lib.hid hblk2
               have Hbk2:=Lib.hid hbk2
               clear hblk2 hbk2)
  go_end0
  rw [<-u8s_append] at hown2
  have hb4:=Hblk2.out.set_ 0 (.slice A2 (n+l) c2)
  have hlen:(B++xs).length=n+l:=by rw [List.length_append,Hn.out,Hxl.out]
  refine ⟨rfl,?_,(Value.slice A2 (n+l) c2).ownBlock,?_,?_⟩
  ·have h1:Touch w w2 g r:=by
    have:=Touch.of_grown (g:=g) hg2
    rw [Hrr.out] at this
    exact ((Touch.of_below ((Below.refl _ w).drew)).trans Next.refl this)
   have hn:Next w r r:=Next.refl
   exact h1.trans hn (Touch.set w2 0 _)
  ·rcases Hbk2.out with h | h
   ·exact .inl (h.trans Hrr.out)
   exact .inr ⟨_,h,Nat.le_refl _⟩
  rw [Hraw.out]
  refine ⟨hbg,A2,c2,?_,?_,?_⟩
  ·simp only [hlen];exact hb4
  ·simp only [hlen]
   exact own_far3 hown2 Hblk2.out (by decide) 0 (.slice A2 (n+l) c2)
  simp only [hlen]
 have hraw:rawB B most true xs=(B,true):=by unfold rawB;rw [if_pos (.inl rfl)]
 have Hraw:=Lib.hid hraw
 clear hraw
 go_enter Tryz.func55,Tryz.ntmps55
 go_wp2
 go_end0
 refine ⟨rfl,Touch.refl,r,Next.refl,?_⟩
 rw [Hraw.out]
 exact hp0.out
end Go.Proofs.YtjpjalmilfgckaaGreatDoor
namespace Go.Proofs.YtjpjalmilfgckaaGreatDoor
open Go.RowKit
def textB (s:ByteArray):List UInt8:=leb s.size++s.data.toList
theorem bts_size (s:ByteArray):s.data.toList.length=s.size:=by rw [Array.length_toList];rfl
set_option maxHeartbeats 1000000 in
theorem wvar_any (base g:Nat) (r:Option Nat) (B:List UInt8) (most:Int) (full:Bool) (n:Nat) (w:World) (hp:PWr w base g r B most full) (hm0:0<=most) (hm1:most<=9223372036854775807) (hn:n<18446744073709551616) (hb:B.length<=1000000000) :
  Calls Tryz.prog 56 #[.pointer (some ⟨g,0,none⟩),.int .u64 (n:Int)] w (Wr base g r B most full (leb n) w):=by
 go_enter Tryz.func56,Tryz.ntmps56
 have hl:=leb_le n
 have hp':=Lib.hid hp
 go_wp2_with fail
 with_reducible refine (put_any none 0 0 n [] _ Reads.none_ (by decide) (by decide) (by decide) hn).mono ?_
 simp only [Nat.zero_add,List.nil_append]
 rintro e w1 ⟨A1,c1,rfl,g1,g2,o1,hb1⟩
 go_wp2_with fail
 refine (wraw_any base g r B most full A1 _ c1 (leb n) _ (hp'.out.on hb1) hm0 hm1 (own_reads o1) (by omega)).mono ?_
 rintro e w2 hw
 obtain ⟨rfl,-⟩:=id hw
 go_wp2
 go_end0
 exact hw.from_ hb1
end Go.Proofs.YtjpjalmilfgckaaGreatDoor
namespace Go.Proofs.YtjpjalmilfgckaaGreatDoor
open Go.RowKit
set_option maxHeartbeats 400000 in
theorem bring_any (i n:Int) (w:World) (h1 : -9223372036854775808<=i) (h2:i<=9223372036854775807) (hn:0<n) (hn2:n<=9223372036854775807) :
  Calls Tryz.prog 29 #[.int .i64 i,.int .i64 n] w fun e w'=>e=.returned (.int .i64 (i % n))/\w=w':=by
 have hb:=Int.emod_nonneg i (by omega:n≠0)
 have hlt:=Int.emod_lt_of_pos i hn
 have ht:i.tmod n=i % n\/(i.tmod n<0/\i.tmod n+n=i % n):=by
  rw [Int.tmod_eq_emod]
  split
  ·left;omega
  rename_i h
  rw [Int.natAbs_of_nonneg (by omega)]
  right;omega
 have hz:¬n=0:=by omega
 have hm1 : -9223372036854775808<=i.tmod n/\i.tmod n<=9223372036854775807:=by rcases ht with h | ⟨h,h'⟩<;>omega
 rcases ht with h | ⟨h,h'⟩
 ·have h0:0<=i.tmod n:=by omega
  have H:=Lib.hid h
  clear h
  go_enter Tryz.func29,Tryz.ntmps29
  go_wp2
  go_ret
  exact ⟨congrArg (fun x=>Ending.returned (.int .i64 x)) H.out,rfl⟩
 have H:=Lib.hid h'
 clear h'
 go_enter Tryz.func29,Tryz.ntmps29
 go_wp2
 go_ret
 refine ⟨congrArg (fun x=>Ending.returned (.int .i64 x)) ?_,rfl⟩
 have:=H.out
 first | omega | (simp only [wrap64];omega)
end Go.Proofs.YtjpjalmilfgckaaGreatDoor
namespace Go.Proofs.YtjpjalmilfgckaaGreatDoor
open Go.RowKit
theorem str_bytes {P:Program} (w:World) (src dst e:TypeId) (s:ByteArray) (hs:P.underlying src=some .string) (hd:P.underlying dst=some (.slice e)) (he:P.underlying e=some (.int .u8)) (hz:s.size<=maxLen) :
  ∃ (A:Option Addr) (c:Nat) (w1:World),(convert src dst (.string s)).run P w=.ok (.slice A s.size c) w1/\Reads w1 w1.heap.size 1 A s.size (u8s s.data.toList)/\s.size<=c/\c<=maxLen/\Below w.heap.size w w1:=by
 have hlen:s.data.toList.length=s.size:=by rw [Array.length_toList];rfl
 refine ⟨_,_,_,Lib.run_convert_string_bytes w src dst e s hs hd he,⟨by simp [hlen],fun _=>⟨_,rfl,?_,?_⟩⟩,grownCap_ge w s.size 0 e,grownCap_le_maxLen w s.size 0 e hz,?_⟩
 ·show w.heap.size<_
  rw [Lib.bytesWorld_size]
  omega
 ·intro j u hu
  simp only [u8s,List.getElem?_map,Option.map_eq_some_iff] at hu
  obtain ⟨b,hb,rfl⟩:=hu
  obtain ⟨hj,rfl⟩:=List.getElem?_eq_some_iff.1 hb
  have:=Lib.bytesWorld_cell w e s j (by omega)
  rw [show (⟨w.heap.size,0,none⟩:Addr).add j=⟨w.heap.size,j,none⟩ from by unfold Addr.add;split<;>simp_all]
  rw [this,List.getD_eq_getElem?_getD,List.getElem?_eq_getElem hj]
  rfl
 refine ⟨rfl,rfl,rfl,by rw [Lib.bytesWorld_size];omega,fun k hk=>Lib.bytesWorld_at_old w e s k hk⟩
end Go.Proofs.YtjpjalmilfgckaaGreatDoor
