/- Part 13 of the walks, merged: each text under its own heading. Conditions: none of its own; each lemma states what it asks. -/
import Derived.Test.YtjpjalmilfgckaaGreatDoorIm7
import Derived.Test.YtjpjalmilfgckaaGreatDoorIm10
import Derived.Test.YtjpjalmilfgckaaGreatDoorIm12
set_option maxRecDepth 100000
set_option linter.unusedVariables false
set_option linter.unusedSimpArgs false
namespace Go.Proofs.YtjpjalmilfgckaaGreatDoor
open Go.RowKit
def TabB (B:Nat) (w:World):Prop:=2<B/\3<B/\Tabs w
theorem Tabs.low {w:World} (h:Tabs w):TabB w.heap.size w:=by
 have lt:∀ {a:Addr} {v:Value},w.cell? a=some v->a.block<w.heap.size:=fun {a v} hc=>by
  rcases Nat.lt_or_ge a.block w.heap.size with h' | h'
  ·exact h'
  simp [World.cell?,Array.getElem?_eq_none h'] at hc
 exact ⟨lt (h.1 0 (by decide)),lt (h.2 0 (by decide)).1,h⟩
theorem TabB.keep {B:Nat} {w w':World} (h:TabB B w) (hb:Below B w w'):TabB B w':=
 ⟨h.1,h.2.1,fun c hc=>(hb.cell (p:=⟨_,c,none⟩) h.1).trans (h.2.2.1 c hc),fun i hi=>⟨(hb.cell (p:=⟨_,2*i,none⟩) h.2.1).trans (h.2.2.2 i hi).1,(hb.cell (p:=⟨_,2*i+1,none⟩) h.2.1).trans (h.2.2.2 i hi).2⟩⟩
theorem TabB.tabs {B:Nat} {w:World} (h:TabB B w):Tabs w:=h.2.2
theorem checkE_is {k:Int} (hk:mayK k=true) (nl:Bool) (n:Int) (s:ByteArray):checkE k nl (false,n,s)=if isC k (false,n,s)=true then 0 else 90:=by
 unfold checkE
 rw [if_pos hk]
 simp
theorem iterC_next {f:List Cl×Nat->GotC} {n:Nat} {l:List Cl} {s:Nat} {r:GotC} (h:iterC f n=.ok (l,s)) (hr:f (l,s)=r):iterC f (n+1)=r:=by rw [iterC_succ h,hr]
set_option maxHeartbeats 2000000 in
theorem getInts_any (base g:Nat) (k:Int) (a:Nat) (B:Option Addr) (m cb:Nat) (xs:List UInt8) (N:Nat) (w:World) (h:ColG w base base g k a none 0 0 [] B m cb xs) (ha:a<=m) (hN:N<=1048576) (hk:k=2\/k=3) (hT:TabB base w) :
  Calls Tryz.prog 196 #[.pointer (some ⟨g,0,none⟩),.int .i64 (N:Int)] w (GotF (iterC (stepI k (xs.drop a)) N) base g k a B m cb xs w):=by
 obtain ⟨j0,hj0,hk0,hj1,hk2⟩:=info_parts cell_info
 have hmk:mayK k=true:=by rcases hk with rfl | rfl<;>rfl
 have Hmx:=Lib.hid h.max
 have Hle:=Lib.hid h.le
 have Hxl:=Lib.hid (show xs.length=m from reads_len h.bytes)
 have H:=Lib.hid h
 have HT:=Lib.hid hT
 clear h hT
 go_enter Tryz.func196,Tryz.ntmps196
 go_wp2
 go_loopw [10] (fun i wr=>∃ (j:Nat) (lj:List Cl) (sj:Nat) (A1:Option Addr) (c1:Nat),j<=N/\i=.int .i64 (j:Int)/\Hid (iterC (stepI k (xs.drop a)) j=.ok (lj,sj))/\lj.length=j/\Hid (a+sj<=m)/\Hid (ColG wr base w.heap.size g k (a+sj:Nat) A1 j c1 lj B m cb xs)/\Hid (Apart w.heap.size g w wr)/\Hid (Below base w wr)) (fun i _=>N-(intOf i).toNat)
 case atStart=>exact ⟨0,[],0,none,0,Nat.zero_le _,rfl,Lib.hid rfl,rfl,Lib.hid ha,by simpa using Lib.hid (H.out.fresh H.out.base_le),Lib.hid (Apart.refl _ _ _),Lib.hid (Below.refl _ _)⟩
 case round=>
  obtain ⟨j,lj,sj,A1,c1,hj,rfl,Hit,hlj,Hsj,HC,HP,HB⟩:=hrel
  have Hlj:=Lib.hid hlj
  clear hlj
  by_cases hlt:j<N
  ·obtain ⟨q,hq⟩:∃ q,q=a+sj:=⟨_,rfl⟩
   rw [<-hq] at Hsj HC
   have Hq:=Lib.hid hq
   clear hq
   have hqm:=Hsj.out
   have hgs:=get_size (xs.drop q)
   rw [List.length_drop,Hxl.out] at hgs
   have Hgs:=Lib.hid hgs
   have HS2:=Lib.hid (show ∀ w',w'=wr.drew->w'.cell? ⟨g,2,none⟩=some (.slice B m cb) from fun w' h'=>by rw [h'];exact HC.out.blk.cell 2)
   have HS3:=Lib.hid (show ∀ w',w'=wr.drew->w'.cell? ⟨g,3,none⟩=some (.int .i64 (q:Int)) from fun w' h'=>by rw [h'];exact HC.out.blk.cell 3)
   have d1:((q:Nat):Int).toNat=q:=by simp
   have hcut:=Lib.hid ((HC.out.reads.cut (k:=q) hqm Hle.out).drew)
   rw [Nat.mul_one,u8s_drop] at hcut
   clear hgs
   go_wp2
   have hS:wr.drew=wr.drew:=rfl
   have hcm:cb<=9223372036854775807:=by have:=Hmx.out;simp only [maxLen] at this;omega
   have hmc:=Hle.out
   obtain ⟨A2,hA2⟩:∃ A2,(if cb=q then B else Option.map (fun x=>x.add q) B)=A2:=⟨_,rfl⟩
   rw [hA2] at hcut
   refine hR (fun w'=>w'=wr.drew) [ff 0,ff 1,ff 2,ff 3,ff 4,ff 5,ff 6,ff 7,ff 8,tt 9,ff 10,ff 11,ff 12,ff 13,ff 14,ff 15,ff 16] ?_
   iterate 3
    refine hP hS ?_
   refine hP1 hS HS2.out ?_
   iterate 3
    refine hP hS ?_
   refine hP1 hS HS3.out ?_
   refine hP hS ?_
   clear hA2
   refine hE fun K hK=>?_
   go_simp
   with_reducible refine (getInt_any A2 (m-q) (cb-q) (xs.drop q) _ hcut.out (by omega) (by have:=Hmx.out;omega)).mono ?_
   rintro e w3 ⟨rfl,rfl⟩
   generalize hget:get (xs.drop q)=r at Hgs ⊢
   obtain ⟨rn,rk,re⟩:=r
   have Hget:=Lib.hid hget
   clear hget
   simp only [gottenInt] at Hgs ⊢
   refine held_go hK (by exact rfl) fun hS=>?_
   clear hK K
   try simp only [zp]
   iterate 7
    refine hP hS ?_
   refine held_end ?_
   clear hS
   have Hdrop:=Lib.hid (show (xs.drop a).drop sj=xs.drop q by rw [List.drop_drop,Hq.out])
   by_cases he:re=0
   ·subst he
    obtain ⟨q2,hq2⟩:∃ q2,q2=q+rk:=⟨_,rfl⟩
    have hgs1:=Hgs.out.1
    have hq2m:q2<=m:=by omega
    have hsum:(q:Int)+(rk:Int)=(q2:Int):=by omega
    have Hq2:=Lib.hid hq2
    have c3:=HC.out.blk.cell 3
    have f3:=HC.out.blk.frozen 3
    have hlow:=HC.out.low (Nat.le_refl _)
    have Hrow:=Lib.hid hlow.1
    have Hgp:=Lib.hid hlow.2
    have HC2:=Lib.hid (HC.out.seek (q2:Int))
    have hmm:m<=9223372036854775807:=by omega
    have Hq2m:=Lib.hid (show a+(sj+rk)<=m by rw [<-Nat.add_assoc,<-Hq.out];omega)
    have hsj:=Lib.hid (show (q2:Nat)=a+(sj+rk) by rw [<-Nat.add_assoc,<-Hq.out,hq2])
    clear hq2 hgs1 hlow
    go_wp2
    obtain ⟨W2,hW2⟩:∃ W2,W2=((wr.setCell ⟨g,3,none⟩ (.int .i64 (q2:Int))).alloc (.cells #[.bool false,.int .i64 (zag rn),.string ⟨#[]⟩] 23)).drew:=⟨_,rfl⟩
    have HP:=Lib.hid (show Apart w.heap.size g w W2 by rw [hW2];exact ((HP.out.set 3 _).alloc (by have:=HB.out.size;simpa using this) _).drew)
    have HB:=Lib.hid (show Below base w W2 by rw [hW2];exact ((HB.out.setCell (p:=⟨g,3,none⟩) HC2.out.far _).alloc (by have:=HC2.out.base_le;simpa using this) _).drew)
    have HC:=Lib.hid (show ColG W2 base w.heap.size g k (q2:Int) A1 j c1 lj B m cb xs by rw [hW2];exact (HC2.out.below ((Below.refl _ _).alloc (Nat.le_refl _) _)).onDrew)
    have HX:=Lib.hid (show Blk W2 wr.heap.size 23 #[.bool false,.int .i64 (zag rn),.string ⟨#[]⟩] by rw [hW2];exact (Blk.new' _ _ _ _ (by simp)).drew)
    rw [<-hW2]
    clear hW2 HC2 c3 f3
    have HT2:=Lib.hid (HT.out.keep HB.out)
    have HK:=Lib.hid (show ∀ w',Below W2.heap.size W2 w'->w'.cell? ⟨g,0,none⟩=some (.int .i64 k) from fun w' h=>(HC.out.blk.on h).cell 0)
    have HX0:=Lib.hid (show ∀ w',Below W2.heap.size W2 w'->w'.cell? ⟨wr.heap.size,0,none⟩=some (.bool false) from fun w' h=>(HX.out.on h).cell 0)
    have HX1:=Lib.hid (show ∀ w',Below W2.heap.size W2 w'->w'.cell? ⟨wr.heap.size,1,none⟩=some (.int .i64 (zag rn)) from fun w' h=>(HX.out.on h).cell 1)
    have HX2:=Lib.hid (show ∀ w',Below W2.heap.size W2 w'->w'.cell? ⟨wr.heap.size,2,none⟩=some (.string ⟨#[]⟩) from fun w' h=>(HX.out.on h).cell 2)
    have hS:Below W2.heap.size W2 W2.drew:=(Below.refl _ _).drew
    refine hR (fun w'=>Below W2.heap.size W2 w') [ff 0,ff 1,ff 2,ff 3,ff 4,ff 5,tt 6,ff 7] ?_
    iterate 3
     refine hP hS ?_
    refine hP1 hS HK.out ?_
    refine hP hS ?_
    refine hP3 hS HX0.out HX1.out HX2.out ?_
    refine hE fun K hK=>?_
    go_simp
    with_reducible refine (check_any3 k false false (zag rn) ⟨#[]⟩ _ (HT2.out.tabs.on hS)).mono ?_
    rintro e w5 ⟨rfl,hb5⟩
    have HP:=Lib.hid (HP.out.drew.below hb5 HB.out.size)
    have HB:=Lib.hid (HB.out.drew.trans (hb5.mono HC.out.onDrew.base_le))
    have HC:=Lib.hid (HC.out.onDrew.below hb5)
    have HX:=Lib.hid (HX.out.drew.on hb5)
    refine held_go hK (by exact hS.trans hb5) fun hS=>?_
    clear hK K
    try simp only [zp]
    clear hb5 HX0 HX1 HX2 HK HT2
    refine hP hS ?_
    refine held_end ?_
    have hE:=checkE_is hmk false (zag rn) ⟨#[]⟩
    generalize checkE k false (false,zag rn,⟨#[]⟩)=E0 at hE ⊢
    cases hI:isC k (false,zag rn,⟨#[]⟩) with
    | false=>
     rw [hI] at hE
     simp only [Bool.false_eq_true,if_false] at hE
     subst hE
     have Hst:=Lib.hid (iterC_err (iterC_next Hit.out (show stepI k (xs.drop a) (lj,sj)=.error 90 by unfold stepI;simp only;rw [Hdrop.out,Hget.out];simp only [if_true];rw [if_neg (by unfold intC;rw [hI];simp)])) (show j+1<=N by omega))
     clear hI
     go_wp2
     go_ret
     rw [Hst.out]
     exact ⟨HB.out,HP.out,rfl,by decide⟩
    | true=>
     rw [hI] at hE
     simp only [if_true] at hE
     subst hE
     have Hit2:=Lib.hid (iterC_next Hit.out (show stepI k (xs.drop a) (lj,sj)=.ok (lj++[intC (zag rn)],sj+rk) by unfold stepI;simp only;rw [Hdrop.out,Hget.out];simp only [if_true];rw [if_pos (by unfold intC;rw [hI])]))
     have Hbs:=Lib.hid HB.out.size
     have Hnx:=Lib.hid (show j<=2097152 by omega)
     clear hI
     go_wp2
     have hS:Below base w5 w5.drew/\Blk w5.drew wr.heap.size 23 #[.bool false,.int .i64 (zag rn),.string ⟨#[]⟩]:=⟨(Below.refl _ _).drew,HX.out⟩
     have HV0:=Lib.hid (show ∀ w',Below base w5 w'/\Blk w' wr.heap.size 23 #[.bool false,.int .i64 (zag rn),.string ⟨#[]⟩]->w'.cell? ⟨wr.heap.size,0,none⟩=some (.bool false) from fun w' h=>h.2.cell 0)
     have HV1:=Lib.hid (show ∀ w',Below base w5 w'/\Blk w' wr.heap.size 23 #[.bool false,.int .i64 (zag rn),.string ⟨#[]⟩]->w'.cell? ⟨wr.heap.size,1,none⟩=some (.int .i64 (zag rn)) from fun w' h=>h.2.cell 1)
     have HV2:=Lib.hid (show ∀ w',Below base w5 w'/\Blk w' wr.heap.size 23 #[.bool false,.int .i64 (zag rn),.string ⟨#[]⟩]->w'.cell? ⟨wr.heap.size,2,none⟩=some (.string ⟨#[]⟩) from fun w' h=>h.2.cell 2)
     have HCW:=HC
     have HC:=Lib.hid (HC.out.onDrew)
     refine nR (fun w'=>Below base w5 w'/\Blk w' wr.heap.size 23 #[.bool false,.int .i64 (zag rn),.string ⟨#[]⟩]) (.pure 0 (.pure 1 (.pure 2 (.pure 3 (.pure 5 (.fork 4 6 (.eff 6 (.eff 7 (.pure 8 (.pure 9 (.eff 10 .done))))) (.eff 4 (.eff 7 (.pure 8 (.pure 9 (.eff 10 .done))))))))))) ?_
     iterate 4
      refine nP hS ?_
     refine nP3 hS HV0.out HV1.out HV2.out ?_
     refine plan_fork ?_ ?_
     ·have c1:=HC.out.blk.cell 1
      refine nE fun K hK=>?_
      go_simp
      refine held_go hK hS fun hS=>?_
      clear hK K
      try simp only [zp]
      clear c1
      refine nE fun K hK=>?_
      go_simp
      have HR:=Lib.hid ((reads_cell w5 false (zag rn) ⟨#[]⟩).drew)
      have HC:=Lib.hid ((HCW.out.below ((Below.refl _ w5).alloc (Nat.le_refl _) (.cells #[.bool false,.int .i64 (zag rn),.string ⟨#[]⟩] 23))).onDrew)
      refine held_go hK (by exact ⟨hS.1.alloc (Nat.le_trans (Nat.le_trans HC.out.low0 Hbs.out) hS.1.size) _,hS.2.alloc _⟩) fun hS=>?_
      clear hK K
      try simp only [zp]
      refine nE fun K hK=>?_
      refine wp_append_any _ (.tmp 51) (.tmp 53) 24 rfl w.heap.size 23 j0 (.agg #[.bool false,.int .i64 0,.string ⟨#[]⟩]) 3 32 Tryz.underlying24 hj0 hk0 hj1 hk2 rfl (by decide) A1 j c1 _ rfl HC.out.cells (some ⟨_,0,none⟩) 1 1 (cls [(false,(zag rn),⟨#[]⟩)]) rfl HR.out (cls_one _) (by have:=Hnx.out;simp only [maxLen];omega) (by have:=Hnx.out;omega) (Nat.le_trans Hbs.out hS.1.size) ?_
      intro A9 c9 w9 r1 r2 r3 r4 r5
      rw [<-cls_append] at r1
      have HA:=Lib.hid (HC.out.app r3 r2 r1)
      have R2:=Lib.hid r2
      have r2:=r2.mono HC.out.low0
      have HX9:=Lib.hid (blk_row hS.2 r3 Hrow.out)
      have hT:=Lib.hid (hS.1.trans r2)
      have G9:=Lib.hid r3
      clear r1 r2 r3 r4 r5
      refine held_go hK (by exact ⟨hT.out,HX9.out⟩) fun hS=>?_
      clear hK K
      try simp only [zp]
      refine nP hS ?_
      refine nP hS ?_
      have c2:=HA.out.2.cell 1
      have f2:=HA.out.2.frozen 1
      refine nE fun K hK=>?_
      go_simp
      clear c2 f2
      refine held_go hK (by exact ⟨hT.out.setCell (p:=⟨g,1,none⟩) HC.out.far _,HX9.out.far (p:=⟨g,1,none⟩) Hgp.out.symm _⟩) fun hS=>?_
      clear hK K
      try simp only [zp]
      refine plan_end ?_
      have hT:=Lib.hid (hT.out.setCell (p:=⟨g,1,none⟩) HC.out.far (.slice A9 (j+1) c9))
      clear HX9 HR
      clear HV0 HV1 HV2
      have HC:=Lib.hid (show ColG _ base w.heap.size g k (q2:Nat) A9 (j+1) c9 (lj++[intC (zag rn)]) B m cb xs from HA.out.1)
      have HP:=Lib.hid (((HP.out.alloc HB.out.size (.cells #[.bool false,.int .i64 (zag rn),.string ⟨#[]⟩] 23)).drew.below R2.out (Nat.le_refl _)).set 1 (.slice A9 (j+1) c9))
      have HB:=Lib.hid (HB.out.trans hT.out)
      go_wp2
      go_roundw
      case rel=>exact ⟨j+1,lj++[intC (zag rn)],sj+rk,A9,c9,by omega,by go_num,Hit2,by simp [Hlj.out],Hq2m,Lib.hid (by have:=HC.out;rw [hsj.out] at this;exact this),HP,HB⟩
      case measure=>simp [intOf];omega
     refine nE fun K hK=>?_
     go_simp
     have HR:=Lib.hid ((reads_cell w5 false (zag rn) ⟨#[]⟩).drew)
     have HC:=Lib.hid ((HCW.out.below ((Below.refl _ w5).alloc (Nat.le_refl _) (.cells #[.bool false,.int .i64 (zag rn),.string ⟨#[]⟩] 23))).onDrew)
     refine held_go hK (by exact ⟨hS.1.alloc (Nat.le_trans (Nat.le_trans HC.out.low0 Hbs.out) hS.1.size) _,hS.2.alloc _⟩) fun hS=>?_
     clear hK K
     try simp only [zp]
     have c1:=HC.out.blk.cell 1
     refine nE fun K hK=>?_
     go_simp
     refine held_go hK hS fun hS=>?_
     clear hK K
     try simp only [zp]
     clear c1
     refine nE fun K hK=>?_
     refine wp_append_any _ (.tmp 51) (.tmp 53) 24 rfl w.heap.size 23 j0 (.agg #[.bool false,.int .i64 0,.string ⟨#[]⟩]) 3 32 Tryz.underlying24 hj0 hk0 hj1 hk2 rfl (by decide) A1 j c1 _ rfl HC.out.cells (some ⟨_,0,none⟩) 1 1 (cls [(false,(zag rn),⟨#[]⟩)]) rfl HR.out (cls_one _) (by have:=Hnx.out;simp only [maxLen];omega) (by have:=Hnx.out;omega) (Nat.le_trans Hbs.out hS.1.size) ?_
     intro A9 c9 w9 r1 r2 r3 r4 r5
     rw [<-cls_append] at r1
     have HA:=Lib.hid (HC.out.app r3 r2 r1)
     have R2:=Lib.hid r2
     have r2:=r2.mono HC.out.low0
     have HX9:=Lib.hid (blk_row hS.2 r3 Hrow.out)
     have hT:=Lib.hid (hS.1.trans r2)
     have G9:=Lib.hid r3
     clear r1 r2 r3 r4 r5
     refine held_go hK (by exact ⟨hT.out,HX9.out⟩) fun hS=>?_
     clear hK K
     try simp only [zp]
     refine nP hS ?_
     refine nP hS ?_
     have c2:=HA.out.2.cell 1
     have f2:=HA.out.2.frozen 1
     refine nE fun K hK=>?_
     go_simp
     clear c2 f2
     refine held_go hK (by exact ⟨hT.out.setCell (p:=⟨g,1,none⟩) HC.out.far _,HX9.out.far (p:=⟨g,1,none⟩) Hgp.out.symm _⟩) fun hS=>?_
     clear hK K
     try simp only [zp]
     refine plan_end ?_
     have hT:=Lib.hid (hT.out.setCell (p:=⟨g,1,none⟩) HC.out.far (.slice A9 (j+1) c9))
     clear HX9 HR
     clear HV0 HV1 HV2
     have HC:=Lib.hid (show ColG _ base w.heap.size g k (q2:Nat) A9 (j+1) c9 (lj++[intC (zag rn)]) B m cb xs from HA.out.1)
     have HP:=Lib.hid (((HP.out.alloc HB.out.size (.cells #[.bool false,.int .i64 (zag rn),.string ⟨#[]⟩] 23)).drew.below R2.out (Nat.le_refl _)).set 1 (.slice A9 (j+1) c9))
     have HB:=Lib.hid (HB.out.trans hT.out)
     go_wp2
     go_roundw
     case rel=>exact ⟨j+1,lj++[intC (zag rn)],sj+rk,A9,c9,by omega,by go_num,Hit2,by simp [Hlj.out],Hq2m,Lib.hid (by have:=HC.out;rw [hsj.out] at this;exact this),HP,HB⟩
     case measure=>simp [intOf];omega
   have hne:((re:Int)==0)=false:=by simp;omega
   have hne2:((re:Int) != 0)=true:=by simp;omega
   have Hst:=Lib.hid (iterC_err (iterC_next Hit.out (show stepI k (xs.drop a) (lj,sj)=.error re by unfold stepI;simp only;rw [Hdrop.out,Hget.out];simp only;rw [if_neg he])) (show j+1<=N by omega))
   go_wp2
   go_ret
   rw [Hst.out]
   exact ⟨HB.out.drew,HP.out.drew,rfl,he⟩
  obtain rfl:j=N:=by omega
  go_wp2
  go_ret
  rw [Hit.out]
  obtain ⟨q1,q2⟩:=own_caps HC.out.cells
  rw [<-Hlj.out] at q1 HC
  exact ⟨HB.out,HP.out,rfl,Hsj.out,by rw [Hlj.out];exact hN,A1,c1,q1,q2,HC.out.floor⟩
end Go.Proofs.YtjpjalmilfgckaaGreatDoor
namespace Go.Proofs.YtjpjalmilfgckaaGreatDoor
open Go.RowKit
theorem not_txs (bl:List ByteArray) {k a:Int} {A B:Option Addr} {n c m d:Nat}:∀ u∈txs bl,u ∉ (#[.int .i64 k,.slice A n c,.slice B m d,.int .i64 a]:Array Value):=by
 intro u hu
 obtain ⟨c,-,rfl⟩:=List.mem_map.1 hu
 simp
set_option maxHeartbeats 2000000 in
theorem getTexts_any (base g:Nat) (a:Nat) (B:Option Addr) (m cb:Nat) (xs:List UInt8) (n:Int) (w:World) (h:ColG w base base g 4 a none 0 0 [] B m cb xs) (ha:a<=m) (hn1 : -9223372036854775808<=n) (hn2:n<=9223372036854775807) (hT:TabB base w) :
  Calls Tryz.prog 197 #[.pointer (some ⟨g,0,none⟩),.int .i64 n] w (GotF (getB 4 (xs.drop a) n) base g 4 a B m cb xs w):=by
 obtain ⟨j0,hj0,hk0,hj1,hk2⟩:=info_parts cell_info
 have HC:=Lib.hid h
 have HT:=Lib.hid hT
 have Hxl:=Lib.hid (show xs.length=m from reads_len h.bytes)
 have Hle:=Lib.hid h.le
 have Hmx:=Lib.hid h.max
 have HS2:=Lib.hid (show ∀ w',Below w.heap.size w w'->w'.cell? ⟨g,2,none⟩=some (.slice B m cb) from fun w' h'=>(HC.out.blk.on h').cell 2)
 have HS3:=Lib.hid (show ∀ w',Below w.heap.size w w'->w'.cell? ⟨g,3,none⟩=some (.int .i64 (a:Int)) from fun w' h'=>(HC.out.blk.on h').cell 3)
 have d1:((a:Nat):Int).toNat=a:=by simp
 have hcut:=Lib.hid ((HC.out.reads.cut (k:=a) ha HC.out.le).drew)
 rw [Nat.mul_one,u8s_drop] at hcut
 have hgb:getB 4 (xs.drop a) n=(match getDI (xs.drop a) n 1024 with
  | .ok (l,s)=>if l.all (fun s=>Lib.validD s.data.toList)=true then .ok (l.map txtC,s) else .error 90
  | .error e=>.error e):=by simp only [getB,show ¬(4:Int)=1 by decide,if_false,if_true];rfl
 have Hgb:=Lib.hid hgb
 clear h hT hgb
 go_enter Tryz.func197,Tryz.ntmps197
 go_wp2
 have hS:Below w.heap.size w w.drew:=(Below.refl _ _).drew
 have hcm:cb<=9223372036854775807:=by have:=Hmx.out;simp only [maxLen] at this;omega
 have hmc:=Hle.out
 obtain ⟨A2,hA2⟩:∃ A2,(if cb=a then B else Option.map (fun x=>x.add a) B)=A2:=⟨_,rfl⟩
 rw [hA2] at hcut
 refine hR (fun w'=>Below w.heap.size w w') [ff 0,ff 1,ff 2,ff 3,ff 4,ff 5,ff 6,ff 7,ff 8,ff 9,tt 10,ff 11,ff 12,ff 13,ff 14,ff 15,ff 16,ff 17] ?_
 iterate 3
  refine hP hS ?_
 refine hP1 hS HS2.out ?_
 iterate 3
  refine hP hS ?_
 refine hP1 hS HS3.out ?_
 refine hP hS ?_
 refine hP hS ?_
 clear hA2
 refine hE fun K hK=>?_
 go_simp
 with_reducible refine (dget_any A2 (m-a) (cb-a) (xs.drop a) n 1024 _ hcut.out (by omega) (by have:=Hmx.out;omega) hn1 hn2 (by decide)).mono ?_
 rintro e w3 ⟨q4,hm3⟩
 have HC3:=Lib.hid (HC.out.onDrew.below q4)
 have HB3:=Lib.hid (((Below.refl base w).drew).trans (q4.mono HC.out.onDrew.base_le))
 have HP3:=Lib.hid ((Apart.refl w.heap.size g w).drew.below q4 (Nat.le_refl _))
 rcases hd:getDI (xs.drop a) n 1024 with er | ⟨bl,sz⟩
 ·have he0:er≠0:=fun h=>getDI_err0 _ _ _ (by rw [hd,h])
  rw [hd] at hm3
  simp only at hm3
  subst hm3
  have HE:=Lib.hid (show getB 4 (xs.drop a) n=.error er by rw [Hgb.out,hd])
  clear hd
  refine held_go hK (by exact hS.trans q4) fun hS=>?_
  clear hK K
  try simp only [zp]
  clear q4
  iterate 7
   refine hP hS ?_
  refine held_end ?_
  have c3':=HC3.out.blk.cell 3
  have f3':=HC3.out.blk.frozen 3
  have ham:(a:Int)<=9223372036854775807:=by omega
  go_wp2
  go_loopw [35] (fun i wr=>i=.int .i64 0/\wr=w3.setCell ⟨g,3,none⟩ (.int .i64 (a:Int))) (fun _ _=>0)
  case atStart=>exact ⟨rfl,by simp⟩
  case round=>
   obtain ⟨rfl,rfl⟩:=hrel
   go_wp2
   go_ret
   rw [HE.out]
   exact ⟨HB3.out.setCell (p:=⟨g,3,none⟩) HC.out.far _,HP3.out.set 3 _,rfl,he0⟩
 have ho:=getDI_only _ _ _ _ _ hd
 rw [List.length_drop,Hxl.out] at ho
 have hzs:=getDI_sizes _ _ _ _ _ hd
 rw [hd] at hm3
 obtain ⟨AL,cL,rfl,q1,q2,q3⟩:=hm3
 have Ho:=Lib.hid ho
 have Hzs:=Lib.hid hzs
 have HE:=Lib.hid (show getB 4 (xs.drop a) n=(if bl.all (fun s=>Lib.validD s.data.toList)=true then .ok (bl.map txtC,sz) else .error 90) by rw [Hgb.out,hd])
 obtain ⟨bc,hbc⟩:∃ bc,bc=w3.heap.size:=⟨_,rfl⟩
 have HL:=Lib.hid (show Reads w3 bc 1 AL bl.length (txs bl) by rw [hbc];exact Reads.of_own q3)
 have HB1:=Lib.hid (show bc<=w3.heap.size by omega)
 have Hbw:=Lib.hid (show w.heap.size<=bc by rw [hbc];exact HB3.out.size)
 have HCb:=Lib.hid (HC3.out.fresh (b2:=bc) (by rw [hbc];exact HC3.out.base_le))
 clear hd ho hzs q1 q2 q3 hbc
 refine held_go hK (by exact hS.trans q4) fun hS=>?_
 clear hK K
 try simp only [zp]
 clear q4
 iterate 7
  refine hP hS ?_
 refine held_end ?_
 have c3':=HC3.out.blk.cell 3
 have f3':=HC3.out.blk.frozen 3
 obtain ⟨q,hq⟩:∃ q,q=a+sz:=⟨_,rfl⟩
 have hqm:q<=m:=by have:=Ho.out.2.2.1;omega
 have hsum:(a:Int)+(sz:Int)=(q:Int):=by omega
 have hmm:m<=9223372036854775807:=by omega
 have Hq:=Lib.hid hq
 have HCs:=Lib.hid (HCb.out.seek (q:Int))
 have HLs:=Lib.hid (HL.out.notin (i:=3) (v:=.int .i64 (q:Int)) HC3.out.blk (not_txs _))
 have HBs:=Lib.hid (HB3.out.setCell (p:=⟨g,3,none⟩) HC.out.far (.int .i64 (q:Int)))
 have HPs:=Lib.hid (HP3.out.set 3 (.int .i64 (q:Int)))
 have HB1s:=Lib.hid (show bc<=(w3.setCell ⟨g,3,none⟩ (.int .i64 (q:Int))).heap.size by simpa using HB1.out)
 have hbl:=Ho.out.2.1
 clear hq
 go_wp2
 go_loopw [35] (fun i wr=>∃ (j:Nat) (A1:Option Addr) (c1:Nat),j<=bl.length/\i=.int .i64 (j:Int)/\Hid ((bl.take j).all (fun s=>Lib.validD s.data.toList)=true)/\Hid (ColG wr base bc g 4 (q:Nat) A1 j c1 ((bl.take j).map txtC) B m cb xs)/\Hid (Reads wr bc 1 AL bl.length (txs bl))/\Hid (bc<=wr.heap.size)/\Hid (Apart w.heap.size g w wr)/\Hid (Below base w wr)) (fun i _=>bl.length-(intOf i).toNat)
 case atStart=>exact ⟨0,none,0,Nat.zero_le _,rfl,Lib.hid rfl,by simpa using HCs,HLs,HB1s,HPs,HBs⟩
 case round=>
  obtain ⟨j,A1,c1,hj,rfl,Hall,HC,HL,HB1,HP,HB⟩:=hrel
  by_cases hlt:j<bl.length
  ·obtain ⟨ad,u,rfl,hbk,hu,hcell⟩:=HL.out.at_ hlt
   obtain ⟨s,hx,rfl⟩:=txs_get _ _ _ hu
   have Hx:=Lib.hid hx
   have Hs:=Lib.hid (Hzs.out s (List.mem_of_getElem? hx))
   clear hu hx hbk
   go_wp2_with fail
   with_reducible refine (pvalid_any s _ (by have:=Hs.out;omega) (HT.out.keep HB.out).tabs).mono ?_
   rintro e w5 ⟨rfl,hb5⟩
   have HC:=Lib.hid (HC.out.below hb5)
   have HL:=Lib.hid (HL.out.below (hb5.mono HB1.out))
   have HP:=Lib.hid (HP.out.below hb5 HB.out.size)
   have HB:=Lib.hid (HB.out.trans (hb5.mono (Nat.le_trans HCb.out.low0 HB1.out)))
   have HB1:=Lib.hid (Nat.le_trans HB1.out hb5.size)
   clear hb5
   cases hv:Lib.validD s.data.toList with
   | false=>
    have HE2:=Lib.hid (show bl.all (fun s=>Lib.validD s.data.toList)=false by rw [List.all_eq_false];exact ⟨s,List.mem_of_getElem? Hx.out,by simp [hv]⟩)
    clear hv
    go_wp2
    go_ret
    rw [HE.out,HE2.out]
    exact ⟨HB.out,HP.out,rfl,by decide⟩
   | true=>
    have Hall2:=Lib.hid (show (bl.take (j+1)).all (fun s=>Lib.validD s.data.toList)=true by rw [List.take_add_one,Hx.out];simp only [Option.toList_some,List.all_append,Hall.out,Bool.true_and,List.all_cons,List.all_nil,hv,Bool.and_true])
    have c2:=HC.out.blk.cell 1
    have hs1:j+1<=maxLen:=by simp only [maxLen];omega
    have hs2:(j+1)*32<=70368744177664:=by omega
    have HCa:=Lib.hid (HC.out.below ((Below.refl _ w5).alloc (Nat.le_refl _) (.cells #[.bool false,.int .i64 0,.string s] 23)))
    clear hv hcell
    go_wp2_with (at_builtin
                 refine wpList_append_any _ rfl (.tmp 46) (.tmp 49) 24 rfl bc 23 j0 (.agg #[.bool false,.int .i64 0,.string ⟨#[]⟩]) 3 32 Tryz.underlying24 hj0 hk0 hj1 hk2 rfl (by decide) A1 j c1 _ rfl HCa.out.cells (some ⟨_,0,none⟩) 1 1 (cls [(false,0,s)]) rfl (reads_cell _ _ _ _) (cls_one _) hs1 hs2 (by have:=HB1.out;simp;omega) ?_
                 intro A9 c9 w9 r1 r2 r3 r4 r5
                 rw [<-cls_append] at r1
                 have HA:=Lib.hid (HCa.out.app r3 r2 r1)
                 have R2:=Lib.hid r2
                 have c4:=HA.out.2.cell 1
                 have f4:=HA.out.2.frozen 1
                 clear r1 r2 r3 r4 r5)
    have HC:=Lib.hid (show ColG _ base bc g 4 (q:Nat) A9 (j+1) c9 ((bl.take (j+1)).map txtC) B m cb xs by
     have:=HA.out.1
     rw [List.take_add_one,Hx.out,List.map_append]
     exact this)
    have HL:=Lib.hid ((((HL.out.alloc HB1.out _)).below R2.out).notin (i:=1) (v:=.slice A9 (j+1) c9) HA.out.2 (not_txs _))
    have HP:=Lib.hid (((HP.out.alloc HB.out.size (.cells #[.bool false,.int .i64 0,.string s] 23)).below R2.out Hbw.out).set 1 (.slice A9 (j+1) c9))
    have HB:=Lib.hid (((HB.out.alloc (Nat.le_trans HCa.out.low0 HB1.out) (.cells #[.bool false,.int .i64 0,.string s] 23)).trans (R2.out.mono HCa.out.low0)).setCell (p:=⟨g,1,none⟩) HCa.out.far (.slice A9 (j+1) c9))
    have HB1:=Lib.hid (show bc<=(w9.setCell ⟨g,1,none⟩ (.slice A9 (j+1) c9)).heap.size by have h1:=R2.out.size;have h2:=HB1.out;simp at h1 ⊢;omega)
    go_roundw
    case rel=>exact ⟨j+1,A9,c9,by omega,by go_num,Hall2,HC,HL,HB1,HP,HB⟩
    case measure=>simp [intOf];omega
  obtain rfl:j=bl.length:=by omega
  go_wp2
  go_ret
  rw [HE.out]
  have hl:=HC.out
  have ha:=Hall.out
  rw [List.take_of_length_le (Nat.le_refl _)] at hl ha
  obtain ⟨q1,q2⟩:=own_caps hl.cells
  rw [if_pos ha]
  refine ⟨HB.out,HP.out,rfl,by rw [<-Hq.out];exact hqm,by simpa using hbl,A1,c1,by simpa using q1,q2,?_⟩
  simp only [List.length_map]
  rw [<-Hq.out]
  exact hl.floor
end Go.Proofs.YtjpjalmilfgckaaGreatDoor
namespace Go.Proofs.YtjpjalmilfgckaaGreatDoor
open Go.RowKit
set_option maxHeartbeats 2000000 in
theorem getRaws_any (base g:Nat) (k:Int) (a:Nat) (B:Option Addr) (m cb:Nat) (xs:List UInt8) (N:Nat) (w:World) (h:ColG w base base g k a none 0 0 [] B m cb xs) (ha:a<=m) (hN:N<=1048576)  :
  Calls Tryz.prog 198 #[.pointer (some ⟨g,0,none⟩),.int .i64 (N:Int)] w (GotF (iterC (stepR (xs.drop a)) N) base g k a B m cb xs w):=by
 obtain ⟨j0,hj0,hk0,hj1,hk2⟩:=info_parts cell_info
 have Hmx:=Lib.hid h.max
 have Hle:=Lib.hid h.le
 have Hxl:=Lib.hid (show xs.length=m from reads_len h.bytes)
 have H:=Lib.hid h
 clear h
 go_enter Tryz.func198,Tryz.ntmps198
 go_wp2
 go_loopw [10] (fun i wr=>∃ (j:Nat) (lj:List Cl) (sj:Nat) (A1:Option Addr) (c1:Nat),j<=N/\i=.int .i64 (j:Int)/\Hid (iterC (stepR (xs.drop a)) j=.ok (lj,sj))/\lj.length=j/\Hid (a+sj<=m)/\Hid (ColG wr base w.heap.size g k (a+sj:Nat) A1 j c1 lj B m cb xs)/\Hid (Apart w.heap.size g w wr)/\Hid (Below base w wr)) (fun i _=>N-(intOf i).toNat)
 case atStart=>exact ⟨0,[],0,none,0,Nat.zero_le _,rfl,Lib.hid rfl,rfl,Lib.hid ha,by simpa using Lib.hid (H.out.fresh H.out.base_le),Lib.hid (Apart.refl _ _ _),Lib.hid (Below.refl _ _)⟩
 case round=>
  obtain ⟨j,lj,sj,A1,c1,hj,rfl,Hit,hlj,Hsj,HC,HP,HB⟩:=hrel
  have Hlj:=Lib.hid hlj
  clear hlj
  by_cases hlt:j<N
  ·obtain ⟨q,hq⟩:∃ q,q=a+sj:=⟨_,rfl⟩
   rw [<-hq] at Hsj HC
   have Hq:=Lib.hid hq
   clear hq
   have hqm:=Hsj.out
   have hgs:=get_size (xs.drop q)
   rw [List.length_drop,Hxl.out] at hgs
   have Hgs:=Lib.hid hgs
   have HS2:=Lib.hid (show ∀ w',w'=wr.drew->w'.cell? ⟨g,2,none⟩=some (.slice B m cb) from fun w' h'=>by rw [h'];exact HC.out.blk.cell 2)
   have HS3:=Lib.hid (show ∀ w',w'=wr.drew->w'.cell? ⟨g,3,none⟩=some (.int .i64 (q:Int)) from fun w' h'=>by rw [h'];exact HC.out.blk.cell 3)
   have d1:((q:Nat):Int).toNat=q:=by simp
   have hcut:=Lib.hid ((HC.out.reads.cut (k:=q) hqm Hle.out).drew)
   rw [Nat.mul_one,u8s_drop] at hcut
   clear hgs
   go_wp2
   have hS:wr.drew=wr.drew:=rfl
   have hcm:cb<=9223372036854775807:=by have:=Hmx.out;simp only [maxLen] at this;omega
   have hmc:=Hle.out
   obtain ⟨A2,hA2⟩:∃ A2,(if cb=q then B else Option.map (fun x=>x.add q) B)=A2:=⟨_,rfl⟩
   rw [hA2] at hcut
   refine hR (fun w'=>w'=wr.drew) [ff 0,ff 1,ff 2,ff 3,ff 4,ff 5,ff 6,ff 7,ff 8,tt 9,ff 10,ff 11,ff 12,ff 13,ff 14,ff 15,ff 16] ?_
   iterate 3
    refine hP hS ?_
   refine hP1 hS HS2.out ?_
   iterate 3
    refine hP hS ?_
   refine hP1 hS HS3.out ?_
   refine hP hS ?_
   clear hA2
   refine hE fun K hK=>?_
   go_simp
   with_reducible refine (get_any A2 (m-q) (cb-q) (xs.drop q) _ hcut.out (by omega) (by have:=Hmx.out;omega)).mono ?_
   rintro e w3 ⟨rfl,rfl⟩
   generalize hget:get (xs.drop q)=r at Hgs ⊢
   obtain ⟨rn,rk,re⟩:=r
   have Hget:=Lib.hid hget
   clear hget
   simp only [gotten] at Hgs ⊢
   refine held_go hK (by exact rfl) fun hS=>?_
   clear hK K
   try simp only [zp]
   iterate 7
    refine hP hS ?_
   refine held_end ?_
   clear hS
   have Hdrop:=Lib.hid (show (xs.drop a).drop sj=xs.drop q by rw [List.drop_drop,Hq.out])
   by_cases he:re=0
   ·subst he
    obtain ⟨q2,hq2⟩:∃ q2,q2=q+rk:=⟨_,rfl⟩
    have hgs1:=Hgs.out.1
    have hq2m:q2<=m:=by omega
    have hsum:(q:Int)+(rk:Int)=(q2:Int):=by omega
    have Hq2:=Lib.hid hq2
    have c3:=HC.out.blk.cell 3
    have f3:=HC.out.blk.frozen 3
    have hlow:=HC.out.low (Nat.le_refl _)
    have Hrow:=Lib.hid hlow.1
    have Hgp:=Lib.hid hlow.2
    have HC2:=Lib.hid (HC.out.seek (q2:Int))
    have hmm:m<=9223372036854775807:=by omega
    have Hq2m:=Lib.hid (show a+(sj+rk)<=m by rw [<-Nat.add_assoc,<-Hq.out];omega)
    have hsj:=Lib.hid (show (q2:Nat)=a+(sj+rk) by rw [<-Nat.add_assoc,<-Hq.out,hq2])
    clear hq2 hgs1 hlow
    have Hq2:=Hq2m
    obtain ⟨W2,hW2⟩:∃ W2,W2=(wr.setCell ⟨g,3,none⟩ (.int .i64 (q2:Int))).drew:=⟨_,rfl⟩
    have HP:=Lib.hid (show Apart w.heap.size g w W2 by rw [hW2];exact (HP.out.set 3 _).drew)
    have HB:=Lib.hid (show Below base w W2 by rw [hW2];exact (HB.out.setCell (p:=⟨g,3,none⟩) HC2.out.far _).drew)
    have HC:=Lib.hid (show ColG W2 base w.heap.size g k (q2:Int) A1 j c1 lj B m cb xs by rw [hW2];exact HC2.out.onDrew)
    by_cases hbig:1024<rn
    ·have d5:decide ((1024:Int)<(rn:Int))=true:=by simp;omega
     have Hst:=Lib.hid (iterC_err (iterC_next Hit.out (show stepR (xs.drop a) (lj,sj)=.error 5 by unfold stepR;simp only;rw [Hdrop.out,Hget.out];simp only [if_true];rw [if_pos hbig])) (show j+1<=N by omega))
     clear HC2
     go_wp2
     go_ret
     rw [Hst.out,<-hW2]
     exact ⟨HB.out,HP.out,rfl,by decide⟩
    have d5:decide ((1024:Int)<(rn:Int))=false:=by simp;omega
    have Hwn:=Lib.hid (show IntKind.i64.wrap (rn:Int)=(rn:Int) by simp [IntKind.wrap,IntKind.signed,IntKind.bits] at *;omega)
    have Hws:=Lib.hid (show IntKind.i64.wrap ((m:Int)-(q2:Int))=(m:Int)-(q2:Int) by simp [IntKind.wrap,IntKind.signed,IntKind.bits] at *;omega)
    have Hbig:=Lib.hid hbig
    have K2:=Lib.hid (show ∀ w',w'=W2.drew->w'.cell? ⟨g,2,none⟩=some (.slice B m cb) from fun w' h'=>by rw [h'];exact HC.out.blk.cell 2)
    have K3:=Lib.hid (show ∀ w',w'=W2.drew->w'.cell? ⟨g,3,none⟩=some (.int .i64 (q2:Int)) from fun w' h'=>by rw [h'];exact HC.out.blk.cell 3)
    clear HC2 hbig
    go_wp2
    rw [<-hW2]
    clear hW2 c3 f3
    have hS:W2.drew=W2.drew:=rfl
    refine hR (fun w'=>w'=W2.drew) [ff 0,ff 1,ff 2,ff 3,ff 4,ff 5,ff 6,ff 7,ff 8,ff 9,ff 10,ff 11,ff 12,ff 13] ?_
    refine hP hS ?_
    refine hP hS ?_
    rw [Hwn.out]
    iterate 3
     refine hP hS ?_
    refine hP1 hS K2.out ?_
    iterate 4
     refine hP hS ?_
    refine hP1 hS K3.out ?_
    refine hP hS ?_
    rw [Hws.out]
    refine hP hS ?_
    refine hP hS ?_
    refine held_end ?_
    clear hS K2 K3
    by_cases hsh:m-q2<rn
    ·have d6:decide ((m:Int)-(q2:Int)<(rn:Int))=true:=by simp;omega
     have Hst:=Lib.hid (iterC_err (iterC_next Hit.out (show stepR (xs.drop a) (lj,sj)=.error 3 by
      unfold stepR;simp only;rw [Hdrop.out,Hget.out];simp only [if_true]
      rw [if_neg Hbig.out,if_pos (by rw [List.length_drop,Hxl.out];have:=hsj.out;omega)])) (show j+1<=N by omega))
     go_wp2
     go_ret
     rw [Hst.out]
     exact ⟨HB.out.drew,HP.out.drew,rfl,by decide⟩
    have d6:decide ((m:Int)-(q2:Int)<(rn:Int))=false:=by simp;omega
    obtain ⟨q3,hq3⟩:∃ q3,q3=q2+rn:=⟨_,rfl⟩
    have hq3m:q3<=m:=by omega
    have hsum3:(q2:Int)+(rn:Int)=(q3:Int):=by omega
    have Hq3m:=Lib.hid (show a+(sj+rk+rn)<=m by have:=hsj.out;omega)
    have Hsj3:=Lib.hid (show (q3:Nat)=a+(sj+rk+rn) by have:=hsj.out;omega)
    have Htx:=Lib.hid (show ((xs.drop a).drop (sj+rk)).take rn=(xs.drop q2).take (q3-q2) by rw [List.drop_drop,<-hsj.out,hq3,Nat.add_sub_cancel_left])
    have hbig2:rn<=1024:=by have:=Hbig.out;omega
    have Hit2:=Lib.hid (iterC_next Hit.out (show stepR (xs.drop a) (lj,sj)=.ok (lj++[txtC (txt ((xs.drop q2).take (q3-q2)))],sj+rk+rn) by
     unfold stepR;simp only;rw [Hdrop.out,Hget.out];simp only [if_true]
     rw [if_neg Hbig.out,if_neg (by rw [List.length_drop,Hxl.out];have:=hsj.out;omega),Htx.out]))
    have c3:=HC.out.blk.cell 3
    clear hsh hbig2
    have hbig3:(rn:Int)<=1024:=by have:=Hbig.out;omega
    obtain ⟨W,hW⟩:∃ W,W=W2.drew:=⟨_,rfl⟩
    have HCW:=Lib.hid (show ColG W base w.heap.size g k (q2:Int) A1 j c1 lj B m cb xs by rw [hW];exact HC.out.onDrew)
    have HP:=Lib.hid (show Apart w.heap.size g w W by rw [hW];exact HP.out.drew)
    have HB:=Lib.hid (show Below base w W by rw [hW];exact HB.out.drew)
    have HC:=Lib.hid HCW.out.onDrew
    have HBs:=Lib.hid HB.out.size
    have hcut2:=HCW.out.bytes.cut (k:=q2) hq2m Hle.out
    rw [Nat.mul_one,u8s_drop] at hcut2
    have hcut3:=hcut2.head (k:=q3-q2) (by omega)
    rw [Nat.mul_one,u8s_take] at hcut3
    obtain ⟨A4,hA4⟩:∃ A4,(if cb=q2 then B else Option.map (fun x=>x.add q2) B)=A4:=⟨_,rfl⟩
    rw [hA4] at hcut3
    have HCV:=Lib.hid (show ∀ w',Below base W w'/\w'.cell? ⟨g,2,none⟩=some (.slice B m cb)/\w'.cell? ⟨g,3,none⟩=some (.int .i64 (q2:Int))->(convert 35 9 (.slice A4 (q3-q2) (cb-q2))).run Tryz.prog w'=.ok (.string (txt ((xs.drop q2).take (q3-q2)))) w' from fun w' h=>by
     exact run_bytes_string w' 35 9 5 Tryz.underlying35 Tryz.underlying5 Tryz.underlying9 _ A4 (q3-q2) (cb-q2) _ (hcut3.below h.1))
    have HV2:=Lib.hid (show ∀ w',Below base W w'/\w'.cell? ⟨g,2,none⟩=some (.slice B m cb)/\w'.cell? ⟨g,3,none⟩=some (.int .i64 (q2:Int))->w'.cell? ⟨g,2,none⟩=some (.slice B m cb) from fun w' h=>h.2.1)
    have HV3:=Lib.hid (show ∀ w',Below base W w'/\w'.cell? ⟨g,2,none⟩=some (.slice B m cb)/\w'.cell? ⟨g,3,none⟩=some (.int .i64 (q2:Int))->w'.cell? ⟨g,3,none⟩=some (.int .i64 (q2:Int)) from fun w' h=>h.2.2)
    have hS:Below base W W.drew/\W.drew.cell? ⟨g,2,none⟩=some (.slice B m cb)/\W.drew.cell? ⟨g,3,none⟩=some (.int .i64 (q2:Int)):=⟨(Below.refl _ _).drew,HC.out.blk.cell 2,HC.out.blk.cell 3⟩
    have d2:((q2:Nat):Int).toNat=q2:=by simp
    have d3:((q3:Nat):Int).toNat=q3:=by simp
    have hq32:q2<=q3:=by omega
    have hq3c:q3<=cb:=by omega
    have HQ:=Lib.hid hq3
    clear hcut2 hcut3 hq3
    go_wp2
    rw [<-hW]
    clear hW c3
    refine nR (fun w'=>Below base W w'/\w'.cell? ⟨g,2,none⟩=some (.slice B m cb)/\w'.cell? ⟨g,3,none⟩=some (.int .i64 (q2:Int))) (.pure 0 (.pure 1 (.pure 2 (.pure 3 (.pure 5 (.pure 6 (.pure 7 (.pure 8 (.pure 9 (.pure 10 (.pure 11 (.pure 12 (.pure 13 (.pure 14 (.pure 15 (.pure 16 (.fork 4 17 (.eff 17 (.eff 18 (.pure 19 (.pure 20 (.eff 21 .done))))) (.eff 4 (.eff 18 (.pure 19 (.pure 20 (.eff 21 .done)))))))))))))))))))))) ?_
    iterate 7
     refine nP hS ?_
    refine nP1 hS HV2.out ?_
    iterate 3
     refine nP hS ?_
    refine nP1 hS HV3.out ?_
    refine nP hS ?_
    refine nP hS ?_
    refine nP1 hS HCV.out ?_
    generalize txt ((xs.drop q2).take (q3-q2))=s at Hit2 ⊢
    clear HCV HV2 HV3 hA4
    refine nP hS ?_
    refine plan_fork ?_ ?_
    ·have c1:=HC.out.blk.cell 1
     refine nE fun K hK=>?_
     go_simp
     refine held_go hK hS fun hS=>?_
     clear hK K
     try simp only [zp]
     clear c1
     refine nE fun K hK=>?_
     go_simp
     have HR:=Lib.hid ((reads_cell W false 0 s).drew)
     have HC:=Lib.hid ((HCW.out.below ((Below.refl _ W).alloc (Nat.le_refl _) (.cells #[.bool false,.int .i64 0,.string s] 23))).onDrew)
     refine held_go hK (by exact ⟨hS.1.alloc (Nat.le_trans HC.out.low0 (Nat.le_trans HBs.out hS.1.size)) _,HC.out.blk.cell 2,HC.out.blk.cell 3⟩) fun hS=>?_
     clear hK K
     try simp only [zp]
     refine nE fun K hK=>?_
     refine wp_append_any _ (.tmp 65) (.tmp 78) 24 rfl w.heap.size 23 j0 (.agg #[.bool false,.int .i64 0,.string ⟨#[]⟩]) 3 32 Tryz.underlying24 hj0 hk0 hj1 hk2 rfl (by decide) A1 j c1 _ rfl HC.out.cells (some ⟨_,0,none⟩) 1 1 (cls [(false,0,s)]) rfl HR.out (cls_one _) (by simp only [maxLen];omega) (by omega) (Nat.le_trans HBs.out hS.1.size) ?_
     intro A9 c9 w9 r1 r2 r3 r4 r5
     rw [<-cls_append] at r1
     have HA:=Lib.hid (HC.out.app r3 r2 r1)
     have R2:=Lib.hid r2
     have hT:=Lib.hid (hS.1.trans (r2.mono HC.out.low0))
     clear r1 r2 r3 r4 r5
     refine held_go hK (by exact ⟨hT.out,HA.out.2.cell 2,HA.out.2.cell 3⟩) fun hS=>?_
     clear hK K
     try simp only [zp]
     refine nP hS ?_
     refine nP hS ?_
     have c2:=HA.out.2.cell 1
     have f2:=HA.out.2.frozen 1
     refine nE fun K hK=>?_
     go_simp
     clear c2 f2
     refine held_go hK (by exact ⟨hT.out.setCell (p:=⟨g,1,none⟩) HC.out.far _,HA.out.1.blk.cell 2,HA.out.1.blk.cell 3⟩) fun hS=>?_
     clear hK K
     try simp only [zp]
     refine plan_end ?_
     have hT:=Lib.hid (hT.out.setCell (p:=⟨g,1,none⟩) HC.out.far (.slice A9 (j+1) c9))
     have c5:=HA.out.1.blk.cell 3
     have f5:=HA.out.1.blk.frozen 3
     have HC:=Lib.hid (show ColG _ base w.heap.size g k (q3:Int) A9 (j+1) c9 (lj++[txtC s]) B m cb xs from HA.out.1.seek (q3:Int))
     have HP:=Lib.hid ((((HP.out.alloc HB.out.size (.cells #[.bool false,.int .i64 0,.string s] 23)).drew.below R2.out (Nat.le_refl _)).set 1 (.slice A9 (j+1) c9)).set 3 (.int .i64 (q3:Int)))
     have HB:=Lib.hid ((HB.out.trans hT.out).setCell (p:=⟨g,3,none⟩) HC.out.far (.int .i64 (q3:Int)))
     clear HA hT HR
     go_wp2
     go_roundw
     case rel=>exact ⟨j+1,lj++[txtC s],sj+rk+rn,A9,c9,by omega,by go_num,Hit2,by simp [Hlj.out],Hq3m,Lib.hid (by rw [<-Hsj3.out];exact HC.out),HP,HB⟩
     case measure=>simp [intOf];omega
    refine nE fun K hK=>?_
    go_simp
    have HR:=Lib.hid ((reads_cell W false 0 s).drew)
    have HC:=Lib.hid ((HCW.out.below ((Below.refl _ W).alloc (Nat.le_refl _) (.cells #[.bool false,.int .i64 0,.string s] 23))).onDrew)
    refine held_go hK (by exact ⟨hS.1.alloc (Nat.le_trans HC.out.low0 (Nat.le_trans HBs.out hS.1.size)) _,HC.out.blk.cell 2,HC.out.blk.cell 3⟩) fun hS=>?_
    clear hK K
    try simp only [zp]
    have c1:=HC.out.blk.cell 1
    refine nE fun K hK=>?_
    go_simp
    refine held_go hK hS fun hS=>?_
    clear hK K
    try simp only [zp]
    clear c1
    refine nE fun K hK=>?_
    refine wp_append_any _ (.tmp 65) (.tmp 78) 24 rfl w.heap.size 23 j0 (.agg #[.bool false,.int .i64 0,.string ⟨#[]⟩]) 3 32 Tryz.underlying24 hj0 hk0 hj1 hk2 rfl (by decide) A1 j c1 _ rfl HC.out.cells (some ⟨_,0,none⟩) 1 1 (cls [(false,0,s)]) rfl HR.out (cls_one _) (by simp only [maxLen];omega) (by omega) (Nat.le_trans HBs.out hS.1.size) ?_
    intro A9 c9 w9 r1 r2 r3 r4 r5
    rw [<-cls_append] at r1
    have HA:=Lib.hid (HC.out.app r3 r2 r1)
    have R2:=Lib.hid r2
    have hT:=Lib.hid (hS.1.trans (r2.mono HC.out.low0))
    clear r1 r2 r3 r4 r5
    refine held_go hK (by exact ⟨hT.out,HA.out.2.cell 2,HA.out.2.cell 3⟩) fun hS=>?_
    clear hK K
    try simp only [zp]
    refine nP hS ?_
    refine nP hS ?_
    have c2:=HA.out.2.cell 1
    have f2:=HA.out.2.frozen 1
    refine nE fun K hK=>?_
    go_simp
    clear c2 f2
    refine held_go hK (by exact ⟨hT.out.setCell (p:=⟨g,1,none⟩) HC.out.far _,HA.out.1.blk.cell 2,HA.out.1.blk.cell 3⟩) fun hS=>?_
    clear hK K
    try simp only [zp]
    refine plan_end ?_
    have hT:=Lib.hid (hT.out.setCell (p:=⟨g,1,none⟩) HC.out.far (.slice A9 (j+1) c9))
    have c5:=HA.out.1.blk.cell 3
    have f5:=HA.out.1.blk.frozen 3
    have HC:=Lib.hid (show ColG _ base w.heap.size g k (q3:Int) A9 (j+1) c9 (lj++[txtC s]) B m cb xs from HA.out.1.seek (q3:Int))
    have HP:=Lib.hid ((((HP.out.alloc HB.out.size (.cells #[.bool false,.int .i64 0,.string s] 23)).drew.below R2.out (Nat.le_refl _)).set 1 (.slice A9 (j+1) c9)).set 3 (.int .i64 (q3:Int)))
    have HB:=Lib.hid ((HB.out.trans hT.out).setCell (p:=⟨g,3,none⟩) HC.out.far (.int .i64 (q3:Int)))
    clear HA hT HR
    go_wp2
    go_roundw
    case rel=>exact ⟨j+1,lj++[txtC s],sj+rk+rn,A9,c9,by omega,by go_num,Hit2,by simp [Hlj.out],Hq3m,Lib.hid (by rw [<-Hsj3.out];exact HC.out),HP,HB⟩
    case measure=>simp [intOf];omega
   have hne:((re:Int)==0)=false:=by simp;omega
   have hne2:((re:Int) != 0)=true:=by simp;omega
   have Hst:=Lib.hid (iterC_err (iterC_next Hit.out (show stepR (xs.drop a) (lj,sj)=.error re by unfold stepR;simp only;rw [Hdrop.out,Hget.out];simp only;rw [if_neg he])) (show j+1<=N by omega))
   go_wp2
   go_ret
   rw [Hst.out]
   exact ⟨HB.out.drew,HP.out.drew,rfl,he⟩
  obtain rfl:j=N:=by omega
  go_wp2
  go_ret
  rw [Hit.out]
  obtain ⟨q1,q2⟩:=own_caps HC.out.cells
  rw [<-Hlj.out] at q1 HC
  exact ⟨HB.out,HP.out,rfl,Hsj.out,by rw [Hlj.out];exact hN,A1,c1,q1,q2,HC.out.floor⟩
end Go.Proofs.YtjpjalmilfgckaaGreatDoor
