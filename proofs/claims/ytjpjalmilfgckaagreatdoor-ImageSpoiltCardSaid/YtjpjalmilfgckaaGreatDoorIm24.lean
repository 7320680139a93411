/- Part 24 of the walks, merged: each text under its own heading. Conditions: none of its own; each lemma states what it asks. -/
import Derived.Test.YtjpjalmilfgckaaGreatDoorIm7
import Derived.Test.YtjpjalmilfgckaaGreatDoorIm11
import Derived.Test.YtjpjalmilfgckaaGreatDoorIm23
set_option maxRecDepth 100000
set_option linter.unusedVariables false
set_option linter.unusedSimpArgs false
namespace Go.Proofs.YtjpjalmilfgckaaGreatDoor
open Go.RowKit
def cutM (l:List Mk) (i:Nat):List Mk:=(l.take i).map cutm
theorem cutM_succ {l:List Mk} {i:Nat} {m:Mk} (h:l[i]? = some m):cutM l (i+1)=cutM l i++[(m.1.extract 0 (min m.1.size 40),m.2)]:=by
 unfold cutM
 rw [List.take_add_one,h,List.map_append]
 rfl
theorem cutM_all {l:List Mk} {i:Nat} (h:i=min l.length 20):cutM l i=cutms l:=by
 unfold cutM cutms
 congr 1
 rw [h]
 exact take_min l _ 20 rfl
theorem cutI_all20 {l:List It} {i:Nat} (h:i=min l.length 20):cutI l i=cutis l:=by
 unfold cutI cutis
 congr 1
 rw [h]
 exact take_min l _ 20 rfl
theorem reads_mkb (w:World) (b:Nat) (hb:b=w.heap.size) (s:ByteArray) (x:Int):Reads (w.alloc (.cells #[.string s,.int .i64 x] 90)) (w.alloc (.cells #[.string s,.int .i64 x] 90)).heap.size 2 (some ⟨b,0,none⟩) 1 (mks [(s,x)]):=by
 subst hb
 exact (Blk.new w 90 #[.string s,.int .i64 x]).readsN 2 1 _ rfl rfl
structure CutK (w:World) (z:Nat) (bx bz:Array Value) (LA:Option Addr) (ln c:Nat) (la:List UInt8) (wr:World):Prop where
 below:Below w.heap.size w wr
 box:Blk wr w.heap.size 51 bx
 res:Blk wr (w.heap.size+1) 51 #[.int .i64 0,.int .i64 0,.slice none 0 0,.slice none 0 0,.slice none 0 0]
 z:Blk wr z 51 bz
 last:wr.ownsRow w.heap.size 5 1 (.slice LA ln c) ln (u8s la)
section
variable {w wr w':World} {z ln c:Nat} {bx bz:Array Value} {LA:Option Addr} {la:List UInt8}
theorem CutK.on (h:CutK w z bx bz LA ln c la wr) (hb:Below wr.heap.size wr w'):CutK w z bx bz LA ln c la w':=⟨bon h.below hb,h.box.on hb,h.res.on hb,h.z.on hb,own_below h.last hb⟩
theorem CutK.apart (h:CutK w z bx bz LA ln c la wr) {base2 n2 size2:Nat} {e2:TypeId} {v2:Value} {ys:List Value} (h2:wr.ownsRow base2 e2 size2 v2 n2 ys) (hn:e2≠51) (hu:5≠e2) (hg:wr.grownBy w' v2.ownBlock) (hb:Below w.heap.size wr w'):CutK w z bx bz LA ln c la w':=
 ⟨h.below.trans hb,h.box.apart h2 hn hg,h.res.apart h2 hn hg,h.z.apart h2 hn hg,own_apart h.last h2 hu hg⟩
end
set_option maxHeartbeats 8000000 in
theorem cut28_any (v q:Int) (MA:Option Addr) (mn mc:Nat) (RA:Option Addr) (rn rc:Nat) (LA:Option Addr) (ln lc:Nat) (ms:List Mk) (l:List It) (la:List UInt8) (w:World) (h:StAt w MA mn RA rn LA ln ms l la) (hmn:mn<=maxLen) (hrn:rn<=maxLen) (hln:ln<=lc) (hlc:lc<=maxLen) (hmok:MkOk ms) (hok:ItOk l) :
  Calls Tryz.prog 18 #[.agg #[.int .i64 v,.int .i64 q,.slice MA mn mc,.slice RA rn rc,.slice LA ln lc]] w fun e w'=>∃ A1 n1 c1 A2 n2 c2 A3 n3 c3,e=.returned (.agg #[.int .i64 v,.int .i64 q,.slice A1 n1 c1,.slice A2 n2 c2,.slice A3 n3 c3])/\n1<=20/\n2<=20/\n3<=300 /\
   w'.ownsRow w.heap.size 90 2 (.slice A1 n1 c1) n1 (mks (cutms ms))/\ItemsOwn w' w.heap.size A2 n2 c2 (cutis l)/\w'.ownsRow w.heap.size 5 1 (.slice A3 n3 c3) n3 (u8s (la.take 300))/\Below w.heap.size w w':=by
 obtain ⟨j0,hj0,hk0,hj1',hk2⟩:=info_parts cell_info
 obtain ⟨i0,hi0,hl0,hi1,hl2⟩:=info_parts item_info
 obtain ⟨m0,hm0,hm1,hm2,hm3⟩:=info_parts mark_info
 obtain ⟨l3,hl3⟩:∃ l3:Nat,l3=min ln 300:=⟨_,rfl⟩
 have hmi:min (ln:Int) 300=(l3:Int):=by omega
 have h3:l3<=lc:=by omega
 have h4:(l3:Int)<=(lc:Int):=by omega
 have Hl3:=Lib.hid (show l3<=300 by omega)
 have hlc63:lc<=9223372036854775807:=by simp only [maxLen] at hlc;omega
 have hmn63:mn<=9223372036854775807:=by simp only [maxLen] at hmn;omega
 have hrn63:rn<=9223372036854775807:=by simp only [maxLen] at hrn;omega
 have hlr:Reads w w.heap.size 1 LA l3 (u8s (la.take 300)):=by
  have:=h.last.head (k:=l3) (by omega)
  rwa [Nat.mul_one,u8s_take,hl3,take_min _ _ _ (reads_len h.last),<-hl3] at this
 have Hml:=Lib.hid (mks_len h.marks)
 have HMs:=Lib.hid h.marks
 have HR:=Lib.hid h.rows
 have Hmok:=Lib.hid hmok
 have Hok:=Lib.hid hok
 obtain ⟨W,hW1⟩:∃ W,(w.alloc (.cells #[.int .i64 v,.int .i64 q,.slice MA mn mc,.slice RA rn rc,.slice LA ln lc] 51)).alloc (.cells #[.int .i64 0,.int .i64 0,.slice none 0 0,.slice none 0 0,.slice none 0 0] 51)=W:=⟨_,rfl⟩
 have HWs:=Lib.hid (show W.heap.size=w.heap.size+2 by rw [<-hW1];simp)
 have HB:=Lib.hid (show Below w.heap.size w W by rw [<-hW1];exact bal (bal (Below.refl _ _) _) _)
 have BS:=Lib.hid (show Blk W w.heap.size 51 #[.int .i64 v,.int .i64 q,.slice MA mn mc,.slice RA rn rc,.slice LA ln lc] by rw [<-hW1];exact (Blk.new w _ _).alloc _)
 have BT:=Lib.hid (show Blk W (w.heap.size+1) 51 #[.int .i64 0,.int .i64 0,.slice none 0 0,.slice none 0 0,.slice none 0 0] by rw [<-hW1];exact Blk.new' _ _ _ _ (by simp))
 have HSt:=Lib.hid (show ∀ w',Below W.heap.size W w'->Reads w' w'.heap.size 1 LA l3 (u8s (la.take 300)) from fun w' hb=>hlr.on (bon HB.out hb))
 have L0:=Lib.hid (show ∀ w',Below W.heap.size W w'->w'.cell? ⟨w.heap.size,0,none⟩=some (.int .i64 v) from fun w' hb=>(BS.out.on hb).cell 0)
 have L1:=Lib.hid (show ∀ w',Below W.heap.size W w'->w'.cell? ⟨w.heap.size,1,none⟩=some (.int .i64 q) from fun w' hb=>(BS.out.on hb).cell 1)
 have L4:=Lib.hid (show ∀ w',Below W.heap.size W w'->w'.cell? ⟨w.heap.size,4,none⟩=some (.slice LA ln lc) from fun w' hb=>(BS.out.on hb).cell 4)
 clear hl3 hlr h hmok hok
 go_enter Tryz.func18,Tryz.ntmps18
 go_wp2
 try rw [hW1]
 clear hW1
 have hS:Below W.heap.size W W.drew:=(Below.refl _ _).drew
 refine bR (fun w'=>Below W.heap.size W w') (.pure 0 (.pure 1 (.pure 2 (.pure 3 (.pure 4 (.pure 5 (.pure 6 (.pure 7 (.pure 8 (.pure 9 (.pure 10 (.fork 11 13 (.pure 12 (.eff 13 (.eff 14 .done))) (.eff 11 (.pure 12 (.eff 14 .done))))))))))))))) ?_
 refine bP hS ?_
 refine bP1 hS L0.out ?_
 refine bP hS ?_
 refine bP1 hS L1.out ?_
 refine bP hS ?_
 refine bP1 hS L4.out ?_
 refine bP hS ?_
 refine bP1 hS L4.out ?_
 iterate 3
  refine bP hS ?_
 apply plb_fjoin
 case h1=>
  intro hΦ
  refine bE fun K hK=>?_
  go_simp
  with_reducible refine (copyBytes_any LA l3 lc (la.take 300) _ (HSt.out _ hS) (by omega)).mono ?_
  rintro e w2 ⟨A3,c3,rfl,-,-,ho,hb⟩
  have HL3:=Lib.hid (own_mono ho hS.size)
  have HS:=Lib.hid (bon hS hb)
  clear ho hb
  refine held_go hK (by exact HS.out) fun hS=>?_
  clear hK K
  try simp only [zp]
  clear HS
  refine bP hS ?_
  refine bE fun K hK=>?_
  go_simp
  replace HL3:=Lib.hid (own_below HL3.out (bal (Below.refl w2.heap.size w2) (.cells #[.int .i64 0,.int .i64 0,.slice none 0 0,.slice none 0 0,.slice none 0 0] 51)))
  have BZ:=Lib.hid (Blk.new w2 51 #[.int .i64 0,.int .i64 0,.slice none 0 0,.slice none 0 0,.slice none 0 0])
  have HS:=Lib.hid (bal hS (.cells #[.int .i64 0,.int .i64 0,.slice none 0 0,.slice none 0 0,.slice none 0 0] 51))
  have Hz:=Lib.hid (show W.heap.size<=w2.heap.size from hS.size)
  refine held_go hK (by exact HS.out) fun hS=>?_
  clear hK K
  try simp only [zp]
  clear HS
  generalize w2.alloc (.cells #[.int .i64 0,.int .i64 0,.slice none 0 0,.slice none 0 0,.slice none 0 0] 51)=w4 at *
  generalize w2.heap.size=z at *
  have f0:=BZ.out.frozen 0
  have f1:=BZ.out.frozen 1
  have f2:=BZ.out.frozen 2
  have f3:=BZ.out.frozen 3
  have f4:=BZ.out.frozen 4
  have a0:=BZ.out.cell 0
  have a1:=BZ.out.cell 1
  have a2:=BZ.out.cell 2
  have a3:=BZ.out.cell 3
  have a4:=BZ.out.cell 4
  refine bE fun K hK=>?_
  go_simp
  clear f0 f1 f2 f3 f4 a0 a1 a2 a3 a4
  replace HL3:=Lib.hid (own_far5 HL3.out BZ.out (by decide) (.int .i64 v) (.int .i64 q) (.slice none 0 0) (.slice none 0 0) (.slice A3 l3 c3))
  replace BZ:=Lib.hid (((((BZ.out.set_ 0 (.int .i64 v)).set_ 1 (.int .i64 q)).set_ 2 (.slice none 0 0)).set_ 3 (.slice none 0 0)).set_ 4 (.slice A3 l3 c3))
  simp only [List.setIfInBounds_toArray,List.set_cons_succ,List.set_cons_zero] at BZ
  have HS:=Lib.hid (((((hS.setCell (p:=⟨z,0,none⟩) Hz.out (.int .i64 v)).setCell (p:=⟨z,1,none⟩) Hz.out (.int .i64 q)).setCell (p:=⟨z,2,none⟩) Hz.out (.slice none 0 0)).setCell (p:=⟨z,3,none⟩) Hz.out (.slice none 0 0)).setCell (p:=⟨z,4,none⟩) Hz.out (.slice A3 l3 c3))
  refine held_go hK (by exact HS.out) fun hS=>?_
  clear hK K
  try simp only [zp]
  clear HS
  refine plb_end ?_
  generalize ((((w4.setCell ⟨z,0,none⟩ (.int .i64 v)).setCell ⟨z,1,none⟩ (.int .i64 q)).setCell ⟨z,2,none⟩ (.slice none 0 0)).setCell ⟨z,3,none⟩ (.slice none 0 0)).setCell ⟨z,4,none⟩ (.slice A3 l3 c3)=w5 at *
  have HA:=Lib.hid (And.intro HL3.out (And.intro BZ.out (And.intro Hz.out hS)))
  clear HL3 BZ hS Hz
  revert HA
  revert w5
  revert z
  revert c3
  revert A3
  exact hΦ.out
 case h2=>
  intro hΦ
  refine bE fun K hK=>?_
  go_simp
  have BZ:=Lib.hid (show Blk (W.drew.alloc _) W.heap.size _ _ from Blk.new W.drew 51 #[.int .i64 0,.int .i64 0,.slice none 0 0,.slice none 0 0,.slice none 0 0])
  have HS:=Lib.hid (bal hS (.cells #[.int .i64 0,.int .i64 0,.slice none 0 0,.slice none 0 0,.slice none 0 0] 51))
  have Hz:=Lib.hid (show W.heap.size<=W.heap.size from Nat.le_refl _)
  refine held_go hK (by exact HS.out) fun hS=>?_
  clear hK K
  try simp only [zp]
  clear HS
  refine bE fun K hK=>?_
  go_simp
  with_reducible refine (copyBytes_any LA l3 lc (la.take 300) _ (HSt.out _ hS) (by omega)).mono ?_
  rintro e w2 ⟨A3,c3,rfl,-,-,ho,hb⟩
  have HL3:=Lib.hid (own_mono ho hS.size)
  have HS:=Lib.hid (bon hS hb)
  replace BZ:=Lib.hid (BZ.out.on hb)
  clear ho hb
  refine held_go hK (by exact HS.out) fun hS=>?_
  clear hK K
  try simp only [zp]
  clear HS
  refine bP hS ?_
  generalize w2=w4 at *
  have f0:=BZ.out.frozen 0
  have f1:=BZ.out.frozen 1
  have f2:=BZ.out.frozen 2
  have f3:=BZ.out.frozen 3
  have f4:=BZ.out.frozen 4
  have a0:=BZ.out.cell 0
  have a1:=BZ.out.cell 1
  have a2:=BZ.out.cell 2
  have a3:=BZ.out.cell 3
  have a4:=BZ.out.cell 4
  refine bE fun K hK=>?_
  go_simp
  clear f0 f1 f2 f3 f4 a0 a1 a2 a3 a4
  replace HL3:=Lib.hid (own_far5 HL3.out BZ.out (by decide) (.int .i64 v) (.int .i64 q) (.slice none 0 0) (.slice none 0 0) (.slice A3 l3 c3))
  replace BZ:=Lib.hid (((((BZ.out.set_ 0 (.int .i64 v)).set_ 1 (.int .i64 q)).set_ 2 (.slice none 0 0)).set_ 3 (.slice none 0 0)).set_ 4 (.slice A3 l3 c3))
  simp only [List.setIfInBounds_toArray,List.set_cons_succ,List.set_cons_zero] at BZ
  have HS:=Lib.hid (((((hS.setCell (p:=⟨W.heap.size,0,none⟩) Hz.out (.int .i64 v)).setCell (p:=⟨W.heap.size,1,none⟩) Hz.out (.int .i64 q)).setCell (p:=⟨W.heap.size,2,none⟩) Hz.out (.slice none 0 0)).setCell (p:=⟨W.heap.size,3,none⟩) Hz.out (.slice none 0 0)).setCell (p:=⟨W.heap.size,4,none⟩) Hz.out (.slice A3 l3 c3))
  refine held_go hK (by exact HS.out) fun hS=>?_
  clear hK K
  try simp only [zp]
  clear HS
  refine plb_end ?_
  generalize ((((w4.setCell ⟨W.heap.size,0,none⟩ (.int .i64 v)).setCell ⟨W.heap.size,1,none⟩ (.int .i64 q)).setCell ⟨W.heap.size,2,none⟩ (.slice none 0 0)).setCell ⟨W.heap.size,3,none⟩ (.slice none 0 0)).setCell ⟨W.heap.size,4,none⟩ (.slice A3 l3 c3)=w5 at *
  have HA:=Lib.hid (And.intro HL3.out (And.intro BZ.out (And.intro Hz.out hS)))
  clear HL3 BZ hS Hz
  revert HA
  exact fun HA=>hΦ.out A3 c3 _ w5 HA
 intro A3 c3 z w5 HA
 have HL3:=Lib.hid HA.out.1
 have BZ:=Lib.hid HA.out.2.1
 have Hzw:=Lib.hid (show w.heap.size+1<z/\w.heap.size<=z by
  have e1:=HA.out.2.2.1
  have e2:=HWs.out
  omega)
 have hS:=HA.out.2.2.2
 have HK:=Lib.hid (show CutK w z #[.int .i64 v,.int .i64 q,.slice MA mn mc,.slice RA rn rc,.slice LA ln lc] #[.int .i64 v,.int .i64 q,.slice none 0 0,.slice none 0 0,.slice A3 l3 c3] A3 l3 c3 (la.take 300) w5 from ⟨bon HB.out hS,BS.out.on hS,BT.out.on hS,BZ.out,own_mono HL3.out HB.out.size⟩)
 clear HA hS HL3 BZ HB BS BT HSt L0 L1 L4 HWs
 go_wp2
 go_loopw [4,5] (fun u ix wr=>∃ (i:Nat) (A1:Option Addr) (c1:Nat),i<=mn/\i<=20/\u=.slice A1 i c1/\ix=.int .i64 (i:Int)/\Hid (wr.ownsRow w.heap.size 90 2 (.slice A1 i c1) i (mks (cutM ms i)))/\Hid (CutK w z #[.int .i64 v,.int .i64 q,.slice MA mn mc,.slice RA rn rc,.slice LA ln lc] #[.int .i64 v,.int .i64 q,.slice none 0 0,.slice none 0 0,.slice A3 l3 c3] A3 l3 c3 (la.take 300) wr)) (fun _ ix _=>mn-(intOf ix).toNat)
 case atStart=>exact ⟨0,none,0,Nat.zero_le _,by omega,rfl,rfl,Lib.hid (World.ownsRow_nil _ _ _ _),HK⟩
 case round=>
  clear HK
  obtain ⟨i,A1,c1,hi1x,hi20,rfl,rfl,HM,HK⟩:=hrel
  have p2:=HK.out.box.cell 2
  by_cases hlt:i<mn/\i<20
  ·obtain ⟨hlt1,hlt2⟩:=hlt
   have d1:decide ((i:Int)<(mn:Int))=true:=by simp;omega
   have d2:decide ((i:Int)<20)=true:=by simp;omega
   have hii:(i:Int)<(mn:Int):=by omega
   have hi1':i+1<=mn:=hlt1
   have hi2':i+1<=20:=hlt2
   obtain ⟨ad,m,rfl,hbk,hm,hat⟩:=mks_at (HMs.out.below HK.out.below) hlt1
   have c0:=hat.c0
   have c1':=hat.c1
   have hsz:m.1.size<=9223372036854775807:=by have:=(Hmok.out _ (List.mem_of_getElem? hm)).1;simp only [maxLen] at this;omega
   obtain ⟨sn,hsn⟩:∃ sn:Nat,sn=min m.1.size 40:=⟨_,rfl⟩
   have hmi2:min (m.1.size:Int) 40=(sn:Int):=by omega
   have hms:sn<=m.1.size:=by omega
   have Hs:=Lib.hid (show cutM ms (i+1)=cutM ms i++[(m.1.extract 0 sn,m.2)] by rw [cutM_succ hm,hsn])
   have hs1:i+1<=maxLen:=by simp only [maxLen];omega
   have hs2:(i+1)*24<=70368744177664:=by omega
   have hal:=((Below.refl wr.heap.size wr).alloc (Nat.le_refl _) (.cells #[.string (m.1.extract 0 sn),.int .i64 m.2] 90)).alloc (by simp) (.cells #[.string (m.1.extract 0 sn),.int .i64 m.2] 90)
   have HMa:=Lib.hid (own_below HM.out hal)
   have HKa:=Lib.hid (HK.out.on hal)
   clear hm hbk hat hsn hal
   go_wp2_with (at_builtin
                refine wpList_append_any _ rfl (.tmp 49) (.tmp 51) 49 rfl w.heap.size 90 m0 (.agg #[.string ⟨#[]⟩,.int .i64 0]) 2 24 Tryz.underlying49 hm0 hm1 hm2 hm3 rfl (by decide) A1 i c1 _ rfl HMa.out (some ⟨_,0,none⟩) 1 1 (mks [(m.1.extract 0 sn,m.2)]) rfl (by exact reads_mkb _ _ (by simp) _ _) (mks_one _) hs1 hs2 HKa.out.below.size ?_
                intro A8 c8 w8 r1 r2 r3 r4 r5
                rw [<-mks_append,<-Hs.out] at r1
                have R1:=Lib.hid r1
                have R2:=Lib.hid r2
                have R3:=Lib.hid r3
                clear r1 r2 r3 r4 r5)
   have HK8:=Lib.hid (HKa.out.apart HMa.out (by decide) (by decide) R3.out R2.out)
   go_roundw
   case rel=>exact ⟨i+1,A8,c8,hi1',hi2',rfl,by go_num,R1,HK8⟩
   case measure=>simp [intOf];omega
  by_cases hlt1:i<mn
  ·have d1:decide ((i:Int)<(mn:Int))=true:=by simp;omega
   have d2:decide ((i:Int)<20)=false:=by simp;omega
   have hcl:=cutM_all (l:=ms) (i:=i) (by rw [Hml.out];omega)
   rw [hcl] at HM
   clear hcl
   have Hi20:=Lib.hid (show i<=20 from hi20)
   go_wp2
   generalize wr=Wm at *
   go_loopw [7,8] (fun u ix wr=>∃ (k:Nat) (A4:Option Addr) (c4:Nat),k<=rn/\k<=20/\u=.slice A4 k c4/\ix=.int .i64 (k:Int)/\Hid (ItemsOwn wr w.heap.size A4 k c4 (cutI l k))/\Hid (wr.ownsRow w.heap.size 90 2 (.slice A1 i c1) i (mks (cutms ms)))/\Hid (CutK w z #[.int .i64 v,.int .i64 q,.slice MA mn mc,.slice RA rn rc,.slice LA ln lc] #[.int .i64 v,.int .i64 q,.slice none 0 0,.slice none 0 0,.slice A3 l3 c3] A3 l3 c3 (la.take 300) wr)) (fun _ ix _=>rn-(intOf ix).toNat)
   case atStart=>exact ⟨0,none,0,Nat.zero_le _,by omega,rfl,rfl,Lib.hid ItemsOwn.nil,HM,HK⟩
   case round=>
    clear HM HK
    obtain ⟨k,A4,c4,hk1,hk20,rfl,rfl,HIt,HM,HK⟩:=hrel
    have p3:=HK.out.box.cell 3
    by_cases hlt:k<rn/\k<20
    ·obtain ⟨hlt1,hlt2⟩:=hlt
     have d1:decide ((k:Int)<(rn:Int))=true:=by simp;omega
     have d2:decide ((k:Int)<20)=true:=by simp;omega
     have hii:(k:Int)<(rn:Int):=by omega
     have hi1':k+1<=rn:=hlt1
     have hi2':k+1<=20:=hlt2
     obtain ⟨ad,A',c',⟨r,wt⟩,rfl,hbk,hit,h0,h1,hrow,hc1,hc2⟩:=(HR.out.below HK.out.below).at_ hlt1
     simp only at h0 h1 hrow hc1
     have HR0:=Lib.hid (show ∀ w',Below wr.heap.size wr w'->w'.cell? (ad.add (k*2))=some (.slice A' r.length c') from fun w' h=>(h.cell (World.block_lt_of_cell? _ _ h0)).trans h0)
     have HW:=Lib.hid (show ∀ w',Below wr.heap.size wr w'->w'.cell? ⟨(ad.add (k*2)).block,(ad.add (k*2)).off+1,none⟩=some (.int .i64 wt) from fun w' h=>(h.cell (World.block_lt_of_cell? _ _ h1)).trans h1)
     have Hrow:=Lib.hid (hrow.more HK.out.below.size)
     have Hit:=Lib.hid hit
     have hrl63:r.length<=9223372036854775807:=by simp only [maxLen] at hc2;omega
     have Hrk:=Lib.hid (Hok.out _ (List.mem_of_getElem? hit)).1
     simp only at Hrk
     clear hit hrow hc1 hc2 h0 h1 hbk
     generalize hrl:r.length=rl at HR0 Hrow hrl63
     have Hrl:=Lib.hid hrl
     clear hrl
     generalize wr=Wp at *
     go_wp2
     go_loopw [9,10] (fun u jx WX=>∃ (j:Nat) (A10:Option Addr) (c10:Nat),j<=rl/\j<=40/\u=.slice A10 j c10/\jx=.int .i64 (j:Int)/\Hid (WX.ownsRow Wp.heap.size 23 3 (.slice A10 j c10) j (cls (cutTo r j)))/\Hid (Below Wp.heap.size Wp WX)) (fun _ jx _=>rl-(intOf jx).toNat)
     case atStart=>exact ⟨0,none,0,Nat.zero_le _,by omega,rfl,rfl,Lib.hid (World.ownsRow_nil _ _ _ _),Lib.hid (Below.refl _ _)⟩
     case round=>
      clear p3
      obtain ⟨j,A10,c10,hj1,hj40,rfl,rfl,HO,HY⟩:=hrel
      have p3:=(HK.out.box.on HY.out).cell 3
      have h0:=HR0.out _ HY.out
      by_cases hkt:j<rl/\j<40
      ·obtain ⟨hkt1,hkt2⟩:=hkt
       have d3:decide ((j:Int)<(rl:Int))=true:=by simp;omega
       have d4:decide ((j:Int)<40)=true:=by simp;omega
       have hki:(j:Int)<(rl:Int):=by omega
       have hk1':j+1<=rl:=hkt1
       have hk2':j+1<=40:=hkt2
       obtain ⟨ad3,u,x,sx,rfl,hbk3,hx,g0',g1',g2'⟩:=cls_at (Hrow.out.on HY.out) hkt1
       have hsz:sx.size<=9223372036854775807:=by have:=(Hrk.out _ (List.mem_of_getElem? hx)).2.2;simp only [maxLen] at this;omega
       obtain ⟨sn,hsn⟩:∃ sn:Nat,sn=min sx.size 300:=⟨_,rfl⟩
       have hmi:min (sx.size:Int) 300=(sn:Int):=by omega
       have hms:sn<=sx.size:=by omega
       have Hs:=Lib.hid (show cutTo r (j+1)=cutTo r j++[(u,x,sx.extract 0 sn)] by rw [cutTo_succ hx,hsn];rfl)
       have hs1:j+1<=maxLen:=by simp only [maxLen];omega
       have hs2:(j+1)*32<=70368744177664:=by omega
       clear hx hbk3 hsn
       go_wp2_with (at_builtin
                    refine wpList_append_any _ rfl (.tmp 96) (.tmp 98) 24 rfl Wp.heap.size 23 j0 (.agg #[.bool false,.int .i64 0,.string ⟨#[]⟩]) 3 32 Tryz.underlying24 hj0 hk0 hj1' hk2 rfl (by decide) A10 j c10 _ rfl (own_below HO.out (((Below.refl _ wr).alloc (Nat.le_refl _) (.cells #[.bool u,.int .i64 x,.string (sx.extract 0 sn)] 23)).alloc (by simp) (.cells #[.bool u,.int .i64 x,.string (sx.extract 0 sn)] 23))) (some ⟨_,0,none⟩) 1 1 (cls [(u,x,sx.extract 0 sn)]) rfl (by exact reads_cellb _ _ (by simp) _ _ _) (cls_one _) hs1 hs2 (Nat.le_trans HY.out.size (by simp;omega)) ?_
                    intro A8 c8 w8 r1 r2 r3 r4 r5
                    rw [<-cls_append,<-Hs.out] at r1
                    have R1:=Lib.hid r1
                    have R2:=Lib.hid r2
                    clear r1 r2 r3 r4 r5)
       have HY8:=Lib.hid (((HY.out.alloc HY.out.size (.cells #[.bool u,.int .i64 x,.string (sx.extract 0 sn)] 23)).alloc (Nat.le_trans HY.out.size (by simp)) (.cells #[.bool u,.int .i64 x,.string (sx.extract 0 sn)] 23)).trans R2.out)
       go_roundw
       case rel=>exact ⟨j+1,A8,c8,hk1',hk2',rfl,by go_num,R1,HY8⟩
       case measure=>simp [intOf];omega
      by_cases hkt1:j<rl
      ·have d3:decide ((j:Int)<(rl:Int))=true:=by simp;omega
       have d4:decide ((j:Int)<40)=false:=by simp;omega
       have Hall:=Lib.hid (cutTo_all (r:=r) (k:=j) (by rw [Hrl.out];omega))
       have HKw:=Lib.hid (HK.out.on HY.out)
       have HMw:=Lib.hid (own_below HM.out HY.out)
       obtain ⟨hs3,g1,g2⟩:=HIt.out.below HY.out
       have hal:=(Below.refl wr.heap.size wr).alloc (Nat.le_refl _) (.cells #[.slice A10 j c10,.int .i64 wt] 26)
       have G1:=Lib.hid (own_below g1 hal)
       have G2:=Lib.hid (RowsOwn.below g2 hal)
       have HOr:=Lib.hid (own_below (own_mono HO.out HK.out.below.size) hal)
       rw [Hall.out] at HOr
       have HKa:=Lib.hid (HKw.out.on hal)
       have HMa:=Lib.hid (own_below HMw.out hal)
       have p3:=HKw.out.box.cell 3
       have hw:=HW.out _ HY.out
       have hsa:k+1<=maxLen:=by simp only [maxLen];omega
       have hsb:(k+1)*32<=70368744177664:=by omega
       have hii:(k:Int)<(rn:Int):=by omega
       clear g1 g2 hal
       go_wp2_with (at_builtin
                    refine wpList_append_any _ rfl (.tmp 100) (.tmp 109) 27 rfl w.heap.size 26 i0 (.agg #[.slice none 0 0,.int .i64 0]) 2 32 Tryz.underlying27 hi0 hl0 hi1 hl2 rfl (by decide) A4 k c4 _ rfl G1.out (some ⟨_,0,none⟩) 1 1 (itV (A10,j,c10) (cutr r,wt)) rfl (by exact reads_item _ _ rfl (A10,j,c10) (cutr r,wt)) (itV_one _ _) hsa hsb HKa.out.below.size ?_
                    intro A8 c8 w8 r1 r2 r3 r4 r5
                    have R1:=Lib.hid r1
                    have R2:=Lib.hid r2
                    have R3:=Lib.hid r3
                    clear r1 r2 r3 r4 r5)
       have HK8:=Lib.hid (HKa.out.apart G1.out (by decide) (by decide) R3.out R2.out)
       have HM8:=Lib.hid (own_apart HMa.out G1.out (by decide) R3.out)
       have HI8:=Lib.hid (items_app (hd:=(A10,j,c10)) (it:=(cutr r,wt)) G1.out G2.out HOr.out R3.out R1.out)
       have hcs:=cutI_succ Hit.out
       rw [show cuti (r,wt)=(cutr r,wt) from rfl] at hcs
       rw [<-hcs] at HI8
       clear hcs
       go_roundw
       case rel=>exact ⟨k+1,A8,c8,hi1',hi2',rfl,by go_num,HI8,HM8,HK8⟩
       case measure=>simp [intOf];omega
      have d3:decide ((j:Int)<(rl:Int))=false:=by simp;omega
      have Hall:=Lib.hid (cutTo_all (r:=r) (k:=j) (by rw [Hrl.out];omega))
      have HKw:=Lib.hid (HK.out.on HY.out)
      have HMw:=Lib.hid (own_below HM.out HY.out)
      obtain ⟨hs3,g1,g2⟩:=HIt.out.below HY.out
      have hal:=(Below.refl wr.heap.size wr).alloc (Nat.le_refl _) (.cells #[.slice A10 j c10,.int .i64 wt] 26)
      have G1:=Lib.hid (own_below g1 hal)
      have G2:=Lib.hid (RowsOwn.below g2 hal)
      have HOr:=Lib.hid (own_below (own_mono HO.out HK.out.below.size) hal)
      rw [Hall.out] at HOr
      have HKa:=Lib.hid (HKw.out.on hal)
      have HMa:=Lib.hid (own_below HMw.out hal)
      have p3:=HKw.out.box.cell 3
      have hw:=HW.out _ HY.out
      have hsa:k+1<=maxLen:=by simp only [maxLen];omega
      have hsb:(k+1)*32<=70368744177664:=by omega
      have hii:(k:Int)<(rn:Int):=by omega
      clear g1 g2 hal
      go_wp2_with (at_builtin
                   refine wpList_append_any _ rfl (.tmp 100) (.tmp 109) 27 rfl w.heap.size 26 i0 (.agg #[.slice none 0 0,.int .i64 0]) 2 32 Tryz.underlying27 hi0 hl0 hi1 hl2 rfl (by decide) A4 k c4 _ rfl G1.out (some ⟨_,0,none⟩) 1 1 (itV (A10,j,c10) (cutr r,wt)) rfl (by exact reads_item _ _ rfl (A10,j,c10) (cutr r,wt)) (itV_one _ _) hsa hsb HKa.out.below.size ?_
                   intro A8 c8 w8 r1 r2 r3 r4 r5
                   have R1:=Lib.hid r1
                   have R2:=Lib.hid r2
                   have R3:=Lib.hid r3
                   clear r1 r2 r3 r4 r5)
      have HK8:=Lib.hid (HKa.out.apart G1.out (by decide) (by decide) R3.out R2.out)
      have HM8:=Lib.hid (own_apart HMa.out G1.out (by decide) R3.out)
      have HI8:=Lib.hid (items_app (hd:=(A10,j,c10)) (it:=(cutr r,wt)) G1.out G2.out HOr.out R3.out R1.out)
      have hcs:=cutI_succ Hit.out
      rw [show cuti (r,wt)=(cutr r,wt) from rfl] at hcs
      rw [<-hcs] at HI8
      clear hcs
      go_roundw
      case rel=>exact ⟨k+1,A8,c8,hi1',hi2',rfl,by go_num,HI8,HM8,HK8⟩
      case measure=>simp [intOf];omega
    by_cases hlt1:k<rn
    ·have d1:decide ((k:Int)<(rn:Int))=true:=by simp;omega
     have d2:decide ((k:Int)<20)=false:=by simp;omega
     have hcl:=cutI_all20 (l:=l) (i:=k) (by rw [HR.out.len];omega)
     rw [hcl] at HIt
     clear hcl
     have z0:=HK.out.z.cell 0
     have z1:=HK.out.z.cell 1
     have z2:=HK.out.z.cell 2
     have z3:=HK.out.z.cell 3
     have z4:=HK.out.z.cell 4
     have q2:=HK.out.z.frozen 2
     have q3:=HK.out.z.frozen 3
     have r0:=HK.out.res.cell 0
     have r1:=HK.out.res.cell 1
     have r2:=HK.out.res.cell 2
     have r3:=HK.out.res.cell 3
     have r4:=HK.out.res.cell 4
     have s0:=HK.out.res.frozen 0
     have s1:=HK.out.res.frozen 1
     have s2:=HK.out.res.frozen 2
     have s3:=HK.out.res.frozen 3
     have s4:=HK.out.res.frozen 4
     have hzr:w.heap.size+1≠z:=Nat.ne_of_lt Hzw.out.1
     have hzr2:z≠w.heap.size+1:=(Nat.ne_of_lt Hzw.out.1).symm
     go_wp2
     have hz2:=HK.out.z.set_ 2 (.slice A1 i c1)
     have hz3:=hz2.set_ 3 (.slice A4 k c4)
     have hr3:=(HK.out.res.far (p:=⟨z,2,none⟩) hzr (.slice A1 i c1)).far (p:=⟨z,3,none⟩) hzr (.slice A4 k c4)
     have HM3:=Lib.hid (own_far (own_far HM.out HK.out.z (by decide) 2 (.slice A1 i c1)) hz2 (by decide) 3 (.slice A4 k c4))
     have HI3:=Lib.hid ((HIt.out.far HK.out.z (by decide) (by decide) 2 (.slice A1 i c1)).far hz2 (by decide) (by decide) 3 (.slice A4 k c4))
     have HL3:=Lib.hid (own_far (own_far HK.out.last HK.out.z (by decide) 2 (.slice A1 i c1)) hz2 (by decide) 3 (.slice A4 k c4))
     have HB3:=Lib.hid ((HK.out.below.setCell (p:=⟨z,2,none⟩) Hzw.out.2 (.slice A1 i c1)).setCell (p:=⟨z,3,none⟩) Hzw.out.2 (.slice A4 k c4))
     have hlow:w.heap.size<=w.heap.size+1:=by omega
     have HBf:=Lib.hid (((((HB3.out.setCell (p:=⟨w.heap.size+1,0,none⟩) hlow (.int .i64 v)).setCell (p:=⟨w.heap.size+1,1,none⟩) hlow (.int .i64 q)).setCell (p:=⟨w.heap.size+1,2,none⟩) hlow (.slice A1 i c1)).setCell (p:=⟨w.heap.size+1,3,none⟩) hlow (.slice A4 k c4)).setCell (p:=⟨w.heap.size+1,4,none⟩) hlow (.slice A3 l3 c3))
     have HMf:=Lib.hid (own_far5 HM3.out hr3 (by decide) (.int .i64 v) (.int .i64 q) (.slice A1 i c1) (.slice A4 k c4) (.slice A3 l3 c3))
     have HLf:=Lib.hid (own_far5 HL3.out hr3 (by decide) (.int .i64 v) (.int .i64 q) (.slice A1 i c1) (.slice A4 k c4) (.slice A3 l3 c3))
     have HIf:=Lib.hid (items_far5 HI3.out hr3 (by decide) (by decide) (.int .i64 v) (.int .i64 q) (.slice A1 i c1) (.slice A4 k c4) (.slice A3 l3 c3))
     have hrf:=((((hr3.set_ 0 (.int .i64 v)).set_ 1 (.int .i64 q)).set_ 2 (.slice A1 i c1)).set_ 3 (.slice A4 k c4)).set_ 4 (.slice A3 l3 c3)
     simp only [List.setIfInBounds_toArray,List.set_cons_zero,List.set_cons_succ] at hrf
     have e0:=hrf.cell 0
     have e1:=hrf.cell 1
     have e2:=hrf.cell 2
     have e3:=hrf.cell 3
     have e4:=hrf.cell 4
     refine bodyPost_ret (v:=.agg #[.int .i64 v,.int .i64 q,.slice A1 i c1,.slice A4 k c4,.slice A3 l3 c3]) (by simp [results,Tryz.results18,go_sem,e0,e1,e2,e3,e4]) rfl ?_
     exact ⟨A1,i,c1,A4,k,c4,A3,l3,c3,rfl,Hi20.out,hk20,Hl3.out,HMf.out,HIf.out,HLf.out,HBf.out⟩
    have d1:decide ((k:Int)<(rn:Int))=false:=by simp;omega
    have hcl:=cutI_all20 (l:=l) (i:=k) (by rw [HR.out.len];omega)
    rw [hcl] at HIt
    clear hcl
    have z0:=HK.out.z.cell 0
    have z1:=HK.out.z.cell 1
    have z2:=HK.out.z.cell 2
    have z3:=HK.out.z.cell 3
    have z4:=HK.out.z.cell 4
    have q2:=HK.out.z.frozen 2
    have q3:=HK.out.z.frozen 3
    have r0:=HK.out.res.cell 0
    have r1:=HK.out.res.cell 1
    have r2:=HK.out.res.cell 2
    have r3:=HK.out.res.cell 3
    have r4:=HK.out.res.cell 4
    have s0:=HK.out.res.frozen 0
    have s1:=HK.out.res.frozen 1
    have s2:=HK.out.res.frozen 2
    have s3:=HK.out.res.frozen 3
    have s4:=HK.out.res.frozen 4
    have hzr:w.heap.size+1≠z:=Nat.ne_of_lt Hzw.out.1
    have hzr2:z≠w.heap.size+1:=(Nat.ne_of_lt Hzw.out.1).symm
    go_wp2
    have hz2:=HK.out.z.set_ 2 (.slice A1 i c1)
    have hz3:=hz2.set_ 3 (.slice A4 k c4)
    have hr3:=(HK.out.res.far (p:=⟨z,2,none⟩) hzr (.slice A1 i c1)).far (p:=⟨z,3,none⟩) hzr (.slice A4 k c4)
    have HM3:=Lib.hid (own_far (own_far HM.out HK.out.z (by decide) 2 (.slice A1 i c1)) hz2 (by decide) 3 (.slice A4 k c4))
    have HI3:=Lib.hid ((HIt.out.far HK.out.z (by decide) (by decide) 2 (.slice A1 i c1)).far hz2 (by decide) (by decide) 3 (.slice A4 k c4))
    have HL3:=Lib.hid (own_far (own_far HK.out.last HK.out.z (by decide) 2 (.slice A1 i c1)) hz2 (by decide) 3 (.slice A4 k c4))
    have HB3:=Lib.hid ((HK.out.below.setCell (p:=⟨z,2,none⟩) Hzw.out.2 (.slice A1 i c1)).setCell (p:=⟨z,3,none⟩) Hzw.out.2 (.slice A4 k c4))
    have hlow:w.heap.size<=w.heap.size+1:=by omega
    have HBf:=Lib.hid (((((HB3.out.setCell (p:=⟨w.heap.size+1,0,none⟩) hlow (.int .i64 v)).setCell (p:=⟨w.heap.size+1,1,none⟩) hlow (.int .i64 q)).setCell (p:=⟨w.heap.size+1,2,none⟩) hlow (.slice A1 i c1)).setCell (p:=⟨w.heap.size+1,3,none⟩) hlow (.slice A4 k c4)).setCell (p:=⟨w.heap.size+1,4,none⟩) hlow (.slice A3 l3 c3))
    have HMf:=Lib.hid (own_far5 HM3.out hr3 (by decide) (.int .i64 v) (.int .i64 q) (.slice A1 i c1) (.slice A4 k c4) (.slice A3 l3 c3))
    have HLf:=Lib.hid (own_far5 HL3.out hr3 (by decide) (.int .i64 v) (.int .i64 q) (.slice A1 i c1) (.slice A4 k c4) (.slice A3 l3 c3))
    have HIf:=Lib.hid (items_far5 HI3.out hr3 (by decide) (by decide) (.int .i64 v) (.int .i64 q) (.slice A1 i c1) (.slice A4 k c4) (.slice A3 l3 c3))
    have hrf:=((((hr3.set_ 0 (.int .i64 v)).set_ 1 (.int .i64 q)).set_ 2 (.slice A1 i c1)).set_ 3 (.slice A4 k c4)).set_ 4 (.slice A3 l3 c3)
    simp only [List.setIfInBounds_toArray,List.set_cons_zero,List.set_cons_succ] at hrf
    have e0:=hrf.cell 0
    have e1:=hrf.cell 1
    have e2:=hrf.cell 2
    have e3:=hrf.cell 3
    have e4:=hrf.cell 4
    refine bodyPost_ret (v:=.agg #[.int .i64 v,.int .i64 q,.slice A1 i c1,.slice A4 k c4,.slice A3 l3 c3]) (by simp [results,Tryz.results18,go_sem,e0,e1,e2,e3,e4]) rfl ?_
    exact ⟨A1,i,c1,A4,k,c4,A3,l3,c3,rfl,Hi20.out,hk20,Hl3.out,HMf.out,HIf.out,HLf.out,HBf.out⟩
  have d1:decide ((i:Int)<(mn:Int))=false:=by simp;omega
  have hcl:=cutM_all (l:=ms) (i:=i) (by rw [Hml.out];omega)
  rw [hcl] at HM
  clear hcl
  have Hi20:=Lib.hid (show i<=20 from hi20)
  go_wp2
  generalize wr=Wm at *
  go_loopw [7,8] (fun u ix wr=>∃ (k:Nat) (A4:Option Addr) (c4:Nat),k<=rn/\k<=20/\u=.slice A4 k c4/\ix=.int .i64 (k:Int)/\Hid (ItemsOwn wr w.heap.size A4 k c4 (cutI l k))/\Hid (wr.ownsRow w.heap.size 90 2 (.slice A1 i c1) i (mks (cutms ms)))/\Hid (CutK w z #[.int .i64 v,.int .i64 q,.slice MA mn mc,.slice RA rn rc,.slice LA ln lc] #[.int .i64 v,.int .i64 q,.slice none 0 0,.slice none 0 0,.slice A3 l3 c3] A3 l3 c3 (la.take 300) wr)) (fun _ ix _=>rn-(intOf ix).toNat)
  case atStart=>exact ⟨0,none,0,Nat.zero_le _,by omega,rfl,rfl,Lib.hid ItemsOwn.nil,HM,HK⟩
  case round=>
   clear HM HK
   obtain ⟨k,A4,c4,hk1,hk20,rfl,rfl,HIt,HM,HK⟩:=hrel
   have p3:=HK.out.box.cell 3
   by_cases hlt:k<rn/\k<20
   ·obtain ⟨hlt1,hlt2⟩:=hlt
    have d1:decide ((k:Int)<(rn:Int))=true:=by simp;omega
    have d2:decide ((k:Int)<20)=true:=by simp;omega
    have hii:(k:Int)<(rn:Int):=by omega
    have hi1':k+1<=rn:=hlt1
    have hi2':k+1<=20:=hlt2
    obtain ⟨ad,A',c',⟨r,wt⟩,rfl,hbk,hit,h0,h1,hrow,hc1,hc2⟩:=(HR.out.below HK.out.below).at_ hlt1
    simp only at h0 h1 hrow hc1
    have HR0:=Lib.hid (show ∀ w',Below wr.heap.size wr w'->w'.cell? (ad.add (k*2))=some (.slice A' r.length c') from fun w' h=>(h.cell (World.block_lt_of_cell? _ _ h0)).trans h0)
    have HW:=Lib.hid (show ∀ w',Below wr.heap.size wr w'->w'.cell? ⟨(ad.add (k*2)).block,(ad.add (k*2)).off+1,none⟩=some (.int .i64 wt) from fun w' h=>(h.cell (World.block_lt_of_cell? _ _ h1)).trans h1)
    have Hrow:=Lib.hid (hrow.more HK.out.below.size)
    have Hit:=Lib.hid hit
    have hrl63:r.length<=9223372036854775807:=by simp only [maxLen] at hc2;omega
    have Hrk:=Lib.hid (Hok.out _ (List.mem_of_getElem? hit)).1
    simp only at Hrk
    clear hit hrow hc1 hc2 h0 h1 hbk
    generalize hrl:r.length=rl at HR0 Hrow hrl63
    have Hrl:=Lib.hid hrl
    clear hrl
    generalize wr=Wp at *
    go_wp2
    go_loopw [9,10] (fun u jx WX=>∃ (j:Nat) (A10:Option Addr) (c10:Nat),j<=rl/\j<=40/\u=.slice A10 j c10/\jx=.int .i64 (j:Int)/\Hid (WX.ownsRow Wp.heap.size 23 3 (.slice A10 j c10) j (cls (cutTo r j)))/\Hid (Below Wp.heap.size Wp WX)) (fun _ jx _=>rl-(intOf jx).toNat)
    case atStart=>exact ⟨0,none,0,Nat.zero_le _,by omega,rfl,rfl,Lib.hid (World.ownsRow_nil _ _ _ _),Lib.hid (Below.refl _ _)⟩
    case round=>
     clear p3
     obtain ⟨j,A10,c10,hj1,hj40,rfl,rfl,HO,HY⟩:=hrel
     have p3:=(HK.out.box.on HY.out).cell 3
     have h0:=HR0.out _ HY.out
     by_cases hkt:j<rl/\j<40
     ·obtain ⟨hkt1,hkt2⟩:=hkt
      have d3:decide ((j:Int)<(rl:Int))=true:=by simp;omega
      have d4:decide ((j:Int)<40)=true:=by simp;omega
      have hki:(j:Int)<(rl:Int):=by omega
      have hk1':j+1<=rl:=hkt1
      have hk2':j+1<=40:=hkt2
      obtain ⟨ad3,u,x,sx,rfl,hbk3,hx,g0',g1',g2'⟩:=cls_at (Hrow.out.on HY.out) hkt1
      have hsz:sx.size<=9223372036854775807:=by have:=(Hrk.out _ (List.mem_of_getElem? hx)).2.2;simp only [maxLen] at this;omega
      obtain ⟨sn,hsn⟩:∃ sn:Nat,sn=min sx.size 300:=⟨_,rfl⟩
      have hmi:min (sx.size:Int) 300=(sn:Int):=by omega
      have hms:sn<=sx.size:=by omega
      have Hs:=Lib.hid (show cutTo r (j+1)=cutTo r j++[(u,x,sx.extract 0 sn)] by rw [cutTo_succ hx,hsn];rfl)
      have hs1:j+1<=maxLen:=by simp only [maxLen];omega
      have hs2:(j+1)*32<=70368744177664:=by omega
      clear hx hbk3 hsn
      go_wp2_with (at_builtin
                   refine wpList_append_any _ rfl (.tmp 96) (.tmp 98) 24 rfl Wp.heap.size 23 j0 (.agg #[.bool false,.int .i64 0,.string ⟨#[]⟩]) 3 32 Tryz.underlying24 hj0 hk0 hj1' hk2 rfl (by decide) A10 j c10 _ rfl (own_below HO.out (((Below.refl _ wr).alloc (Nat.le_refl _) (.cells #[.bool u,.int .i64 x,.string (sx.extract 0 sn)] 23)).alloc (by simp) (.cells #[.bool u,.int .i64 x,.string (sx.extract 0 sn)] 23))) (some ⟨_,0,none⟩) 1 1 (cls [(u,x,sx.extract 0 sn)]) rfl (by exact reads_cellb _ _ (by simp) _ _ _) (cls_one _) hs1 hs2 (Nat.le_trans HY.out.size (by simp;omega)) ?_
                   intro A8 c8 w8 r1 r2 r3 r4 r5
                   rw [<-cls_append,<-Hs.out] at r1
                   have R1:=Lib.hid r1
                   have R2:=Lib.hid r2
                   clear r1 r2 r3 r4 r5)
      have HY8:=Lib.hid (((HY.out.alloc HY.out.size (.cells #[.bool u,.int .i64 x,.string (sx.extract 0 sn)] 23)).alloc (Nat.le_trans HY.out.size (by simp)) (.cells #[.bool u,.int .i64 x,.string (sx.extract 0 sn)] 23)).trans R2.out)
      go_roundw
      case rel=>exact ⟨j+1,A8,c8,hk1',hk2',rfl,by go_num,R1,HY8⟩
      case measure=>simp [intOf];omega
     by_cases hkt1:j<rl
     ·have d3:decide ((j:Int)<(rl:Int))=true:=by simp;omega
      have d4:decide ((j:Int)<40)=false:=by simp;omega
      have Hall:=Lib.hid (cutTo_all (r:=r) (k:=j) (by rw [Hrl.out];omega))
      have HKw:=Lib.hid (HK.out.on HY.out)
      have HMw:=Lib.hid (own_below HM.out HY.out)
      obtain ⟨hs3,g1,g2⟩:=HIt.out.below HY.out
      have hal:=(Below.refl wr.heap.size wr).alloc (Nat.le_refl _) (.cells #[.slice A10 j c10,.int .i64 wt] 26)
      have G1:=Lib.hid (own_below g1 hal)
      have G2:=Lib.hid (RowsOwn.below g2 hal)
      have HOr:=Lib.hid (own_below (own_mono HO.out HK.out.below.size) hal)
      rw [Hall.out] at HOr
      have HKa:=Lib.hid (HKw.out.on hal)
      have HMa:=Lib.hid (own_below HMw.out hal)
      have p3:=HKw.out.box.cell 3
      have hw:=HW.out _ HY.out
      have hsa:k+1<=maxLen:=by simp only [maxLen];omega
      have hsb:(k+1)*32<=70368744177664:=by omega
      have hii:(k:Int)<(rn:Int):=by omega
      clear g1 g2 hal
      go_wp2_with (at_builtin
                   refine wpList_append_any _ rfl (.tmp 100) (.tmp 109) 27 rfl w.heap.size 26 i0 (.agg #[.slice none 0 0,.int .i64 0]) 2 32 Tryz.underlying27 hi0 hl0 hi1 hl2 rfl (by decide) A4 k c4 _ rfl G1.out (some ⟨_,0,none⟩) 1 1 (itV (A10,j,c10) (cutr r,wt)) rfl (by exact reads_item _ _ rfl (A10,j,c10) (cutr r,wt)) (itV_one _ _) hsa hsb HKa.out.below.size ?_
                   intro A8 c8 w8 r1 r2 r3 r4 r5
                   have R1:=Lib.hid r1
                   have R2:=Lib.hid r2
                   have R3:=Lib.hid r3
                   clear r1 r2 r3 r4 r5)
      have HK8:=Lib.hid (HKa.out.apart G1.out (by decide) (by decide) R3.out R2.out)
      have HM8:=Lib.hid (own_apart HMa.out G1.out (by decide) R3.out)
      have HI8:=Lib.hid (items_app (hd:=(A10,j,c10)) (it:=(cutr r,wt)) G1.out G2.out HOr.out R3.out R1.out)
      have hcs:=cutI_succ Hit.out
      rw [show cuti (r,wt)=(cutr r,wt) from rfl] at hcs
      rw [<-hcs] at HI8
      clear hcs
      go_roundw
      case rel=>exact ⟨k+1,A8,c8,hi1',hi2',rfl,by go_num,HI8,HM8,HK8⟩
      case measure=>simp [intOf];omega
     have d3:decide ((j:Int)<(rl:Int))=false:=by simp;omega
     have Hall:=Lib.hid (cutTo_all (r:=r) (k:=j) (by rw [Hrl.out];omega))
     have HKw:=Lib.hid (HK.out.on HY.out)
     have HMw:=Lib.hid (own_below HM.out HY.out)
     obtain ⟨hs3,g1,g2⟩:=HIt.out.below HY.out
     have hal:=(Below.refl wr.heap.size wr).alloc (Nat.le_refl _) (.cells #[.slice A10 j c10,.int .i64 wt] 26)
     have G1:=Lib.hid (own_below g1 hal)
     have G2:=Lib.hid (RowsOwn.below g2 hal)
     have HOr:=Lib.hid (own_below (own_mono HO.out HK.out.below.size) hal)
     rw [Hall.out] at HOr
     have HKa:=Lib.hid (HKw.out.on hal)
     have HMa:=Lib.hid (own_below HMw.out hal)
     have p3:=HKw.out.box.cell 3
     have hw:=HW.out _ HY.out
     have hsa:k+1<=maxLen:=by simp only [maxLen];omega
     have hsb:(k+1)*32<=70368744177664:=by omega
     have hii:(k:Int)<(rn:Int):=by omega
     clear g1 g2 hal
     go_wp2_with (at_builtin
                  refine wpList_append_any _ rfl (.tmp 100) (.tmp 109) 27 rfl w.heap.size 26 i0 (.agg #[.slice none 0 0,.int .i64 0]) 2 32 Tryz.underlying27 hi0 hl0 hi1 hl2 rfl (by decide) A4 k c4 _ rfl G1.out (some ⟨_,0,none⟩) 1 1 (itV (A10,j,c10) (cutr r,wt)) rfl (by exact reads_item _ _ rfl (A10,j,c10) (cutr r,wt)) (itV_one _ _) hsa hsb HKa.out.below.size ?_
                  intro A8 c8 w8 r1 r2 r3 r4 r5
                  have R1:=Lib.hid r1
                  have R2:=Lib.hid r2
                  have R3:=Lib.hid r3
                  clear r1 r2 r3 r4 r5)
     have HK8:=Lib.hid (HKa.out.apart G1.out (by decide) (by decide) R3.out R2.out)
     have HM8:=Lib.hid (own_apart HMa.out G1.out (by decide) R3.out)
     have HI8:=Lib.hid (items_app (hd:=(A10,j,c10)) (it:=(cutr r,wt)) G1.out G2.out HOr.out R3.out R1.out)
     have hcs:=cutI_succ Hit.out
     rw [show cuti (r,wt)=(cutr r,wt) from rfl] at hcs
     rw [<-hcs] at HI8
     clear hcs
     go_roundw
     case rel=>exact ⟨k+1,A8,c8,hi1',hi2',rfl,by go_num,HI8,HM8,HK8⟩
     case measure=>simp [intOf];omega
   by_cases hlt1:k<rn
   ·have d1:decide ((k:Int)<(rn:Int))=true:=by simp;omega
    have d2:decide ((k:Int)<20)=false:=by simp;omega
    have hcl:=cutI_all20 (l:=l) (i:=k) (by rw [HR.out.len];omega)
    rw [hcl] at HIt
    clear hcl
    have z0:=HK.out.z.cell 0
    have z1:=HK.out.z.cell 1
    have z2:=HK.out.z.cell 2
    have z3:=HK.out.z.cell 3
    have z4:=HK.out.z.cell 4
    have q2:=HK.out.z.frozen 2
    have q3:=HK.out.z.frozen 3
    have r0:=HK.out.res.cell 0
    have r1:=HK.out.res.cell 1
    have r2:=HK.out.res.cell 2
    have r3:=HK.out.res.cell 3
    have r4:=HK.out.res.cell 4
    have s0:=HK.out.res.frozen 0
    have s1:=HK.out.res.frozen 1
    have s2:=HK.out.res.frozen 2
    have s3:=HK.out.res.frozen 3
    have s4:=HK.out.res.frozen 4
    have hzr:w.heap.size+1≠z:=Nat.ne_of_lt Hzw.out.1
    have hzr2:z≠w.heap.size+1:=(Nat.ne_of_lt Hzw.out.1).symm
    go_wp2
    have hz2:=HK.out.z.set_ 2 (.slice A1 i c1)
    have hz3:=hz2.set_ 3 (.slice A4 k c4)
    have hr3:=(HK.out.res.far (p:=⟨z,2,none⟩) hzr (.slice A1 i c1)).far (p:=⟨z,3,none⟩) hzr (.slice A4 k c4)
    have HM3:=Lib.hid (own_far (own_far HM.out HK.out.z (by decide) 2 (.slice A1 i c1)) hz2 (by decide) 3 (.slice A4 k c4))
    have HI3:=Lib.hid ((HIt.out.far HK.out.z (by decide) (by decide) 2 (.slice A1 i c1)).far hz2 (by decide) (by decide) 3 (.slice A4 k c4))
    have HL3:=Lib.hid (own_far (own_far HK.out.last HK.out.z (by decide) 2 (.slice A1 i c1)) hz2 (by decide) 3 (.slice A4 k c4))
    have HB3:=Lib.hid ((HK.out.below.setCell (p:=⟨z,2,none⟩) Hzw.out.2 (.slice A1 i c1)).setCell (p:=⟨z,3,none⟩) Hzw.out.2 (.slice A4 k c4))
    have hlow:w.heap.size<=w.heap.size+1:=by omega
    have HBf:=Lib.hid (((((HB3.out.setCell (p:=⟨w.heap.size+1,0,none⟩) hlow (.int .i64 v)).setCell (p:=⟨w.heap.size+1,1,none⟩) hlow (.int .i64 q)).setCell (p:=⟨w.heap.size+1,2,none⟩) hlow (.slice A1 i c1)).setCell (p:=⟨w.heap.size+1,3,none⟩) hlow (.slice A4 k c4)).setCell (p:=⟨w.heap.size+1,4,none⟩) hlow (.slice A3 l3 c3))
    have HMf:=Lib.hid (own_far5 HM3.out hr3 (by decide) (.int .i64 v) (.int .i64 q) (.slice A1 i c1) (.slice A4 k c4) (.slice A3 l3 c3))
    have HLf:=Lib.hid (own_far5 HL3.out hr3 (by decide) (.int .i64 v) (.int .i64 q) (.slice A1 i c1) (.slice A4 k c4) (.slice A3 l3 c3))
    have HIf:=Lib.hid (items_far5 HI3.out hr3 (by decide) (by decide) (.int .i64 v) (.int .i64 q) (.slice A1 i c1) (.slice A4 k c4) (.slice A3 l3 c3))
    have hrf:=((((hr3.set_ 0 (.int .i64 v)).set_ 1 (.int .i64 q)).set_ 2 (.slice A1 i c1)).set_ 3 (.slice A4 k c4)).set_ 4 (.slice A3 l3 c3)
    simp only [List.setIfInBounds_toArray,List.set_cons_zero,List.set_cons_succ] at hrf
    have e0:=hrf.cell 0
    have e1:=hrf.cell 1
    have e2:=hrf.cell 2
    have e3:=hrf.cell 3
    have e4:=hrf.cell 4
    refine bodyPost_ret (v:=.agg #[.int .i64 v,.int .i64 q,.slice A1 i c1,.slice A4 k c4,.slice A3 l3 c3]) (by simp [results,Tryz.results18,go_sem,e0,e1,e2,e3,e4]) rfl ?_
    exact ⟨A1,i,c1,A4,k,c4,A3,l3,c3,rfl,Hi20.out,hk20,Hl3.out,HMf.out,HIf.out,HLf.out,HBf.out⟩
   have d1:decide ((k:Int)<(rn:Int))=false:=by simp;omega
   have hcl:=cutI_all20 (l:=l) (i:=k) (by rw [HR.out.len];omega)
   rw [hcl] at HIt
   clear hcl
   have z0:=HK.out.z.cell 0
   have z1:=HK.out.z.cell 1
   have z2:=HK.out.z.cell 2
   have z3:=HK.out.z.cell 3
   have z4:=HK.out.z.cell 4
   have q2:=HK.out.z.frozen 2
   have q3:=HK.out.z.frozen 3
   have r0:=HK.out.res.cell 0
   have r1:=HK.out.res.cell 1
   have r2:=HK.out.res.cell 2
   have r3:=HK.out.res.cell 3
   have r4:=HK.out.res.cell 4
   have s0:=HK.out.res.frozen 0
   have s1:=HK.out.res.frozen 1
   have s2:=HK.out.res.frozen 2
   have s3:=HK.out.res.frozen 3
   have s4:=HK.out.res.frozen 4
   have hzr:w.heap.size+1≠z:=Nat.ne_of_lt Hzw.out.1
   have hzr2:z≠w.heap.size+1:=(Nat.ne_of_lt Hzw.out.1).symm
   go_wp2
   have hz2:=HK.out.z.set_ 2 (.slice A1 i c1)
   have hz3:=hz2.set_ 3 (.slice A4 k c4)
   have hr3:=(HK.out.res.far (p:=⟨z,2,none⟩) hzr (.slice A1 i c1)).far (p:=⟨z,3,none⟩) hzr (.slice A4 k c4)
   have HM3:=Lib.hid (own_far (own_far HM.out HK.out.z (by decide) 2 (.slice A1 i c1)) hz2 (by decide) 3 (.slice A4 k c4))
   have HI3:=Lib.hid ((HIt.out.far HK.out.z (by decide) (by decide) 2 (.slice A1 i c1)).far hz2 (by decide) (by decide) 3 (.slice A4 k c4))
   have HL3:=Lib.hid (own_far (own_far HK.out.last HK.out.z (by decide) 2 (.slice A1 i c1)) hz2 (by decide) 3 (.slice A4 k c4))
   have HB3:=Lib.hid ((HK.out.below.setCell (p:=⟨z,2,none⟩) Hzw.out.2 (.slice A1 i c1)).setCell (p:=⟨z,3,none⟩) Hzw.out.2 (.slice A4 k c4))
   have hlow:w.heap.size<=w.heap.size+1:=by omega
   have HBf:=Lib.hid (((((HB3.out.setCell (p:=⟨w.heap.size+1,0,none⟩) hlow (.int .i64 v)).setCell (p:=⟨w.heap.size+1,1,none⟩) hlow (.int .i64 q)).setCell (p:=⟨w.heap.size+1,2,none⟩) hlow (.slice A1 i c1)).setCell (p:=⟨w.heap.size+1,3,none⟩) hlow (.slice A4 k c4)).setCell (p:=⟨w.heap.size+1,4,none⟩) hlow (.slice A3 l3 c3))
   have HMf:=Lib.hid (own_far5 HM3.out hr3 (by decide) (.int .i64 v) (.int .i64 q) (.slice A1 i c1) (.slice A4 k c4) (.slice A3 l3 c3))
   have HLf:=Lib.hid (own_far5 HL3.out hr3 (by decide) (.int .i64 v) (.int .i64 q) (.slice A1 i c1) (.slice A4 k c4) (.slice A3 l3 c3))
   have HIf:=Lib.hid (items_far5 HI3.out hr3 (by decide) (by decide) (.int .i64 v) (.int .i64 q) (.slice A1 i c1) (.slice A4 k c4) (.slice A3 l3 c3))
   have hrf:=((((hr3.set_ 0 (.int .i64 v)).set_ 1 (.int .i64 q)).set_ 2 (.slice A1 i c1)).set_ 3 (.slice A4 k c4)).set_ 4 (.slice A3 l3 c3)
   simp only [List.setIfInBounds_toArray,List.set_cons_zero,List.set_cons_succ] at hrf
   have e0:=hrf.cell 0
   have e1:=hrf.cell 1
   have e2:=hrf.cell 2
   have e3:=hrf.cell 3
   have e4:=hrf.cell 4
   refine bodyPost_ret (v:=.agg #[.int .i64 v,.int .i64 q,.slice A1 i c1,.slice A4 k c4,.slice A3 l3 c3]) (by simp [results,Tryz.results18,go_sem,e0,e1,e2,e3,e4]) rfl ?_
   exact ⟨A1,i,c1,A4,k,c4,A3,l3,c3,rfl,Hi20.out,hk20,Hl3.out,HMf.out,HIf.out,HLf.out,HBf.out⟩
end Go.Proofs.YtjpjalmilfgckaaGreatDoor
namespace Go.Proofs.YtjpjalmilfgckaaGreatDoor
open Go.RowKit
theorem pnew_any (A:Option Addr) (n c:Nat) (l:List UInt8) (w:World) (hr:Reads w w.heap.size 1 A n (u8s l)) (hn:n<=35184372088832) :
  Calls Tryz.prog 141 #[.slice A n c] w fun e w'=>∃ g,e=.returned (.pointer (some ⟨g,0,none⟩))/\w.heap.size<=g/\PRd w' g l 0 0/\Below w.heap.size w w':=by
 have Hcall:=Lib.hid (pclone_any A n c l w hr hn)
 unfold Copied at Hcall
 go_enter Tryz.func141,Tryz.ntmps141
 go_wp2_with fail
 with_reducible refine (Hcall.out).mono ?_
 rintro e w1 ⟨A1,c1,rfl,g1,g2,o1,hb1⟩
 have hs1:=hb1.size
 have hr1:=own_reads o1
 clear o1
 go_wp2
 go_ret
 refine ⟨_,rfl,hs1,⟨Nat.zero_le _,A1,c1,Blk.new _ _ _,hr1.al _,?_,by simpa using g1,g2⟩,hb1.trans (((Below.refl _ _).alloc (Nat.le_refl _) _).mono hs1)⟩
 intro h0 ad hA
 obtain ⟨ad2,hA2,hlt,_⟩:=hr1.2 (by simpa using h0)
 rw [hA] at hA2
 cases hA2
 omega
end Go.Proofs.YtjpjalmilfgckaaGreatDoor
