/- Part 28 of the walks, merged: each text under its own heading. Conditions: none of its own; each lemma states what it asks. -/
import Derived.Test.YtjpjalmilfgckaaGreatDoorIm7
import Derived.Test.YtjpjalmilfgckaaGreatDoorIm11
import Derived.Test.YtjpjalmilfgckaaGreatDoorIm19
import Derived.Test.YtjpjalmilfgckaaGreatDoorIm22
import Derived.Test.YtjpjalmilfgckaaGreatDoorIm23
import Derived.Test.YtjpjalmilfgckaaGreatDoorIm26
import Derived.Test.YtjpjalmilfgckaaGreatDoorIm27
set_option maxRecDepth 100000
set_option linter.unusedVariables false
set_option linter.unusedSimpArgs false
namespace Go.Proofs.YtjpjalmilfgckaaGreatDoor
open Go.RowKit
attribute [local go_sem] Oper.semAt_some
structure FolK (B:Nat) (w2 W:World):Prop where
 low:Below (B+3) w2 W
 res:Blk W (B+3) 4 #[.bool false]
 fn:Blk W (B+4) 175 #[.func (.func 134) #[] #[]]
theorem FolK.belowL {B C:Nat} {w2 W W':World} (h:FolK B w2 W) (hb:Below C W W') (hB:B+4<C):FolK B w2 W':=
 ⟨h.low.trans (hb.mono (by omega)),h.res.belowL2 hb (by omega),h.fn.belowL2 hb (by omega)⟩
theorem FolK.on {B:Nat} {w2 W W':World} (h:FolK B w2 W) (hb:Below W.heap.size W W'):FolK B w2 W':=h.belowL hb h.fn.lt
theorem FolK.put {B:Nat} {w2 W:World} (h:FolK B w2 W) (l:Nat) (o:Obj) (hl:B+4<l) (hz:l<=W.heap.size):FolK B w2 (W.putObj l o):=
 ⟨h.low.trans (put_below _ _ _ _ (by omega) (by omega)),h.res.put2 o (by omega),h.fn.put2 o (by omega)⟩
set_option maxHeartbeats 8000000 in
theorem follows_any (CA:Option Addr) (cn cc:Nat) (KA:Option Addr) (kn kc:Nat) (s:Sc) (CB:Option Addr) (cm cd:Nat) (KB:Option Addr) (km kd:Nat) (t:Sc) (ab:Int) (w:World) (h:ScAt w CA cn KA kn s) (h2:ScAt w CB cm KB km t) (hcn:cn<=1000000) (hcm:cm<=1000000) (hkn:kn<=1000000) (hkm:km<=1000000) (hks:∀ k∈s.2,0<=k/\k<(s.1.length:Int)) (hkt:∀ k∈t.2,0<=k/\k<(t.1.length:Int)) :
  Calls Tryz.prog 78 #[.agg #[.slice CA cn cc,.slice KA kn kc],.agg #[.slice CB cm cd,.slice KB km kd],.int .i64 ab] w fun e w'=>e=.returned (.bool (folB s t ab))/\Below w.heap.size w w':=by
 obtain ⟨W0,hW0⟩:∃ W0,((((w.alloc (.cells #[.slice CA cn cc,.slice KA kn kc] 48)).alloc (.cells #[.slice CB cm cd,.slice KB km kd] 48)).alloc (.cells #[.int .i64 ab] 3)).alloc (.cells #[.bool false] 4)).alloc (.cells #[.nilFunc] 175)=W0:=⟨_,rfl⟩
 have hz0:W0.heap.size=w.heap.size+5:=by rw [<-hW0];simp
 have HB0:=Lib.hid (show Below w.heap.size w W0 by rw [<-hW0];exact bal (bal (bal (bal (bal (Below.refl _ _) _) _) _) _) _)
 have q0:Blk W0 w.heap.size 48 #[.slice CA cn cc,.slice KA kn kc]:=by rw [<-hW0];exact ((((Blk.new w _ _).alloc _).alloc _).alloc _).alloc _
 have q1:Blk W0 (w.heap.size+1) 48 #[.slice CB cm cd,.slice KB km kd]:=by rw [<-hW0];exact (((Blk.new' _ _ _ _ (by simp)).alloc _).alloc _).alloc _
 have q2:Blk W0 (w.heap.size+2) 3 #[.int .i64 ab]:=by rw [<-hW0];exact ((Blk.new' _ _ _ _ (by simp)).alloc _).alloc _
 have q3:Blk W0 (w.heap.size+3) 4 #[.bool false]:=by rw [<-hW0];exact (Blk.new' _ _ _ _ (by simp)).alloc _
 have q4:Blk W0 (w.heap.size+4) 175 #[.nilFunc]:=by rw [<-hW0];exact Blk.new' _ _ _ _ (by simp)
 obtain ⟨W,hW1⟩:∃ W,W0.setCell ⟨w.heap.size+4,0,none⟩ (.func (.func 134) #[] #[])=W:=⟨_,rfl⟩
 have hst:(store ⟨w.heap.size+1+1+1+1,0,none⟩ (.func (.func 134) #[] #[])).run Tryz.prog (((((w.alloc (.cells #[.slice CA cn cc,.slice KA kn kc] 48)).alloc (.cells #[.slice CB cm cd,.slice KB km kd] 48)).alloc (.cells #[.int .i64 ab] 3)).alloc (.cells #[.bool false] 4)).alloc (.cells #[.nilFunc] 175))=.ok () W:=by
  rw [hW0,<-hW1,run_store _ _ _ _ _ rfl,show w.heap.size+1+1+1+1=w.heap.size+4 from rfl,q4.cell 0,q4.frozen 0]
  rfl
 have HB:=Lib.hid (show Below w.heap.size w W by rw [<-hW1];exact HB0.out.setCell (p:=⟨w.heap.size+4,0,none⟩) (by show w.heap.size<=w.heap.size+4;omega) _)
 have hzW:W.heap.size=w.heap.size+5:=by rw [<-hW1];simpa [World.setCell] using hz0
 have BA:=Lib.hid (show Blk W w.heap.size 48 #[.slice CA cn cc,.slice KA kn kc] by rw [<-hW1];exact q0.far (p:=⟨w.heap.size+4,0,none⟩) (by show w.heap.size≠w.heap.size+4;omega) _)
 have BB:=Lib.hid (show Blk W (w.heap.size+1) 48 #[.slice CB cm cd,.slice KB km kd] by rw [<-hW1];exact q1.far (p:=⟨w.heap.size+4,0,none⟩) (by show w.heap.size+1≠w.heap.size+4;omega) _)
 have BX:=Lib.hid (show Blk W (w.heap.size+2) 3 #[.int .i64 ab] by rw [<-hW1];exact q2.far (p:=⟨w.heap.size+4,0,none⟩) (by show w.heap.size+2≠w.heap.size+4;omega) _)
 have BR:=Lib.hid (show Blk W (w.heap.size+3) 4 #[.bool false] by rw [<-hW1];exact q3.far (p:=⟨w.heap.size+4,0,none⟩) (by show w.heap.size+3≠w.heap.size+4;omega) _)
 have BF:=Lib.hid (show Blk W (w.heap.size+4) 175 #[.func (.func 134) #[] #[]] by rw [<-hW1];have:=q4.set_ 0 (.func (.func 134) #[] #[]);simpa using this)
 have HzW:=Lib.hid hzW
 have HA:=Lib.hid h
 have HT:=Lib.hid h2
 have Hks:=Lib.hid hks
 have Hkt:=Lib.hid hkt
 have b0:=BB.out.cell 0
 have b1:=BB.out.cell 1
 clear hW0 hz0 HB0 q0 q1 q2 q3 q4 hW1 hzW h h2 hks hkt
 refine (callsIn_wide (n:=10)).1 ?_
 refine callsIn_of_wp_marks Tryz.func78 rfl trivial ?_ rfl
 simp only [Tryz.ntmps78,List.size_toArray,List.length_cons,List.length_nil,Nat.reduceAdd,Nat.reduceSub,Array.replicate_succ,Array.replicate_zero,List.push_toArray,List.append_toArray,List.nil_append,List.cons_append]
 gi_wp2_with fail
 refine ⟨trivial,(callsIn_wide.2 (ids_any CB cm cd KB km kd W)).mono ?_⟩
 rintro e w2 ⟨rfl,hw2⟩
 have HC2:=Lib.hid (show Blk w2 W.heap.size 48 #[.slice CB cm cd,.slice KB km kd] by rw [hw2];exact Blk.new _ _ _)
 have hb2:Below W.heap.size W w2:=by rw [hw2];exact bal (Below.refl _ _) _
 have hz2:w2.heap.size=w.heap.size+6:=by rw [hw2];simp [HzW.out]
 have HB2:=Lib.hid (bon HB.out hb2)
 have BA:=Lib.hid (BA.out.on hb2)
 have BB:=Lib.hid (BB.out.on hb2)
 have BX:=Lib.hid (BX.out.on hb2)
 have HK0:=Lib.hid (show FolK w.heap.size w2 w2 from ⟨Below.refl _ _,BR.out.on hb2,BF.out.on hb2⟩)
 clear hw2 hb2 BR BF b0 b1 hst
 gi_wp2_with fail
 rw [show w.heap.size+1+1+1+1=w.heap.size+4 from rfl,show w.heap.size+1+1+1=w.heap.size+3 from rfl,show w.heap.size+1+1=w.heap.size+2 from rfl]
 have hb02:=HB2.out.size
 refine wpIn_rangeFunc_C (n:=10) (by decide) (gf:=185) (lb:=#[.pointer (some ⟨W.heap.size,0,none⟩)]) rfl (fun args w=>callFunc_in Tryz.func185 (by kernel_rfl) (by kernel_rfl) args w)
  (ids1_seq 9 (w.heap.size+3) W.heap.size CB cm cd (.slice KB km kd) t.1 w2 (by omega) HC2.out ((HT.out.cols.below HB2.out).more (by omega)) hcm) (Below.refl _ _) (fun _=>rfl) (show w.heap.size+3<=w2.heap.size by omega)
  (fun pre W=>pre.all (folF s ab)=true/\FolK w.heap.size w2 W)
  (fun cd pre W=>cd=.ret/\(∃ p d,pre=p++[d]/\folF s ab d=false)/\Blk W (w.heap.size+3) 4 #[.bool false]/\Below (w.heap.size+3) w2 W)
  (fun s A A' h hb=>⟨h.1,h.2.belowL hb (by omega)⟩) (fun _ s A A' h hb=>⟨h.1,h.2.1,h.2.2.1.belowL2 hb (by omega),h.2.2.2.trans (hb.mono (by omega))⟩) ⟨rfl,HK0.out⟩
  (fun pre x a1 W1=>pre.all (folF s ab)=true/\∃ b,a1={ tmps:=#[.agg #[.slice CA cn cc,.slice KA kn kc],.agg #[.slice CB cm cd,.slice KB km kd],.int .i64 ab,.pointer (some ⟨w.heap.size,0,none⟩),.pointer (some ⟨w.heap.size+1,0,none⟩),.pointer (some ⟨w.heap.size+2,0,none⟩),.pointer (some ⟨w.heap.size+3,0,none⟩),.pointer (some ⟨w.heap.size+4,0,none⟩),.int .i64 x.1,.pointer (some ⟨b,0,none⟩),undef,undef,.agg #[.slice CB cm cd,.slice KB km kd],.func (.func 185) #[] #[.pointer (some ⟨W.heap.size,0,none⟩)],.int .i64 x.1,.agg #[.int .i64 x.1,.string x.2.1,.int .i64 x.2.2.1,.bool x.2.2.2.1,.bool x.2.2.2.2.1,.int .i64 x.2.2.2.2.2.1,.string x.2.2.2.2.2.2],undef,undef,undef,undef,undef,undef,undef,undef,undef,undef,undef,undef,undef,undef,undef,undef,undef,undef,undef,undef,undef,undef,undef,undef,undef,undef,undef,undef,undef,undef,undef,undef],defers:=[] }/\w2.heap.size+2<=b/\Blk W1 b 45 #[.int .i64 x.1,.string x.2.1,.int .i64 x.2.2.1,.bool x.2.2.2.1,.bool x.2.2.2.2.1,.int .i64 x.2.2.2.2.2.1,.string x.2.2.2.2.2.2]/\FolK w.heap.size w2 W1)
  (fun pre x a1 W1 o h hz => by
   obtain ⟨g1,b,g2,g3,g4,g5⟩:=h
   exact ⟨g1,b,g2,g3,g4.put2 o (by omega),g5.put _ o (by omega) (by omega)⟩) ?assign ?body ?done ?stop
 case assign=>
  rintro l pre x W3 K ⟨hpre,hk⟩ hz hK
  have Hpre:=Lib.hid hpre
  have Hk:=Lib.hid hk
  have HK:=Lib.hid hK
  clear hpre hk hK
  gi_wp2
  exact HK.out _ _ ((Mid.refl _ _ _).alloc _) ⟨Hpre.out,_,rfl,hz,Blk.new _ _ _,Hk.out.on (bal (Below.refl _ _) _)⟩
 case body=>
  rintro l pre x a1 W3 ⟨hpre,b,rfl,hbz,hbx,hk⟩ hWs
  have a0:=(BA.out.belowL2 hk.low (by omega)).cell 0
  have a1:=(BA.out.belowL2 hk.low (by omega)).cell 1
  have Hpre:=Lib.hid hpre
  clear hpre
  gi_wp2_with fail
  have HA3:=Lib.hid (HA.out.on (HB2.out.trans (hk.low.mono (by omega))))
  refine ⟨trivial,((WideF.round l).calls (schplace_any x.1 CA cn cc KA kn kc s W3 HA3.out hcn)).mono ?_⟩
  rintro e W4 ⟨⟨k,co,rfl,hco,hfi⟩ | ⟨rfl,hno⟩,hb4⟩
  ·have hkn:k<cn:=by
    have:=(List.getElem?_eq_some_iff.1 hco).1
    rwa [cos_len HA3.out.cols] at this
   have hki:(k:Int)<(cn:Int):=by omega
   obtain ⟨ad,co2,rfl,hbk,hco2,hat⟩:=cos_at (HA3.out.on hb4).cols hkn
   obtain rfl:co2=co:=Option.some.inj (hco2.symm.trans hco)
   have Hfs:=Lib.hid (folF_some (ab:=ab) hfi)
   have c0:=hat.c0
   have R0:=Lib.hid (show ∀ w',Below W4.heap.size W4 w'->w'.cell? (ad.add (k*7))=_ from fun w' h=>(h.cell (World.block_lt_of_cell? _ _ hat.c0)).trans hat.c0)
   have R1:=Lib.hid (show ∀ w',Below W4.heap.size W4 w'->w'.cell? _=_ from fun w' h=>(h.cell (World.block_lt_of_cell? _ _ hat.c1)).trans hat.c1)
   have R2:=Lib.hid (show ∀ w',Below W4.heap.size W4 w'->w'.cell? _=_ from fun w' h=>(h.cell (World.block_lt_of_cell? _ _ hat.c2)).trans hat.c2)
   have R3:=Lib.hid (show ∀ w',Below W4.heap.size W4 w'->w'.cell? _=_ from fun w' h=>(h.cell (World.block_lt_of_cell? _ _ hat.c3)).trans hat.c3)
   have R4:=Lib.hid (show ∀ w',Below W4.heap.size W4 w'->w'.cell? _=_ from fun w' h=>(h.cell (World.block_lt_of_cell? _ _ hat.c4)).trans hat.c4)
   have R5:=Lib.hid (show ∀ w',Below W4.heap.size W4 w'->w'.cell? _=_ from fun w' h=>(h.cell (World.block_lt_of_cell? _ _ hat.c5)).trans hat.c5)
   have R6:=Lib.hid (show ∀ w',Below W4.heap.size W4 w'->w'.cell? _=_ from fun w' h=>(h.cell (World.block_lt_of_cell? _ _ hat.c6)).trans hat.c6)
   have Hk4:=Lib.hid (hk.on hb4)
   have Hx4:=Lib.hid (hbx.on hb4)
   have L7:=Lib.hid (show ∀ w',Below W4.heap.size W4 w'->w'.cell? ⟨w.heap.size+4,0,none⟩=some (.func (.func 134) #[] #[]) from fun w' h=>(Hk4.out.fn.on h).cell 0)
   have LA:=Lib.hid (show ∀ w',Below W4.heap.size W4 w'->w'.cell? ⟨w.heap.size,0,none⟩=some (.slice (some ad) cn cc) from fun w' h=>((BA.out.belowL2 (Hk4.out.low) (by omega)).on h).cell 0)
   have L5:=Lib.hid (show ∀ w',Below W4.heap.size W4 w'->w'.cell? ⟨w.heap.size+2,0,none⟩=some (.int .i64 ab) from fun w' h=>((BX.out.belowL2 (Hk4.out.low) (by omega)).on h).cell 0)
   have HM4:=Lib.hid (show Mid (w.heap.size+3) w2.heap.size W3 W4 from Mid.of_below hb4)
   have HW4:=Lib.hid (show w2.heap.size<=W4.heap.size from Nat.le_trans hWs hb4.size)
   have Y0:=Lib.hid (show ∀ w',Below W4.heap.size W4 w'->w'.cell? ⟨b,0,none⟩=some (.int .i64 x.1) from fun w' h=>(Hx4.out.on h).cell 0)
   have Y1:=Lib.hid (show ∀ w',Below W4.heap.size W4 w'->w'.cell? ⟨b,1,none⟩=some (.string x.2.1) from fun w' h=>(Hx4.out.on h).cell 1)
   have Y2:=Lib.hid (show ∀ w',Below W4.heap.size W4 w'->w'.cell? ⟨b,2,none⟩=some (.int .i64 x.2.2.1) from fun w' h=>(Hx4.out.on h).cell 2)
   have Y3:=Lib.hid (show ∀ w',Below W4.heap.size W4 w'->w'.cell? ⟨b,3,none⟩=some (.bool x.2.2.2.1) from fun w' h=>(Hx4.out.on h).cell 3)
   have Y4:=Lib.hid (show ∀ w',Below W4.heap.size W4 w'->w'.cell? ⟨b,4,none⟩=some (.bool x.2.2.2.2.1) from fun w' h=>(Hx4.out.on h).cell 4)
   have Y5:=Lib.hid (show ∀ w',Below W4.heap.size W4 w'->w'.cell? ⟨b,5,none⟩=some (.int .i64 x.2.2.2.2.2.1) from fun w' h=>(Hx4.out.on h).cell 5)
   have Y6:=Lib.hid (show ∀ w',Below W4.heap.size W4 w'->w'.cell? ⟨b,6,none⟩=some (.string x.2.2.2.2.2.2) from fun w' h=>(Hx4.out.on h).cell 6)
   clear a0 a1 c0 hk hbx hb4
   clear hco hco2 hat hbk hfi HA3
   have hS:Below W4.heap.size W4 W4.drew:=(Below.refl _ _).drew
   by_cases hst:staysB co2 x=true
   ·have Hall:=Lib.hid (show (pre++[x]).all (folF s ab)=true by rw [List.all_append,Hpre.out,List.all_cons,Hfs.out,hst];rfl)
    have Hst:=Lib.hid hst
    clear hst
    gi_wp2
    refine wpIn_region_keep (WideF.round l) (fun w'=>Below W4.heap.size W4 w') [(0,false),(1,false),(2,false),(3,false),(4,false),(5,false),(6,false),(7,false),(8,false),(9,true),(10,false),(11,false),(12,false),(13,false),(14,false),(15,false),(16,false),(17,false),(18,false),(19,false),(20,false)] (by kernel_rfl) (by kernel_rfl) (by kernel_rfl) (by kernel_rfl) ?_
    refine hP hS ?_
    refine hP hS ?_
    refine hP1 hS L7.out ?_
    refine hP hS ?_
    refine hP1 hS LA.out ?_
    refine hP hS ?_
    refine hP hS ?_
    refine hP7 hS R0.out R1.out R2.out R3.out R4.out R5.out R6.out ?_
    refine hP7 hS Y0.out Y1.out Y2.out Y3.out Y4.out Y5.out Y6.out ?_
    refine hE fun K hK=>?_
    go_simp
    with_reducible refine (stays_any co2.1 co2.2.1 co2.2.2.1 co2.2.2.2.1 co2.2.2.2.2.1 co2.2.2.2.2.2.1 co2.2.2.2.2.2.2 x.1 x.2.1 x.2.2.1 x.2.2.2.1 x.2.2.2.2.1 x.2.2.2.2.2.1 x.2.2.2.2.2.2 _).mono ?_
    rintro e W5 ⟨rfl,hb⟩
    rw [show staysB (co2.1,co2.2.1,co2.2.2.1,co2.2.2.2.1,co2.2.2.2.2.1,co2.2.2.2.2.2.1,co2.2.2.2.2.2.2) (x.1,x.2.1,x.2.2.1,x.2.2.2.1,x.2.2.2.2.1,x.2.2.2.2.2.1,x.2.2.2.2.2.2)=true from Hst.out]
    have HS:=Lib.hid (bon hS hb)
    clear hb
    refine held_go hK (by exact HS.out) fun hS=>?_
    clear hK K
    try simp only [zp]
    clear HS
    iterate 6
     refine hP hS ?_
    refine hO hS ?_
    refine hO hS ?_
    refine hO hS ?_
    refine hP hS ?_
    refine hP hS ?_
    refine held_end ?_
    refine inQ_end ?_
    have HK:=Lib.hid (Hk4.out.on hS)
    have HM:=Lib.hid (HM4.out.trans (Mid.of_below hS))
    gi_wp2
    exact ⟨HM.out,Hall.out,HK.out⟩
   have hst:staysB co2 x=false:=by simpa using hst
   have Hno:=Lib.hid (show folF s ab x=false by rw [Hfs.out,hst])
   have Hst:=Lib.hid hst
   clear hst
   gi_wp2
   refine wpIn_region_keep (WideF.round l) (fun w'=>Below W4.heap.size W4 w') [(0,false),(1,false),(2,false),(3,false),(4,false),(5,false),(6,false),(7,false),(8,false),(9,true),(10,false),(11,false),(12,false),(13,false),(14,false),(15,false),(16,false),(17,false),(18,false),(19,false),(20,false)] (by kernel_rfl) (by kernel_rfl) (by kernel_rfl) (by kernel_rfl) ?_
   refine hP hS ?_
   refine hP hS ?_
   refine hP1 hS L7.out ?_
   refine hP hS ?_
   refine hP1 hS LA.out ?_
   refine hP hS ?_
   refine hP hS ?_
   refine hP7 hS R0.out R1.out R2.out R3.out R4.out R5.out R6.out ?_
   refine hP7 hS Y0.out Y1.out Y2.out Y3.out Y4.out Y5.out Y6.out ?_
   refine hE fun K hK=>?_
   go_simp
   with_reducible refine (stays_any co2.1 co2.2.1 co2.2.2.1 co2.2.2.2.1 co2.2.2.2.2.1 co2.2.2.2.2.2.1 co2.2.2.2.2.2.2 x.1 x.2.1 x.2.2.1 x.2.2.2.1 x.2.2.2.2.1 x.2.2.2.2.2.1 x.2.2.2.2.2.2 _).mono ?_
   rintro e W5 ⟨rfl,hb⟩
   rw [show staysB (co2.1,co2.2.1,co2.2.2.1,co2.2.2.2.1,co2.2.2.2.2.1,co2.2.2.2.2.2.1,co2.2.2.2.2.2.2) (x.1,x.2.1,x.2.2.1,x.2.2.2.1,x.2.2.2.2.1,x.2.2.2.2.2.1,x.2.2.2.2.2.2)=false from Hst.out]
   have HS:=Lib.hid (bon hS hb)
   clear hb
   refine held_go hK (by exact HS.out) fun hS=>?_
   clear hK K
   try simp only [zp]
   clear HS
   iterate 3
    refine hP hS ?_
   refine hO hS ?_
   refine hO hS ?_
   refine hO hS ?_
   refine hO hS ?_
   refine hO hS ?_
   refine hO hS ?_
   refine hO hS ?_
   refine hP hS ?_
   refine held_end ?_
   refine inQ_end ?_
   have r0:=(Hk4.out.on hS).res.cell 0
   have f0:=(Hk4.out.on hS).res.frozen 0
   have HR:=(Hk4.out.on hS).res.set_ 0 (.bool false)
   simp only [List.setIfInBounds_toArray,List.set_cons_zero] at HR
   have HR:=Lib.hid HR
   have HKl:=Lib.hid (((Hk4.out.on hS).low).setCell (p:=⟨w.heap.size+3,0,none⟩) (Nat.le_refl _) (.bool false))
   have HM:=Lib.hid ((HM4.out.trans (Mid.of_below hS)).setCell (p:=⟨w.heap.size+3,0,none⟩) (Nat.le_refl _) (.inl (by show w.heap.size+3<w2.heap.size;omega)) (.bool false))
   gi_wp2
   exact ⟨HM.out,rfl,⟨_,_,rfl,Hno.out⟩,HR.out,HKl.out⟩
  have Hfs:=Lib.hid (folF_none (ab:=ab) hno)
  have c0:=hno
  have Hk4:=Lib.hid (hk.on hb4)
  have Hx4:=Lib.hid (hbx.on hb4)
  have L7:=Lib.hid (show ∀ w',Below W4.heap.size W4 w'->w'.cell? ⟨w.heap.size+4,0,none⟩=some (.func (.func 134) #[] #[]) from fun w' h=>(Hk4.out.fn.on h).cell 0)
  have LA:=Lib.hid (show ∀ w',Below W4.heap.size W4 w'->w'.cell? ⟨w.heap.size,0,none⟩=some (.slice (CA) cn cc) from fun w' h=>((BA.out.belowL2 (Hk4.out.low) (by omega)).on h).cell 0)
  have L5:=Lib.hid (show ∀ w',Below W4.heap.size W4 w'->w'.cell? ⟨w.heap.size+2,0,none⟩=some (.int .i64 ab) from fun w' h=>((BX.out.belowL2 (Hk4.out.low) (by omega)).on h).cell 0)
  have HM4:=Lib.hid (show Mid (w.heap.size+3) w2.heap.size W3 W4 from Mid.of_below hb4)
  have HW4:=Lib.hid (show w2.heap.size<=W4.heap.size from Nat.le_trans hWs hb4.size)
  have Y0:=Lib.hid (show ∀ w',Below W4.heap.size W4 w'->w'.cell? ⟨b,0,none⟩=some (.int .i64 x.1) from fun w' h=>(Hx4.out.on h).cell 0)
  have Y1:=Lib.hid (show ∀ w',Below W4.heap.size W4 w'->w'.cell? ⟨b,1,none⟩=some (.string x.2.1) from fun w' h=>(Hx4.out.on h).cell 1)
  have Y2:=Lib.hid (show ∀ w',Below W4.heap.size W4 w'->w'.cell? ⟨b,2,none⟩=some (.int .i64 x.2.2.1) from fun w' h=>(Hx4.out.on h).cell 2)
  have Y3:=Lib.hid (show ∀ w',Below W4.heap.size W4 w'->w'.cell? ⟨b,3,none⟩=some (.bool x.2.2.2.1) from fun w' h=>(Hx4.out.on h).cell 3)
  have Y4:=Lib.hid (show ∀ w',Below W4.heap.size W4 w'->w'.cell? ⟨b,4,none⟩=some (.bool x.2.2.2.2.1) from fun w' h=>(Hx4.out.on h).cell 4)
  have Y5:=Lib.hid (show ∀ w',Below W4.heap.size W4 w'->w'.cell? ⟨b,5,none⟩=some (.int .i64 x.2.2.2.2.2.1) from fun w' h=>(Hx4.out.on h).cell 5)
  have Y6:=Lib.hid (show ∀ w',Below W4.heap.size W4 w'->w'.cell? ⟨b,6,none⟩=some (.string x.2.2.2.2.2.2) from fun w' h=>(Hx4.out.on h).cell 6)
  clear a0 a1 c0 hk hbx hb4
  clear hno HA3
  have hS:Below W4.heap.size W4 W4.drew:=(Below.refl _ _).drew
  by_cases hlt:ab<x.1
  ·have Hall:=Lib.hid (show (pre++[x]).all (folF s ab)=true by rw [List.all_append,Hpre.out,List.all_cons,Hfs.out,decide_eq_true hlt];rfl)
   have e1:decide (x.1<=ab)=false:=decide_eq_false (by omega)
   gi_wp2
   refine wpIn_region_keep (WideF.round l) (fun w'=>Below W4.heap.size W4 w') [(0,false),(1,false),(2,false),(3,false),(4,false),(5,false),(6,false),(7,false),(8,false),(9,false),(10,false),(11,false),(12,false),(13,false),(14,false),(15,false),(16,false),(17,false),(18,false),(19,false),(20,false)] (by kernel_rfl) (by kernel_rfl) (by kernel_rfl) (by kernel_rfl) ?_
   refine hP hS ?_
   refine hP hS ?_
   refine hO hS ?_
   refine hO hS ?_
   refine hO hS ?_
   refine hO hS ?_
   refine hO hS ?_
   refine hO hS ?_
   refine hO hS ?_
   refine hO hS ?_
   refine hO hS ?_
   iterate 6
    refine hP hS ?_
   refine hP1 hS L5.out ?_
   iterate 3
    refine hP hS ?_
   refine held_end ?_
   refine inQ_end ?_
   have HK:=Lib.hid (Hk4.out.on hS)
   have HM:=Lib.hid (HM4.out.trans (Mid.of_below hS))
   gi_wp2
   exact ⟨HM.out,Hall.out,HK.out⟩
  have Hno:=Lib.hid (show folF s ab x=false by rw [Hfs.out,decide_eq_false hlt])
  have e1:decide (x.1<=ab)=true:=decide_eq_true (by omega)
  gi_wp2
  refine wpIn_region_keep (WideF.round l) (fun w'=>Below W4.heap.size W4 w') [(0,false),(1,false),(2,false),(3,false),(4,false),(5,false),(6,false),(7,false),(8,false),(9,false),(10,false),(11,false),(12,false),(13,false),(14,false),(15,false),(16,false),(17,false),(18,false),(19,false),(20,false)] (by kernel_rfl) (by kernel_rfl) (by kernel_rfl) (by kernel_rfl) ?_
  refine hP hS ?_
  refine hP hS ?_
  refine hO hS ?_
  refine hO hS ?_
  refine hO hS ?_
  refine hO hS ?_
  refine hO hS ?_
  refine hO hS ?_
  refine hO hS ?_
  refine hO hS ?_
  refine hO hS ?_
  iterate 6
   refine hP hS ?_
  refine hP1 hS L5.out ?_
  iterate 3
   refine hP hS ?_
  refine held_end ?_
  refine inQ_end ?_
  have r0:=(Hk4.out.on hS).res.cell 0
  have f0:=(Hk4.out.on hS).res.frozen 0
  have HR:=(Hk4.out.on hS).res.set_ 0 (.bool false)
  simp only [List.setIfInBounds_toArray,List.set_cons_zero] at HR
  have HR:=Lib.hid HR
  have HKl:=Lib.hid (((Hk4.out.on hS).low).setCell (p:=⟨w.heap.size+3,0,none⟩) (Nat.le_refl _) (.bool false))
  have HM:=Lib.hid ((HM4.out.trans (Mid.of_below hS)).setCell (p:=⟨w.heap.size+3,0,none⟩) (Nat.le_refl _) (.inl (by show w.heap.size+3<w2.heap.size;omega)) (.bool false))
  gi_wp2
  exact ⟨HM.out,rfl,⟨_,_,rfl,Hno.out⟩,HR.out,HKl.out⟩
 case done=>
  rintro D xs W3 hD rfl ⟨hpre,hk⟩ hK
  have HFB:=Lib.hid (folB_all hpre)
  have HL0:=Lib.hid (show ∀ w',Below (w.heap.size+3) w2 w'->w'.cell? ⟨w.heap.size,0,none⟩=some (.slice CA cn cc) from fun w' h=>(BA.out.belowL2 h (by omega)).cell 0)
  have HL1:=Lib.hid (show ∀ w',Below (w.heap.size+3) w2 w'->w'.cell? ⟨w.heap.size,1,none⟩=some (.slice KA kn kc) from fun w' h=>(BA.out.belowL2 h (by omega)).cell 1)
  have HL2:=Lib.hid (show ∀ w',Below (w.heap.size+3) w2 w'->w'.cell? ⟨w.heap.size+1,0,none⟩=some (.slice CB cm cd) from fun w' h=>(BB.out.belowL2 h (by omega)).cell 0)
  have HL3:=Lib.hid (show ∀ w',Below (w.heap.size+3) w2 w'->w'.cell? ⟨w.heap.size+1,1,none⟩=some (.slice KB km kd) from fun w' h=>(BB.out.belowL2 h (by omega)).cell 1)
  have HR:=Lib.hid hk.res
  have HD:=Lib.hid hK
  have hDl:D<W3.heap.size:=(Array.getElem?_eq_some_iff.1 hK).1
  have hS:Below (w.heap.size+3) w2 W3.drew:=hk.low.drew
  have HR:=Lib.hid (show Blk W3.drew (w.heap.size+3) 4 #[.bool false] from HR.out.drew)
  have HD:=Lib.hid (show W3.drew.heap[D]? = some (.deferred (some [])) from hK)
  have hDl:D<W3.drew.heap.size:=hDl
  clear hpre hk hK
  gi_wp2
  refine wpIn_region_keep (WideF.wide) (fun w'=>Below (w.heap.size+3) w2 w') [(0,false),(2,false),(1,true),(3,true),(4,true),(5,true)] (by kernel_rfl) (by kernel_rfl) (by kernel_rfl) (by kernel_rfl) ?_
  refine hP2 hS HL0.out HL1.out ?_
  refine hP2 hS HL2.out HL3.out ?_
  refine hE fun K hK=>?_
  go_simp
  with_reducible refine (keys_any CA cn cc KA kn kc s _ (HA.out.on (HB2.out.trans (hS.mono (by omega)))) hcn hkn Hks.out).mono ?_
  rintro e W5 ⟨A5,c5,rfl,hr5,hb⟩
  have HS:=Lib.hid (hS.trans (hb.mono (Nat.le_trans (by omega) (show w2.heap.size<=_ from hS.size))))
  have HR:=Lib.hid (HR.out.on hb)
  have HD:=Lib.hid ((hb.block D hDl).trans HD.out)
  have hDl:=Nat.lt_of_lt_of_le hDl hb.size
  have HQ5:=Lib.hid hr5
  clear hb hr5
  refine held_go hK (by exact HS.out) fun hS=>?_
  clear hK K
  try simp only [zp]
  clear HS
  refine hE fun K hK=>?_
  go_simp
  with_reducible refine (keys_any CB cm cd KB km kd t _ (HT.out.on (HB2.out.trans (hS.mono (by omega)))) hcm hkm Hkt.out).mono ?_
  rintro e W6 ⟨A6,c6,rfl,hr6,hb⟩
  have HS:=Lib.hid (hS.trans (hb.mono (Nat.le_trans (by omega) (show w2.heap.size<=_ from hS.size))))
  have HR:=Lib.hid (HR.out.on hb)
  have HD:=Lib.hid ((hb.block D hDl).trans HD.out)
  have hDl:=Nat.lt_of_lt_of_le hDl hb.size
  have HQ5:=Lib.hid (HQ5.out.on hb)
  have HQ6:=Lib.hid hr6
  clear hb hr6
  refine held_go hK (by exact HS.out) fun hS=>?_
  clear hK K
  try simp only [zp]
  clear HS
  refine hE fun K hK=>?_
  go_simp
  with_reducible refine (ieq_any A5 A6 kn c5 km c6 (keysL s) (keysL t) _ HQ5.out HQ6.out (by simp only [maxLen];omega)).mono ?_
  rintro e W7 ⟨rfl,hb⟩
  have HS:=Lib.hid (hS.trans (hb.mono (Nat.le_trans (by omega) (show w2.heap.size<=_ from hS.size))))
  have HR:=Lib.hid (HR.out.on hb)
  have HD:=Lib.hid ((hb.block D hDl).trans HD.out)
  have hDl:=Nat.lt_of_lt_of_le hDl hb.size
  clear hb HQ5 HQ6
  rw [<-HFB.out]
  refine held_go hK (by exact HS.out) fun hS=>?_
  clear hK K
  try simp only [zp]
  clear HS
  obtain ⟨fv,hfv⟩:∃ fv,folB s t ab=fv:=⟨_,rfl⟩
  have Hfv:=Lib.hid hfv
  rw [hfv]
  clear hfv HFB
  have r0:=HR.out.cell 0
  have f0:=HR.out.frozen 0
  refine hE fun K hK=>?_
  go_simp
  clear r0 f0
  have HR2:=HR.out.set_ 0 (.bool fv)
  simp only [List.setIfInBounds_toArray,List.set_cons_zero] at HR2
  have HR2:=Lib.hid HR2
  have HS:=Lib.hid (hS.setCell (p:=⟨w.heap.size+3,0,none⟩) (Nat.le_refl _) (.bool fv))
  have HD2:=Lib.hid ((Below.heap_setCell W7 ⟨w.heap.size+3,0,none⟩ (.bool fv) D (by show D≠w.heap.size+3;omega)).trans HD.out)
  refine held_go hK (by exact HS.out) fun hS=>?_
  clear hK K
  try simp only [zp]
  clear HS
  refine held_end ?_
  refine inQ_end ?_
  have k0:=HR2.out.cell 0
  gi_wp2
  refine ⟨by simp,.inl ⟨_,_,rfl,run_takeDeferred HD2.out,?_⟩⟩
  have hDl:D<(W7.setCell ⟨w.heap.size+3,0,none⟩ (.bool fv)).heap.size:=(Array.getElem?_eq_some_iff.1 HD2.out).1
  have hpb:=put_below (W7.setCell ⟨w.heap.size+3,0,none⟩ (.bool fv)) D (.deferred none) w2.heap.size (by omega) hD
  have k0:=(HR2.out.belowL2 hpb (by omega)).cell 0
  refine ⟨.bool fv,by simp [results,Tryz.results78,go_sem,k0],by rw [Hfv.out],(HB2.out.trans (hS.mono (by omega))).trans (hpb.mono hb02)⟩
 case stop=>
  rintro D cd pre W3 hD hpre ⟨rfl,⟨p,d,rfl,hf⟩,hr,hb⟩ hK
  have Hfv:=Lib.hid (folB_no hpre hf)
  have HR2:=Lib.hid hr
  have HD2:=Lib.hid hK
  have hS:Below (w.heap.size+3) w2 W3:=hb
  clear hf hr hb hK hpre
  have k0:=HR2.out.cell 0
  gi_wp2
  refine ⟨by simp,.inl ⟨_,_,rfl,run_takeDeferred HD2.out,?_⟩⟩
  have hDl:D<W3.heap.size:=(Array.getElem?_eq_some_iff.1 HD2.out).1
  have hpb:=put_below W3 D (.deferred none) w2.heap.size (by omega) hD
  have k0:=(HR2.out.belowL2 hpb (by omega)).cell 0
  refine ⟨.bool false,by simp [results,Tryz.results78,go_sem,k0],by rw [Hfv.out],(HB2.out.trans (hS.mono (by omega))).trans (hpb.mono hb02)⟩
end Go.Proofs.YtjpjalmilfgckaaGreatDoor
namespace Go.Proofs.YtjpjalmilfgckaaGreatDoor
open Go.RowKit
abbrev Sh:=(Option Addr×Nat×Nat)×(Option Addr×Nat×Nat)
def scV (h:Sh):List Value:=[.slice h.1.1 h.1.2.1 h.1.2.2,.slice h.2.1 h.2.2.1 h.2.2.2]
def SchsAt (w:World) (B:Nat) (A:Option Addr) (n:Nat) (l:List Sc):Prop:=
 ∃ hs:List Sh,Reads w B 2 A n (hs.flatMap scV)/\hs.length=l.length/\∀ (j:Nat) h s,hs[j]? = some h->l[j]? = some s->Reads w B 7 h.1.1 h.1.2.1 (cos s.1)/\Reads w B 1 h.2.1 h.2.2.1 (ins s.2)/\h.1.2.1<=1000000/\h.2.2.1<=1000000
section
variable {w w':World} {B B' n k:Nat} {A:Option Addr} {l:List Sc}
theorem SchsAt.below (h:SchsAt w B A n l) (hb:Below B w w'):SchsAt w' B A n l:=by
 obtain ⟨hs,h1,h2,h3⟩:=h
 exact ⟨hs,h1.below hb,h2,fun j g s a b=>⟨(h3 j g s a b).1.below hb,(h3 j g s a b).2.1.below hb,(h3 j g s a b).2.2⟩⟩
theorem SchsAt.more (h:SchsAt w B A n l) (hB:B<=B'):SchsAt w B' A n l:=by
 obtain ⟨hs,h1,h2,h3⟩:=h
 exact ⟨hs,h1.more hB,h2,fun j g s a b=>⟨(h3 j g s a b).1.more hB,(h3 j g s a b).2.1.more hB,(h3 j g s a b).2.2⟩⟩
theorem SchsAt.on (h:SchsAt w w.heap.size A n l) (hb:Below w.heap.size w w'):SchsAt w' w'.heap.size A n l:=(h.below hb).more hb.size
theorem SchsAt.len (h:SchsAt w B A n l):l.length=n:=by
 obtain ⟨hs,h1,h2,-⟩:=h
 have:=h1.1
 rw [flatMap_length _ 2 (fun _=>rfl)] at this
 omega
theorem SchsAt.nil:SchsAt w B none 0 []:=⟨[],Reads.none_,rfl,fun j g s h=>by simp at h⟩
theorem SchsAt.at_ (h:SchsAt w w.heap.size A n l) (hk:k<n):∃ (ad:Addr) (g:Sh) (s:Sc),A=some ad/\ad.block<w.heap.size/\l[k]? = some s/\w.cell? (ad.add (k*2))=some (.slice g.1.1 g.1.2.1 g.1.2.2)/\w.cell? ⟨(ad.add (k*2)).block,(ad.add (k*2)).off+1,none⟩=some (.slice g.2.1 g.2.2.1 g.2.2.2)/\ScAt w g.1.1 g.1.2.1 g.2.1 g.2.2.1 s/\g.1.2.1<=1000000/\g.2.2.1<=1000000:=by
 have hl:=h.len
 obtain ⟨hs,h1,h2,h3⟩:=h
 obtain ⟨ad,e,hb,hc⟩:=h1.2 (by omega)
 have hkh:k<hs.length:=by omega
 have key:∀ j v,(scV hs[k])[j]? = some v->w.cell? ((ad.add (k*2)).add j)=some v:=fun j v hv=>by
  have hj:j<2:=(List.getElem?_eq_some_iff.1 hv).1
  rw [add_of_add]
  exact hc _ _ (by rw [flatMap_at _ 2 (fun _=>rfl) hs k j hs[k] (List.getElem?_eq_getElem hkh) hj];exact hv)
 have hx:=h3 k hs[k] l[k] (List.getElem?_eq_getElem hkh) (List.getElem?_eq_getElem (by omega))
 refine ⟨ad,hs[k],l[k],e,hb,List.getElem?_eq_getElem (by omega),?_,?_,⟨hx.1,hx.2.1⟩,hx.2.2⟩
 ·have:=key 0 _ rfl
  rwa [addc_zero] at this
 have:=key 1 _ rfl
 rwa [addc_pos _ _ (by decide)] at this
end
theorem ch1_any (CA:Option Addr) (cn cc:Nat) (KA:Option Addr) (kn kc:Nat) (s:Sc) (w:World) (h:ScAt w CA cn KA kn s) (hcn:cn<=1000000) (hkn:kn<=1000000) (hok:ScOk s) (hT:Tabs w) :
  Calls Tryz.prog 76 #[.agg #[.slice CA cn cc,.slice KA kn kc]] w fun e w'=>e=.returned (.bool (!schB s))/\Below w.heap.size w w':=by
 have hb:=bal (Below.refl w.heap.size w) (.cells #[.slice CA cn cc,.slice KA kn kc] 48)
 have BX:=Lib.hid (Blk.new w 48 #[.slice CA cn cc,.slice KA kn kc])
 have HK:=Lib.hid (scheck_any CA cn cc KA kn kc s (w.alloc (.cells #[.slice CA cn cc,.slice KA kn kc] 48)) (h.on hb) hcn hkn hok (hT.on hb))
 have HB:=Lib.hid hb
 have c0:=BX.out.cell 0
 have c1:=BX.out.cell 1
 clear h hT hb
 go_enter Tryz.func76,Tryz.ntmps76
 go_wp2_with fail
 with_reducible refine HK.out.mono ?_
 rintro e w1 ⟨rfl,hb1⟩
 have HB:=Lib.hid (bon HB.out hb1)
 clear hb1 c0 c1 HK
 cases hs:schB s with
 | true=>
  rw [schE_yes hs]
  have HS:=Lib.hid hs
  clear hs
  go_wp2
  go_ret
  exact ⟨by rw [HS.out];rfl,HB.out⟩
 | false=>
  rw [schE_no hs]
  have HS:=Lib.hid hs
  clear hs
  go_wp2
  go_ret
  exact ⟨by rw [HS.out];rfl,HB.out⟩
end Go.Proofs.YtjpjalmilfgckaaGreatDoor
namespace Go.Proofs.YtjpjalmilfgckaaGreatDoor
open Go.RowKit
set_option maxHeartbeats 1000000 in
theorem chidx_any (A:Option Addr) (n c:Nat) (l:List Sc) (w:World) (hr:SchsAt w w.heap.size A n l) (hn:n<=maxLen) (hok:∀ s∈l,ScOk s) (hT:Tabs w) :
  Calls Tryz.prog 129 #[.slice A n c,.func (.func 76) #[] #[]] w fun e w'=>(∃ r:Int,e=.returned (.int .i64 r)/\(!decide (0<=r))=l.all schB)/\Below w.heap.size w w':=by
 have Hr:=Lib.hid hr
 have HT:=Lib.hid hT
 have Hok:=Lib.hid hok
 have Hl:=Lib.hid hr.len
 have hn63:n<=9223372036854775807:=by simp only [maxLen] at hn;omega
 have hin:=callFunc_in Tryz.func76 (by kernel_rfl) (by kernel_rfl)
 clear hr hn hT hok
 go_enter Tryz.func129,Tryz.ntmps129
 go_wp2
 go_loopw [8] (fun i wr=>∃ k:Nat,k<=n/\i=.int .i64 (k:Int)/\Hid (∀ j c,j<k->l[j]? = some c->schB c=true)/\Hid (Below w.heap.size w wr)) (fun i _=>n-(intOf i).toNat)
 case atStart=>exact ⟨0,Nat.zero_le _,rfl,Lib.hid (fun j c h=>by omega),Lib.hid (Below.refl _ _)⟩
 case round=>
  obtain ⟨k,hk,rfl,HN,HB⟩:=hrel
  by_cases hlt:k<n
  ·obtain ⟨ad,g,s,rfl,hbk,hit,a0,a1,hsc,g1,g2⟩:=(Hr.out.on HB.out).at_ hlt
   have Hit:=Lib.hid hit
   have Hsc:=Lib.hid hsc
   have hki:(k:Int)<(n:Int):=by omega
   clear hit hbk hsc
   go_wp2_with fail
   with_reducible refine (ch1_any g.1.1 g.1.2.1 g.1.2.2 g.2.1 g.2.2.1 g.2.2.2 s _ Hsc.out g1 g2 (Hok.out s (List.mem_of_getElem? Hit.out)) (HT.out.on HB.out)).mono ?_
   rintro e w1 ⟨rfl,hb1⟩
   have HB2:=Lib.hid (bon HB.out hb1)
   clear hb1 a0 a1
   cases hm:schB s with
   | true=>
    have HN2:=Lib.hid (show ∀ j c,j<k+1->l[j]? = some c->schB c=true from fun j c hj hc=>by
     rcases Nat.lt_or_ge j k with h | h
     ·exact HN.out j c h hc
     obtain rfl:j=k:=by omega
     rw [Hit.out] at hc
     cases hc
     exact hm)
    clear hm
    go_wp2
    go_roundw
    case rel=>exact ⟨k+1,by omega,by go_num,HN2,HB2⟩
    case measure=>simp [intOf];omega
   | false=>
    have HE:=Lib.hid (show (!decide (0<=(k:Int)))=l.all schB by
     have h1:l.all schB=false:=by
      rw [List.all_eq_false]
      exact ⟨_,List.mem_of_getElem? Hit.out,by simp [hm]⟩
     rw [h1]
     simp)
    clear hm
    go_wp2
    go_ret
    exact ⟨⟨_,rfl,HE.out⟩,HB2.out⟩
  obtain rfl:k=n:=by omega
  have HE:=Lib.hid (show (!decide (0<=(-1:Int)))=l.all schB by
   have h1:l.all schB=true:=by
    rw [List.all_eq_true]
    intro c hc
    obtain ⟨j,hj⟩:=List.getElem?_of_mem hc
    exact HN.out j c (by have:=(List.getElem?_eq_some_iff.1 hj).1;rw [Hl.out] at this;exact this) hj
   rw [h1]
   rfl)
  go_wp2
  go_ret
  exact ⟨⟨_,rfl,HE.out⟩,HB.out⟩
theorem chin_any (A:Option Addr) (n c:Nat) (l:List Sc) (w:World) (hr:SchsAt w w.heap.size A n l) (hn:n<=maxLen) (hok:∀ s∈l,ScOk s) (hT:Tabs w) :
  Calls Tryz.prog 75 #[.slice A n c,.func (.func 76) #[] #[]] w fun e w'=>e=.returned (.bool (!l.all schB))/\Below w.heap.size w w':=by
 have HA:=Lib.hid (chidx_any A n c l w hr hn hok hT)
 clear hr hn hok hT
 go_enter Tryz.func75,Tryz.ntmps75
 go_wp2_with fail
 with_reducible refine HA.out.mono ?_
 rintro e w1 ⟨⟨r,rfl,he⟩,hb1⟩
 have HB:=Lib.hid hb1
 have HE:=Lib.hid he
 clear hb1 he HA
 go_wp2
 go_ret
 exact ⟨by rw [<-HE.out,Bool.not_not];rfl,HB.out⟩
end Go.Proofs.YtjpjalmilfgckaaGreatDoor
namespace Go.Proofs.YtjpjalmilfgckaaGreatDoor
open Go.RowKit
theorem schB_parts {s:Sc} (h:schB s=true):risesB 0 ((s.1.length:Int)-1) s.2=true/\s.1.length<=32/\s.2.length<=8:=by
 unfold schB at h
 simp only [Bool.and_eq_true,decide_eq_true_eq] at h
 exact ⟨h.1.2,h.1.1.1.1.1.2.2,h.1.1.2⟩
theorem schB_keys {s:Sc} (h:schB s=true):∀ k∈s.2,0<=k/\k<(s.1.length:Int):=by
 intro k hk
 have:=rises_in (schB_parts h).1 k hk
 omega
theorem chainE_big {l:List Sc} (h:64<l.length):chainE l=5:=by unfold chainE;rw [if_pos h]
theorem chainE_bad {l:List Sc} (h:l.length<=64) (ha:l.all schB=false):chainE l=2:=by unfold chainE;rw [if_neg (by omega),if_neg (by rw [ha];decide)]
theorem chainE_good {l:List Sc} {q:Bool} (h:l.length<=64) (ha:l.all schB=true) (hc:chainF 0 none l=q):chainE l=if q then 0 else 120:=by unfold chainE;rw [if_neg (by omega),if_pos ha,hc]
theorem prevL_zero {α:Type} (l:List α):prevL l 0=none:=rfl
theorem prevL_pos {α:Type} {l:List α} {i:Nat} {x:α} (hi:0<i) (h:l[i-1]? = some x):prevL l i=some x:=by unfold prevL;rw [if_neg (by omega)];exact h
set_option maxHeartbeats 4000000 in
theorem chain_any (A:Option Addr) (n c:Nat) (l:List Sc) (w:World) (hr:SchsAt w w.heap.size A n l) (hn:n<=c) (hc:c<=maxLen) (hok:∀ s∈l,ScOk s) (hT:Tabs w) :
  Calls Tryz.prog 27 #[.slice A n c] w fun e w'=>e=.returned (.int .i64 (chainE l))/\Below w.heap.size w w':=by
 have Hr:=Lib.hid hr
 have Hl:=Lib.hid hr.len
 have hn63:n<=9223372036854775807:=by simp only [maxLen] at hc;omega
 have HA:=Lib.hid (chin_any A n c l w hr (by omega) hok hT)
 clear hr hok hT
 by_cases hbig:64<n
 ·have e1:decide ((64:Int)<(n:Int))=true:=by simp;omega
  have e2:(64:Int)<(n:Int):=by omega
  have HE:=Lib.hid (chainE_big (l:=l) (by rw [Hl.out];exact hbig))
  clear hbig
  go_enter Tryz.func27,Tryz.ntmps27
  go_wp2
  go_ret
  exact ⟨by rw [HE.out];rfl,Below.refl _ _⟩
 have e1:decide ((64:Int)<(n:Int))=false:=by simp;omega
 have e2:¬(64:Int)<(n:Int):=by omega
 have hn64:n<=64:=by omega
 clear hbig
 go_enter Tryz.func27,Tryz.ntmps27
 go_wp2_with fail
 with_reducible refine HA.out.mono ?_
 rintro e w1 ⟨rfl,hb1⟩
 have HB:=Lib.hid hb1
 clear hb1 HA
 cases hall:l.all schB with
 | false=>
  have HE:=Lib.hid (chainE_bad (l:=l) (by rw [Hl.out];exact hn64) hall)
  clear hall
  go_wp2
  go_ret
  exact ⟨by rw [HE.out];rfl,HB.out⟩
 | true=>
  have Hall:=Lib.hid (show ∀ s∈l,schB s=true from fun s hs=>List.all_eq_true.1 hall s hs)
  have HE:=Lib.hid (fun q hq=>chainE_good (l:=l) (q:=q) (by rw [Hl.out];exact hn64) hall hq)
  clear hall
  go_wp2
  go_loopw [3,13] (fun av iv wr=>∃ (i:Nat) (ab:Int),i<=n/\av=.int .i64 ab/\iv=.int .i64 (i:Int)/\Hid (chainF 0 none l=chainF ab (prevL l i) (l.drop i))/\Hid (Below w.heap.size w wr)) (fun _ iv _=>n-(intOf iv).toNat)
  case atStart=>exact ⟨0,0,Nat.zero_le _,rfl,rfl,Lib.hid (chainF_zero l),HB⟩
  case round=>
   clear HB
   obtain ⟨i,ab,hi,rfl,rfl,HF,HB⟩:=hrel
   by_cases hlt:i<n
   ·have hii:(i:Int)<(n:Int):=by omega
    have d1:decide ((i:Int)<(n:Int))=true:=by simp;omega
    obtain ⟨ad,g,s,rfl,hbk,hs,c0,c1,hsc,hg1,hg2⟩:=(Hr.out.on HB.out).at_ hlt
    have Hs:=Lib.hid hs
    have Hsc:=Lib.hid hsc
    have HSt:=Lib.hid (chainF_step ab hs)
    have Hks:=Lib.hid (schB_keys (Hall.out s (List.mem_of_getElem? hs)))
    have C0:=Lib.hid (show ∀ w',Below wr.heap.size wr w'->w'.cell? (ad.add (i*2))=some (.slice g.1.1 g.1.2.1 g.1.2.2) from fun w' h=>(h.cell (World.block_lt_of_cell? _ _ c0)).trans c0)
    clear hs hsc hbk
    obtain ⟨W,hW⟩:∃ W,wr.alloc (.cells #[.slice g.1.1 g.1.2.1 g.1.2.2,.slice g.2.1 g.2.2.1 g.2.2.2] 48)=W:=⟨_,rfl⟩
    have BX:=Lib.hid (show Blk W wr.heap.size 48 #[.slice g.1.1 g.1.2.1 g.1.2.2,.slice g.2.1 g.2.2.1 g.2.2.2] by rw [<-hW];exact Blk.new _ _ _)
    have HBW:=Lib.hid (show Below wr.heap.size wr W by rw [<-hW];exact bal (Below.refl _ _) _)
    have hS:Below W.heap.size W W.drew:=(Below.refl _ _).drew
    by_cases h0:i=0
    ·have d2:decide ((0:Int)<(i:Int))=false:=by simp;omega
     have d5:decide (0<i)=false:=by simp;omega
     have HF2:=Lib.hid (show chainF 0 none l=chainF (max ab (greatL s)) (prevL l (i+1)) (l.drop (i+1)) by rw [HF.out,HSt.out,h0,prevL_zero];rfl)
     clear h0
     go_wp2
     try rw [hW]
     clear hW c0 c1
     refine hR (fun w'=>Below W.heap.size W w') [ff 0,ff 1,ff 2,ff 3,ff 4,ff 5,ff 6,ff 7,ff 8,ff 9,ff 10,ff 11,ff 12] ?_
     iterate 3
      refine hP hS ?_
     refine hO hS ?_
     refine hO hS ?_
     refine hO hS ?_
     refine hO hS ?_
     refine hO hS ?_
     refine hO hS ?_
     refine hO hS ?_
     refine hO hS ?_
     refine hO hS ?_
     refine hP hS ?_
     refine held_end ?_
     have HBr:=Lib.hid (bon HB.out (HBW.out.trans (hS.mono HBW.out.size)))
     have BX2:=Lib.hid (BX.out.on hS)
     have x0:=BX2.out.cell 0
     have x1:=BX2.out.cell 1
     have HScr:=Lib.hid ((Hsc.out.on HBW.out).on hS)
     clear hS
     go_wp2_with fail
     with_reducible refine (greatest_any g.1.1 g.1.2.1 g.1.2.2 g.2.1 g.2.2.1 g.2.2.2 s _ HScr.out hg1).mono ?_
     rintro e W6 ⟨rfl,hb6⟩
     have HB6:=Lib.hid (bon HBr.out hb6)
     clear hb6 x0 x1
     generalize greatL s=gs at *
     go_wp2
     go_roundw
     case rel=>exact ⟨i+1,_,by omega,rfl,by go_num,HF2,HB6⟩
     case measure=>simp [intOf];omega
    obtain ⟨j,hj⟩:∃ j,i=j+1:=⟨i-1,by omega⟩
    have d2:decide ((0:Int)<(i:Int))=true:=by simp;omega
    have d3:(0:Int)<(i:Int):=by omega
    have d5:decide (0<i)=true:=by simp;omega
    have d6:0<i:=by omega
    have hjn:j<n:=by omega
    have hjni:(j:Int)<(n:Int):=by omega
    have Hw:=Lib.hid (show IntKind.i64.wrap ((i:Int)-1)=(j:Int) by rw [i64_wrap _ (by omega) (by omega)];omega)
    obtain ⟨ad2,g2,s2,hadd,hbk2,hs2,e0,e1',hsc2,hg3,hg4⟩:=(Hr.out.on HB.out).at_ hjn
    obtain rfl:ad=ad2:=Option.some.inj hadd
    have Hks2:=Lib.hid (schB_keys (Hall.out s2 (List.mem_of_getElem? hs2)))
    have Hsc2:=Lib.hid hsc2
    have HSt:=Lib.hid (show chainF 0 none l=(folB s2 s ab&&chainF (max ab (greatL s)) (prevL l (i+1)) (l.drop (i+1))) by
     rw [HF.out,HSt.out,prevL_pos (l:=l) (i:=i) (x:=s2) (by omega) (by rw [hj];exact hs2)]
     rfl)
    have E0:=Lib.hid (show ∀ w',Below W.heap.size W w'->w'.cell? (ad.add (j*2))=some (.slice g2.1.1 g2.1.2.1 g2.1.2.2) from fun w' h=>((HBW.out.trans (h.mono HBW.out.size)).cell (World.block_lt_of_cell? _ _ e0)).trans e0)
    have E1:=Lib.hid (show ∀ w',Below W.heap.size W w'->w'.cell? ⟨(ad.add (j*2)).block,(ad.add (j*2)).off+1,none⟩=some (.slice g2.2.1 g2.2.2.1 g2.2.2.2) from fun w' h=>((HBW.out.trans (h.mono HBW.out.size)).cell (World.block_lt_of_cell? _ _ e1')).trans e1')
    have X0:=Lib.hid (show ∀ w',Below W.heap.size W w'->w'.cell? ⟨wr.heap.size,0,none⟩=some (.slice g.1.1 g.1.2.1 g.1.2.2) from fun w' h=>(BX.out.on h).cell 0)
    have X1:=Lib.hid (show ∀ w',Below W.heap.size W w'->w'.cell? ⟨wr.heap.size,1,none⟩=some (.slice g.2.1 g.2.2.1 g.2.2.2) from fun w' h=>(BX.out.on h).cell 1)
    have HC:=Lib.hid (fun w' (h:Below W.heap.size W w')=>follows_any g2.1.1 g2.1.2.1 g2.1.2.2 g2.2.1 g2.2.2.1 g2.2.2.2 s2 g.1.1 g.1.2.1 g.1.2.2 g.2.1 g.2.2.1 g.2.2.2 s ab w' ((Hsc2.out.on HBW.out).on h) ((Hsc.out.on HBW.out).on h) hg3 hg1 hg4 hg2 Hks2.out Hks.out)
    clear hj h0 hbk2 hs2 e0 e1' hsc2 hadd
    cases hfb:folB s2 s ab with
    | true=>
     have HF2:=Lib.hid (show chainF 0 none l=chainF (max ab (greatL s)) (prevL l (i+1)) (l.drop (i+1)) by rw [HSt.out,hfb,Bool.true_and])
     have Hfb:=Lib.hid hfb
     clear hfb
     go_wp2
     try rw [hW]
     clear hW c0 c1
     refine hR (fun w'=>Below W.heap.size W w') [ff 0,ff 1,ff 2,ff 3,ff 4,ff 5,ff 6,ff 7,ff 8,ff 9,tt 10,ff 11,ff 12] ?_
     iterate 5
      refine hP hS ?_
     refine hP hS ?_
     rw [Hw.out]
     refine hP hS ?_
     refine hP2 hS E0.out E1.out ?_
     refine hP2 hS X0.out X1.out ?_
     refine hP hS ?_
     refine hE fun K hK=>?_
     go_simp
     with_reducible refine (HC.out _ hS).mono ?_
     rintro e W5 ⟨rfl,hb⟩
     rw [Hfb.out]
     have HS:=Lib.hid (bon hS hb)
     clear hb
     refine held_go hK (by exact HS.out) fun hS=>?_
     clear hK K
     try simp only [zp]
     clear HS
     refine hP hS ?_
     refine hP hS ?_
     refine held_end ?_
     have HBr:=Lib.hid (bon HB.out (HBW.out.trans (hS.mono HBW.out.size)))
     have BX2:=Lib.hid (BX.out.on hS)
     have x0:=BX2.out.cell 0
     have x1:=BX2.out.cell 1
     have HScr:=Lib.hid ((Hsc.out.on HBW.out).on hS)
     clear hS
     go_wp2_with fail
     with_reducible refine (greatest_any g.1.1 g.1.2.1 g.1.2.2 g.2.1 g.2.2.1 g.2.2.2 s _ HScr.out hg1).mono ?_
     rintro e W6 ⟨rfl,hb6⟩
     have HB6:=Lib.hid (bon HBr.out hb6)
     clear hb6 x0 x1
     generalize greatL s=gs at *
     go_wp2
     go_roundw
     case rel=>exact ⟨i+1,_,by omega,rfl,by go_num,HF2,HB6⟩
     case measure=>simp [intOf];omega
    | false=>
     have HF2:=Lib.hid (show chainF 0 none l=false by rw [HSt.out,hfb,Bool.false_and])
     have Hfb:=Lib.hid hfb
     have HE2:=Lib.hid (HE.out false HF2.out)
     clear hfb
     go_wp2
     try rw [hW]
     clear hW c0 c1
     refine hR (fun w'=>Below W.heap.size W w') [ff 0,ff 1,ff 2,ff 3,ff 4,ff 5,ff 6,ff 7,ff 8,ff 9,tt 10,ff 11,ff 12] ?_
     iterate 5
      refine hP hS ?_
     refine hP hS ?_
     rw [Hw.out]
     refine hP hS ?_
     refine hP2 hS E0.out E1.out ?_
     refine hP2 hS X0.out X1.out ?_
     refine hP hS ?_
     refine hE fun K hK=>?_
     go_simp
     with_reducible refine (HC.out _ hS).mono ?_
     rintro e W5 ⟨rfl,hb⟩
     rw [Hfb.out]
     have HS:=Lib.hid (bon hS hb)
     clear hb
     refine held_go hK (by exact HS.out) fun hS=>?_
     clear hK K
     try simp only [zp]
     clear HS
     refine hP hS ?_
     refine hP hS ?_
     refine held_end ?_
     have HBr:=Lib.hid (bon HB.out (HBW.out.trans (hS.mono HBW.out.size)))
     go_wp2
     go_ret
     exact ⟨by rw [HE2.out];rfl,HBr.out⟩
   obtain rfl:i=n:=by omega
   have HE2:=Lib.hid (HE.out true (by rw [HF.out];exact chainF_end ab (by rw [Hl.out];exact Nat.le_refl _)))
   go_wp2
   go_ret
   exact ⟨by rw [HE2.out];rfl,HB.out⟩
end Go.Proofs.YtjpjalmilfgckaaGreatDoor
namespace Go.Proofs.YtjpjalmilfgckaaGreatDoor
open Go.RowKit
set_option maxHeartbeats 1000000 in
theorem isum_any (A:Option Addr) (n c:Nat) (l:List UInt8) (w:World) (hr:Reads w w.heap.size 1 A n (u8s l)) (hn:n<=maxLen) (hT:CTab w) :
  Calls Tryz.prog 59 #[.slice A n c] w fun e w'=>∃ g,e=.returned (.slice (some ⟨g,0,none⟩) 4 4)/\Reads w' w'.heap.size 1 (some ⟨g,0,none⟩) 4 (u8s (sumB (crcS l)))/\Below w.heap.size w w':=by
 have HS:=Lib.hid (csum_any A n c l w hr hn hT)
 have hs:crcS l<4294967296:=crcU_lt 0 l
 clear hr hT
 generalize hX:crcS l=X at *
 clear hX
 go_enter Tryz.func59,Tryz.ntmps59
 go_wp2_with fail
 with_reducible refine HS.out.mono ?_
 rintro e w1 ⟨rfl,rfl⟩
 clear HS
 go_wp2
 go_ret
 exact ⟨_,rfl,by exact four_reads _ _ _ rfl _ _ _ _ (by omega) (by omega) (by omega) (by omega),bal (Below.refl _ _) _⟩
end Go.Proofs.YtjpjalmilfgckaaGreatDoor
