/- Part 22 of the walks, merged: each text under its own heading. Conditions: none of its own; each lemma states what it asks. -/
import Derived.Test.YtjpjalmilfgckaaGreatDoorIm7
import Derived.Test.YtjpjalmilfgckaaGreatDoorIm8
import Derived.Test.YtjpjalmilfgckaaGreatDoorIm10
import Derived.Test.YtjpjalmilfgckaaGreatDoorIm12
import Derived.Test.YtjpjalmilfgckaaGreatDoorIm14
import Derived.Test.YtjpjalmilfgckaaGreatDoorIm16
import Derived.Test.YtjpjalmilfgckaaGreatDoorIm17
import Derived.Test.YtjpjalmilfgckaaGreatDoorIm21
set_option maxRecDepth 100000
set_option linter.unusedVariables false
set_option linter.unusedSimpArgs false
namespace Go.Proofs.YtjpjalmilfgckaaGreatDoor
open Go.RowKit
theorem sliceRow_info:(Tryz.prog.info? 24).map (fun i=>(i.zero,i.size,i.bytes))=some (some (.slice none 0 0),1,24):=by kernel_rfl
def DecR (r:Got Ba) (base:Nat) (w:World) (e:Ending) (w':World):Prop:=
 (match r with
  | .ok b=>e=.returned (.tuple #[])/\∃ I m d,Blk w' (base+2) 30 #[.int .i64 b.1,.int .i64 b.2.1,.slice I m d]/\ItemsOwn w' w.heap.size I m d b.2.2
  | .error er=>e=thr (er:Int)/\er≠0/\Blk w' (base+2) 30 #[.int .i64 0,.int .i64 0,.slice none 0 0]) /\
 Blk w' (base+3) 36 #[.int .i64 0]/\Below base w w'
theorem decB_may {cs:List Co} {xs:List UInt8} (h:mayCs cs=false):decB cs xs=.error 2:=by unfold decB;rw [h];rfl
theorem decB_head {cs:List Co} {xs:List UInt8} {er:Nat} (h:mayCs cs=true) (hd:batD xs=.error er):decB cs xs=.error er:=by unfold decB;rw [if_pos h,hd];rfl
theorem decB_cols {cs:List Co} {xs:List UInt8} {V S N er:Nat} {ys:List UInt8} (h:mayCs cs=true) (hd:batD xs=.ok (V,S,N,ys)) (hc:iterI (colD cs (N:Int)) cs.length ([],ys)=.error er):decB cs xs=.error er:=by
 unfold decB
 rw [if_pos h,hd,thenG_ok]
 unfold restD
 simp only
 rw [hc]
 rfl
theorem decB_weis {cs:List Co} {xs:List UInt8} {V S N er:Nat} {ys:List UInt8} {t:TabS} (h:mayCs cs=true) (hd:batD xs=.ok (V,S,N,ys)) (hc:iterI (colD cs (N:Int)) cs.length ([],ys)=.ok t) (hw:iterI weiD N ([],t.2)=.error er):decB cs xs=.error er:=by
 unfold decB
 rw [if_pos h,hd,thenG_ok]
 unfold restD
 simp only
 rw [hc,thenG_ok,hw]
 rfl
theorem decB_all {cs:List Co} {xs:List UInt8} {V S N:Nat} {ys:List UInt8} {t:TabS} {u:WeiS} (h:mayCs cs=true) (hd:batD xs=.ok (V,S,N,ys)) (hc:iterI (colD cs (N:Int)) cs.length ([],ys)=.ok t) (hw:iterI weiD N ([],t.2)=.ok u) :
  decB cs xs=if u.2=[] then .ok ((V:Int),(S:Int),itemsT t.1 u.1) else .error 30:=by
 unfold decB
 rw [if_pos h,hd,thenG_ok]
 unfold restD
 simp only
 rw [hc,thenG_ok,hw,thenG_ok,thenG_ok]
set_option maxHeartbeats 4000000 in
theorem dec1_any (base:Nat) (A:Option Addr) (n c:Nat) (cs:List Co) (B:Option Addr) (m cb:Nat) (xs:List UInt8) (w:World) (hs:w.heap.size=base+4)
  (h0:Blk w base 32 #[.slice A n c]) (h1:Blk w (base+1) 35 #[.slice B m cb]) (h2:Blk w (base+2) 30 #[.int .i64 0,.int .i64 0,.slice none 0 0]) (h3:Blk w (base+3) 36 #[.int .i64 0])
  (hr:Reads w base 7 A n (cos cs)) (hn:n<=maxLen) (hx:Reads w base 1 B m (u8s xs)) (hm:m<=cb) (hc:cb<=maxLen) (hT:Tab2 base w) :
  Calls Tryz.prog 94 #[.pointer (some ⟨base,0,none⟩),.pointer (some ⟨base+1,0,none⟩),.pointer (some ⟨base+2,0,none⟩)] w (DecR (decB cs xs) base w):=by
 have Hs:=Lib.hid hs
 have H0:=Lib.hid h0
 have H1:=Lib.hid h1
 have H2:=Lib.hid h2
 have H3:=Lib.hid h3
 have Hr:=Lib.hid hr
 have Hx:=Lib.hid hx
 have HT:=Lib.hid hT
 have Hn:=Lib.hid hn
 have Hc:=Lib.hid hc
 have c00:=h0.cell 0
 have hn63:n<=9223372036854775807:=by simp only [maxLen] at hn;omega
 clear h0 h1 h2 h3 hr hx hT hn hc hs
 go_enter Tryz.func94,Tryz.ntmps94
 go_wp2_with fail
 with_reducible refine (bmay_any A n c cs w (Hr.out.more (by have:=Hs.out;omega)) Hn.out).mono ?_
 rintro e w1 ⟨rfl,hb1⟩
 have HL1:=Lib.hid hb1
 have hz1:=hb1.size
 clear hb1 c00
 cases hmay:mayCs cs with
 | false=>
  have HE:=Lib.hid (decB_may (xs:=xs) hmay)
  clear hmay
  go_wp2_with fail
  with_reducible refine (need_no 2 _).mono ?_
  rintro e w2 ⟨rfl,rfl⟩
  go_wp2
  refine ⟨rfl,?_,H3.out.on HL1.out,HL1.out.mono (by have:=Hs.out;omega)⟩
  rw [HE.out]
  exact ⟨rfl,by decide,H2.out.on HL1.out⟩
 | true=>
  have Hmay:=Lib.hid hmay
  have hcl:=(mayCs_len hmay).2
  rw [cos_len Hr.out] at hcl
  have Hcl:=Lib.hid hcl
  have H0:=Lib.hid (H0.out.on HL1.out)
  have H2:=Lib.hid (H2.out.on HL1.out)
  have H3:=Lib.hid (H3.out.on HL1.out)
  have c01:=(H1.out.on HL1.out).cell 0
  have hws:=Hs.out
  have HB1:=Lib.hid (HL1.out.mono (show base<=w.heap.size by omega))
  clear hmay hcl
  go_wp2_with fail
  with_reducible refine (need_yes 2 _).mono ?_
  rintro e w2 ⟨rfl,rfl⟩
  have HG:=Lib.hid (Blk.new w1 129 #[.slice B m cb])
  have HB2:=Lib.hid (HB1.out.alloc (show base<=w1.heap.size by omega) (.cells #[.slice B m cb] 129))
  have HW2:=Lib.hid (show (w1.alloc (.cells #[.slice B m cb] 129)).heap.size=w1.heap.size+1 by simp)
  have H0:=Lib.hid (H0.out.alloc (.cells #[.slice B m cb] 129))
  have H2:=Lib.hid (H2.out.alloc (.cells #[.slice B m cb] 129))
  have H3:=Lib.hid (H3.out.alloc (.cells #[.slice B m cb] 129))
  go_wp2_with fail
  with_reducible refine (head_any base w1.heap.size B m cb xs _ HG.out (Hx.out.below HB2.out) (by omega) hm Hc.out (HT.out.keep HB2.out)).mono ?_
  rintro e w3 ⟨hb3,hm3⟩
  clear c01
  generalize hg:w1.heap.size=g at *
  generalize hW2:w1.alloc (.cells #[.slice B m cb] 129)=W2 at *
  clear hW2 hg
  have hw2:=HW2.out
  have H0:=Lib.hid (hb3.blk H0.out (by omega) (by omega))
  have H2:=Lib.hid (hb3.blk H2.out (by omega) (by omega))
  have H3:=Lib.hid (hb3.blk H3.out (by omega) (by omega))
  have HB3:=Lib.hid (HB2.out.trans (hb3.below (B2:=base) (by omega) (by omega)))
  have hz3:=hb3.size
  clear hb3
  cases hd:batD xs with
  | error er=>
   rw [hd] at hm3
   obtain ⟨rfl,he⟩:=hm3
   have HE:=Lib.hid (decB_head Hmay.out hd)
   clear hd
   go_wp2
   refine ⟨rfl,?_,H3.out,HB3.out⟩
   rw [HE.out]
   exact ⟨rfl,he,H2.out⟩
  | ok h=>
   rw [hd] at hm3
   obtain ⟨V,S,N,ys⟩:=h
   obtain ⟨rfl,B1,m1,c1,hG3,hr3,hm1,hc1⟩:=hm3
   have HDX:=Lib.hid hd
   have hNl:=(batD_only hd).2.2.2.2.2
   simp only at hNl hr3
   have HG:=Lib.hid hG3
   have HR:=Lib.hid hr3
   have HC:=Lib.hid (And.intro hm1 hc1)
   have HP:=Lib.hid (Blk.new w3 30 #[.int .i64 (V:Int),.int .i64 (S:Int),.slice none 0 0])
   have HG:=Lib.hid (HG.out.alloc (.cells #[.int .i64 (V:Int),.int .i64 (S:Int),.slice none 0 0] 30))
   have HR:=Lib.hid (HR.out.alloc (show base<=w3.heap.size by omega) (.cells #[.int .i64 (V:Int),.int .i64 (S:Int),.slice none 0 0] 30))
   have H0:=Lib.hid (H0.out.alloc (.cells #[.int .i64 (V:Int),.int .i64 (S:Int),.slice none 0 0] 30))
   have H2:=Lib.hid (H2.out.alloc (.cells #[.int .i64 (V:Int),.int .i64 (S:Int),.slice none 0 0] 30))
   have H3:=Lib.hid (H3.out.alloc (.cells #[.int .i64 (V:Int),.int .i64 (S:Int),.slice none 0 0] 30))
   have HB4:=Lib.hid (HB3.out.alloc (show base<=w3.heap.size by omega) (.cells #[.int .i64 (V:Int),.int .i64 (S:Int),.slice none 0 0] 30))
   have HW4:=Lib.hid (show (w3.alloc (.cells #[.int .i64 (V:Int),.int .i64 (S:Int),.slice none 0 0] 30)).heap.size=w3.heap.size+1 by simp)
   have c00:=H0.out.cell 0
   clear hd hG3 hr3 hm1 hc1
   obtain ⟨s0,hs0,hsz0,hsz1,hsz2⟩:=info_parts sliceRow_info
   have hmk:∀ w',(Instr.makeSlice 132 (.int .i64 (n:Int)) (.int .i64 (n:Int))).run Tryz.prog w'=.ok (.slice (some ⟨w'.heap.size,0,none⟩) n n) (w'.alloc (.cells (madeCells #[.slice none 0 0] n) 24)):=by
    intro w'
    have:=run_make (P:=Tryz.prog) w' 132 24 s0 (.slice none 0 0) Tryz.underlying132 hs0 hsz0 .i64 .i64 (n:Int) (n:Int) (by omega) (Int.le_refl _) (by rw [hsz2];have:=Hcl.out;omega) (by omega)
    rw [hsz1] at this
    simpa [Value.cells] using this
   have HT5:=Lib.hid (Blk.new (w3.alloc (.cells #[.int .i64 (V:Int),.int .i64 (S:Int),.slice none 0 0] 30)) 24 (madeCells #[.slice none 0 0] n))
   have HG:=Lib.hid (HG.out.alloc (.cells (madeCells #[.slice none 0 0] n) 24))
   have HP:=Lib.hid (HP.out.alloc (.cells (madeCells #[.slice none 0 0] n) 24))
   have HR:=Lib.hid (HR.out.alloc (show base<=(w3.alloc (.cells #[.int .i64 (V:Int),.int .i64 (S:Int),.slice none 0 0] 30)).heap.size by rw [HW4.out];omega) (.cells (madeCells #[.slice none 0 0] n) 24))
   have H0:=Lib.hid (H0.out.alloc (.cells (madeCells #[.slice none 0 0] n) 24))
   have H2:=Lib.hid (H2.out.alloc (.cells (madeCells #[.slice none 0 0] n) 24))
   have H3:=Lib.hid (H3.out.alloc (.cells (madeCells #[.slice none 0 0] n) 24))
   have HB5:=Lib.hid (HB4.out.alloc (show base<=(w3.alloc (.cells #[.int .i64 (V:Int),.int .i64 (S:Int),.slice none 0 0] 30)).heap.size by rw [HW4.out];omega) (.cells (madeCells #[.slice none 0 0] n) 24))
   have c01:=H0.out.cell 0
   have HW5:=Lib.hid (show ((w3.alloc (.cells #[.int .i64 (V:Int),.int .i64 (S:Int),.slice none 0 0] 30)).alloc (.cells (madeCells #[.slice none 0 0] n) 24)).heap.size=w3.heap.size+2 by simp)
   go_wp2
   clear c00 c01 hmk
   rw [HW4.out] at HT5
   clear HW4 HB4 HB3 HB2 HB1
   generalize hp:w3.heap.size=p at *
   generalize hW5:(w3.alloc (.cells #[.int .i64 (V:Int),.int .i64 (S:Int),.slice none 0 0] 30)).alloc (.cells (madeCells #[.slice none 0 0] n) 24)=W5 at *
   clear hW5 hp
   have hw5:=HW5.out
   have HT5:=Lib.hid (show ∃ C:Array Value,C.toList=tabV [] n/\Blk W5 (p+1) 24 C from ⟨_,by rw [tabV_zero];exact toList_madeCells_one _ _,HT5.out⟩)
   go_loopw [35] (fun i wr=>∃ (k:Nat) (ls:List (List Cl)) (hds:List Hd) (rem:List UInt8) (Bk:Option Addr) (mk ck:Nat) (C:Array Value),k<=n/\i=.int .i64 (k:Int)/\Hid (iterI (colD cs (N:Int)) k ([],ys)=.ok (ls,rem))/\Hid (∀ l∈ls,l.length=N)/\Hid (hds.length=k) /\
    Hid (C.toList=tabV hds n)/\Hid (Blk wr (p+1) 24 C)/\Hid (ListsOwn wr (p+2) hds ls)/\Hid (Blk wr g 129 #[.slice Bk mk ck])/\Hid (Reads wr base 1 Bk mk (u8s rem))/\Hid (mk<=ck/\ck<=maxLen) /\
    Hid (Blk wr p 30 #[.int .i64 (V:Int),.int .i64 (S:Int),.slice none 0 0])/\Hid (Blk wr base 32 #[.slice A n c])/\Hid (Blk wr (base+2) 30 #[.int .i64 0,.int .i64 0,.slice none 0 0])/\Hid (Blk wr (base+3) 36 #[.int .i64 0])/\Hid (Below base w wr)/\Hid (W5.heap.size<=wr.heap.size)) (fun i _=>n-(intOf i).toNat)
   case atStart=>
    obtain ⟨C,hC1,hC2⟩:=HT5.out
    exact ⟨0,[],[],ys,B1,m1,c1,C,Nat.zero_le _,rfl,Lib.hid rfl,Lib.hid (fun l h=>by cases h),Lib.hid rfl,Lib.hid hC1,Lib.hid hC2,Lib.hid ListsOwn.nil,HG,HR,HC,HP,H0,H2,H3,HB5,Lib.hid (Nat.le_refl _)⟩
   case round=>
    clear HG HR HC HP H0 H2 H3 HB5 HT5
    obtain ⟨k,ls,hds,rem,Bk,mk,ck,C,hk,rfl,HI,HN,HK,HCt,HTb,HLs,HG,HR,HC,HP,H0,H2,H3,HB,HZ⟩:=hrel
    by_cases hlt:k<n
    ·obtain ⟨ad,co,rfl,hbk,hco,hat⟩:=cos_at (Hr.out.below HB.out) hlt
     obtain ⟨ci,cnm,ckd,cnl,cu,cx,csx⟩:=co
     have h0:=hat.c0
     have h1:=hat.c1
     have h2:=hat.c2
     have h3:=hat.c3
     have h4:=hat.c4
     have h5:=hat.c5
     have h6:=hat.c6
     simp only at h0 h1 h2 h3 h4 h5 h6
     have Hco:=Lib.hid hco
     have hki:(k:Int)<(n:Int):=by omega
     have Hlt:=Lib.hid hlt
     have dk:decide ((k:Int)<(n:Int))=true:=by simp;omega
     have HQ:=Lib.hid (Blk.new wr 45 #[.int .i64 ci,.string cnm,.int .i64 ckd,.bool cnl,.bool cu,.int .i64 cx,.string csx])
     have HAl:=Lib.hid ((Below.refl _ wr).alloc (Nat.le_refl _) (.cells #[.int .i64 ci,.string cnm,.int .i64 ckd,.bool cnl,.bool cu,.int .i64 cx,.string csx] 45))
     clear hco hat
     go_wp2
     clear h0 h1 h2 h3 h4 h5 h6 hbk
     have hzr:=HZ.out
     have hzq:=HAl.out.size
     have hrl:=reads_len HR.out
     have Hrl:=Lib.hid hrl
     have HQl:=Lib.hid HQ.out.lt
     have HI6:=HI
     have HLs6:=Lib.hid (HLs.out.below HAl.out)
     have HTb6:=Lib.hid (HTb.out.on HAl.out)
     have HG6:=Lib.hid (HG.out.on HAl.out)
     have HP6:=Lib.hid (HP.out.on HAl.out)
     have H06:=Lib.hid (H0.out.on HAl.out)
     have H26:=Lib.hid (H2.out.on HAl.out)
     have H36:=Lib.hid (H3.out.on HAl.out)
     have HR6:=Lib.hid (HR.out.below (HAl.out.mono (show base<=wr.heap.size by omega)))
     have HB6:=Lib.hid (HB.out.trans (HAl.out.mono (show base<=wr.heap.size by omega)))
     clear HR HP H0 H2 H3 HB HLs HTb HG hrl
     generalize hW6:wr.alloc (.cells #[.int .i64 ci,.string cnm,.int .i64 ckd,.bool cnl,.bool cu,.int .i64 cx,.string csx] 45)=W6 at *
     generalize hq:wr.heap.size=q at *
     clear hW6 hq HAl
     have HLg:=Lib.hid (show ∀ w',Below W6.heap.size W6 w'->w'.cell? ⟨g,0,none⟩=some (.slice Bk mk ck) from fun w' h=>(HG6.out.on h).cell 0)
     have HLq2:=Lib.hid (show ∀ w',Below W6.heap.size W6 w'->w'.cell? ⟨q,2,none⟩=some (.int .i64 ckd) from fun w' h=>(HQ.out.on h).cell 2)
     have HLq3:=Lib.hid (show ∀ w',Below W6.heap.size W6 w'->w'.cell? ⟨q,3,none⟩=some (.bool cnl) from fun w' h=>(HQ.out.on h).cell 3)
     have hS:Below W6.heap.size W6 W6.drew:=(Below.refl _ _).drew
     have Hcd:=Lib.hid (colD_at Hco.out (N:Int) (ls,rem))
     simp only at Hcd
     refine hR (fun w'=>Below W6.heap.size W6 w') [ff 0,ff 1,ff 2,ff 3,ff 4,ff 5,ff 6,tt 7,ff 8,ff 9,ff 10,ff 11,ff 12,ff 13,ff 14] ?_
     iterate 3
      refine hP hS ?_
     refine hP1 hS HLg.out ?_
     refine hP hS ?_
     refine hP2 hS HLq2.out HLq3.out ?_
     refine hP hS ?_
     refine hE fun K hK=>?_
     go_simp
     with_reducible refine (cget_any Bk mk ck rem ckd cnl (N:Int) _ ((HR6.out.more (by omega)).on hS) HC.out.1 HC.out.2 ((HT.out.keep HB6.out).more (by omega:base<=W6.heap.size)|>.on hS).tabs).mono ?_
     rintro e w7 ⟨hb7,hm7⟩
     rcases hg:getC ckd cnl rem (N:Int) with er | ⟨l,sz⟩
     ·rw [hg] at hm7
      obtain ⟨rfl,he⟩:=hm7
      have HE:=Lib.hid (show decB cs xs=.error er from decB_cols Hmay.out HDX.out (iterI_err HI.out (by rw [Hcd.out,hg];rfl) (by rw [cos_len Hr.out];exact Hlt.out)))
      have hei:(er:Int)≠0:=by omega
      have H27:=Lib.hid ((H26.out.on hS).on hb7)
      have H37:=Lib.hid ((H36.out.on hS).on hb7)
      have HB7:=Lib.hid (HB6.out.trans ((bon hS hb7).mono (by omega)))
      clear hg
      refine held_go hK (by exact bon hS hb7) fun hS=>?_
      clear hK K
      try simp only [zp]
      clear hb7
      iterate 7
       refine hP hS ?_
      refine held_end ?_
      clear hS
      go_wp2_with fail
      with_reducible refine (must_no _ hei _).mono ?_
      rintro e w8 ⟨rfl,rfl⟩
      go_wp2
      refine ⟨rfl,?_,H37.out,HB7.out⟩
      rw [HE.out]
      exact ⟨rfl,he,H27.out⟩
     rw [hg] at hm7
     obtain ⟨hl,A7,c7,rfl,q5,q6,q7⟩:=hm7
     obtain ⟨-,hgl,-,hgs,-,-⟩:=getC_only _ _ _ _ _ _ hg
     have HIn:=Lib.hid (iterI_ok HI.out (show colD cs (N:Int) k (ls,rem)=.ok (ls++[l],rem.drop sz) by rw [Hcd.out,hg];rfl))
     have hbo:=bon hS hb7
     have HG7:=Lib.hid ((HG6.out.on hbo).drew)
     have HP7:=Lib.hid ((HP6.out.on hbo).drew)
     have H07:=Lib.hid ((H06.out.on hbo).drew)
     have H27:=Lib.hid ((H26.out.on hbo).drew)
     have H37:=Lib.hid ((H36.out.on hbo).drew)
     have HT7:=Lib.hid ((HTb6.out.on hbo).drew)
     have HR7:=Lib.hid ((HR6.out.below (hbo.mono (by omega))).drew)
     have HB7:=Lib.hid ((HB6.out.trans (hbo.mono (by omega))).drew)
     have HL7:=Lib.hid ((HLs6.out.below hbo).below (Below.refl _ _).drew)
     have hlN:l.length=N:=by omega
     rw [hlN] at q7
     have HX7:=Lib.hid (own_below (own_mono q7 (show p+2<=W6.drew.heap.size by have h:W6.drew.heap.size=W6.heap.size:=rfl;omega)) (Below.refl w7.heap.size w7).drew)
     have HZ7:=Lib.hid (show W6.heap.size<=w7.drew.heap.size from hbo.size)
     have Hll:=Lib.hid (show l.length=N by omega)
     rw [Hrl.out] at hgs
     clear hg q5 q6 q7 hgl hbo hlN
     refine held_go hK (by exact bon hS hb7) fun hS=>?_
     clear hK K
     try simp only [zp]
     clear hb7
     iterate 7
      refine hP hS ?_
     refine held_end ?_
     clear hS
     go_wp2_with fail
     with_reducible refine (must_yes _).mono ?_
     rintro e w8 ⟨rfl,rfl⟩
     have hcut:=HR7.out.cut (k:=sz) hgs HC.out.1
     rw [Nat.mul_one,u8s_drop] at hcut
     obtain ⟨A2,hA2⟩:∃ A2,(if ck=sz then Bk else Option.map (fun x=>x.add sz) Bk)=A2:=⟨_,rfl⟩
     rw [hA2] at hcut
     have Hcut:=Lib.hid hcut
     have hcc:=HC.out
     have hck63:ck<=9223372036854775807:=by have:=hcc.2;simp only [maxLen] at this;omega
     have hmi1:(sz:Int)<=(mk:Int):=by omega
     have hmi2:(sz:Int)<=(ck:Int):=by omega
     have hmi3:sz<=ck:=by omega
     have HCt':=HCt
     have hkC:C[k]? = some (.slice none 0 0):=by
      rw [<-Array.getElem?_toList,HCt.out]
      unfold tabV
      rw [List.getElem?_append_right (by rw [List.length_map,HK.out];exact Nat.le_refl _),List.length_map,HK.out,Nat.sub_self,List.getElem?_replicate]
      rw [if_pos (by omega)]
     have HkC:=Lib.hid hkC
     have hll:=Hll.out
     clear hcut hcc hkC
     go_wp2
     refine hR (fun w'=>Below base w w') [ff 0,ff 1,ff 2,ff 3,ff 4,ff 5,ff 6,ff 8,tt 7,ff 9,ff 10,tt 11,ff 12,ff 13,tt 14] ?_
     generalize w7.drew=W7 at *
     have hS:Below base w W7:=HB7.out
     iterate 8
      refine hP hS ?_
     have hcg:=HG7.out.cell 0
     refine hE fun K hK=>?_
     go_simp
     clear hcg
     refine held_go hK hS fun hS=>?_
     clear hK K
     try simp only [zp]
     refine hP hS ?_
     refine hP hS ?_
     have hct:=HT7.out.cell k
     rw [HkC.out] at hct
     have hft:=HT7.out.frozen k
     refine hE fun K hK=>?_
     go_simp
     clear hct hft
     refine held_go hK (by exact hS.setCell (p:=⟨p+1,k,none⟩) (by show base<=p+1;omega) _) fun hS=>?_
     clear hK K
     try simp only [zp]
     refine hP hS ?_
     refine hP hS ?_
     have HG8:=Lib.hid (HG7.out.far (p:=⟨p+1,k,none⟩) (by show g≠p+1;omega) (.slice A7 N c7))
     have hcg:=HG8.out.cell 0
     have hfg:=HG8.out.frozen 0
     refine hE fun K hK=>?_
     go_simp
     clear hcg hfg
     refine held_go hK (by exact hS.setCell (p:=⟨g,0,none⟩) (by show base<=g;omega) _) fun hS=>?_
     clear hK K
     try simp only [zp]
     refine held_end ?_
     have HT8:=Lib.hid ((HT7.out.set_ k (.slice A7 N c7)).far (p:=⟨g,0,none⟩) (by show p+1≠g;omega) (.slice A2 (mk-sz) (ck-sz)))
     have HG9:=Lib.hid (HG8.out.set_ 0 (.slice A2 (mk-sz) (ck-sz)))
     simp only [List.setIfInBounds_toArray,List.set_cons_zero] at HG9
     have HP8:=Lib.hid ((HP7.out.far (p:=⟨p+1,k,none⟩) (by show p≠p+1;omega) (.slice A7 N c7)).far (p:=⟨g,0,none⟩) (by show p≠g;omega) (.slice A2 (mk-sz) (ck-sz)))
     have H08:=Lib.hid ((H07.out.far (p:=⟨p+1,k,none⟩) (by show base≠p+1;omega) (.slice A7 N c7)).far (p:=⟨g,0,none⟩) (by show base≠g;omega) (.slice A2 (mk-sz) (ck-sz)))
     have H28:=Lib.hid ((H27.out.far (p:=⟨p+1,k,none⟩) (by show base+2≠p+1;omega) (.slice A7 N c7)).far (p:=⟨g,0,none⟩) (by show base+2≠g;omega) (.slice A2 (mk-sz) (ck-sz)))
     have H38:=Lib.hid ((H37.out.far (p:=⟨p+1,k,none⟩) (by show base+3≠p+1;omega) (.slice A7 N c7)).far (p:=⟨g,0,none⟩) (by show base+3≠g;omega) (.slice A2 (mk-sz) (ck-sz)))
     have HR8:=Lib.hid ((Hcut.out.setCell (p:=⟨p+1,k,none⟩) (by show base<=p+1;omega) (.slice A7 N c7)).setCell (p:=⟨g,0,none⟩) (by show base<=g;omega) (.slice A2 (mk-sz) (ck-sz)))
     have HL8:=Lib.hid ((((ListsOwn.snoc (hd:=(A7,N,c7)) HL7.out HX7.out).far HT7.out (by decide) k (.slice A7 N c7))).far HG8.out (by decide) 0 (.slice A2 (mk-sz) (ck-sz)))
     have HB8:=Lib.hid hS
     clear hS HT7 HG7 HG8 HP7 H07 H27 H37 HL7 HX7 HB7
     have HCn:=Lib.hid (show (C.setIfInBounds k (.slice A7 N c7)).toList=tabV (hds++[(A7,N,c7)]) n by
      rw [Array.toList_setIfInBounds,HCt.out,<-HK.out]
      exact tabV_set hds n (A7,N,c7) (by rw [HK.out];exact Hlt.out))
     have HZ8:=Lib.hid (show W5.heap.size<=((W7.setCell ⟨p+1,k,none⟩ (.slice A7 N c7)).setCell ⟨g,0,none⟩ (.slice A2 (mk-sz) (ck-sz))).heap.size by have:=HZ7.out;simp only [World.setCell,Array.size_modify];omega)
     go_wp2
     go_roundw
     case rel=>exact ⟨k+1,ls++[l],hds++[(A7,N,c7)],rem.drop sz,A2,mk-sz,ck-sz,_,Hlt.out,by go_num,HIn,Lib.hid (fun x hx=>by rcases List.mem_append.1 hx with h | h;exact HN.out x h;rw [List.mem_singleton.1 h];exact Hll.out),Lib.hid (by rw [List.length_append,HK.out];rfl),HCn,HT8,HL8,HG9,HR8,Lib.hid (by have:=HC.out;simp only [maxLen] at *;omega),HP8,H08,H28,H38,HB8,HZ8⟩
     case measure=>have:=Hlt.out;simp [intOf];omega
    obtain rfl:n=k:=by omega
    have HKn:=Lib.hid (show hds.length=n from HK.out)
    have Hlsn:=Lib.hid (show ls.length=n by have:=HLs.out.len;rw [HK.out] at this;exact this.symm)
    have HIc:=Lib.hid (show iterI (colD cs (N:Int)) cs.length ([],ys)=.ok (ls,rem) by rw [cos_len Hr.out];exact HI.out)
    have hzw:=HZ.out
    clear H0
    go_wp2
    go_loopw [69] (fun ix WX=>∃ (i:Nat) (ws:List Int) (rem2:List UInt8) (Bk:Option Addr) (mk ck:Nat) (I:Option Addr) (d:Nat),i<=N/\ix=.int .i64 (i:Int)/\Hid (iterI weiD i ([],rem)=.ok (ws,rem2))/\Hid (ws.length=i) /\
     Hid (Blk WX (p+1) 24 C)/\Hid (ListsOwn WX (p+2) hds ls)/\Hid (Blk WX g 129 #[.slice Bk mk ck])/\Hid (Reads WX base 1 Bk mk (u8s rem2))/\Hid (mk<=ck/\ck<=maxLen) /\
     Hid (Blk WX p 30 #[.int .i64 (V:Int),.int .i64 (S:Int),.slice I i d])/\Hid (ItemsOwn WX w.heap.size I i d (itemsT ls ws))/\Hid (Blk WX (base+2) 30 #[.int .i64 0,.int .i64 0,.slice none 0 0])/\Hid (Blk WX (base+3) 36 #[.int .i64 0])/\Hid (Below base w WX)/\Hid (W5.heap.size<=WX.heap.size)) (fun ix _=>N-(intOf ix).toNat)
    case atStart=>exact ⟨0,[],rem,Bk,mk,ck,none,0,Nat.zero_le _,rfl,Lib.hid rfl,Lib.hid rfl,HTb,HLs,HG,HR,HC,HP,Lib.hid ItemsOwn.nil,H2,H3,HB,HZ⟩
    case round=>
     clear HI HTb HLs HG HR HC HP H2 H3 HB HZ hzw
     obtain ⟨i,ws,rem2,Bk,mk,ck,I,d,hi,rfl,HI,HWl,HTb,HLs,HG,HR,HC,HP,HIt,H2,H3,HB,HZ⟩:=hrel
     have hzr:=HZ.out
     have hrl:=reads_len HR.out
     have Hrl:=Lib.hid hrl
     by_cases hlt:i<N
     ·have Hlt:=Lib.hid hlt
      have hii:(i:Int)<(N:Int):=by omega
      have di:decide ((i:Int)<(N:Int))=true:=by simp;omega
      have di2:decide (i<N)=true:=by simp;omega
      have hcg:=HG.out.cell 0
      have HK:=Lib.hid (getInt_any Bk mk ck rem2 wr (HR.out.more (by omega)) HC.out.1 HC.out.2)
      rcases get_only rem2 with ⟨M,hg,hM,hsl,-⟩ | ⟨er,hg,he,hel⟩
      ·have HWs:=Lib.hid (show weiD i (ws,rem2)=if zag M=0 then .error 172 else .ok (ws++[zag M],rem2.drop (leb M).length) by unfold weiD;simp only;rw [hg];rfl)
       rw [hg] at HK
       unfold gottenInt at HK
       simp only at HK
       rw [hrl] at hsl
       generalize (leb M).length=sz at *
       generalize zag M=wv at *
       clear hg hrl
       go_wp2_with fail
       with_reducible refine HK.out.mono ?_
       rintro e w7 ⟨rfl,rfl⟩
       go_wp2_with fail
       with_reducible refine (must_yes _).mono ?_
       rintro e w8 ⟨rfl,rfl⟩
       by_cases hwv:wv=0
       ·have HE:=Lib.hid (show decB cs xs=.error 172 from decB_weis Hmay.out HDX.out HIc.out (iterI_err HI.out (by rw [HWs.out,if_pos hwv]) Hlt.out))
        subst hwv
        clear hcg
        go_wp2_with fail
        with_reducible refine (need_no 172 _).mono ?_
        rintro e w8 ⟨rfl,rfl⟩
        go_wp2
        refine ⟨rfl,?_,H3.out,HB.out⟩
        rw [HE.out]
        exact ⟨rfl,by decide,H2.out⟩
       have HIn:=Lib.hid (iterI_ok HI.out (show weiD i (ws,rem2)=.ok (ws++[wv],rem2.drop sz) by rw [HWs.out,if_neg hwv]))
       have hwb:(wv != 0)=true:=by simpa using hwv
       clear hwv
       go_wp2_with fail
       with_reducible refine (need_yes 172 _).mono ?_
       rintro e w8 ⟨rfl,rfl⟩
       have hcut:=HR.out.cut (k:=sz) hsl HC.out.1
       rw [Nat.mul_one,u8s_drop] at hcut
       obtain ⟨A2,hA2⟩:∃ A2,(if ck=sz then Bk else Option.map (fun x=>x.add sz) Bk)=A2:=⟨_,rfl⟩
       rw [hA2] at hcut
       have hcc:=HC.out
       have hck63:ck<=9223372036854775807:=by have:=hcc.2;simp only [maxLen] at this;omega
       have hmi1:(sz:Int)<=(mk:Int):=by omega
       have hmi2:(sz:Int)<=(ck:Int):=by omega
       have hmi3:sz<=ck:=by omega
       have hfg:=HG.out.frozen 0
       have HCn:=Lib.hid (show mk-sz<=ck-sz/\ck-sz<=maxLen by have:=hcc.2;simp only [maxLen] at *;omega)
       have HRp:=Lib.hid (hcut.setCell (p:=⟨g,0,none⟩) (by show base<=g;omega) (.slice A2 (mk-sz) (ck-sz)))
       have HGp:=Lib.hid (HG.out.set_ 0 (.slice A2 (mk-sz) (ck-sz)))
       simp only [List.setIfInBounds_toArray,List.set_cons_zero] at HGp
       have HTp:=Lib.hid (HTb.out.far (p:=⟨g,0,none⟩) (by show p+1≠g;omega) (.slice A2 (mk-sz) (ck-sz)))
       have HLp:=Lib.hid (HLs.out.far HG.out (by decide) 0 (.slice A2 (mk-sz) (ck-sz)))
       have HPp:=Lib.hid (HP.out.far (p:=⟨g,0,none⟩) (by show p≠g;omega) (.slice A2 (mk-sz) (ck-sz)))
       have HIp:=Lib.hid (HIt.out.far HG.out (by decide) (by decide) 0 (.slice A2 (mk-sz) (ck-sz)))
       have H2p:=Lib.hid (H2.out.far (p:=⟨g,0,none⟩) (by show base+2≠g;omega) (.slice A2 (mk-sz) (ck-sz)))
       have H3p:=Lib.hid (H3.out.far (p:=⟨g,0,none⟩) (by show base+3≠g;omega) (.slice A2 (mk-sz) (ck-sz)))
       have HBp:=Lib.hid (HB.out.setCell (p:=⟨g,0,none⟩) (by show base<=g;omega) (.slice A2 (mk-sz) (ck-sz)))
       have HZp:=Lib.hid (show W5.heap.size<=(wr.setCell ⟨g,0,none⟩ (.slice A2 (mk-sz) (ck-sz))).heap.size by simp only [World.setCell,Array.size_modify];exact hzr)
       have HQ:=Lib.hid (Blk.new (wr.setCell ⟨g,0,none⟩ (.slice A2 (mk-sz) (ck-sz))) 26 #[.slice none 0 0,.int .i64 wv])
       have HAl:=Lib.hid ((Below.refl _ (wr.setCell ⟨g,0,none⟩ (.slice A2 (mk-sz) (ck-sz)))).alloc (Nat.le_refl _) (.cells #[.slice none 0 0,.int .i64 wv] 26))
       have HQs:=Lib.hid (show ((wr.setCell ⟨g,0,none⟩ (.slice A2 (mk-sz) (ck-sz))).alloc (.cells #[.slice none 0 0,.int .i64 wv] 26)).heap.size=(wr.setCell ⟨g,0,none⟩ (.slice A2 (mk-sz) (ck-sz))).heap.size+1 by simp)
       have Hhs:=Lib.hid (show (wr.setCell ⟨g,0,none⟩ (.slice A2 (mk-sz) (ck-sz))).heap.size=wr.heap.size by simp [World.setCell])
       rw [Hhs.out] at HQ
       clear hcut hcc
       go_wp2
       clear hcg hfg HG HTb HLs HP HIt H2 H3 HB HZ HR HC
       generalize hWq:(wr.setCell ⟨g,0,none⟩ (.slice A2 (mk-sz) (ck-sz))).alloc (.cells #[.slice none 0 0,.int .i64 wv] 26)=Wq at *
       generalize hWp:wr.setCell ⟨g,0,none⟩ (.slice A2 (mk-sz) (ck-sz))=Wp at *
       generalize hq:wr.heap.size=q at *
       clear hWq hWp hq
       have hqs:=HQs.out
       have hps:=Hhs.out
       have hz5:=HZp.out
       obtain ⟨j0,hj0,hk0,hj1,hk2⟩:=info_parts cell_info
       obtain ⟨i0,hi0,hl0,hi1,hl2⟩:=info_parts item_info
       go_loopw [99] (fun jx WY=>∃ (j:Nat) (A9:Option Addr) (c9:Nat),j<=n/\jx=.int .i64 (j:Int)/\Hid (Blk WY q 26 #[.slice A9 j c9,.int .i64 wv])/\Hid (WY.ownsRow (q+1) 23 3 (.slice A9 j c9) j (cls (rowTo ls i j)))/\Hid (Below q Wp WY)/\Hid (q+1<=WY.heap.size)) (fun jx _=>n-(intOf jx).toNat)
       case atStart=>exact ⟨0,none,0,Nat.zero_le _,rfl,HQ,Lib.hid (by rw [rowTo_zero];simpa [cls] using World.ownsRow_nil _ _ _ _),Lib.hid (by have:=HAl.out;rwa [hps] at this),Lib.hid (by omega)⟩
       case round=>
        clear HQ HAl
        obtain ⟨j,A9,c9,hj,rfl,HQ,HO,HY,HYz⟩:=hrel
        have hyz:=HYz.out
        by_cases hlj:j<n
        ·have Hlj:=Lib.hid hlj
         have hji:(j:Int)<(n:Int):=by omega
         obtain ⟨hd,hhd⟩:∃ hd,hds[j]? = some hd:=⟨_,List.getElem?_eq_getElem (by rw [HKn.out];exact hlj)⟩
         obtain ⟨L,hL⟩:∃ L,ls[j]? = some L:=⟨_,List.getElem?_eq_getElem (by rw [Hlsn.out];exact hlj)⟩
         have hLn:=HN.out L (List.mem_of_getElem? hL)
         obtain ⟨hrd,-,-⟩:=HLp.out.at_ hhd hL
         have htc:C[j]? = some (hdV hd):=by rw [<-Array.getElem?_toList,HCt.out];exact tabV_at HKn.out hhd
         have hrow:=rowTo_succ ls i j _ hL
         have hhl:=cls_len hrd
         obtain ⟨hA,hn2,hc2⟩:=hd
         simp only at hrd hhl htc
         obtain rfl:N=hn2:=by omega
         obtain ⟨ad3,u,x,sx,rfl,hbk3,hxc,g0',g1',g2'⟩:=cls_at hrd Hlt.out
         rw [hxc,Option.getD_some] at hrow
         have Hrow:=Lib.hid hrow
         have hbq:ad3.block<q:=by omega
         have hct:wr.cell? ⟨p+1,j,none⟩=some (.slice (some ad3) N hc2):=((HTp.out.below HY.out (by omega)).cell j).trans htc
         have HV0:=Lib.hid (show ∀ w',Below q Wp w'->w'.cell? (ad3.add (i*3))=some (.bool u) from fun w' h=>(h.cell (by rw [block_of_add];exact hbq)).trans g0')
         have HV1:=Lib.hid (show ∀ w',Below q Wp w'->w'.cell? ⟨(ad3.add (i*3)).block,(ad3.add (i*3)).off+1,none⟩=some (.int .i64 x) from fun w' h=>(h.cell (p:=⟨(ad3.add (i*3)).block,(ad3.add (i*3)).off+1,none⟩) (by show (ad3.add (i*3)).block<q;rw [block_of_add];exact hbq)).trans g1')
         have HV2:=Lib.hid (show ∀ w',Below q Wp w'->w'.cell? ⟨(ad3.add (i*3)).block,(ad3.add (i*3)).off+2,none⟩=some (.string sx) from fun w' h=>(h.cell (p:=⟨(ad3.add (i*3)).block,(ad3.add (i*3)).off+2,none⟩) (by show (ad3.add (i*3)).block<q;rw [block_of_add];exact hbq)).trans g2')
         have hil:=Hlt.out
         clear hhd hL hLn hrd htc hrow hhl hxc g0' g1' g2' hbk3
         have hcl:=Hcl.out
         have hs1:j+1<=maxLen:=by simp only [maxLen];omega
         have hs2:(j+1)*32<=70368744177664:=by omega
         go_wp2
         have hS:Below q Wp wr.drew:=HY.out.drew
         have HQd:=Lib.hid HQ.out.drew
         have HOd:=Lib.hid (own_below HO.out (Below.refl _ _).drew)
         have hd9:q+1<=wr.drew.heap.size:=hyz
         refine nR (fun w'=>Below q Wp w') (.pure 0 (.pure 2 (.pure 3 (.pure 4 (.pure 5 (.fork 1 6 (.eff 6 (.eff 7 (.pure 8 (.eff 9 .done)))) (.eff 1 (.eff 7 (.pure 8 (.eff 9 .done)))))))))) ?_
         clear hct HQ HO HY hyz HYz
         generalize wr.drew=W9 at *
         iterate 4
          refine nP hS ?_
         refine nP3 hS HV0.out HV1.out HV2.out ?_
         have HQa:=Lib.hid (HQd.out.alloc (.cells #[.bool u,.int .i64 x,.string sx] 23))
         have HOa:=Lib.hid (HOd.out.alloc (.cells #[.bool u,.int .i64 x,.string sx] 23))
         have HRa:=Lib.hid (reads_cellb W9 W9.heap.size rfl u x sx)
         have HYa:=Lib.hid (hS.alloc (show q<=W9.heap.size by omega) (.cells #[.bool u,.int .i64 x,.string sx] 23))
         have HZa:=Lib.hid (show q+1<=(W9.alloc (.cells #[.bool u,.int .i64 x,.string sx] 23)).heap.size by simp;omega)
         clear HV0 HV1 HV2
         refine plan_fork ?_ ?_
         ·have hcq:=HQd.out.cell 0
          refine nE fun K hK=>?_
          go_simp
          clear hcq
          refine held_go hK hS fun hS=>?_
          clear hK K
          try simp only [zp]
          refine nE fun K hK=>?_
          go_simp
          refine held_go hK (by exact HYa.out) fun hS=>?_
          clear hK K
          try simp only [zp]
          refine nE fun K hK=>?_
          refine wp_append_any _ (.tmp 104) (.tmp 109) 24 rfl (q+1) 23 j0 (.agg #[.bool false,.int .i64 0,.string ⟨#[]⟩]) 3 32 Tryz.underlying24 hj0 hk0 hj1 hk2 rfl (by decide) A9 j c9 _ rfl HOa.out (some ⟨_,0,none⟩) 1 1 (cls [(u,x,sx)]) rfl HRa.out (cls_one _) hs1 hs2 HZa.out ?_
          intro A8 c8 w8 r1 r2 r3 r4 r5
          rw [<-cls_append,<-Hrow.out] at r1
          have HQ8:=Lib.hid (HQa.out.below r2 (Nat.lt_succ_self q))
          have HY8:=Lib.hid (HYa.out.trans (r2.mono (Nat.le_succ q)))
          have HO8:=Lib.hid r1
          have HZ8:=Lib.hid (Nat.le_trans HZa.out r2.size)
          clear r1 r2 r3 r4 r5
          refine held_go hK (by exact HY8.out) fun hS=>?_
          clear hK K
          try simp only [zp]
          refine nP hS ?_
          have hcq:=HQ8.out.cell 0
          have hfq:=HQ8.out.frozen 0
          refine nE fun K hK=>?_
          go_simp
          clear hcq hfq
          refine held_go hK (by exact HY8.out.setCell (p:=⟨q,0,none⟩) (Nat.le_refl q) _) fun hS=>?_
          clear hK K
          try simp only [zp]
          refine plan_end ?_
          have HQ9:=Lib.hid (HQ8.out.set_ 0 (.slice A8 (j+1) c8))
          simp only [List.setIfInBounds_toArray,List.set_cons_zero] at HQ9
          have HO9:=Lib.hid (own_far HO8.out HQ8.out (by decide) 0 (.slice A8 (j+1) c8))
          have HY9:=Lib.hid (HY8.out.setCell (p:=⟨q,0,none⟩) (Nat.le_refl q) (.slice A8 (j+1) c8))
          have HZ9:=Lib.hid (show q+1<=(w8.setCell ⟨q,0,none⟩ (.slice A8 (j+1) c8)).heap.size by have:=HZ8.out;simp only [World.setCell,Array.size_modify];omega)
          clear hS HQd HOd HQa HOa HRa HYa HZa HQ8 HO8 HY8 HZ8
          go_wp2
          go_roundw
          case rel=>exact ⟨j+1,A8,c8,Hlj.out,by go_num,HQ9,HO9,HY9,HZ9⟩
          case measure=>have:=Hlj.out;simp [intOf];omega
         refine nE fun K hK=>?_
         go_simp
         refine held_go hK (by exact HYa.out) fun hS=>?_
         clear hK K
         try simp only [zp]
         have hcq:=HQa.out.cell 0
         refine nE fun K hK=>?_
         go_simp
         clear hcq
         refine held_go hK (by exact HYa.out) fun hS=>?_
         clear hK K
         try simp only [zp]
         refine nE fun K hK=>?_
         refine wp_append_any _ (.tmp 104) (.tmp 109) 24 rfl (q+1) 23 j0 (.agg #[.bool false,.int .i64 0,.string ⟨#[]⟩]) 3 32 Tryz.underlying24 hj0 hk0 hj1 hk2 rfl (by decide) A9 j c9 _ rfl HOa.out (some ⟨_,0,none⟩) 1 1 (cls [(u,x,sx)]) rfl HRa.out (cls_one _) hs1 hs2 HZa.out ?_
         intro A8 c8 w8 r1 r2 r3 r4 r5
         rw [<-cls_append,<-Hrow.out] at r1
         have HQ8:=Lib.hid (HQa.out.below r2 (Nat.lt_succ_self q))
         have HY8:=Lib.hid (HYa.out.trans (r2.mono (Nat.le_succ q)))
         have HO8:=Lib.hid r1
         have HZ8:=Lib.hid (Nat.le_trans HZa.out r2.size)
         clear r1 r2 r3 r4 r5
         refine held_go hK (by exact HY8.out) fun hS=>?_
         clear hK K
         try simp only [zp]
         refine nP hS ?_
         have hcq:=HQ8.out.cell 0
         have hfq:=HQ8.out.frozen 0
         refine nE fun K hK=>?_
         go_simp
         clear hcq hfq
         refine held_go hK (by exact HY8.out.setCell (p:=⟨q,0,none⟩) (Nat.le_refl q) _) fun hS=>?_
         clear hK K
         try simp only [zp]
         refine plan_end ?_
         have HQ9:=Lib.hid (HQ8.out.set_ 0 (.slice A8 (j+1) c8))
         simp only [List.setIfInBounds_toArray,List.set_cons_zero] at HQ9
         have HO9:=Lib.hid (own_far HO8.out HQ8.out (by decide) 0 (.slice A8 (j+1) c8))
         have HY9:=Lib.hid (HY8.out.setCell (p:=⟨q,0,none⟩) (Nat.le_refl q) (.slice A8 (j+1) c8))
         have HZ9:=Lib.hid (show q+1<=(w8.setCell ⟨q,0,none⟩ (.slice A8 (j+1) c8)).heap.size by have:=HZ8.out;simp only [World.setCell,Array.size_modify];omega)
         clear hS HQd HOd HQa HOa HRa HYa HZa HQ8 HO8 HY8 HZ8
         go_wp2
         go_roundw
         case rel=>exact ⟨j+1,A8,c8,Hlj.out,by go_num,HQ9,HO9,HY9,HZ9⟩
         case measure=>have:=Hlj.out;simp [intOf];omega
        obtain rfl:n=j:=by omega
        have HYp:=Lib.hid (show Below Wp.heap.size Wp wr by rw [hps];exact HY.out)
        have HTw:=Lib.hid (HTp.out.on HYp.out)
        have HLw:=Lib.hid (HLp.out.below HYp.out)
        have HGw:=Lib.hid (HGp.out.on HYp.out)
        have HRw:=Lib.hid (HRp.out.below (HYp.out.mono (show base<=Wp.heap.size by omega)))
        have HPw:=Lib.hid (HPp.out.on HYp.out)
        have H2w:=Lib.hid (H2p.out.on HYp.out)
        have H3w:=Lib.hid (H3p.out.on HYp.out)
        have HBw:=Lib.hid (HBp.out.trans (HYp.out.mono (show base<=Wp.heap.size by omega)))
        obtain ⟨hs3,g1,g2⟩:=HIp.out.below HYp.out
        have G1:=Lib.hid (own_below g1 ((Below.refl wr.heap.size wr).alloc (Nat.le_refl _) (.cells #[.slice A9 n c9,.int .i64 wv] 26)))
        have G2:=Lib.hid (RowsOwn.below g2 ((Below.refl wr.heap.size wr).alloc (Nat.le_refl _) (.cells #[.slice A9 n c9,.int .i64 wv] 26)))
        have HOr:=Lib.hid (own_below (own_mono HO.out (show w.heap.size<=q+1 by omega)) ((Below.refl wr.heap.size wr).alloc (Nat.le_refl _) (.cells #[.slice A9 n c9,.int .i64 wv] 26)))
        have HTa:=Lib.hid (HTw.out.alloc (.cells #[.slice A9 n c9,.int .i64 wv] 26))
        have HLa:=Lib.hid (HLw.out.below ((Below.refl wr.heap.size wr).alloc (Nat.le_refl _) (.cells #[.slice A9 n c9,.int .i64 wv] 26)))
        have HGa:=Lib.hid (HGw.out.alloc (.cells #[.slice A9 n c9,.int .i64 wv] 26))
        have HPa:=Lib.hid (HPw.out.alloc (.cells #[.slice A9 n c9,.int .i64 wv] 26))
        have H2a:=Lib.hid (H2w.out.alloc (.cells #[.slice A9 n c9,.int .i64 wv] 26))
        have H3a:=Lib.hid (H3w.out.alloc (.cells #[.slice A9 n c9,.int .i64 wv] 26))
        have HRa:=Lib.hid (HRw.out.alloc (show base<=wr.heap.size by omega) (.cells #[.slice A9 n c9,.int .i64 wv] 26))
        have HBa:=Lib.hid (HBw.out.alloc (show base<=wr.heap.size by omega) (.cells #[.slice A9 n c9,.int .i64 wv] 26))
        have hcp:=HPw.out.cell 2
        have hq0:=HQ.out.cell 0
        have hq1:=HQ.out.cell 1
        have hil:=Hlt.out
        have hsa:i+1<=maxLen:=by simp only [maxLen];omega
        have hsb:(i+1)*32<=70368744177664:=by omega
        have Hsn:=Lib.hid (show itemsT ls (ws++[wv])=itemsT ls ws++[(rowTo ls i n,wv)] by rw [itemsT_snoc,HWl.out,<-rowTo_all,Hlsn.out])
        clear g1 g2
        go_wp2_with (at_builtin
                     refine wpList_append_any _ rfl (.tmp 114) (.tmp 116) 27 rfl w.heap.size 26 i0 (.agg #[.slice none 0 0,.int .i64 0]) 2 32 Tryz.underlying27 hi0 hl0 hi1 hl2 rfl (by decide) I i d _ rfl G1.out (some ⟨_,0,none⟩) 1 1 (itV (A9,n,c9) (rowTo ls i n,wv)) rfl (by exact reads_item _ _ rfl (A9,n,c9) (rowTo ls i n,wv)) (itV_one _ _) hsa hsb (by simp;omega) ?_
                     intro A8 c8 w8 r1 r2 r3 r4 r5
                     have R1:=Lib.hid r1
                     have R2:=Lib.hid r2
                     have R3:=Lib.hid r3
                     clear r1 r2 r3 r4 r5
                     have hcx:=(HPa.out.apart G1.out (by decide) R3.out).cell 2
                     have hfx:=(HPa.out.apart G1.out (by decide) R3.out).frozen 2)
        have HP8:=Lib.hid (HPa.out.apart G1.out (by decide) R3.out)
        have HT8:=Lib.hid ((HTa.out.apart G1.out (by decide) R3.out).far (p:=⟨p,2,none⟩) (by show p+1≠p;omega) (.slice A8 (i+1) c8))
        have HG8:=Lib.hid ((HGa.out.apart G1.out (by decide) R3.out).far (p:=⟨p,2,none⟩) (by show g≠p;omega) (.slice A8 (i+1) c8))
        have HL8:=Lib.hid (ListsOwn.far (RowsOwn.apart HLa.out G1.out (by decide) R3.out) HP8.out (by decide) 2 (.slice A8 (i+1) c8))
        have H28:=Lib.hid ((H2a.out.below R2.out (by omega)).far (p:=⟨p,2,none⟩) (by show base+2≠p;omega) (.slice A8 (i+1) c8))
        have H38:=Lib.hid ((H3a.out.below R2.out (by omega)).far (p:=⟨p,2,none⟩) (by show base+3≠p;omega) (.slice A8 (i+1) c8))
        have HR8:=Lib.hid ((HRa.out.below (R2.out.mono (show base<=w.heap.size by omega))).setCell (p:=⟨p,2,none⟩) (by show base<=p;omega) (.slice A8 (i+1) c8))
        have HB8:=Lib.hid ((HBa.out.trans (R2.out.mono (show base<=w.heap.size by omega))).setCell (p:=⟨p,2,none⟩) (by show base<=p;omega) (.slice A8 (i+1) c8))
        have HI8:=Lib.hid ((items_app (hd:=(A9,n,c9)) (it:=(rowTo ls i n,wv)) G1.out G2.out HOr.out R3.out R1.out).far HP8.out (by decide) (by decide) 2 (.slice A8 (i+1) c8))
        rw [<-Hsn.out] at HI8
        have HP9:=Lib.hid (HP8.out.set_ 2 (.slice A8 (i+1) c8))
        simp only [List.setIfInBounds_toArray,List.set_cons_zero,List.set_cons_succ] at HP9
        have HZ8:=Lib.hid (show W5.heap.size<=(w8.setCell ⟨p,2,none⟩ (.slice A8 (i+1) c8)).heap.size by
         have h1:=R2.out.size
         simp at h1
         simp only [World.setCell,Array.size_modify]
         omega)
        go_roundw
        case rel=>exact ⟨i+1,ws++[wv],rem2.drop sz,A2,mk-sz,ck-sz,A8,c8,Hlt.out,by go_num,HIn,Lib.hid (by rw [List.length_append,HWl.out];rfl),HT8,HL8,HG8,HR8,HCn,HP9,HI8,H28,H38,HB8,HZ8⟩
        case measure=>have:=Hlt.out;simp [intOf];omega
      have HE:=Lib.hid (show decB cs xs=.error er from decB_weis Hmay.out HDX.out HIc.out (iterI_err HI.out (by unfold weiD;simp only;rw [hg];simp [he]) Hlt.out))
      rw [hg] at HK
      unfold gottenInt at HK
      simp only at HK
      have hei:(er:Int)≠0:=by omega
      clear hg
      go_wp2_with fail
      with_reducible refine HK.out.mono ?_
      rintro e w7 ⟨rfl,rfl⟩
      go_wp2_with fail
      with_reducible refine (must_no _ hei _).mono ?_
      rintro e w8 ⟨rfl,rfl⟩
      go_wp2
      refine ⟨rfl,?_,H3.out,HB.out⟩
      rw [HE.out]
      exact ⟨rfl,he,H2.out⟩
     obtain rfl:N=i:=by omega
     have hcg:=HG.out.cell 0
     have Hall:=Lib.hid (decB_all (u:=(ws,rem2)) Hmay.out HDX.out HIc.out HI.out)
     simp only at Hall
     by_cases hm0:mk=0
     ·subst hm0
      have hnil:rem2=[]:=List.eq_nil_of_length_eq_zero hrl
      have HE:=Lib.hid (show decB cs xs=.ok ((V:Int),(S:Int),itemsT ls ws) by rw [Hall.out,if_pos hnil])
      have c0:=HP.out.cell 0
      have c1:=HP.out.cell 1
      have c2:=HP.out.cell 2
      have k0:=H2.out.cell 0
      have k1:=H2.out.cell 1
      have k2:=H2.out.cell 2
      have f0:=H2.out.frozen 0
      have f1:=H2.out.frozen 1
      have f2:=H2.out.frozen 2
      clear hnil hrl
      go_wp2_with fail
      with_reducible refine (need_yes 30 _).mono ?_
      rintro e w8 ⟨rfl,rfl⟩
      clear hcg
      go_wp2
      go_end0
      have H2a:=((H2.out.set_ 0 (.int .i64 (V:Int))).set_ 1 (.int .i64 (S:Int))).set_ 2 (.slice I N d)
      simp only [List.setIfInBounds_toArray,List.set_cons_zero,List.set_cons_succ] at H2a
      refine ⟨?_,((H3.out.far (p:=⟨base+2,0,none⟩) (by show base+3≠base+2;omega) _).far (p:=⟨base+2,1,none⟩) (by show base+3≠base+2;omega) _).far (p:=⟨base+2,2,none⟩) (by show base+3≠base+2;omega) _,((HB.out.setCell (p:=⟨base+2,0,none⟩) (by show base<=base+2;omega) _).setCell (p:=⟨base+2,1,none⟩) (by show base<=base+2;omega) _).setCell (p:=⟨base+2,2,none⟩) (by show base<=base+2;omega) _⟩
      rw [HE.out]
      exact ⟨rfl,I,N,d,H2a,((HIt.out.far H2.out (by decide) (by decide) 0 _).far (H2.out.set_ 0 _) (by decide) (by decide) 1 _).far ((H2.out.set_ 0 _).set_ 1 _) (by decide) (by decide) 2 _⟩
     have hne:rem2≠[]:=by intro h;rw [h] at hrl;exact hm0 hrl.symm
     have HE:=Lib.hid (show decB cs xs=.error 30 by rw [Hall.out,if_neg hne])
     have d0:((mk:Int)==0)=false:=by simp;omega
     clear hne hrl
     go_wp2_with fail
     with_reducible refine (need_no 30 _).mono ?_
     rintro e w8 ⟨rfl,rfl⟩
     go_wp2
     refine ⟨rfl,?_,H3.out,HB.out⟩
     rw [HE.out]
     exact ⟨rfl,by decide,H2.out⟩
end Go.Proofs.YtjpjalmilfgckaaGreatDoor
namespace Go.Proofs.YtjpjalmilfgckaaGreatDoor
open Go.RowKit
def DecP (r:Got Ba) (w:World) (e:Ending) (w':World):Prop:=
 Below w.heap.size w w'/\match r with
  | .ok b=>∃ I m d,e=.returned (.tuple #[.agg #[.int .i64 b.1,.int .i64 b.2.1,.slice I m d],.int .i64 0])/\ItemsOwn w' w.heap.size I m d b.2.2
  | .error er=>e=.returned (.tuple #[.agg #[.int .i64 0,.int .i64 0,.slice none 0 0],.int .i64 (er:Int)])/\er≠0
theorem ItemsOwn.mono {w:World} {b b2 n c:Nat} {A:Option Addr} {l:List It} (h:ItemsOwn w b A n c l) (hb:b2<=b):ItemsOwn w b2 A n c l:=by
 obtain ⟨hs,h1,h2⟩:=h
 exact ⟨hs,own_mono h1 hb,h2.1,fun j g it h3 h4=>own_mono (h2.2 j g it h3 h4) hb⟩
theorem same_set3b {w:World} {g:Nat} {t:TypeId} {a b c:Value} (h:Blk w g t #[a,b,c]):Blk (((w.setCell ⟨g,0,none⟩ a).setCell ⟨g,1,none⟩ b).setCell ⟨g,2,none⟩ c) g t #[a,b,c]:=by
 have:=((h.set_ 0 a).set_ 1 b).set_ 2 c
 simpa using this
def decV (r:Got Ba):Int×Int×Int:=match r with
 | .ok b=>(0,b.1,b.2.1)
 | .error er=>((er:Int),0,0)
set_option maxHeartbeats 1000000 in
theorem bdec_any (A:Option Addr) (n c:Nat) (cs:List Co) (B:Option Addr) (m cb:Nat) (xs:List UInt8) (w:World) (hr:Reads w w.heap.size 7 A n (cos cs)) (hn:n<=maxLen) (hx:Reads w w.heap.size 1 B m (u8s xs)) (hm:m<=cb) (hc:cb<=maxLen) (hT:Tab2 w.heap.size w) :
  Calls Tryz.prog 36 #[.slice A n c,.slice B m cb] w (DecP (decB cs xs) w):=by
 have hin:=callFunc_in Tryz.func94 (by kernel_rfl) (by kernel_rfl)
 obtain ⟨b,hb⟩:∃ b,b=w.heap.size:=⟨_,rfl⟩
 obtain ⟨W2,hW2⟩:∃ W2,W2=((w.alloc (.cells #[.slice A n c] 32)).alloc (.cells #[.slice B m cb] 35)).alloc (.cells #[.int .i64 0,.int .i64 0,.slice none 0 0] 30):=⟨_,rfl⟩
 obtain ⟨W3,hW3⟩:∃ W3,W3=W2.alloc (.cells #[.int .i64 0] 36):=⟨_,rfl⟩
 have hs2:W2.heap.size=b+3:=by rw [hW2,hb];simp
 have hs3:W3.heap.size=b+4:=by rw [hW3];simp [hs2]
 have hw3:Below b w W3:=by rw [hW3,hW2,hb];exact bal (bal (bal (bal (Below.refl _ _) _) _) _) _
 have B0:Blk W3 b 32 #[.slice A n c]:=by
  have:=(((Blk.new w 32 #[.slice A n c]).alloc (.cells #[.slice B m cb] 35)).alloc (.cells #[.int .i64 0,.int .i64 0,.slice none 0 0] 30)).alloc (.cells #[.int .i64 0] 36)
  rw [hW3,hW2,hb]
  exact this
 have B1:Blk W3 (b+1) 35 #[.slice B m cb]:=by
  have:=((Blk.new (w.alloc (.cells #[.slice A n c] 32)) 35 #[.slice B m cb]).alloc (.cells #[.int .i64 0,.int .i64 0,.slice none 0 0] 30)).alloc (.cells #[.int .i64 0] 36)
  rw [hW3,hW2,hb]
  simpa using this
 have B2:Blk W3 (b+2) 30 #[.int .i64 0,.int .i64 0,.slice none 0 0]:=by
  have:=(Blk.new ((w.alloc (.cells #[.slice A n c] 32)).alloc (.cells #[.slice B m cb] 35)) 30 #[.int .i64 0,.int .i64 0,.slice none 0 0]).alloc (.cells #[.int .i64 0] 36)
  rw [hW3,hW2,hb]
  simpa using this
 have B3:Blk W3 (b+3) 36 #[.int .i64 0]:=by
  have:=Blk.new W2 36 #[.int .i64 0]
  rw [hs2] at this
  rw [hW3]
  exact this
 have HK:=Lib.hid (caught_any 94 #[.pointer (some ⟨b,0,none⟩),.pointer (some ⟨b+1,0,none⟩),.pointer (some ⟨b+2,0,none⟩)] W2 (fun E w'=>E=(decV (decB cs xs)).1/\(∃ I k d,Blk w' (b+2) 30 #[.int .i64 (decV (decB cs xs)).2.1,.int .i64 (decV (decB cs xs)).2.2,.slice I k d]/\(∀ q,decB cs xs=.ok q->ItemsOwn w' b I k d q.2.2)/\(∀ er,decB cs xs=.error er->(I=none/\k=0/\d=0)/\er≠0))/\Below b w w') hin (by
  rw [<-hW3]
  refine (dec1_any b A n c cs B m cb xs W3 hs3 B0 B1 B2 B3 (by rw [<-hb] at hr;exact hr.below hw3) hn (by rw [<-hb] at hx;exact hx.below hw3) hm hc (by rw [<-hb] at hT;exact hT.keep hw3)).mono ?_
  rintro e w' ⟨hm,h3,h4⟩
  refine ⟨(decV (decB cs xs)).1,?_,⟨rfl,?_,hw3.trans h4⟩,by rw [hs2];exact h3⟩
  ·rcases hd:decB cs xs with er | q
   ·rw [hd] at hm
    obtain ⟨rfl,he,-⟩:=hm
    exact (endN_not (by show (er:Int)≠0;omega)).symm
   rw [hd] at hm
   exact hm.1
  rcases hd:decB cs xs with er | q
  ·rw [hd] at hm
   exact ⟨none,0,0,hm.2.2,(fun q h=>by cases h),(fun e h=>by cases h;exact ⟨⟨rfl,rfl,rfl⟩,hm.2.1⟩)⟩
  rw [hd] at hm
  obtain ⟨-,I,k,d,g1,g2⟩:=hm
  exact ⟨I,k,d,g1,(fun q h=>by cases h;exact g2.mono (by omega)),(fun e h=>by cases h)⟩))
 have Hs2:=Lib.hid hs2
 have Hb:=Lib.hid hb
 clear hr hT hw3 B0 B1 B2 B3 hs3 hs2 hW3 hx
 go_enter Tryz.func36,Tryz.ntmps36
 obtain ⟨R,hR⟩:∃ R,R=decB cs xs:=⟨_,rfl⟩
 rw [<-hR] at HK ⊢
 obtain ⟨q,hq⟩:∃ q,q=decV R:=⟨_,rfl⟩
 rw [<-hq] at HK
 have Hq:=Lib.hid hq
 clear hR hq
 obtain ⟨E,V,S⟩:=q
 simp only at HK
 go_wp2_with fail
 rw [<-hW2,<-hb]
 have Hw:=Lib.hid hW2
 clear hW2 hb
 with_reducible refine HK.out.mono ?_
 rintro e w1 ⟨E2,w2,rfl,⟨rfl,⟨I,k,d,g1,g2,g3⟩,g5⟩,hE,rfl⟩
 have H1:=Lib.hid (g1.far (p:=⟨W2.heap.size,0,none⟩) (by have:=Hs2.out;show b+2≠W2.heap.size;omega) (.int .i64 E2))
 have HI:=Lib.hid (show ∀ q,R=.ok q->ItemsOwn (w2.setCell ⟨W2.heap.size,0,none⟩ (.int .i64 E2)) b I k d q.2.2 from fun q h=>(g2 q h).far hE (by decide) (by decide) 0 _)
 have HE:=Lib.hid g3
 have HB:=Lib.hid (g5.setCell (p:=⟨W2.heap.size,0,none⟩) (by have:=Hs2.out;show b<=W2.heap.size;omega) (.int .i64 E2))
 clear g1 g2 g3 g5 hE HK
 generalize w2.setCell ⟨W2.heap.size,0,none⟩ (.int .i64 E2)=w5 at *
 have k0:=H1.out.cell 0
 have k1:=H1.out.cell 1
 have k2:=H1.out.cell 2
 have f0:=H1.out.frozen 0
 have f1:=H1.out.frozen 1
 have f2:=H1.out.frozen 2
 rw [show b+1+1=b+2 from rfl]
 go_wp2
 have H2:=same_set3b H1.out
 have c0:=H2.cell 0
 have c1:=H2.cell 1
 have c2:=H2.cell 2
 have HI2:=Lib.hid (show ∀ q,R=.ok q->ItemsOwn (((w5.setCell ⟨b+2,0,none⟩ (.int .i64 V)).setCell ⟨b+2,1,none⟩ (.int .i64 S)).setCell ⟨b+2,2,none⟩ (.slice I k d)) b I k d q.2.2 from fun q h=>(((HI.out q h).far H1.out (by decide) (by decide) 0 _).far (H1.out.set_ 0 _) (by decide) (by decide) 1 _).far ((H1.out.set_ 0 _).set_ 1 _) (by decide) (by decide) 2 _)
 have HB2:=Lib.hid (((HB.out.setCell (p:=⟨b+2,0,none⟩) (by show b<=b+2;omega) (.int .i64 V)).setCell (p:=⟨b+2,1,none⟩) (by show b<=b+2;omega) (.int .i64 S)).setCell (p:=⟨b+2,2,none⟩) (by show b<=b+2;omega) (.slice I k d))
 refine bodyPost_ret (v:=.tuple #[.agg #[.int .i64 V,.int .i64 S,.slice I k d],.int .i64 E2]) (by rw [results_cell_tmp rfl];simp [go_sem,c0,c1,c2]) rfl ?_
 refine ⟨by rw [<-Hb.out];exact HB2.out,?_⟩
 rw [<-Hb.out]
 rcases R with er | q
 ·obtain ⟨⟨rfl,rfl,rfl⟩,he⟩:=HE.out er rfl
  have:=Hq.out
  cases this
  exact ⟨rfl,he⟩
 have:=Hq.out
 cases this
 exact ⟨I,k,d,rfl,HI2.out q rfl⟩
end Go.Proofs.YtjpjalmilfgckaaGreatDoor
namespace Go.Proofs.YtjpjalmilfgckaaGreatDoor
open Go.RowKit
theorem cos_take (l:List Co) (k:Nat):(cos l).take (k*7)=cos (l.take k):=by
 induction l generalizing k with
 | nil=>simp [cos]
 | cons c l ih=>
  cases k with
  | zero=>simp [cos]
  | succ k=>
   have:=ih k
   simp only [cos,List.flatMap_cons,List.take_succ_cons] at this ⊢
   rw [<-this,show (k+1)*7=7+k*7 by omega]
   have h7:(coV c).length=7:=rfl
   rw [List.take_append,h7,List.take_of_length_le (by omega)]
   simp
theorem four_reads (s:Nat) (w:World) (g:Nat) (hg:g=w.heap.size) (a b c d:Int) (ha:a=((s % 256:Nat):Int)) (hb:b=((s / 256 % 256:Nat):Int)) (hc:c=((s / 65536 % 256:Nat):Int)) (hd:d=((s / 16777216 % 256:Nat):Int)) :
  Reads (w.alloc (.cells #[.int .u8 a,.int .u8 b,.int .u8 c,.int .u8 d] 5)) (w.alloc (.cells #[.int .u8 a,.int .u8 b,.int .u8 c,.int .u8 d] 5)).heap.size 1 (some ⟨g,0,none⟩) 4 (u8s (sumB s)):=by
 subst hg
 obtain ⟨g,h,hg,ho,-⟩:=four_new s w a b c d ha hb hc hd
 cases h
 exact own_reads ho
end Go.Proofs.YtjpjalmilfgckaaGreatDoor
