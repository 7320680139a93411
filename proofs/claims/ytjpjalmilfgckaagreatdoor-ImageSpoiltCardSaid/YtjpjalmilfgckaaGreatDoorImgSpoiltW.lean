/- The law ImageSpoilt, walked. Conditions: none of its own; each lemma states what it asks. -/
import Derived.Test.YtjpjalmilfgckaaGreatDoorIm31
set_option maxRecDepth 100000
set_option linter.unusedVariables false
set_option linter.unusedSimpArgs false
namespace Go.Proofs.YtjpjalmilfgckaaGreatDoor
open Go.RowKit
theorem burst_still (xs:List UInt8) (at_ k:Nat):burstB xs at_ 0 k=xs:=by
 induction k with
 | zero=>rfl
 | succ k ih=>rw [burstB_succ,if_neg (by simp),ih]
theorem RowsS.far1 {w:World} {base g j:Nat} {A1 A2:Option Addr} {n1 c1 n2 c2:Nat} {s:Sc} {cs:Array Value} (h:RowsS w base A1 n1 c1 A2 n2 c2 s) (hb:Blk w g 51 cs) (a:Value):RowsS (w.setCell ⟨g,j,none⟩ a) base A1 n1 c1 A2 n2 c2 s:=⟨own_far h.cols hb (by decide) j a,own_far h.keys hb (by decide) j a⟩
theorem RowsT.far1 {w:World} {base g j:Nat} {MA RA LA:Option Addr} {mn mc rn rc ln lc:Nat} {ms:List Mk} {l:List It} {la:List UInt8} {cs:Array Value} (h:RowsT w base MA mn mc RA rn rc LA ln lc ms l la) (hb:Blk w g 51 cs) (a:Value):RowsT (w.setCell ⟨g,j,none⟩ a) base MA mn mc RA rn rc LA ln lc ms l la:=⟨own_far h.marks hb (by decide) j a,h.rows.far hb (by decide) (by decide) j a,own_far h.last hb (by decide) j a⟩
set_option maxHeartbeats 8000000 in
theorem imageSpoilt_walk (CA:Option Addr) (cn cc:Nat) (KA:Option Addr) (kn kc:Nat) (s:Sc) (v q:Int) (MA:Option Addr) (mn mc:Nat) (RA:Option Addr) (rn rc:Nat) (LA:Option Addr) (ln lc:Nat) (ms:List Mk) (l:List It) (la:List UInt8) (ta tb:Int) (w:World)
  (hs:SchIn w w.heap.size ((CA,cn,cc),(KA,kn,kc)) s) (h1:StIn w w.heap.size v q MA mn mc RA rn rc LA ln lc ms l la)
  (hta : -9223372036854775808<=ta/\ta<=9223372036854775807) (htb : -9223372036854775808<=tb/\tb<=9223372036854775807) (hT:Tab2 w.heap.size w) (hE:ErrT w) :
  Calls Tryz.prog 7 #[.agg #[.slice CA cn cc,.slice KA kn kc],.agg #[.int .i64 v,.int .i64 q,.slice MA mn mc,.slice RA rn rc,.slice LA ln lc],.agg #[.int .i64 ta,.int .i64 tb]] w fun e w'=>e=.returned (.bool true)/\Below w.heap.size w w':=by
 have HSt:=Lib.hid (ScAt.of_in hs)
 have Hs1:=Lib.hid (And.intro hs.c1 hs.c2)
 have Hs2:=Lib.hid (And.intro hs.k1 hs.k2)
 have Hsk:=Lib.hid hs.ok
 clear hs
 have Hx1:=Lib.hid (StAt.mk (h1).marks (h1).rows (h1).last)
 have Hbx1:=Lib.hid (And.intro (Nat.le_trans (h1).m1 (h1).m2) (And.intro (Nat.le_trans (h1).r1 (h1).r2) (And.intro (h1).l1 (h1).l2)))
 have Hmx1:=Lib.hid (h1).mok
 have Hix1:=Lib.hid (h1).rok
 have Hqx1:=Lib.hid (h1).q9.2
 clear h1
 have Ht9:=Lib.hid (show ∀ w',Below w.heap.size w w'->Tab2 w'.heap.size w'/\ErrT w' from fun w' h=>⟨hT.on h,hE.on h⟩)
 have Hta:=Lib.hid hta
 obtain ⟨bt,hbt,hbt2⟩:∃ bt:Nat,IntKind.u32.wrap tb=(bt:Int)/\bt<4294967296:=by
  refine ⟨(IntKind.u32.wrap tb).toNat,?_,?_⟩<;>simp [IntKind.wrap,IntKind.signed,IntKind.bits]<;>omega
 have Hbt:=Lib.hid hbt
 clear hta htb hbt
 obtain ⟨W1,hW1⟩:∃ W1,((w.alloc (.cells #[.slice CA cn cc,.slice KA kn kc] 48)).alloc (.cells #[.int .i64 v,.int .i64 q,.slice MA mn mc,.slice RA rn rc,.slice LA ln lc] 51)).alloc (.cells #[.int .i64 ta,.int .i64 tb] 65)=W1:=⟨_,rfl⟩
 have HB:=Lib.hid (show Below w.heap.size w W1 by rw [<-hW1];exact bal (bal (bal (Below.refl _ _) _) _) _)
 have BS:=Lib.hid (show Blk W1 w.heap.size 48 #[.slice CA cn cc,.slice KA kn kc] by rw [<-hW1];exact ((Blk.new w _ _).alloc _).alloc _)
 have BA:=Lib.hid (show Blk W1 (w.heap.size+1) 51 #[.int .i64 v,.int .i64 q,.slice MA mn mc,.slice RA rn rc,.slice LA ln lc] by rw [<-hW1];exact (Blk.new' _ _ _ _ (by simp)).alloc _)
 have BQ:=Lib.hid (show Blk W1 (w.heap.size+2) 65 #[.int .i64 ta,.int .i64 tb] by rw [<-hW1];exact Blk.new' _ _ _ _ (by simp))
 clear hT hE
 go_enter Tryz.func7,Tryz.ntmps7
 go_wp2
 try rw [hW1]
 rw [show w.heap.size+1+1=w.heap.size+2 from rfl]
 clear hW1
 have S0:=Lib.hid (show ∀ w',Below W1.heap.size W1 w'->w'.cell? ⟨w.heap.size,0,none⟩=some (.slice CA cn cc) from fun w' h=>(BS.out.on h).cell 0)
 have S1:=Lib.hid (show ∀ w',Below W1.heap.size W1 w'->w'.cell? ⟨w.heap.size,1,none⟩=some (.slice KA kn kc) from fun w' h=>(BS.out.on h).cell 1)
 have A0:=Lib.hid (show ∀ w',Below W1.heap.size W1 w'->w'.cell? ⟨w.heap.size+1,0,none⟩=some (.int .i64 v) from fun w' h=>(BA.out.on h).cell 0)
 have A1:=Lib.hid (show ∀ w',Below W1.heap.size W1 w'->w'.cell? ⟨w.heap.size+1,1,none⟩=some (.int .i64 q) from fun w' h=>(BA.out.on h).cell 1)
 have A2:=Lib.hid (show ∀ w',Below W1.heap.size W1 w'->w'.cell? ⟨w.heap.size+1,2,none⟩=some (.slice MA mn mc) from fun w' h=>(BA.out.on h).cell 2)
 have A3:=Lib.hid (show ∀ w',Below W1.heap.size W1 w'->w'.cell? ⟨w.heap.size+1,3,none⟩=some (.slice RA rn rc) from fun w' h=>(BA.out.on h).cell 3)
 have A4:=Lib.hid (show ∀ w',Below W1.heap.size W1 w'->w'.cell? ⟨w.heap.size+1,4,none⟩=some (.slice LA ln lc) from fun w' h=>(BA.out.on h).cell 4)
 have hS:Below W1.heap.size W1 W1.drew:=(Below.refl _ _).drew
 refine wp_region_phase (fun w'=>Below W1.heap.size W1 w') [0,2] [(0,false),(2,false),(1,true),(3,true)] (fun _=>True) [(4,true),(5,true)] (by kernel_rfl) (by kernel_rfl) (by kernel_rfl) (fun d _ _ _ _ h=>by cases d<;>exact h) ?_
 refine fP2 hS S0.out S1.out ?_
 refine fP5 hS A0.out A1.out A2.out A3.out A4.out ?_
 clear S0 S1 A0 A1 A2 A3 A4
 refine fE fun K hK=>?_
 go_simp
 with_reducible refine (columns28_any CA cn cc KA kn kc s _ (HSt.out.on (bon HB.out hS)) Hs1.out.1 Hs1.out.2 Hs2.out.1 Hs2.out.2 Hsk.out).mono ?_
 rintro e w2 ⟨A1,n1,c1,A2,n2,c2,rfl,hn1,hn2,o1,o2,hb⟩
 have HRS:=Lib.hid (RowsS.mk (own_mono o1 (bon HB.out hS).size) (own_mono o2 (bon HB.out hS).size))
 have HS:=Lib.hid (bon hS hb)
 have Hn1:=Lib.hid (And.intro hn1 hn2)
 clear o1 o2 hb hn1 hn2
 refine held_go hK (by exact HS.out) fun hS=>?_
 clear hK K
 try simp only [zp]
 clear HS
 refine fE fun K hK=>?_
 go_simp
 with_reducible refine (cut28_any v q MA mn mc RA rn rc LA ln lc ms l la _ (Hx1.out.on (bon HB.out hS)) Hbx1.out.1 Hbx1.out.2.1 Hbx1.out.2.2.1 Hbx1.out.2.2.2 Hmx1.out Hix1.out).mono ?_
 rintro e w3 ⟨M1,mn1,mc1,R1,rn1,rc1,L1,ln1,lc1,rfl,hn1,hn2,hn3,o1,o2,o3,hb⟩
 have HRA:=Lib.hid (RowsT.mk (own_mono o1 (bon HB.out hS).size) (o2.mono (bon HB.out hS).size) (own_mono o3 (bon HB.out hS).size))
 have HS:=Lib.hid (bon hS hb)
 replace HRS:=Lib.hid (HRS.out.on hb)
 have Hn3:=Lib.hid (And.intro hn1 (And.intro hn2 hn3))
 clear o1 o2 o3 hb hn1 hn2 hn3
 refine held_go hK (by exact HS.out) fun hS=>?_
 clear hK K
 try simp only [zp]
 clear HS
 refine phase_end ?_
 replace BS:=Lib.hid (BS.out.on hS)
 replace BA:=Lib.hid (BA.out.on hS)
 replace BQ:=Lib.hid (BQ.out.on hS)
 replace HB:=Lib.hid (bon HB.out hS)
 clear hS
 have hS:True:=trivial
 have a0:=BS.out.cell 0
 have a1:=BS.out.cell 1
 have f0:=BS.out.frozen 0
 have f1:=BS.out.frozen 1
 refine hE fun K hK=>?_
 go_simp
 clear a0 a1 f0 f1
 replace BA:=Lib.hid (BA.out.far2 (a:=.slice A1 n1 c1) (b:=.slice A2 n2 c2) (g:=w.heap.size) (by omega))
 replace BQ:=Lib.hid (BQ.out.far2 (a:=.slice A1 n1 c1) (b:=.slice A2 n2 c2) (g:=w.heap.size) (by omega))
 replace HB:=Lib.hid (below_far2 (a:=.slice A1 n1 c1) (b:=.slice A2 n2 c2) HB.out (Nat.le_refl _))
 replace HRS:=Lib.hid (HRS.out.far2 (a:=.slice A1 n1 c1) (b:=.slice A2 n2 c2) BS.out)
 replace HRA:=Lib.hid (HRA.out.far2 (a:=.slice A1 n1 c1) (b:=.slice A2 n2 c2) BS.out)
 replace BS:=Lib.hid (BS.out.set2 (a:=.slice A1 n1 c1) (b:=.slice A2 n2 c2))
 generalize (w3.setCell ⟨w.heap.size,0,none⟩ (.slice A1 n1 c1)).setCell ⟨w.heap.size,1,none⟩ (.slice A2 n2 c2)=w5 at *
 refine held_go hK (by exact trivial) fun hS=>?_
 clear hK K
 try simp only [zp]
 have a0:=BA.out.cell 0
 have a1:=BA.out.cell 1
 have a2:=BA.out.cell 2
 have a3:=BA.out.cell 3
 have a4:=BA.out.cell 4
 have f0:=BA.out.frozen 0
 have f1:=BA.out.frozen 1
 have f2:=BA.out.frozen 2
 have f3:=BA.out.frozen 3
 have f4:=BA.out.frozen 4
 refine hE fun K hK=>?_
 go_simp
 clear a0 a1 a2 a3 a4 f0 f1 f2 f3 f4
 replace BS:=Lib.hid (BS.out.far5 (a:=.int .i64 v) (b:=.int .i64 q) (c:=.slice M1 mn1 mc1) (d:=.slice R1 rn1 rc1) (e:=.slice L1 ln1 lc1) (g:=w.heap.size+1) (by omega))
 replace BQ:=Lib.hid (BQ.out.far5 (a:=.int .i64 v) (b:=.int .i64 q) (c:=.slice M1 mn1 mc1) (d:=.slice R1 rn1 rc1) (e:=.slice L1 ln1 lc1) (g:=w.heap.size+1) (by omega))
 replace HB:=Lib.hid (below_far5 (a:=.int .i64 v) (b:=.int .i64 q) (c:=.slice M1 mn1 mc1) (d:=.slice R1 rn1 rc1) (e:=.slice L1 ln1 lc1) (g:=w.heap.size+1) HB.out (by omega))
 replace HRS:=Lib.hid (HRS.out.far5 (a:=.int .i64 v) (b:=.int .i64 q) (c:=.slice M1 mn1 mc1) (d:=.slice R1 rn1 rc1) (e:=.slice L1 ln1 lc1) BA.out)
 replace HRA:=Lib.hid (HRA.out.far5 (a:=.int .i64 v) (b:=.int .i64 q) (c:=.slice M1 mn1 mc1) (d:=.slice R1 rn1 rc1) (e:=.slice L1 ln1 lc1) BA.out)
 replace BA:=Lib.hid (BA.out.set5 (a:=.int .i64 v) (b:=.int .i64 q) (c:=.slice M1 mn1 mc1) (d:=.slice R1 rn1 rc1) (e:=.slice L1 ln1 lc1))
 generalize ((((w5.setCell ⟨w.heap.size+1,0,none⟩ (.int .i64 v)).setCell ⟨w.heap.size+1,1,none⟩ (.int .i64 q)).setCell ⟨w.heap.size+1,2,none⟩ (.slice M1 mn1 mc1)).setCell ⟨w.heap.size+1,3,none⟩ (.slice R1 rn1 rc1)).setCell ⟨w.heap.size+1,4,none⟩ (.slice L1 ln1 lc1)=w6 at *
 refine held_go hK (by exact trivial) fun hS=>?_
 clear hK K
 try simp only [zp]
 refine held_end ?_
 have x0:=BS.out.cell 0
 have x1:=BS.out.cell 1
 have y0:=BA.out.cell 0
 have y1:=BA.out.cell 1
 have y2:=BA.out.cell 2
 have y3:=BA.out.cell 3
 have y4:=BA.out.cell 4
 have f0:=BA.out.frozen 0
 go_wp2_with fail
 clear x0 x1 y0 y1 y2 y3 y4 f0
 replace BS:=Lib.hid (BS.out.far (p:=⟨w.heap.size+1,0,none⟩) (by simp) (.int .i64 1))
 replace BQ:=Lib.hid (BQ.out.far (p:=⟨w.heap.size+1,0,none⟩) (by simp) (.int .i64 1))
 replace HB:=Lib.hid (HB.out.setCell (p:=⟨w.heap.size+1,0,none⟩) (by simp) (.int .i64 1))
 replace HRS:=Lib.hid (HRS.out.far1 (j:=0) BA.out (.int .i64 1))
 replace HRA:=Lib.hid (HRA.out.far1 (j:=0) BA.out (.int .i64 1))
 have BA1:=Lib.hid (BA.out.set_ 0 (.int .i64 1))
 replace BA:=Lib.hid (show Blk (w6.setCell ⟨w.heap.size+1,0,none⟩ (.int .i64 1)) (w.heap.size+1) 51 #[.int .i64 1,.int .i64 q,.slice M1 mn1 mc1,.slice R1 rn1 rc1,.slice L1 ln1 lc1] from BA1.out)
 clear BA1
 generalize w6.setCell ⟨w.heap.size+1,0,none⟩ (.int .i64 1)=w7 at *
 have HS:=Lib.hid (LawS.mk BS.out HRS.out.at_ Hn1.out.1 Hn1.out.2 (cutsc_ok Hsk.out))
 have HA:=Lib.hid (LawT.mk BA.out HRA.out.at_ Hn3.out.1 Hn3.out.2.1 Hn3.out.2.2 (cutms_ok Hmx1.out) (cutis_ok Hix1.out) Hqx1.out)
 clear BS BA HRS HRA Hn1 Hn3 hS HSt Hs1 Hs2 Hsk Hx1 Hbx1 Hmx1 Hix1 Hqx1
 generalize cutsc s=sc at *
 generalize cutms ms=ma at *
 generalize cutis l=lA at *
 generalize la.take 300=aA at *
 with_reducible refine (lbytes_any HA.out HS.out (Ht9.out _ HB.out).1 (Ht9.out _ HB.out).2).mono ?_
 rintro e w8 ⟨hb,⟨h0,X,xc,rfl,ho⟩ | ⟨h0,rfl⟩⟩
 case inr=>
  have e1:(imgE sc (1,q,ma,lA,aA) != 0)=true:=by simpa using h0
  replace HB:=Lib.hid (bon HB.out hb)
  clear h0
  generalize imgE sc (1,q,ma,lA,aA)=E at *
  go_wp2_with fail
  with_reducible refine (iworks_yes _ (Ht9.out _ HB.out).1 (Ht9.out _ HB.out).2).mono ?_
  rintro e w12 ⟨rfl,hb⟩
  have HF:=Lib.hid (bon HB.out hb)
  clear hb
  go_wp2
  go_ret
  exact ⟨rfl,HF.out⟩
 have Hsb:=Lib.hid (imgE_zero.1 h0)
 have Hb7:=Lib.hid hb
 have HS7:=Lib.hid HS.out
 have HA7:=Lib.hid HA.out
 have HB7:=Lib.hid HB.out
 replace HB:=Lib.hid (bon HB.out hb)
 replace HS:=Lib.hid (HS.out.on hb)
 replace HA:=Lib.hid (HA.out.on hb)
 replace BQ:=Lib.hid (BQ.out.on hb)
 have Hcut:=Lib.hid (fun k hk=>img_cut Hsb.out HA.out.q9 k hk)
 have Hok1:=Lib.hid (show ∀ z∈[sc],ScOk z from fun z hz=>by obtain rfl:=List.mem_singleton.1 hz;exact HS.out.ok)
 have Hch:=Lib.hid (chain_one (show schB sc=true by have h:=Hsb.out;unfold stB at h;simp only [Bool.and_eq_true] at h;exact h.1.1.1.1))
 have hle:=imgA_le (stOk_of Hsb.out)
 have hbu:=fun at_ ha h0=>img_burst (l:=[sc]) (s:=sc) (st:=(1,q,ma,lA,aA)) Hch.out at_ bt hbt2 ha h0
 have Hbk:=Lib.hid (parseA_back (l:=[sc]) Hch.out Hsb.out HA.out.q9 (show [sc][((1:Int)-1).toNat]? = some sc from rfl))
 have h4:=imgA_four sc (1,q,ma,lA,aA)
 generalize imgA sc (1,q,ma,lA,aA)=xs at *
 obtain ⟨xl,hxl⟩:∃ xl,xs.length=xl:=⟨_,rfl⟩
 rw [hxl] at ho hle h4 ⊢
 have hcc:=own_caps2 ho
 simp only [hxl] at hbu
 have Hxl:=Lib.hid hxl
 have HO:=Lib.hid ho
 have Hbu:=Lib.hid hbu
 have Hcc:=Lib.hid hcc
 have Hle:=Lib.hid hle
 have d4:decide ((xl:Int)<4)=false:=by simp;omega
 clear ho hbu hxl hcc hle hb h0
 have hm0:=Int.emod_nonneg ta (show (xl:Int)≠0 by omega)
 have hm1:=Int.emod_lt_of_pos ta (show (0:Int)<(xl:Int) by omega)
 obtain ⟨b,hbq⟩:∃ b:Nat,ta % (xl:Int)=(b:Int):=⟨(ta % (xl:Int)).toNat,by omega⟩
 rw [hbq] at hm0 hm1
 have hbl:b<xl:=by omega
 have Hb:=Lib.hid hbq
 obtain ⟨er,her⟩:=Hcut.out b (by rw [Hxl.out];exact hbl)
 have Her:=Lib.hid her
 have Hbx:=Lib.hid (show b<=xc by have:=Hcc.out.1;omega)
 have Hbx9:=Lib.hid (show b<=1000000000 by have:=Hle.out;omega)
 have Hxb:=Lib.hid (show ∀ w',Below w8.heap.size w8 w'->Reads w' w'.heap.size 1 X b (u8s (xs.take b)) from fun w' h=>by
  have:=((own_reads HO.out).on h).head (k:=b) (by omega)
  rwa [Nat.mul_one,u8s_take] at this)
 have hbc:b<=xc:=Hbx.out
 have hbci:(b:Int)<=(xc:Int):=by omega
 have S0:=Lib.hid (show ∀ w',Below w8.heap.size w8 w'->w'.cell? ⟨w.heap.size,0,none⟩=some (.slice A1 n1 c1) from fun w' h=>(HS.out.on h).box.cell 0)
 have S1:=Lib.hid (show ∀ w',Below w8.heap.size w8 w'->w'.cell? ⟨w.heap.size,1,none⟩=some (.slice A2 n2 c2) from fun w' h=>(HS.out.on h).box.cell 1)
 have Q0:=Lib.hid (show ∀ w',Below w8.heap.size w8 w'->w'.cell? ⟨w.heap.size+2,0,none⟩=some (.int .i64 ta) from fun w' h=>(BQ.out.on h).cell 0)
 have hS:Below w8.heap.size w8 w8.drew:=(Below.refl _ _).drew
 clear hbq her hm0 hm1
 go_wp2_with fail
 clear d4
 refine wp_region_tri (fun w'=>Below w8.heap.size w8 w') (.pure 0 (.pure 2 (.pure 3 (.pure 4 (.pure 5 (.pure 6 (.tri 1 7 13 (.fork 7 13 (.pure 8 (.fork 9 13 (.pure 10 (.pure 11 (.pure 12 (.eff 13 (.eff 14 (.pure 15 .done)))))) (.eff 9 (.pure 10 (.pure 11 (.pure 12 (.eff 14 (.pure 15 .done)))))))) (.eff 7 (.pure 8 (.eff 9 (.pure 10 (.pure 11 (.pure 12 (.eff 14 (.pure 15 .done))))))))) (.pure 8 (.fork 1 13 (.fork 9 13 (.pure 10 (.pure 11 (.pure 12 (.eff 13 (.eff 14 (.pure 15 .done)))))) (.eff 9 (.pure 10 (.pure 11 (.pure 12 (.eff 14 (.pure 15 .done))))))) (.eff 1 (.eff 9 (.pure 10 (.pure 11 (.pure 12 (.eff 14 (.pure 15 .done))))))))) (.fork 1 7 (.eff 7 (.pure 8 (.eff 9 (.pure 10 (.pure 11 (.pure 12 (.eff 14 (.pure 15 .done)))))))) (.pure 8 (.eff 1 (.eff 9 (.pure 10 (.pure 11 (.pure 12 (.eff 14 (.pure 15 .done)))))))))))))))) (by kernel_rfl) (by kernel_rfl) (by kernel_rfl) (fun d _ _ _ _ h=>by cases d<;>exact h) ?_
 refine tri_pure (v:=?_) rfl rfl (by simp [Region.wanted,yielded]) hS ?_ ?_
 rotate_left
 ·intro w hw;have c0:=S0.out w hw;have c1:=S1.out w hw;clear hw;go_simp;try with_reducible rfl
 try simp only [Act.put,zpA,zpB,zpC]
 refine tri_pure (v:=?_) rfl rfl (by simp [Region.wanted,yielded]) hS ?_ ?_
 rotate_left
 ·intro w hw;go_simp;try with_reducible rfl
 try simp only [Act.put,zpA,zpB,zpC]
 refine tri_pure (v:=?_) rfl rfl (by simp [Region.wanted,yielded]) hS ?_ ?_
 rotate_left
 ·intro w hw;go_simp;try with_reducible rfl
 try simp only [Act.put,zpA,zpB,zpC]
 refine tri_pure (v:=?_) rfl rfl (by simp [Region.wanted,yielded]) hS ?_ ?_
 rotate_left
 ·intro w hw;have c0:=Q0.out w hw;clear hw;go_simp;try with_reducible rfl
 try simp only [Act.put,zpA,zpB,zpC]
 refine tri_pure (v:=?_) rfl rfl (by simp [Region.wanted,yielded]) hS ?_ ?_
 rotate_left
 ·intro w hw;go_simp;try with_reducible rfl
 try simp only [Act.put,zpA,zpB,zpC]
 refine tri_pure (v:=?_) rfl rfl (by simp [Region.wanted,yielded]) hS ?_ ?_
 rotate_left
 ·intro w hw;go_simp;try with_reducible rfl
 try simp only [Act.put,zpA,zpB,zpC]
 clear S0 S1 Q0
 generalize w8.drew=wd at *
 apply tri_join
 case h1=>
  intro hΦ
  refine tri_eff1 rfl (by simp [Region.wanted,yielded]) fun K hK=>?_
  go_simp
  obtain ⟨ba,hba⟩:∃ ba,ba=(wd).heap.size:=⟨_,rfl⟩
  have HLs:=Lib.hid (schs_lit c1 c2 ba hba (HS.out.at_.on hS) (by have:=HS.out.le1;omega) (by have:=HS.out.le2;omega))
  have HZ:=Lib.hid (bal hS (.cells #[.slice A1 n1 c1,.slice A2 n2 c2] 48))
  rw [<-hba]
  skip
  generalize (wd).alloc (.cells #[.slice A1 n1 c1,.slice A2 n2 c2] 48)=w9 at HLs HZ  ⊢
  clear hba
  refine held_go hK (by exact HZ.out) fun hS=>?_
  clear hK K
  try simp only [zp]
  clear HZ
  refine tri_fork ?_ ?_
  ·refine tri_eff1 rfl (by simp [Region.wanted,yielded]) fun K hK=>?_
   go_simp
   with_reducible refine (bring_any ta (xl:Int) _ Hta.out.1 Hta.out.2 (by omega) (by have:=Hle.out;omega)).mono ?_
   rw [Hb.out]
   rintro e wq ⟨rfl,rfl⟩
   refine held_go hK hS fun hS=>?_
   clear hK K
   try simp only [zp]
   refine tri_pure (v:=?_) rfl rfl (by simp [Region.wanted,yielded]) hS ?_ ?_
   rotate_left
   ·intro w hw;go_simp;try with_reducible rfl
   try simp only [Act.put,zpA,zpB,zpC]
   refine tri_fork ?_ ?_
   ·refine tri_eff1 rfl (by simp [Region.wanted,yielded]) fun K hK=>?_
    go_simp
    with_reducible refine (iparse_any (some ⟨ba,0,none⟩) 1 1 [sc] X b xc (xs.take b) _ HLs.out (by decide) (by decide) Hok1.out (Hxb.out _ hS) Hbx.out (by have:=Hcc.out;omega) (by have:=Hbx9.out;omega) (Ht9.out _ (bon HB.out hS)).1 (Ht9.out _ (bon HB.out hS)).2).mono ?_
    rintro e w10 ⟨hb,hp⟩
    rw [Her.out] at hp
    obtain ⟨rfl,hne⟩:=hp
    have Hne:=Lib.hid hne
    have HZ:=Lib.hid (bon hS hb)
    clear hne
    skip
    clear hb
    refine held_go hK (by exact HZ.out) fun hS=>?_
    clear hK K
    try simp only [zp]
    clear HZ
    refine tri_pure (v:=?_) rfl rfl (by simp [Region.wanted,yielded]) hS ?_ ?_
    rotate_left
    ·intro w hw;go_simp;try with_reducible rfl
    try simp only [Act.put,zpA,zpB,zpC]
    refine tri_pure (v:=?_) rfl rfl (by simp [Region.wanted,yielded]) hS ?_ ?_
    rotate_left
    ·intro w hw;go_simp;try with_reducible rfl
    try simp only [Act.put,zpA,zpB,zpC]
    refine tri_pure (v:=?_) rfl rfl (by simp [Region.wanted,yielded]) hS ?_ ?_
    rotate_left
    ·intro w hw;go_simp;try with_reducible rfl
    try simp only [Act.put,zpA,zpB,zpC]
    refine tri_eff1 rfl (by simp [Region.wanted,yielded]) fun K hK=>?_
    go_simp
    obtain ⟨g,hg⟩:∃ g,g=(w10).heap.size:=⟨_,rfl⟩
    have HP:=Lib.hid (show Blk ((w10).alloc (.cells #[.int .i64 0,.int .i64 0,.slice none 0 0,.slice none 0 0,.slice none 0 0] 51)) g 51 #[.int .i64 0,.int .i64 0,.slice none 0 0,.slice none 0 0,.slice none 0 0] by rw [hg];exact Blk.new _ _ _)
    have HZ:=Lib.hid (bal hS (.cells #[.int .i64 0,.int .i64 0,.slice none 0 0,.slice none 0 0,.slice none 0 0] 51))
    have Hg:=Lib.hid (show w8.heap.size<=g by rw [hg];exact hS.size)
    rw [<-hg]
    skip
    generalize (w10).alloc (.cells #[.int .i64 0,.int .i64 0,.slice none 0 0,.slice none 0 0,.slice none 0 0] 51)=w11 at HP HZ  ⊢
    clear hg
    refine held_go hK (by exact HZ.out) fun hS=>?_
    clear hK K
    try simp only [zp]
    clear HZ
    have p0:=HP.out.cell 0
    have p1:=HP.out.cell 1
    have p2:=HP.out.cell 2
    have p3:=HP.out.cell 3
    have p4:=HP.out.cell 4
    have f0:=HP.out.frozen 0
    have f1:=HP.out.frozen 1
    have f2:=HP.out.frozen 2
    have f3:=HP.out.frozen 3
    have f4:=HP.out.frozen 4
    refine tri_eff1 rfl (by simp [Region.wanted,yielded]) fun K hK=>?_
    go_simp
    clear p0 p1 p2 p3 p4 f0 f1 f2 f3 f4
    rw [setCell_id HP.out (i:=0) (v:=.int .i64 0) rfl,setCell_id HP.out (i:=1) (v:=.int .i64 0) rfl,setCell_id HP.out (i:=2) (v:=.slice none 0 0) rfl,setCell_id HP.out (i:=3) (v:=.slice none 0 0) rfl,setCell_id HP.out (i:=4) (v:=.slice none 0 0) rfl]
    refine held_go hK hS fun hS=>?_
    clear hK K
    try simp only [zp]
    refine tri_pure (v:=?_) rfl rfl (by simp [Region.wanted,yielded]) hS ?_ ?_
    rotate_left
    ·intro w hw;go_simp;try with_reducible rfl
    try simp only [Act.put,zpA,zpB,zpC]
    refine tri_end ?_
    have HF:=Lib.hid (And.intro HP.out (And.intro hS (And.intro Hg.out Hne.out)))
    clear HLs hS HP Hg Hne
    first
     | exact hΦ.out _ _ _ HF
     | (revert HF;(repeat clear hS);revert g ba w11;exact hΦ.out)
   refine tri_eff1 rfl (by simp [Region.wanted,yielded]) fun K hK=>?_
   go_simp
   obtain ⟨g,hg⟩:∃ g,g=(w9).heap.size:=⟨_,rfl⟩
   have HP:=Lib.hid (show Blk ((w9).alloc (.cells #[.int .i64 0,.int .i64 0,.slice none 0 0,.slice none 0 0,.slice none 0 0] 51)) g 51 #[.int .i64 0,.int .i64 0,.slice none 0 0,.slice none 0 0,.slice none 0 0] by rw [hg];exact Blk.new _ _ _)
   have HZ:=Lib.hid (bal hS (.cells #[.int .i64 0,.int .i64 0,.slice none 0 0,.slice none 0 0,.slice none 0 0] 51))
   have Hg:=Lib.hid (show w8.heap.size<=g by rw [hg];exact hS.size)
   rw [<-hg]
   replace HLs:=Lib.hid (HLs.out.on (bal (Below.refl _ _) (.cells #[.int .i64 0,.int .i64 0,.slice none 0 0,.slice none 0 0,.slice none 0 0] 51)))
   generalize (w9).alloc (.cells #[.int .i64 0,.int .i64 0,.slice none 0 0,.slice none 0 0,.slice none 0 0] 51)=w10 at HP HZ HLs ⊢
   clear hg
   refine held_go hK (by exact HZ.out) fun hS=>?_
   clear hK K
   try simp only [zp]
   clear HZ
   refine tri_eff1 rfl (by simp [Region.wanted,yielded]) fun K hK=>?_
   go_simp
   with_reducible refine (iparse_any (some ⟨ba,0,none⟩) 1 1 [sc] X b xc (xs.take b) _ HLs.out (by decide) (by decide) Hok1.out (Hxb.out _ hS) Hbx.out (by have:=Hcc.out;omega) (by have:=Hbx9.out;omega) (Ht9.out _ (bon HB.out hS)).1 (Ht9.out _ (bon HB.out hS)).2).mono ?_
   rintro e w11 ⟨hb,hp⟩
   rw [Her.out] at hp
   obtain ⟨rfl,hne⟩:=hp
   have Hne:=Lib.hid hne
   have HZ:=Lib.hid (bon hS hb)
   clear hne
   replace HP:=Lib.hid (HP.out.on hb)
   clear hb
   refine held_go hK (by exact HZ.out) fun hS=>?_
   clear hK K
   try simp only [zp]
   clear HZ
   refine tri_pure (v:=?_) rfl rfl (by simp [Region.wanted,yielded]) hS ?_ ?_
   rotate_left
   ·intro w hw;go_simp;try with_reducible rfl
   try simp only [Act.put,zpA,zpB,zpC]
   refine tri_pure (v:=?_) rfl rfl (by simp [Region.wanted,yielded]) hS ?_ ?_
   rotate_left
   ·intro w hw;go_simp;try with_reducible rfl
   try simp only [Act.put,zpA,zpB,zpC]
   refine tri_pure (v:=?_) rfl rfl (by simp [Region.wanted,yielded]) hS ?_ ?_
   rotate_left
   ·intro w hw;go_simp;try with_reducible rfl
   try simp only [Act.put,zpA,zpB,zpC]
   have p0:=HP.out.cell 0
   have p1:=HP.out.cell 1
   have p2:=HP.out.cell 2
   have p3:=HP.out.cell 3
   have p4:=HP.out.cell 4
   have f0:=HP.out.frozen 0
   have f1:=HP.out.frozen 1
   have f2:=HP.out.frozen 2
   have f3:=HP.out.frozen 3
   have f4:=HP.out.frozen 4
   refine tri_eff1 rfl (by simp [Region.wanted,yielded]) fun K hK=>?_
   go_simp
   clear p0 p1 p2 p3 p4 f0 f1 f2 f3 f4
   rw [setCell_id HP.out (i:=0) (v:=.int .i64 0) rfl,setCell_id HP.out (i:=1) (v:=.int .i64 0) rfl,setCell_id HP.out (i:=2) (v:=.slice none 0 0) rfl,setCell_id HP.out (i:=3) (v:=.slice none 0 0) rfl,setCell_id HP.out (i:=4) (v:=.slice none 0 0) rfl]
   refine held_go hK hS fun hS=>?_
   clear hK K
   try simp only [zp]
   refine tri_pure (v:=?_) rfl rfl (by simp [Region.wanted,yielded]) hS ?_ ?_
   rotate_left
   ·intro w hw;go_simp;try with_reducible rfl
   try simp only [Act.put,zpA,zpB,zpC]
   refine tri_end ?_
   have HF:=Lib.hid (And.intro HP.out (And.intro hS (And.intro Hg.out Hne.out)))
   clear HLs hS HP Hg Hne
   first
    | exact hΦ.out _ _ _ HF
    | (revert HF;(repeat clear hS);revert g ba w11;exact hΦ.out)
  refine tri_eff1 rfl (by simp [Region.wanted,yielded]) fun K hK=>?_
  go_simp
  obtain ⟨g,hg⟩:∃ g,g=(w9).heap.size:=⟨_,rfl⟩
  have HP:=Lib.hid (show Blk ((w9).alloc (.cells #[.int .i64 0,.int .i64 0,.slice none 0 0,.slice none 0 0,.slice none 0 0] 51)) g 51 #[.int .i64 0,.int .i64 0,.slice none 0 0,.slice none 0 0,.slice none 0 0] by rw [hg];exact Blk.new _ _ _)
  have HZ:=Lib.hid (bal hS (.cells #[.int .i64 0,.int .i64 0,.slice none 0 0,.slice none 0 0,.slice none 0 0] 51))
  have Hg:=Lib.hid (show w8.heap.size<=g by rw [hg];exact hS.size)
  rw [<-hg]
  replace HLs:=Lib.hid (HLs.out.on (bal (Below.refl _ _) (.cells #[.int .i64 0,.int .i64 0,.slice none 0 0,.slice none 0 0,.slice none 0 0] 51)))
  generalize (w9).alloc (.cells #[.int .i64 0,.int .i64 0,.slice none 0 0,.slice none 0 0,.slice none 0 0] 51)=w10 at HP HZ HLs ⊢
  clear hg
  refine held_go hK (by exact HZ.out) fun hS=>?_
  clear hK K
  try simp only [zp]
  clear HZ
  refine tri_eff1 rfl (by simp [Region.wanted,yielded]) fun K hK=>?_
  go_simp
  with_reducible refine (bring_any ta (xl:Int) _ Hta.out.1 Hta.out.2 (by omega) (by have:=Hle.out;omega)).mono ?_
  rw [Hb.out]
  rintro e wq ⟨rfl,rfl⟩
  refine held_go hK hS fun hS=>?_
  clear hK K
  try simp only [zp]
  refine tri_pure (v:=?_) rfl rfl (by simp [Region.wanted,yielded]) hS ?_ ?_
  rotate_left
  ·intro w hw;go_simp;try with_reducible rfl
  try simp only [Act.put,zpA,zpB,zpC]
  refine tri_eff1 rfl (by simp [Region.wanted,yielded]) fun K hK=>?_
  go_simp
  with_reducible refine (iparse_any (some ⟨ba,0,none⟩) 1 1 [sc] X b xc (xs.take b) _ HLs.out (by decide) (by decide) Hok1.out (Hxb.out _ hS) Hbx.out (by have:=Hcc.out;omega) (by have:=Hbx9.out;omega) (Ht9.out _ (bon HB.out hS)).1 (Ht9.out _ (bon HB.out hS)).2).mono ?_
  rintro e w11 ⟨hb,hp⟩
  rw [Her.out] at hp
  obtain ⟨rfl,hne⟩:=hp
  have Hne:=Lib.hid hne
  have HZ:=Lib.hid (bon hS hb)
  clear hne
  replace HP:=Lib.hid (HP.out.on hb)
  clear hb
  refine held_go hK (by exact HZ.out) fun hS=>?_
  clear hK K
  try simp only [zp]
  clear HZ
  refine tri_pure (v:=?_) rfl rfl (by simp [Region.wanted,yielded]) hS ?_ ?_
  rotate_left
  ·intro w hw;go_simp;try with_reducible rfl
  try simp only [Act.put,zpA,zpB,zpC]
  refine tri_pure (v:=?_) rfl rfl (by simp [Region.wanted,yielded]) hS ?_ ?_
  rotate_left
  ·intro w hw;go_simp;try with_reducible rfl
  try simp only [Act.put,zpA,zpB,zpC]
  refine tri_pure (v:=?_) rfl rfl (by simp [Region.wanted,yielded]) hS ?_ ?_
  rotate_left
  ·intro w hw;go_simp;try with_reducible rfl
  try simp only [Act.put,zpA,zpB,zpC]
  have p0:=HP.out.cell 0
  have p1:=HP.out.cell 1
  have p2:=HP.out.cell 2
  have p3:=HP.out.cell 3
  have p4:=HP.out.cell 4
  have f0:=HP.out.frozen 0
  have f1:=HP.out.frozen 1
  have f2:=HP.out.frozen 2
  have f3:=HP.out.frozen 3
  have f4:=HP.out.frozen 4
  refine tri_eff1 rfl (by simp [Region.wanted,yielded]) fun K hK=>?_
  go_simp
  clear p0 p1 p2 p3 p4 f0 f1 f2 f3 f4
  rw [setCell_id HP.out (i:=0) (v:=.int .i64 0) rfl,setCell_id HP.out (i:=1) (v:=.int .i64 0) rfl,setCell_id HP.out (i:=2) (v:=.slice none 0 0) rfl,setCell_id HP.out (i:=3) (v:=.slice none 0 0) rfl,setCell_id HP.out (i:=4) (v:=.slice none 0 0) rfl]
  refine held_go hK hS fun hS=>?_
  clear hK K
  try simp only [zp]
  refine tri_pure (v:=?_) rfl rfl (by simp [Region.wanted,yielded]) hS ?_ ?_
  rotate_left
  ·intro w hw;go_simp;try with_reducible rfl
  try simp only [Act.put,zpA,zpB,zpC]
  refine tri_end ?_
  have HF:=Lib.hid (And.intro HP.out (And.intro hS (And.intro Hg.out Hne.out)))
  clear HLs hS HP Hg Hne
  first
   | exact hΦ.out _ _ _ HF
   | (revert HF;(repeat clear hS);revert g ba w11;exact hΦ.out)
 case h2=>
  intro hΦ
  refine tri_eff1 rfl (by simp [Region.wanted,yielded]) fun K hK=>?_
  go_simp
  with_reducible refine (bring_any ta (xl:Int) _ Hta.out.1 Hta.out.2 (by omega) (by have:=Hle.out;omega)).mono ?_
  rw [Hb.out]
  rintro e wq ⟨rfl,rfl⟩
  refine held_go hK hS fun hS=>?_
  clear hK K
  try simp only [zp]
  refine tri_pure (v:=?_) rfl rfl (by simp [Region.wanted,yielded]) hS ?_ ?_
  rotate_left
  ·intro w hw;go_simp;try with_reducible rfl
  try simp only [Act.put,zpA,zpB,zpC]
  refine tri_fork ?_ ?_
  ·refine tri_eff1 rfl (by simp [Region.wanted,yielded]) fun K hK=>?_
   go_simp
   obtain ⟨ba,hba⟩:∃ ba,ba=(wd).heap.size:=⟨_,rfl⟩
   have HLs:=Lib.hid (schs_lit c1 c2 ba hba (HS.out.at_.on hS) (by have:=HS.out.le1;omega) (by have:=HS.out.le2;omega))
   have HZ:=Lib.hid (bal hS (.cells #[.slice A1 n1 c1,.slice A2 n2 c2] 48))
   rw [<-hba]
   skip
   generalize (wd).alloc (.cells #[.slice A1 n1 c1,.slice A2 n2 c2] 48)=w9 at HLs HZ  ⊢
   clear hba
   refine held_go hK (by exact HZ.out) fun hS=>?_
   clear hK K
   try simp only [zp]
   clear HZ
   refine tri_fork ?_ ?_
   ·refine tri_eff1 rfl (by simp [Region.wanted,yielded]) fun K hK=>?_
    go_simp
    with_reducible refine (iparse_any (some ⟨ba,0,none⟩) 1 1 [sc] X b xc (xs.take b) _ HLs.out (by decide) (by decide) Hok1.out (Hxb.out _ hS) Hbx.out (by have:=Hcc.out;omega) (by have:=Hbx9.out;omega) (Ht9.out _ (bon HB.out hS)).1 (Ht9.out _ (bon HB.out hS)).2).mono ?_
    rintro e w10 ⟨hb,hp⟩
    rw [Her.out] at hp
    obtain ⟨rfl,hne⟩:=hp
    have Hne:=Lib.hid hne
    have HZ:=Lib.hid (bon hS hb)
    clear hne
    skip
    clear hb
    refine held_go hK (by exact HZ.out) fun hS=>?_
    clear hK K
    try simp only [zp]
    clear HZ
    refine tri_pure (v:=?_) rfl rfl (by simp [Region.wanted,yielded]) hS ?_ ?_
    rotate_left
    ·intro w hw;go_simp;try with_reducible rfl
    try simp only [Act.put,zpA,zpB,zpC]
    refine tri_pure (v:=?_) rfl rfl (by simp [Region.wanted,yielded]) hS ?_ ?_
    rotate_left
    ·intro w hw;go_simp;try with_reducible rfl
    try simp only [Act.put,zpA,zpB,zpC]
    refine tri_pure (v:=?_) rfl rfl (by simp [Region.wanted,yielded]) hS ?_ ?_
    rotate_left
    ·intro w hw;go_simp;try with_reducible rfl
    try simp only [Act.put,zpA,zpB,zpC]
    refine tri_eff1 rfl (by simp [Region.wanted,yielded]) fun K hK=>?_
    go_simp
    obtain ⟨g,hg⟩:∃ g,g=(w10).heap.size:=⟨_,rfl⟩
    have HP:=Lib.hid (show Blk ((w10).alloc (.cells #[.int .i64 0,.int .i64 0,.slice none 0 0,.slice none 0 0,.slice none 0 0] 51)) g 51 #[.int .i64 0,.int .i64 0,.slice none 0 0,.slice none 0 0,.slice none 0 0] by rw [hg];exact Blk.new _ _ _)
    have HZ:=Lib.hid (bal hS (.cells #[.int .i64 0,.int .i64 0,.slice none 0 0,.slice none 0 0,.slice none 0 0] 51))
    have Hg:=Lib.hid (show w8.heap.size<=g by rw [hg];exact hS.size)
    rw [<-hg]
    skip
    generalize (w10).alloc (.cells #[.int .i64 0,.int .i64 0,.slice none 0 0,.slice none 0 0,.slice none 0 0] 51)=w11 at HP HZ  ⊢
    clear hg
    refine held_go hK (by exact HZ.out) fun hS=>?_
    clear hK K
    try simp only [zp]
    clear HZ
    have p0:=HP.out.cell 0
    have p1:=HP.out.cell 1
    have p2:=HP.out.cell 2
    have p3:=HP.out.cell 3
    have p4:=HP.out.cell 4
    have f0:=HP.out.frozen 0
    have f1:=HP.out.frozen 1
    have f2:=HP.out.frozen 2
    have f3:=HP.out.frozen 3
    have f4:=HP.out.frozen 4
    refine tri_eff1 rfl (by simp [Region.wanted,yielded]) fun K hK=>?_
    go_simp
    clear p0 p1 p2 p3 p4 f0 f1 f2 f3 f4
    rw [setCell_id HP.out (i:=0) (v:=.int .i64 0) rfl,setCell_id HP.out (i:=1) (v:=.int .i64 0) rfl,setCell_id HP.out (i:=2) (v:=.slice none 0 0) rfl,setCell_id HP.out (i:=3) (v:=.slice none 0 0) rfl,setCell_id HP.out (i:=4) (v:=.slice none 0 0) rfl]
    refine held_go hK hS fun hS=>?_
    clear hK K
    try simp only [zp]
    refine tri_pure (v:=?_) rfl rfl (by simp [Region.wanted,yielded]) hS ?_ ?_
    rotate_left
    ·intro w hw;go_simp;try with_reducible rfl
    try simp only [Act.put,zpA,zpB,zpC]
    refine tri_end ?_
    have HF:=Lib.hid (And.intro HP.out (And.intro hS (And.intro Hg.out Hne.out)))
    clear HLs hS HP Hg Hne
    first
     | exact hΦ.out _ _ _ HF
     | (revert HF;(repeat clear hS);revert g ba w11;exact hΦ.out)
   refine tri_eff1 rfl (by simp [Region.wanted,yielded]) fun K hK=>?_
   go_simp
   obtain ⟨g,hg⟩:∃ g,g=(w9).heap.size:=⟨_,rfl⟩
   have HP:=Lib.hid (show Blk ((w9).alloc (.cells #[.int .i64 0,.int .i64 0,.slice none 0 0,.slice none 0 0,.slice none 0 0] 51)) g 51 #[.int .i64 0,.int .i64 0,.slice none 0 0,.slice none 0 0,.slice none 0 0] by rw [hg];exact Blk.new _ _ _)
   have HZ:=Lib.hid (bal hS (.cells #[.int .i64 0,.int .i64 0,.slice none 0 0,.slice none 0 0,.slice none 0 0] 51))
   have Hg:=Lib.hid (show w8.heap.size<=g by rw [hg];exact hS.size)
   rw [<-hg]
   replace HLs:=Lib.hid (HLs.out.on (bal (Below.refl _ _) (.cells #[.int .i64 0,.int .i64 0,.slice none 0 0,.slice none 0 0,.slice none 0 0] 51)))
   generalize (w9).alloc (.cells #[.int .i64 0,.int .i64 0,.slice none 0 0,.slice none 0 0,.slice none 0 0] 51)=w10 at HP HZ HLs ⊢
   clear hg
   refine held_go hK (by exact HZ.out) fun hS=>?_
   clear hK K
   try simp only [zp]
   clear HZ
   refine tri_eff1 rfl (by simp [Region.wanted,yielded]) fun K hK=>?_
   go_simp
   with_reducible refine (iparse_any (some ⟨ba,0,none⟩) 1 1 [sc] X b xc (xs.take b) _ HLs.out (by decide) (by decide) Hok1.out (Hxb.out _ hS) Hbx.out (by have:=Hcc.out;omega) (by have:=Hbx9.out;omega) (Ht9.out _ (bon HB.out hS)).1 (Ht9.out _ (bon HB.out hS)).2).mono ?_
   rintro e w11 ⟨hb,hp⟩
   rw [Her.out] at hp
   obtain ⟨rfl,hne⟩:=hp
   have Hne:=Lib.hid hne
   have HZ:=Lib.hid (bon hS hb)
   clear hne
   replace HP:=Lib.hid (HP.out.on hb)
   clear hb
   refine held_go hK (by exact HZ.out) fun hS=>?_
   clear hK K
   try simp only [zp]
   clear HZ
   refine tri_pure (v:=?_) rfl rfl (by simp [Region.wanted,yielded]) hS ?_ ?_
   rotate_left
   ·intro w hw;go_simp;try with_reducible rfl
   try simp only [Act.put,zpA,zpB,zpC]
   refine tri_pure (v:=?_) rfl rfl (by simp [Region.wanted,yielded]) hS ?_ ?_
   rotate_left
   ·intro w hw;go_simp;try with_reducible rfl
   try simp only [Act.put,zpA,zpB,zpC]
   refine tri_pure (v:=?_) rfl rfl (by simp [Region.wanted,yielded]) hS ?_ ?_
   rotate_left
   ·intro w hw;go_simp;try with_reducible rfl
   try simp only [Act.put,zpA,zpB,zpC]
   have p0:=HP.out.cell 0
   have p1:=HP.out.cell 1
   have p2:=HP.out.cell 2
   have p3:=HP.out.cell 3
   have p4:=HP.out.cell 4
   have f0:=HP.out.frozen 0
   have f1:=HP.out.frozen 1
   have f2:=HP.out.frozen 2
   have f3:=HP.out.frozen 3
   have f4:=HP.out.frozen 4
   refine tri_eff1 rfl (by simp [Region.wanted,yielded]) fun K hK=>?_
   go_simp
   clear p0 p1 p2 p3 p4 f0 f1 f2 f3 f4
   rw [setCell_id HP.out (i:=0) (v:=.int .i64 0) rfl,setCell_id HP.out (i:=1) (v:=.int .i64 0) rfl,setCell_id HP.out (i:=2) (v:=.slice none 0 0) rfl,setCell_id HP.out (i:=3) (v:=.slice none 0 0) rfl,setCell_id HP.out (i:=4) (v:=.slice none 0 0) rfl]
   refine held_go hK hS fun hS=>?_
   clear hK K
   try simp only [zp]
   refine tri_pure (v:=?_) rfl rfl (by simp [Region.wanted,yielded]) hS ?_ ?_
   rotate_left
   ·intro w hw;go_simp;try with_reducible rfl
   try simp only [Act.put,zpA,zpB,zpC]
   refine tri_end ?_
   have HF:=Lib.hid (And.intro HP.out (And.intro hS (And.intro Hg.out Hne.out)))
   clear HLs hS HP Hg Hne
   first
    | exact hΦ.out _ _ _ HF
    | (revert HF;(repeat clear hS);revert g ba w11;exact hΦ.out)
  refine tri_eff1 rfl (by simp [Region.wanted,yielded]) fun K hK=>?_
  go_simp
  obtain ⟨g,hg⟩:∃ g,g=(wd).heap.size:=⟨_,rfl⟩
  have HP:=Lib.hid (show Blk ((wd).alloc (.cells #[.int .i64 0,.int .i64 0,.slice none 0 0,.slice none 0 0,.slice none 0 0] 51)) g 51 #[.int .i64 0,.int .i64 0,.slice none 0 0,.slice none 0 0,.slice none 0 0] by rw [hg];exact Blk.new _ _ _)
  have HZ:=Lib.hid (bal hS (.cells #[.int .i64 0,.int .i64 0,.slice none 0 0,.slice none 0 0,.slice none 0 0] 51))
  have Hg:=Lib.hid (show w8.heap.size<=g by rw [hg];exact hS.size)
  rw [<-hg]
  skip
  generalize (wd).alloc (.cells #[.int .i64 0,.int .i64 0,.slice none 0 0,.slice none 0 0,.slice none 0 0] 51)=w9 at HP HZ  ⊢
  clear hg
  refine held_go hK (by exact HZ.out) fun hS=>?_
  clear hK K
  try simp only [zp]
  clear HZ
  refine tri_eff1 rfl (by simp [Region.wanted,yielded]) fun K hK=>?_
  go_simp
  obtain ⟨ba,hba⟩:∃ ba,ba=(w9).heap.size:=⟨_,rfl⟩
  have HLs:=Lib.hid (schs_lit c1 c2 ba hba (HS.out.at_.on hS) (by have:=HS.out.le1;omega) (by have:=HS.out.le2;omega))
  have HZ:=Lib.hid (bal hS (.cells #[.slice A1 n1 c1,.slice A2 n2 c2] 48))
  rw [<-hba]
  replace HP:=Lib.hid (HP.out.alloc (.cells #[.slice A1 n1 c1,.slice A2 n2 c2] 48))
  generalize (w9).alloc (.cells #[.slice A1 n1 c1,.slice A2 n2 c2] 48)=w10 at HLs HZ HP ⊢
  clear hba
  refine held_go hK (by exact HZ.out) fun hS=>?_
  clear hK K
  try simp only [zp]
  clear HZ
  refine tri_eff1 rfl (by simp [Region.wanted,yielded]) fun K hK=>?_
  go_simp
  with_reducible refine (iparse_any (some ⟨ba,0,none⟩) 1 1 [sc] X b xc (xs.take b) _ HLs.out (by decide) (by decide) Hok1.out (Hxb.out _ hS) Hbx.out (by have:=Hcc.out;omega) (by have:=Hbx9.out;omega) (Ht9.out _ (bon HB.out hS)).1 (Ht9.out _ (bon HB.out hS)).2).mono ?_
  rintro e w11 ⟨hb,hp⟩
  rw [Her.out] at hp
  obtain ⟨rfl,hne⟩:=hp
  have Hne:=Lib.hid hne
  have HZ:=Lib.hid (bon hS hb)
  clear hne
  replace HP:=Lib.hid (HP.out.on hb)
  clear hb
  refine held_go hK (by exact HZ.out) fun hS=>?_
  clear hK K
  try simp only [zp]
  clear HZ
  refine tri_pure (v:=?_) rfl rfl (by simp [Region.wanted,yielded]) hS ?_ ?_
  rotate_left
  ·intro w hw;go_simp;try with_reducible rfl
  try simp only [Act.put,zpA,zpB,zpC]
  refine tri_pure (v:=?_) rfl rfl (by simp [Region.wanted,yielded]) hS ?_ ?_
  rotate_left
  ·intro w hw;go_simp;try with_reducible rfl
  try simp only [Act.put,zpA,zpB,zpC]
  refine tri_pure (v:=?_) rfl rfl (by simp [Region.wanted,yielded]) hS ?_ ?_
  rotate_left
  ·intro w hw;go_simp;try with_reducible rfl
  try simp only [Act.put,zpA,zpB,zpC]
  have p0:=HP.out.cell 0
  have p1:=HP.out.cell 1
  have p2:=HP.out.cell 2
  have p3:=HP.out.cell 3
  have p4:=HP.out.cell 4
  have f0:=HP.out.frozen 0
  have f1:=HP.out.frozen 1
  have f2:=HP.out.frozen 2
  have f3:=HP.out.frozen 3
  have f4:=HP.out.frozen 4
  refine tri_eff1 rfl (by simp [Region.wanted,yielded]) fun K hK=>?_
  go_simp
  clear p0 p1 p2 p3 p4 f0 f1 f2 f3 f4
  rw [setCell_id HP.out (i:=0) (v:=.int .i64 0) rfl,setCell_id HP.out (i:=1) (v:=.int .i64 0) rfl,setCell_id HP.out (i:=2) (v:=.slice none 0 0) rfl,setCell_id HP.out (i:=3) (v:=.slice none 0 0) rfl,setCell_id HP.out (i:=4) (v:=.slice none 0 0) rfl]
  refine held_go hK hS fun hS=>?_
  clear hK K
  try simp only [zp]
  refine tri_pure (v:=?_) rfl rfl (by simp [Region.wanted,yielded]) hS ?_ ?_
  rotate_left
  ·intro w hw;go_simp;try with_reducible rfl
  try simp only [Act.put,zpA,zpB,zpC]
  refine tri_end ?_
  have HF:=Lib.hid (And.intro HP.out (And.intro hS (And.intro Hg.out Hne.out)))
  clear HLs hS HP Hg Hne
  first
   | exact hΦ.out _ _ _ HF
   | (revert HF;(repeat clear hS);revert g ba w11;exact hΦ.out)
 case h3=>
  intro hΦ
  refine tri_eff1 rfl (by simp [Region.wanted,yielded]) fun K hK=>?_
  go_simp
  obtain ⟨g,hg⟩:∃ g,g=(wd).heap.size:=⟨_,rfl⟩
  have HP:=Lib.hid (show Blk ((wd).alloc (.cells #[.int .i64 0,.int .i64 0,.slice none 0 0,.slice none 0 0,.slice none 0 0] 51)) g 51 #[.int .i64 0,.int .i64 0,.slice none 0 0,.slice none 0 0,.slice none 0 0] by rw [hg];exact Blk.new _ _ _)
  have HZ:=Lib.hid (bal hS (.cells #[.int .i64 0,.int .i64 0,.slice none 0 0,.slice none 0 0,.slice none 0 0] 51))
  have Hg:=Lib.hid (show w8.heap.size<=g by rw [hg];exact hS.size)
  rw [<-hg]
  skip
  generalize (wd).alloc (.cells #[.int .i64 0,.int .i64 0,.slice none 0 0,.slice none 0 0,.slice none 0 0] 51)=w9 at HP HZ  ⊢
  clear hg
  refine held_go hK (by exact HZ.out) fun hS=>?_
  clear hK K
  try simp only [zp]
  clear HZ
  refine tri_fork ?_ ?_
  ·refine tri_eff1 rfl (by simp [Region.wanted,yielded]) fun K hK=>?_
   go_simp
   obtain ⟨ba,hba⟩:∃ ba,ba=(w9).heap.size:=⟨_,rfl⟩
   have HLs:=Lib.hid (schs_lit c1 c2 ba hba (HS.out.at_.on hS) (by have:=HS.out.le1;omega) (by have:=HS.out.le2;omega))
   have HZ:=Lib.hid (bal hS (.cells #[.slice A1 n1 c1,.slice A2 n2 c2] 48))
   rw [<-hba]
   replace HP:=Lib.hid (HP.out.alloc (.cells #[.slice A1 n1 c1,.slice A2 n2 c2] 48))
   generalize (w9).alloc (.cells #[.slice A1 n1 c1,.slice A2 n2 c2] 48)=w10 at HLs HZ HP ⊢
   clear hba
   refine held_go hK (by exact HZ.out) fun hS=>?_
   clear hK K
   try simp only [zp]
   clear HZ
   refine tri_eff1 rfl (by simp [Region.wanted,yielded]) fun K hK=>?_
   go_simp
   with_reducible refine (bring_any ta (xl:Int) _ Hta.out.1 Hta.out.2 (by omega) (by have:=Hle.out;omega)).mono ?_
   rw [Hb.out]
   rintro e wq ⟨rfl,rfl⟩
   refine held_go hK hS fun hS=>?_
   clear hK K
   try simp only [zp]
   refine tri_pure (v:=?_) rfl rfl (by simp [Region.wanted,yielded]) hS ?_ ?_
   rotate_left
   ·intro w hw;go_simp;try with_reducible rfl
   try simp only [Act.put,zpA,zpB,zpC]
   refine tri_eff1 rfl (by simp [Region.wanted,yielded]) fun K hK=>?_
   go_simp
   with_reducible refine (iparse_any (some ⟨ba,0,none⟩) 1 1 [sc] X b xc (xs.take b) _ HLs.out (by decide) (by decide) Hok1.out (Hxb.out _ hS) Hbx.out (by have:=Hcc.out;omega) (by have:=Hbx9.out;omega) (Ht9.out _ (bon HB.out hS)).1 (Ht9.out _ (bon HB.out hS)).2).mono ?_
   rintro e w11 ⟨hb,hp⟩
   rw [Her.out] at hp
   obtain ⟨rfl,hne⟩:=hp
   have Hne:=Lib.hid hne
   have HZ:=Lib.hid (bon hS hb)
   clear hne
   replace HP:=Lib.hid (HP.out.on hb)
   clear hb
   refine held_go hK (by exact HZ.out) fun hS=>?_
   clear hK K
   try simp only [zp]
   clear HZ
   refine tri_pure (v:=?_) rfl rfl (by simp [Region.wanted,yielded]) hS ?_ ?_
   rotate_left
   ·intro w hw;go_simp;try with_reducible rfl
   try simp only [Act.put,zpA,zpB,zpC]
   refine tri_pure (v:=?_) rfl rfl (by simp [Region.wanted,yielded]) hS ?_ ?_
   rotate_left
   ·intro w hw;go_simp;try with_reducible rfl
   try simp only [Act.put,zpA,zpB,zpC]
   refine tri_pure (v:=?_) rfl rfl (by simp [Region.wanted,yielded]) hS ?_ ?_
   rotate_left
   ·intro w hw;go_simp;try with_reducible rfl
   try simp only [Act.put,zpA,zpB,zpC]
   have p0:=HP.out.cell 0
   have p1:=HP.out.cell 1
   have p2:=HP.out.cell 2
   have p3:=HP.out.cell 3
   have p4:=HP.out.cell 4
   have f0:=HP.out.frozen 0
   have f1:=HP.out.frozen 1
   have f2:=HP.out.frozen 2
   have f3:=HP.out.frozen 3
   have f4:=HP.out.frozen 4
   refine tri_eff1 rfl (by simp [Region.wanted,yielded]) fun K hK=>?_
   go_simp
   clear p0 p1 p2 p3 p4 f0 f1 f2 f3 f4
   rw [setCell_id HP.out (i:=0) (v:=.int .i64 0) rfl,setCell_id HP.out (i:=1) (v:=.int .i64 0) rfl,setCell_id HP.out (i:=2) (v:=.slice none 0 0) rfl,setCell_id HP.out (i:=3) (v:=.slice none 0 0) rfl,setCell_id HP.out (i:=4) (v:=.slice none 0 0) rfl]
   refine held_go hK hS fun hS=>?_
   clear hK K
   try simp only [zp]
   refine tri_pure (v:=?_) rfl rfl (by simp [Region.wanted,yielded]) hS ?_ ?_
   rotate_left
   ·intro w hw;go_simp;try with_reducible rfl
   try simp only [Act.put,zpA,zpB,zpC]
   refine tri_end ?_
   have HF:=Lib.hid (And.intro HP.out (And.intro hS (And.intro Hg.out Hne.out)))
   clear HLs hS HP Hg Hne
   first
    | exact hΦ.out _ _ _ HF
    | (revert HF;(repeat clear hS);revert g ba w11;exact hΦ.out)
  refine tri_eff1 rfl (by simp [Region.wanted,yielded]) fun K hK=>?_
  go_simp
  with_reducible refine (bring_any ta (xl:Int) _ Hta.out.1 Hta.out.2 (by omega) (by have:=Hle.out;omega)).mono ?_
  rw [Hb.out]
  rintro e wq ⟨rfl,rfl⟩
  refine held_go hK hS fun hS=>?_
  clear hK K
  try simp only [zp]
  refine tri_pure (v:=?_) rfl rfl (by simp [Region.wanted,yielded]) hS ?_ ?_
  rotate_left
  ·intro w hw;go_simp;try with_reducible rfl
  try simp only [Act.put,zpA,zpB,zpC]
  refine tri_eff1 rfl (by simp [Region.wanted,yielded]) fun K hK=>?_
  go_simp
  obtain ⟨ba,hba⟩:∃ ba,ba=(w9).heap.size:=⟨_,rfl⟩
  have HLs:=Lib.hid (schs_lit c1 c2 ba hba (HS.out.at_.on hS) (by have:=HS.out.le1;omega) (by have:=HS.out.le2;omega))
  have HZ:=Lib.hid (bal hS (.cells #[.slice A1 n1 c1,.slice A2 n2 c2] 48))
  rw [<-hba]
  replace HP:=Lib.hid (HP.out.alloc (.cells #[.slice A1 n1 c1,.slice A2 n2 c2] 48))
  generalize (w9).alloc (.cells #[.slice A1 n1 c1,.slice A2 n2 c2] 48)=w10 at HLs HZ HP ⊢
  clear hba
  refine held_go hK (by exact HZ.out) fun hS=>?_
  clear hK K
  try simp only [zp]
  clear HZ
  refine tri_eff1 rfl (by simp [Region.wanted,yielded]) fun K hK=>?_
  go_simp
  with_reducible refine (iparse_any (some ⟨ba,0,none⟩) 1 1 [sc] X b xc (xs.take b) _ HLs.out (by decide) (by decide) Hok1.out (Hxb.out _ hS) Hbx.out (by have:=Hcc.out;omega) (by have:=Hbx9.out;omega) (Ht9.out _ (bon HB.out hS)).1 (Ht9.out _ (bon HB.out hS)).2).mono ?_
  rintro e w11 ⟨hb,hp⟩
  rw [Her.out] at hp
  obtain ⟨rfl,hne⟩:=hp
  have Hne:=Lib.hid hne
  have HZ:=Lib.hid (bon hS hb)
  clear hne
  replace HP:=Lib.hid (HP.out.on hb)
  clear hb
  refine held_go hK (by exact HZ.out) fun hS=>?_
  clear hK K
  try simp only [zp]
  clear HZ
  refine tri_pure (v:=?_) rfl rfl (by simp [Region.wanted,yielded]) hS ?_ ?_
  rotate_left
  ·intro w hw;go_simp;try with_reducible rfl
  try simp only [Act.put,zpA,zpB,zpC]
  refine tri_pure (v:=?_) rfl rfl (by simp [Region.wanted,yielded]) hS ?_ ?_
  rotate_left
  ·intro w hw;go_simp;try with_reducible rfl
  try simp only [Act.put,zpA,zpB,zpC]
  refine tri_pure (v:=?_) rfl rfl (by simp [Region.wanted,yielded]) hS ?_ ?_
  rotate_left
  ·intro w hw;go_simp;try with_reducible rfl
  try simp only [Act.put,zpA,zpB,zpC]
  have p0:=HP.out.cell 0
  have p1:=HP.out.cell 1
  have p2:=HP.out.cell 2
  have p3:=HP.out.cell 3
  have p4:=HP.out.cell 4
  have f0:=HP.out.frozen 0
  have f1:=HP.out.frozen 1
  have f2:=HP.out.frozen 2
  have f3:=HP.out.frozen 3
  have f4:=HP.out.frozen 4
  refine tri_eff1 rfl (by simp [Region.wanted,yielded]) fun K hK=>?_
  go_simp
  clear p0 p1 p2 p3 p4 f0 f1 f2 f3 f4
  rw [setCell_id HP.out (i:=0) (v:=.int .i64 0) rfl,setCell_id HP.out (i:=1) (v:=.int .i64 0) rfl,setCell_id HP.out (i:=2) (v:=.slice none 0 0) rfl,setCell_id HP.out (i:=3) (v:=.slice none 0 0) rfl,setCell_id HP.out (i:=4) (v:=.slice none 0 0) rfl]
  refine held_go hK hS fun hS=>?_
  clear hK K
  try simp only [zp]
  refine tri_pure (v:=?_) rfl rfl (by simp [Region.wanted,yielded]) hS ?_ ?_
  rotate_left
  ·intro w hw;go_simp;try with_reducible rfl
  try simp only [Act.put,zpA,zpB,zpC]
  refine tri_end ?_
  have HF:=Lib.hid (And.intro HP.out (And.intro hS (And.intro Hg.out Hne.out)))
  clear HLs hS HP Hg Hne
  first
   | exact hΦ.out _ _ _ HF
   | (revert HF;(repeat clear hS);revert g ba w11;exact hΦ.out)
 case h=>
  intro ba g w9 HF
  have HP:=Lib.hid HF.out.1
  have hne:=HF.out.2.2.2
  have Hg:=Lib.hid HF.out.2.2.1
  replace BQ:=Lib.hid (BQ.out.on HF.out.2.1)
  replace HO:=Lib.hid (own_below HO.out HF.out.2.1)
  replace Hb7:=Lib.hid (bon Hb7.out HF.out.2.1)
  replace HB:=Lib.hid (bon HB.out HF.out.2.1)
  have e1:((er:Int)==0)=false:=by simp;omega
  clear HF HS HA Her Hxb Hb Hbx Hbx9 Hcut hbc hbci hne Hsb
  have p0:=HP.out.cell 0
  have p1:=HP.out.cell 1
  have p2:=HP.out.cell 2
  have p3:=HP.out.cell 3
  have p4:=HP.out.cell 4
  go_wp2_with fail
  with_reducible refine (iSame_any 0 0 none 0 0 none 0 0 none 0 0 [] [] [] 0 0 none 0 0 none 0 0 none 0 0 [] [] [] _ (StAt.nil _) (StAt.nil _) (by decide) (by decide)).mono ?_
  rintro e w10 ⟨rfl,hb⟩
  rw [sameSt_self]
  replace BQ:=Lib.hid (BQ.out.on hb)
  replace HO:=Lib.hid (own_below HO.out hb)
  replace Hb7:=Lib.hid (bon Hb7.out hb)
  replace HB:=Lib.hid (bon HB.out hb)
  clear p0 p1 p2 p3 p4 hb HP Hg e1
  have q0:=BQ.out.cell 0
  have q1:=BQ.out.cell 1
  have hle:=Hle.out
  go_wp2_with fail
  have hm0:=Int.emod_nonneg ta (show (8*(xl:Int)-31)≠0 by omega)
  have hm1:=Int.emod_lt_of_pos ta (show (0:Int)<8*(xl:Int)-31 by omega)
  obtain ⟨at_,hat⟩:∃ at_:Nat,ta % (8*(xl:Int)-31)=(at_:Int):=⟨(ta % (8*(xl:Int)-31)).toNat,by omega⟩
  rw [hat] at hm0 hm1
  have hax:at_+32<=8*xl:=by omega
  have Hat:=Lib.hid hat
  clear hat hm0 hm1
  with_reducible refine (bring_any ta (8*(xl:Int)-31) _ Hta.out.1 Hta.out.2 (by omega) (by have:=Hle.out;omega)).mono ?_
  rw [Hat.out]
  rintro e w11 ⟨rfl,rfl⟩
  have hw:=Hbt.out
  go_wp2
  clear q0 q1 hw Hta Hat BQ
  obtain ⟨g,rfl,hg,-,-,-⟩:=own_at HO.out (by omega)
  go_loopw [13] (fun ix wr=>∃ i:Nat,i<=32/\ix=.int .i64 (i:Int)/\Hid (wr.ownsRow w7.heap.size 5 1 (.slice (some ⟨g,0,none⟩) xl xc) xl (u8s (burstB xs at_ bt i)))/\Hid (Below w7.heap.size w7 wr)) (fun ix _=>32-(intOf ix).toNat)
  case atStart=>exact ⟨0,Nat.zero_le _,rfl,HO,Hb7⟩
  case round=>
   clear HO Hb7 HB
   obtain ⟨i,hi,rfl,HO,HB5⟩:=hrel
   by_cases hlt:i<32
   ·have d1:decide ((i:Int)<32)=true:=by simp;omega
    obtain ⟨p,hp⟩:∃ p:Nat,p=at_+i:=⟨_,rfl⟩
    have hpi:(at_:Int)+(i:Int)=(p:Int):=by omega
    have hi1:i+1<=32:=hlt
    have hbt:=bit_tmod bt i
    have hlb:=burstB_len xs at_ bt i
    by_cases hbit:bt / 2 ^ i % 2=1
    ·rw [hbit] at hbt
     have hcond:(((bt:Int) / 2 ^ i).tmod 2==1)=true:=by rw [hbt];rfl
     have hp8:p / 8<xl:=by omega
     obtain ⟨b,hb⟩:∃ b,(burstB xs at_ bt i)[p / 8]? = some b:=⟨_,List.getElem?_eq_getElem (by rw [hlb,Hxl.out];exact hp8)⟩
     have c1:wr.cell? ⟨g,p / 8,none⟩=some (.int .u8 (b.toNat:Int)):=by
      rw [HO.out.cellAt (p / 8) (by omega)]
      simp [u8s,hb]
     have f1:=HO.out.frozenAt (p / 8)
     have hfl:=flipB_set (burstB xs at_ bt i) p b hb
     have hnx:=burstB_succ xs at_ bt i
     rw [if_pos hbit,<-hp,hfl] at hnx
     have Hnx:=Lib.hid hnx
     have HO2:=Lib.hid (HO.out.stored (p / 8) (.int .u8 ((b ^^^ UInt8.ofNat (2 ^ (p % 8))).toNat:Int))).1
     rw [u8s_set,<-Hnx.out] at HO2
     have HB6:=Lib.hid (HB5.out.setCell (p:=⟨g,p / 8,none⟩) hg (.int .u8 ((b ^^^ UInt8.ofNat (2 ^ (p % 8))).toNat:Int)))
     have Hv:=Lib.hid (xor_byte b (p % 8) (by omega))
     clear hb hfl hnx hlb hbit hbt hp
     go_wp2
     go_region
     rw [Hv.out]
     have HO2:=Lib.hid (HO2.out.drew)
     have HB6:=Lib.hid (HB6.out.drew)
     go_wp2
     go_roundw
     case rel=>exact ⟨i+1,hi1,by go_num,HO2,HB6⟩
     case measure=>simp [intOf];omega
    have hb0:bt / 2 ^ i % 2=0:=by omega
    rw [hb0] at hbt
    have hcond:(((bt:Int) / 2 ^ i).tmod 2==1)=false:=by rw [hbt];rfl
    have hnx:=burstB_succ xs at_ bt i
    rw [if_neg hbit] at hnx
    have HO2:=HO.out
    rw [<-hnx] at HO2
    have HO2:=Lib.hid HO2
    clear hlb hbit hbt hb0 hnx hp
    go_wp2
    go_roundw
    case rel=>exact ⟨i+1,hi1,by go_num,HO2,HB5⟩
    case measure=>simp [intOf];omega
   have d1:decide ((i:Int)<32)=false:=by simp;omega
   obtain rfl:i=32:=by omega
   have HS:=Lib.hid (HS7.out.on HB5.out)
   have HA:=Lib.hid (HA7.out.on HB5.out)
   have HX:=Lib.hid (own_reads HO.out)
   have HB:=Lib.hid (bon HB7.out HB5.out)
   clear HO HB5 HS7 HA7 HB7 d1 hi hlt
   obtain ⟨ba,hba⟩:∃ ba,ba=wr.heap.size:=⟨_,rfl⟩
   have HLs:=Lib.hid (schs_lit c1 c2 ba hba HS.out.at_ (by have:=HS.out.le1;omega) (by have:=HS.out.le2;omega))
   have hal:=bal (Below.refl wr.heap.size wr) (.cells #[.slice A1 n1 c1,.slice A2 n2 c2] 48)
   have HS2:=Lib.hid (HS.out.on hal)
   replace HA:=Lib.hid (HA.out.on hal)
   replace HX:=Lib.hid (HX.out.on hal)
   replace HB:=Lib.hid (bon HB.out hal)
   have d1:decide (((32:Nat):Int)<32)=false:=rfl
   have x0:=HS.out.box.cell 0
   have x1:=HS.out.box.cell 1
   clear hal
   by_cases hb0:bt=0
   ·subst hb0
    have d2:(((0:Nat):Int)==0)=true:=rfl
    rw [burst_still] at HX
    go_wp2_with fail
    rw [<-hba]
    clear hba x0 x1 d1
    generalize wr.alloc (.cells #[.slice A1 n1 c1,.slice A2 n2 c2] 48)=w12 at *
    with_reducible refine (iparse_any (some ⟨ba,0,none⟩) 1 1 [sc] (some ⟨g,0,none⟩) xl xc xs _ HLs.out (by decide) (by decide) Hok1.out HX.out (by have:=Hcc.out;omega) (by have:=Hcc.out;omega) Hle.out (Ht9.out _ HB.out).1 (Ht9.out _ HB.out).2).mono ?_
    rintro e w13 ⟨hb,hp⟩
    rw [Hbk.out] at hp
    obtain ⟨M2,mk,mc2,R2,rk,rc2,L2,lk,lc2,he,hst,⟨u1,u2⟩,⟨u3,u4⟩,-⟩:=hp
    have he2:e=.returned (.tuple #[.agg #[.int .i64 1,.int .i64 q,.slice M2 mk mc2,.slice R2 rk rc2,.slice L2 lk lc2],.int .i64 0]):=he
    clear he
    subst he2
    have hal:=bal (Below.refl w13.heap.size w13) (.cells #[.int .i64 1,.int .i64 q,.slice M2 mk mc2,.slice R2 rk rc2,.slice L2 lk lc2] 51)
    have HSt:=Lib.hid (show StAt _ M2 mk R2 rk L2 lk ma lA aA from hst.on hal)
    have Hu:=Lib.hid (And.intro (Nat.le_trans u1 u2) (Nat.le_trans u3 u4))
    replace HA:=Lib.hid ((HA.out.on hb).on hal)
    replace HB:=Lib.hid (bon (bon HB.out hb) hal)
    clear hal hb hst HX HLs HS2 u1 u2 u3 u4
    have y0:=HA.out.box.cell 0
    have y1:=HA.out.box.cell 1
    have y2:=HA.out.box.cell 2
    have y3:=HA.out.box.cell 3
    have y4:=HA.out.box.cell 4
    go_wp2_with fail
    clear y0 y1 y2 y3 y4 d2
    generalize w13.alloc (.cells #[.int .i64 1,.int .i64 q,.slice M2 mk mc2,.slice R2 rk rc2,.slice L2 lk lc2] 51)=w14 at *
    with_reducible refine (iSame_any 1 q M2 mk mc2 R2 rk rc2 L2 lk lc2 ma lA aA 1 q M1 mn1 mc1 R1 rn1 rc1 L1 ln1 lc1 ma lA aA _ HSt.out HA.out.at_ Hu.out.1 Hu.out.2).mono ?_
    rintro e w15 ⟨rfl,hb⟩
    replace HB:=Lib.hid (bon HB.out hb)
    clear hb
    rw [sameSt_self]
    go_wp2_with fail
    with_reducible refine (iworks_yes _ (Ht9.out _ HB.out).1 (Ht9.out _ HB.out).2).mono ?_
    rintro e w12 ⟨rfl,hb⟩
    have HF:=Lib.hid (bon HB.out hb)
    clear hb
    go_wp2
    go_ret
    exact ⟨rfl,HF.out⟩
   have d2:((bt:Int)==0)=false:=by simp;omega
   have hdd:=Hbu.out at_ hax hb0
   generalize burstB xs at_ bt 32=ys at HX hdd
   have Hdd:=Lib.hid hdd
   clear hdd hb0 Hbu
   go_wp2_with fail
   rw [<-hba]
   clear hba x0 x1 d1
   generalize wr.alloc (.cells #[.slice A1 n1 c1,.slice A2 n2 c2] 48)=w12 at *
   with_reducible refine (iparse_any (some ⟨ba,0,none⟩) 1 1 [sc] (some ⟨g,0,none⟩) xl xc ys _ HLs.out (by decide) (by decide) Hok1.out HX.out (by have:=Hcc.out;omega) (by have:=Hcc.out;omega) Hle.out (Ht9.out _ HB.out).1 (Ht9.out _ HB.out).2).mono ?_
   rintro e w13 ⟨hb,hp⟩
   rw [Hdd.out] at hp
   obtain ⟨rfl,-⟩:=hp
   have hal:=bal (Below.refl w13.heap.size w13) (.cells #[.int .i64 0,.int .i64 0,.slice none 0 0,.slice none 0 0,.slice none 0 0] 51)
   replace HB:=Lib.hid (bon (bon HB.out hb) hal)
   clear hal hb HX HLs HS2
   go_wp2_with fail
   with_reducible refine (iSame_any 0 0 none 0 0 none 0 0 none 0 0 [] [] [] 0 0 none 0 0 none 0 0 none 0 0 [] [] [] _ (StAt.nil _) (StAt.nil _) (by decide) (by decide)).mono ?_
   rintro e w15 ⟨rfl,hb⟩
   replace HB:=Lib.hid (bon HB.out hb)
   clear hb
   rw [sameSt_self]
   go_wp2_with fail
   with_reducible refine (iworks_yes _ (Ht9.out _ HB.out).1 (Ht9.out _ HB.out).2).mono ?_
   rintro e w12 ⟨rfl,hb⟩
   have HF:=Lib.hid (bon HB.out hb)
   clear hb
   go_wp2
   go_ret
   exact ⟨rfl,HF.out⟩
end Go.Proofs.YtjpjalmilfgckaaGreatDoor
