/- The law ImageApart, walked. Conditions: none of its own; each lemma states what it asks. -/
import Derived.Test.YtjpjalmilfgckaaGreatDoorIm31
set_option maxRecDepth 100000
set_option linter.unusedVariables false
set_option linter.unusedSimpArgs false
namespace Go.Proofs.YtjpjalmilfgckaaGreatDoor
open Go.RowKit
theorem apart_eq {s:Sc} {a b:St} (ha:imgE s a=0) (hb:imgE s b=0) (hqa:a.2.1<=9223372036854775807) (hqb:b.2.1<=9223372036854775807):(imgA s a==imgA s b)=sameSt a b:=by
 cases h:sameSt a b with
 | true=>rw [(sameSt_iff a b).1 h];simp
 | false=>
  rw [beq_eq_false_iff_ne]
  intro he
  rw [imgA_inj (imgE_zero.1 ha) (imgE_zero.1 hb) hqa hqb he,sameSt_self] at h
  cases h
set_option maxHeartbeats 8000000 in
theorem imageApart_walk (CA:Option Addr) (cn cc:Nat) (KA:Option Addr) (kn kc:Nat) (s:Sc) (v q:Int) (MA:Option Addr) (mn mc:Nat) (RA:Option Addr) (rn rc:Nat) (LA:Option Addr) (ln lc:Nat) (ms:List Mk) (l:List It) (la:List UInt8) (v2 q2:Int) (MB:Option Addr) (mm md:Nat) (RB:Option Addr) (rm rd:Nat) (LB:Option Addr) (lm ld:Nat) (ms2:List Mk) (l2:List It) (la2:List UInt8) (w:World)
  (hs:SchIn w w.heap.size ((CA,cn,cc),(KA,kn,kc)) s) (h1:StIn w w.heap.size v q MA mn mc RA rn rc LA ln lc ms l la) (h2:StIn w w.heap.size v2 q2 MB mm md RB rm rd LB lm ld ms2 l2 la2) (hT:Tab2 w.heap.size w) (hE:ErrT w) :
  Calls Tryz.prog 8 #[.agg #[.slice CA cn cc,.slice KA kn kc],.agg #[.int .i64 v,.int .i64 q,.slice MA mn mc,.slice RA rn rc,.slice LA ln lc],.agg #[.int .i64 v2,.int .i64 q2,.slice MB mm md,.slice RB rm rd,.slice LB lm ld]] w fun e w'=>e=.returned (.bool true)/\Below w.heap.size w w':=by
 have HSt:=Lib.hid (ScAt.of_in hs)
 have Hs1:=Lib.hid (And.intro hs.c1 hs.c2)
 have Hs2:=Lib.hid (And.intro hs.k1 hs.k2)
 have Hsk:=Lib.hid hs.ok
 clear hs
 have Hx1:=Lib.hid (StAt.mk (h1).marks (h1).rows (h1).last)
 have Hbx1:=Lib.hid (And.intro (Nat.le_trans (h1).m1 (h1).m2) (And.intro (Nat.le_trans (h1).r1 (h1).r2) (And.intro (h1).l1 (h1).l2)))
 have Hmx1:=Lib.hid (h1).mok
 have Hix1:=Lib.hid (h1).rok
 have Hqx1:=Lib.hid (h1).q9.2
 clear h1
 have Hx2:=Lib.hid (StAt.mk (h2).marks (h2).rows (h2).last)
 have Hbx2:=Lib.hid (And.intro (Nat.le_trans (h2).m1 (h2).m2) (And.intro (Nat.le_trans (h2).r1 (h2).r2) (And.intro (h2).l1 (h2).l2)))
 have Hmx2:=Lib.hid (h2).mok
 have Hix2:=Lib.hid (h2).rok
 have Hqx2:=Lib.hid (h2).q9.2
 clear h2
 have Ht9:=Lib.hid (show ∀ w',Below w.heap.size w w'->Tab2 w'.heap.size w'/\ErrT w' from fun w' h=>⟨hT.on h,hE.on h⟩)
 obtain ⟨W1,hW1⟩:∃ W1,((w.alloc (.cells #[.slice CA cn cc,.slice KA kn kc] 48)).alloc (.cells #[.int .i64 v,.int .i64 q,.slice MA mn mc,.slice RA rn rc,.slice LA ln lc] 51)).alloc (.cells #[.int .i64 v2,.int .i64 q2,.slice MB mm md,.slice RB rm rd,.slice LB lm ld] 51)=W1:=⟨_,rfl⟩
 have HB:=Lib.hid (show Below w.heap.size w W1 by rw [<-hW1];exact bal (bal (bal (Below.refl _ _) _) _) _)
 have BS:=Lib.hid (show Blk W1 w.heap.size 48 #[.slice CA cn cc,.slice KA kn kc] by rw [<-hW1];exact ((Blk.new w _ _).alloc _).alloc _)
 have BA:=Lib.hid (show Blk W1 (w.heap.size+1) 51 #[.int .i64 v,.int .i64 q,.slice MA mn mc,.slice RA rn rc,.slice LA ln lc] by rw [<-hW1];exact (Blk.new' _ _ _ _ (by simp)).alloc _)
 have BB:=Lib.hid (show Blk W1 (w.heap.size+2) 51 #[.int .i64 v2,.int .i64 q2,.slice MB mm md,.slice RB rm rd,.slice LB lm ld] by rw [<-hW1];exact Blk.new' _ _ _ _ (by simp))
 clear hT hE
 go_enter Tryz.func8,Tryz.ntmps8
 go_wp2
 try rw [hW1]
 rw [show w.heap.size+1+1=w.heap.size+2 from rfl]
 clear hW1
 have S0:=Lib.hid (show ∀ w',Below W1.heap.size W1 w'->w'.cell? ⟨w.heap.size,0,none⟩=some (.slice CA cn cc) from fun w' h=>(BS.out.on h).cell 0)
 have S1:=Lib.hid (show ∀ w',Below W1.heap.size W1 w'->w'.cell? ⟨w.heap.size,1,none⟩=some (.slice KA kn kc) from fun w' h=>(BS.out.on h).cell 1)
 have A0:=Lib.hid (show ∀ w',Below W1.heap.size W1 w'->w'.cell? ⟨w.heap.size+1,0,none⟩=some (.int .i64 v) from fun w' h=>(BA.out.on h).cell 0)
 have A1:=Lib.hid (show ∀ w',Below W1.heap.size W1 w'->w'.cell? ⟨w.heap.size+1,1,none⟩=some (.int .i64 q) from fun w' h=>(BA.out.on h).cell 1)
 have A2:=Lib.hid (show ∀ w',Below W1.heap.size W1 w'->w'.cell? ⟨w.heap.size+1,2,none⟩=some (.slice MA mn mc) from fun w' h=>(BA.out.on h).cell 2)
 have A3:=Lib.hid (show ∀ w',Below W1.heap.size W1 w'->w'.cell? ⟨w.heap.size+1,3,none⟩=some (.slice RA rn rc) from fun w' h=>(BA.out.on h).cell 3)
 have A4:=Lib.hid (show ∀ w',Below W1.heap.size W1 w'->w'.cell? ⟨w.heap.size+1,4,none⟩=some (.slice LA ln lc) from fun w' h=>(BA.out.on h).cell 4)
 have B0:=Lib.hid (show ∀ w',Below W1.heap.size W1 w'->w'.cell? ⟨w.heap.size+2,0,none⟩=some (.int .i64 v2) from fun w' h=>(BB.out.on h).cell 0)
 have B1:=Lib.hid (show ∀ w',Below W1.heap.size W1 w'->w'.cell? ⟨w.heap.size+2,1,none⟩=some (.int .i64 q2) from fun w' h=>(BB.out.on h).cell 1)
 have B2:=Lib.hid (show ∀ w',Below W1.heap.size W1 w'->w'.cell? ⟨w.heap.size+2,2,none⟩=some (.slice MB mm md) from fun w' h=>(BB.out.on h).cell 2)
 have B3:=Lib.hid (show ∀ w',Below W1.heap.size W1 w'->w'.cell? ⟨w.heap.size+2,3,none⟩=some (.slice RB rm rd) from fun w' h=>(BB.out.on h).cell 3)
 have B4:=Lib.hid (show ∀ w',Below W1.heap.size W1 w'->w'.cell? ⟨w.heap.size+2,4,none⟩=some (.slice LB lm ld) from fun w' h=>(BB.out.on h).cell 4)
 have hS:Below W1.heap.size W1 W1.drew:=(Below.refl _ _).drew
 refine wp_region_phase (fun w'=>Below W1.heap.size W1 w') [0,2,4] [(0,false),(2,false),(4,false),(1,true),(3,true),(5,true)] (fun _=>True) [(6,true),(7,true),(8,true)] (by kernel_rfl) (by kernel_rfl) (by kernel_rfl) (fun d _ _ _ _ h=>by cases d<;>exact h) ?_
 refine fP2 hS S0.out S1.out ?_
 refine fP5 hS A0.out A1.out A2.out A3.out A4.out ?_
 refine fP5 hS B0.out B1.out B2.out B3.out B4.out ?_
 clear S0 S1 A0 A1 A2 A3 A4 B0 B1 B2 B3 B4
 refine fE fun K hK=>?_
 go_simp
 with_reducible refine (columns28_any CA cn cc KA kn kc s _ (HSt.out.on (bon HB.out hS)) Hs1.out.1 Hs1.out.2 Hs2.out.1 Hs2.out.2 Hsk.out).mono ?_
 rintro e w2 ⟨A1,n1,c1,A2,n2,c2,rfl,hn1,hn2,o1,o2,hb⟩
 have HRS:=Lib.hid (RowsS.mk (own_mono o1 (bon HB.out hS).size) (own_mono o2 (bon HB.out hS).size))
 have HS:=Lib.hid (bon hS hb)
 have Hn1:=Lib.hid (And.intro hn1 hn2)
 clear o1 o2 hb hn1 hn2
 refine held_go hK (by exact HS.out) fun hS=>?_
 clear hK K
 try simp only [zp]
 clear HS
 refine fE fun K hK=>?_
 go_simp
 with_reducible refine (cut28_any v q MA mn mc RA rn rc LA ln lc ms l la _ (Hx1.out.on (bon HB.out hS)) Hbx1.out.1 Hbx1.out.2.1 Hbx1.out.2.2.1 Hbx1.out.2.2.2 Hmx1.out Hix1.out).mono ?_
 rintro e w3 ⟨M1,mn1,mc1,R1,rn1,rc1,L1,ln1,lc1,rfl,hn1,hn2,hn3,o1,o2,o3,hb⟩
 have HRA:=Lib.hid (RowsT.mk (own_mono o1 (bon HB.out hS).size) (o2.mono (bon HB.out hS).size) (own_mono o3 (bon HB.out hS).size))
 have HS:=Lib.hid (bon hS hb)
 replace HRS:=Lib.hid (HRS.out.on hb)
 have Hn3:=Lib.hid (And.intro hn1 (And.intro hn2 hn3))
 clear o1 o2 o3 hb hn1 hn2 hn3
 refine held_go hK (by exact HS.out) fun hS=>?_
 clear hK K
 try simp only [zp]
 clear HS
 refine fE fun K hK=>?_
 go_simp
 with_reducible refine (cut28_any v2 q2 MB mm md RB rm rd LB lm ld ms2 l2 la2 _ (Hx2.out.on (bon HB.out hS)) Hbx2.out.1 Hbx2.out.2.1 Hbx2.out.2.2.1 Hbx2.out.2.2.2 Hmx2.out Hix2.out).mono ?_
 rintro e w4 ⟨M2,mn2,mc2,R2,rn2,rc2,L2,ln2,lc2,rfl,hn1,hn2,hn3,o1,o2,o3,hb⟩
 have HRB:=Lib.hid (RowsT.mk (own_mono o1 (bon HB.out hS).size) (o2.mono (bon HB.out hS).size) (own_mono o3 (bon HB.out hS).size))
 have HS:=Lib.hid (bon hS hb)
 replace HRS:=Lib.hid (HRS.out.on hb)
 replace HRA:=Lib.hid (HRA.out.on hb)
 have Hn4:=Lib.hid (And.intro hn1 (And.intro hn2 hn3))
 clear o1 o2 o3 hb hn1 hn2 hn3
 refine held_go hK (by exact HS.out) fun hS=>?_
 clear hK K
 try simp only [zp]
 clear HS
 refine phase_end ?_
 replace BS:=Lib.hid (BS.out.on hS)
 replace BA:=Lib.hid (BA.out.on hS)
 replace BB:=Lib.hid (BB.out.on hS)
 replace HB:=Lib.hid (bon HB.out hS)
 clear hS
 have hS:True:=trivial
 have a0:=BS.out.cell 0
 have a1:=BS.out.cell 1
 have f0:=BS.out.frozen 0
 have f1:=BS.out.frozen 1
 refine hE fun K hK=>?_
 go_simp
 clear a0 a1 f0 f1
 replace BA:=Lib.hid (BA.out.far2 (a:=.slice A1 n1 c1) (b:=.slice A2 n2 c2) (g:=w.heap.size) (by omega))
 replace BB:=Lib.hid (BB.out.far2 (a:=.slice A1 n1 c1) (b:=.slice A2 n2 c2) (g:=w.heap.size) (by omega))
 replace HB:=Lib.hid (below_far2 (a:=.slice A1 n1 c1) (b:=.slice A2 n2 c2) HB.out (Nat.le_refl _))
 replace HRS:=Lib.hid (HRS.out.far2 (a:=.slice A1 n1 c1) (b:=.slice A2 n2 c2) BS.out)
 replace HRA:=Lib.hid (HRA.out.far2 (a:=.slice A1 n1 c1) (b:=.slice A2 n2 c2) BS.out)
 replace HRB:=Lib.hid (HRB.out.far2 (a:=.slice A1 n1 c1) (b:=.slice A2 n2 c2) BS.out)
 replace BS:=Lib.hid (BS.out.set2 (a:=.slice A1 n1 c1) (b:=.slice A2 n2 c2))
 generalize (w4.setCell ⟨w.heap.size,0,none⟩ (.slice A1 n1 c1)).setCell ⟨w.heap.size,1,none⟩ (.slice A2 n2 c2)=w5 at *
 refine held_go hK (by exact trivial) fun hS=>?_
 clear hK K
 try simp only [zp]
 have a0:=BA.out.cell 0
 have a1:=BA.out.cell 1
 have a2:=BA.out.cell 2
 have a3:=BA.out.cell 3
 have a4:=BA.out.cell 4
 have f0:=BA.out.frozen 0
 have f1:=BA.out.frozen 1
 have f2:=BA.out.frozen 2
 have f3:=BA.out.frozen 3
 have f4:=BA.out.frozen 4
 refine hE fun K hK=>?_
 go_simp
 clear a0 a1 a2 a3 a4 f0 f1 f2 f3 f4
 replace BS:=Lib.hid (BS.out.far5 (a:=.int .i64 v) (b:=.int .i64 q) (c:=.slice M1 mn1 mc1) (d:=.slice R1 rn1 rc1) (e:=.slice L1 ln1 lc1) (g:=w.heap.size+1) (by omega))
 replace BB:=Lib.hid (BB.out.far5 (a:=.int .i64 v) (b:=.int .i64 q) (c:=.slice M1 mn1 mc1) (d:=.slice R1 rn1 rc1) (e:=.slice L1 ln1 lc1) (g:=w.heap.size+1) (by omega))
 replace HB:=Lib.hid (below_far5 (a:=.int .i64 v) (b:=.int .i64 q) (c:=.slice M1 mn1 mc1) (d:=.slice R1 rn1 rc1) (e:=.slice L1 ln1 lc1) (g:=w.heap.size+1) HB.out (by omega))
 replace HRS:=Lib.hid (HRS.out.far5 (a:=.int .i64 v) (b:=.int .i64 q) (c:=.slice M1 mn1 mc1) (d:=.slice R1 rn1 rc1) (e:=.slice L1 ln1 lc1) BA.out)
 replace HRA:=Lib.hid (HRA.out.far5 (a:=.int .i64 v) (b:=.int .i64 q) (c:=.slice M1 mn1 mc1) (d:=.slice R1 rn1 rc1) (e:=.slice L1 ln1 lc1) BA.out)
 replace HRB:=Lib.hid (HRB.out.far5 (a:=.int .i64 v) (b:=.int .i64 q) (c:=.slice M1 mn1 mc1) (d:=.slice R1 rn1 rc1) (e:=.slice L1 ln1 lc1) BA.out)
 replace BA:=Lib.hid (BA.out.set5 (a:=.int .i64 v) (b:=.int .i64 q) (c:=.slice M1 mn1 mc1) (d:=.slice R1 rn1 rc1) (e:=.slice L1 ln1 lc1))
 generalize ((((w5.setCell ⟨w.heap.size+1,0,none⟩ (.int .i64 v)).setCell ⟨w.heap.size+1,1,none⟩ (.int .i64 q)).setCell ⟨w.heap.size+1,2,none⟩ (.slice M1 mn1 mc1)).setCell ⟨w.heap.size+1,3,none⟩ (.slice R1 rn1 rc1)).setCell ⟨w.heap.size+1,4,none⟩ (.slice L1 ln1 lc1)=w6 at *
 refine held_go hK (by exact trivial) fun hS=>?_
 clear hK K
 try simp only [zp]
 have a0:=BB.out.cell 0
 have a1:=BB.out.cell 1
 have a2:=BB.out.cell 2
 have a3:=BB.out.cell 3
 have a4:=BB.out.cell 4
 have f0:=BB.out.frozen 0
 have f1:=BB.out.frozen 1
 have f2:=BB.out.frozen 2
 have f3:=BB.out.frozen 3
 have f4:=BB.out.frozen 4
 refine hE fun K hK=>?_
 go_simp
 clear a0 a1 a2 a3 a4 f0 f1 f2 f3 f4
 replace BS:=Lib.hid (BS.out.far5 (a:=.int .i64 v2) (b:=.int .i64 q2) (c:=.slice M2 mn2 mc2) (d:=.slice R2 rn2 rc2) (e:=.slice L2 ln2 lc2) (g:=w.heap.size+2) (by omega))
 replace BA:=Lib.hid (BA.out.far5 (a:=.int .i64 v2) (b:=.int .i64 q2) (c:=.slice M2 mn2 mc2) (d:=.slice R2 rn2 rc2) (e:=.slice L2 ln2 lc2) (g:=w.heap.size+2) (by omega))
 replace HB:=Lib.hid (below_far5 (a:=.int .i64 v2) (b:=.int .i64 q2) (c:=.slice M2 mn2 mc2) (d:=.slice R2 rn2 rc2) (e:=.slice L2 ln2 lc2) (g:=w.heap.size+2) HB.out (by omega))
 replace HRS:=Lib.hid (HRS.out.far5 (a:=.int .i64 v2) (b:=.int .i64 q2) (c:=.slice M2 mn2 mc2) (d:=.slice R2 rn2 rc2) (e:=.slice L2 ln2 lc2) BB.out)
 replace HRA:=Lib.hid (HRA.out.far5 (a:=.int .i64 v2) (b:=.int .i64 q2) (c:=.slice M2 mn2 mc2) (d:=.slice R2 rn2 rc2) (e:=.slice L2 ln2 lc2) BB.out)
 replace HRB:=Lib.hid (HRB.out.far5 (a:=.int .i64 v2) (b:=.int .i64 q2) (c:=.slice M2 mn2 mc2) (d:=.slice R2 rn2 rc2) (e:=.slice L2 ln2 lc2) BB.out)
 replace BB:=Lib.hid (BB.out.set5 (a:=.int .i64 v2) (b:=.int .i64 q2) (c:=.slice M2 mn2 mc2) (d:=.slice R2 rn2 rc2) (e:=.slice L2 ln2 lc2))
 generalize ((((w6.setCell ⟨w.heap.size+2,0,none⟩ (.int .i64 v2)).setCell ⟨w.heap.size+2,1,none⟩ (.int .i64 q2)).setCell ⟨w.heap.size+2,2,none⟩ (.slice M2 mn2 mc2)).setCell ⟨w.heap.size+2,3,none⟩ (.slice R2 rn2 rc2)).setCell ⟨w.heap.size+2,4,none⟩ (.slice L2 ln2 lc2)=w7 at *
 refine held_go hK (by exact trivial) fun hS=>?_
 clear hK K
 try simp only [zp]
 refine held_end ?_
 have HS:=Lib.hid (LawS.mk BS.out HRS.out.at_ Hn1.out.1 Hn1.out.2 (cutsc_ok Hsk.out))
 have HA:=Lib.hid (LawT.mk BA.out HRA.out.at_ Hn3.out.1 Hn3.out.2.1 Hn3.out.2.2 (cutms_ok Hmx1.out) (cutis_ok Hix1.out) Hqx1.out)
 have HD:=Lib.hid (LawT.mk BB.out HRB.out.at_ Hn4.out.1 Hn4.out.2.1 Hn4.out.2.2 (cutms_ok Hmx2.out) (cutis_ok Hix2.out) Hqx2.out)
 clear BS BA BB HRS HRA HRB Hn1 Hn3 Hn4 hS HSt Hs1 Hs2 Hsk Hx1 Hx2 Hbx1 Hbx2 Hmx1 Hmx2 Hix1 Hix2 Hqx1 Hqx2
 generalize cutsc s=sc at *
 generalize cutms ms=ma at *
 generalize cutis l=lA at *
 generalize la.take 300=aA at *
 generalize cutms ms2=mb at *
 generalize cutis l2=lB at *
 generalize la2.take 300=aB at *
 have x0:=HS.out.box.cell 0
 have x1:=HS.out.box.cell 1
 have y0:=HA.out.box.cell 0
 have y1:=HA.out.box.cell 1
 have y2:=HA.out.box.cell 2
 have y3:=HA.out.box.cell 3
 have y4:=HA.out.box.cell 4
 go_wp2_with fail
 clear x0 x1 y0 y1 y2 y3 y4
 with_reducible refine (lbytes_any HA.out HS.out (Ht9.out _ HB.out).1 (Ht9.out _ HB.out).2).mono ?_
 rintro e w8 ⟨hb,he⟩
 replace HS:=Lib.hid (HS.out.on hb)
 replace HA:=Lib.hid (HA.out.on hb)
 replace HD:=Lib.hid (HD.out.on hb)
 replace HB:=Lib.hid (bon HB.out hb)
 clear hb
 obtain ⟨E1,hE1⟩:∃ E,imgE sc (v,q,ma,lA,aA)=E:=⟨_,rfl⟩
 obtain ⟨xs,hxs⟩:∃ xs,imgA sc (v,q,ma,lA,aA)=xs:=⟨_,rfl⟩
 have HE1:=Lib.hid hE1
 have Hxs:=Lib.hid hxs
 rw [hE1,hxs] at he
 clear hE1 hxs
 obtain ⟨Xa,xn,xc,rfl,hx⟩:∃ A n c,e=.returned (.tuple #[.slice A n c,.int .i64 E1])/\(E1=0->Reads w8 w8.heap.size 1 A n (u8s xs)):=by
  rcases he with ⟨h0,A,c,rfl,ho⟩ | ⟨h0,rfl⟩
  ·exact ⟨A,_,c,by rw [h0],fun _=>own_reads ho⟩
  exact ⟨none,0,0,rfl,fun h=>absurd h h0⟩
 have HX:=Lib.hid hx
 clear hx he
 have x0:=HS.out.box.cell 0
 have x1:=HS.out.box.cell 1
 have y0:=HD.out.box.cell 0
 have y1:=HD.out.box.cell 1
 have y2:=HD.out.box.cell 2
 have y3:=HD.out.box.cell 3
 have y4:=HD.out.box.cell 4
 go_wp2_with fail
 clear x0 x1 y0 y1 y2 y3 y4
 with_reducible refine (lbytes_any HD.out HS.out (Ht9.out _ HB.out).1 (Ht9.out _ HB.out).2).mono ?_
 rintro e w9 ⟨hb,he⟩
 replace HS:=Lib.hid (HS.out.on hb)
 replace HA:=Lib.hid (HA.out.on hb)
 replace HD:=Lib.hid (HD.out.on hb)
 replace HB:=Lib.hid (bon HB.out hb)
 replace HX:=Lib.hid (fun h=>(HX.out h).on hb)
 clear hb
 obtain ⟨E2,hE2⟩:∃ E,imgE sc (v2,q2,mb,lB,aB)=E:=⟨_,rfl⟩
 obtain ⟨ys,hys⟩:∃ xs,imgA sc (v2,q2,mb,lB,aB)=xs:=⟨_,rfl⟩
 have HE2:=Lib.hid hE2
 have Hys:=Lib.hid hys
 rw [hE2,hys] at he
 clear hE2 hys
 obtain ⟨Ya,yn,yc,rfl,hy⟩:∃ A n c,e=.returned (.tuple #[.slice A n c,.int .i64 E2])/\(E2=0->Reads w9 w9.heap.size 1 A n (u8s ys)):=by
  rcases he with ⟨h0,A,c,rfl,ho⟩ | ⟨h0,rfl⟩
  ·exact ⟨A,_,c,by rw [h0],fun _=>own_reads ho⟩
  exact ⟨none,0,0,rfl,fun h=>absurd h h0⟩
 have HY:=Lib.hid hy
 clear hy he
 by_cases h1:E1=0
 ·have e1:(E1 != 0)=false:=by simpa using h1
  by_cases h2:E2=0
  ·have e2:(E2 != 0)=false:=by simpa using h2
   have Heq:=Lib.hid (show (xs==ys)=sameSt (v,q,ma,lA,aA) (v2,q2,mb,lB,aB) by rw [<-Hxs.out,<-Hys.out];exact apart_eq (HE1.out.trans h1) (HE2.out.trans h2) HA.out.q9 HD.out.q9)
   have HX:=Lib.hid (HX.out h1)
   have HY:=Lib.hid (HY.out h2)
   clear h1 h2
   have Y0:=Lib.hid (show ∀ w',Below w9.heap.size w9 w'->w'.cell? ⟨w.heap.size+1,0,none⟩=some (.int .i64 v) from fun w' h=>(HA.out.on h).box.cell 0)
   have Y1:=Lib.hid (show ∀ w',Below w9.heap.size w9 w'->w'.cell? ⟨w.heap.size+1,1,none⟩=some (.int .i64 q) from fun w' h=>(HA.out.on h).box.cell 1)
   have Y2:=Lib.hid (show ∀ w',Below w9.heap.size w9 w'->w'.cell? ⟨w.heap.size+1,2,none⟩=some (.slice M1 mn1 mc1) from fun w' h=>(HA.out.on h).box.cell 2)
   have Y3:=Lib.hid (show ∀ w',Below w9.heap.size w9 w'->w'.cell? ⟨w.heap.size+1,3,none⟩=some (.slice R1 rn1 rc1) from fun w' h=>(HA.out.on h).box.cell 3)
   have Y4:=Lib.hid (show ∀ w',Below w9.heap.size w9 w'->w'.cell? ⟨w.heap.size+1,4,none⟩=some (.slice L1 ln1 lc1) from fun w' h=>(HA.out.on h).box.cell 4)
   have Z0:=Lib.hid (show ∀ w',Below w9.heap.size w9 w'->w'.cell? ⟨w.heap.size+2,0,none⟩=some (.int .i64 v2) from fun w' h=>(HD.out.on h).box.cell 0)
   have Z1:=Lib.hid (show ∀ w',Below w9.heap.size w9 w'->w'.cell? ⟨w.heap.size+2,1,none⟩=some (.int .i64 q2) from fun w' h=>(HD.out.on h).box.cell 1)
   have Z2:=Lib.hid (show ∀ w',Below w9.heap.size w9 w'->w'.cell? ⟨w.heap.size+2,2,none⟩=some (.slice M2 mn2 mc2) from fun w' h=>(HD.out.on h).box.cell 2)
   have Z3:=Lib.hid (show ∀ w',Below w9.heap.size w9 w'->w'.cell? ⟨w.heap.size+2,3,none⟩=some (.slice R2 rn2 rc2) from fun w' h=>(HD.out.on h).box.cell 3)
   have Z4:=Lib.hid (show ∀ w',Below w9.heap.size w9 w'->w'.cell? ⟨w.heap.size+2,4,none⟩=some (.slice L2 ln2 lc2) from fun w' h=>(HD.out.on h).box.cell 4)
   have hS:Below w9.heap.size w9 w9.drew:=(Below.refl _ _).drew
   go_wp2
   refine hR (fun w'=>Below w9.heap.size w9 w') [ff 0,ff 1,ff 3,ff 4,tt 2,tt 5,ff 6,ff 7,tt 8,ff 9,ff 10] ?_
   refine hP hS ?_
   refine hP hS ?_
   refine hP5 hS Y0.out Y1.out Y2.out Y3.out Y4.out ?_
   refine hP5 hS Z0.out Z1.out Z2.out Z3.out Z4.out ?_
   clear Y0 Y1 Y2 Y3 Y4 Z0 Z1 Z2 Z3 Z4
   refine hE fun K hK=>?_
   go_simp
   with_reducible refine (eqBytes_any Xa Ya xn xc yn yc xs ys _ (HX.out.on hS) (HY.out.on hS)).mono ?_
   rintro e w10 ⟨rfl,rfl⟩
   rw [Heq.out]
   refine held_go hK hS fun hS=>?_
   clear hK K
   try simp only [zp]
   refine hE fun K hK=>?_
   go_simp
   with_reducible refine (lsame_any (HA.out.on hS) (HD.out.on hS).at_).mono ?_
   rintro e w11 ⟨rfl,hb⟩
   have HZ:=Lib.hid (bon hS hb)
   generalize sameSt (v,q,ma,lA,aA) (v2,q2,mb,lB,aB)=bb at *
   clear hb
   refine held_go hK (by exact HZ.out) fun hS=>?_
   clear hK K
   try simp only [zp]
   clear HZ
   have hbb:(bb==bb)=true:=by simp
   refine hP hS ?_
   refine hP hS ?_
   refine hE fun K hK=>?_
   go_simp
   with_reducible refine (iworks_yes _ (Ht9.out _ (bon HB.out hS)).1 (Ht9.out _ (bon HB.out hS)).2).mono ?_
   rintro e w12 ⟨rfl,hb⟩
   have HZ:=Lib.hid (bon hS hb)
   clear hb
   refine held_go hK (by exact HZ.out) fun hS=>?_
   clear hK K
   try simp only [zp]
   clear HZ
   refine hP hS ?_
   refine hP hS ?_
   refine held_end ?_
   go_wp2
   go_ret
   exact ⟨rfl,bon HB.out hS⟩
  have e2:(E2 != 0)=true:=by simpa using h2
  clear h1 h2
  go_wp2_with fail
  with_reducible refine (iworks_yes _ (Ht9.out _ HB.out).1 (Ht9.out _ HB.out).2).mono ?_
  rintro e w12 ⟨rfl,hb⟩
  have HF:=Lib.hid (bon HB.out hb)
  clear hb
  go_wp2
  go_ret
  exact ⟨rfl,HF.out⟩
 have e1:(E1 != 0)=true:=by simpa using h1
 clear h1
 go_wp2_with fail
 with_reducible refine (iworks_yes _ (Ht9.out _ HB.out).1 (Ht9.out _ HB.out).2).mono ?_
 rintro e w12 ⟨rfl,hb⟩
 have HF:=Lib.hid (bon HB.out hb)
 clear hb
 go_wp2
 go_ret
 exact ⟨rfl,HF.out⟩
end Go.Proofs.YtjpjalmilfgckaaGreatDoor
