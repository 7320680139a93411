/- Part 30 of the walks, merged: each text under its own heading. Conditions: none of its own; each lemma states what it asks. -/
import Derived.Test.YtjpjalmilfgckaaGreatDoorIm7
import Derived.Test.YtjpjalmilfgckaaGreatDoorIm23
import Derived.Test.YtjpjalmilfgckaaGreatDoorIm26
import Derived.Test.YtjpjalmilfgckaaGreatDoorIm29
set_option maxRecDepth 100000
set_option linter.unusedVariables false
set_option linter.unusedSimpArgs false
namespace Go.Proofs.YtjpjalmilfgckaaGreatDoor
open Go.RowKit
theorem imgP_zero2 (st:St):imgP st 0=((([]++[77,73,1])++leb st.1.toNat)++leb st.2.1.toNat)++leb st.2.2.1.length:=by rw [imgP_zero];rfl
theorem imgP_succ2 {st:St} {k:Nat} {m:Mk} (h:st.2.2.1[k]? = some m):imgP st (k+1)=(imgP st k++textB m.1)++leb m.2.toNat:=by rw [imgP_succ h,run_bts]
set_option maxHeartbeats 4000000 in
theorem ibytes_any (CA:Option Addr) (cn cc:Nat) (KA:Option Addr) (kn kc:Nat) (s:Sc) (MA:Option Addr) (mn mc:Nat) (RA:Option Addr) (rn rc:Nat) (LA:Option Addr) (ln lc:Nat) (st:St) (w:World) (h:ChkAt w CA cn KA kn s MA mn RA rn LA ln st) (hok:ChkOk cn kn mn rn ln s st) (hq9:st.2.1<=9223372036854775807) (hT2:Tab2 w.heap.size w) (hEr:ErrT w) :
  Calls Tryz.prog 20 #[.agg #[.slice CA cn cc,.slice KA kn kc],.agg #[.int .i64 st.1,.int .i64 st.2.1,.slice MA mn mc,.slice RA rn rc,.slice LA ln lc]] w (EncP (imgE s st) (imgA s st) w):=by
 obtain ⟨i0,hi0,hz0,hz1,hz2⟩:=info_parts u8_info
 have Hok:=Lib.hid hok
 have Hq9:=Lib.hid hq9
 have HT2:=Lib.hid hT2
 have Hml:=Lib.hid (mks_len h.st.marks)
 have Hll:=Lib.hid h.st.lastlen
 obtain ⟨W,hW1⟩:∃ W,(w.alloc (.cells #[.slice CA cn cc,.slice KA kn kc] 48)).alloc (.cells #[.int .i64 st.1,.int .i64 st.2.1,.slice MA mn mc,.slice RA rn rc,.slice LA ln lc] 51)=W:=⟨_,rfl⟩
 have H:=Lib.hid (show ChkAt W CA cn KA kn s MA mn RA rn LA ln st by rw [<-hW1];exact (h.al _).al _)
 have HB:=Lib.hid (show Below w.heap.size w W by rw [<-hW1];exact bal (bal (Below.refl _ _) _) _)
 have BS:=Lib.hid (show Blk W w.heap.size 48 #[.slice CA cn cc,.slice KA kn kc] by rw [<-hW1];exact (Blk.new w _ _).alloc _)
 have BT:=Lib.hid (show Blk W (w.heap.size+1) 51 #[.int .i64 st.1,.int .i64 st.2.1,.slice MA mn mc,.slice RA rn rc,.slice LA ln lc] by rw [<-hW1];exact Blk.new' _ _ _ _ (by simp))
 have hEW:=hEr.on HB.out
 clear h hok hq9 hT2 hEr
 have s0:=BS.out.cell 0
 have s1:=BS.out.cell 1
 have t0:=BT.out.cell 0
 have t1:=BT.out.cell 1
 have t2:=BT.out.cell 2
 have t3:=BT.out.cell 3
 have t4:=BT.out.cell 4
 have HCk:=Lib.hid (iCheck_any CA cn cc KA kn kc s MA mn mc RA rn rc LA ln lc st W H.out Hok.out hEW)
 clear hEW
 go_enter Tryz.func20,Tryz.ntmps20
 go_wp2_with fail
 try rw [hW1]
 clear hW1 s0 s1 t0 t1 t2 t3 t4
 with_reducible refine HCk.out.mono ?_
 rintro e w1 ⟨rfl,hb⟩
 have HB:=Lib.hid (bon HB.out hb)
 have BS:=Lib.hid (BS.out.on hb)
 have BT:=Lib.hid (BT.out.on hb)
 have H:=Lib.hid (H.out.on hb)
 clear hb HCk
 by_cases hE:imgE s st=0
 case neg=>
  have HE:=Lib.hid hE
  have hz:(imgE s st != 0)=true:=by simpa using hE
  clear hE
  generalize imgE s st=E at *
  go_wp2
  go_ret2
  exact ⟨HB.out,.inr ⟨HE.out,rfl⟩⟩
 have HE:=Lib.hid hE
 have Hst:=Lib.hid (stOk_of ((imgE_zero (s:=s) (st:=st)).1 hE))
 rw [hE]
 clear hE
 obtain ⟨V,hV,hVl⟩:∃ V:Nat,st.1.toNat=V/\V<=64:=⟨st.1.toNat,rfl,by have:=Hst.out.v;omega⟩
 obtain ⟨Q,hQ,hQl⟩:∃ Q:Nat,st.2.1.toNat=Q/\Q<=9223372036854775807:=⟨st.2.1.toNat,rfl,by have:=Hq9.out;omega⟩
 have hwv:IntKind.u64.wrap st.1=(V:Int):=by have:=Hst.out.v;rw [wrap_nat st.1 (by omega) (by omega),hV]
 have hwq:IntKind.u64.wrap st.2.1=(Q:Int):=by rw [wrap_nat st.2.1 Hst.out.q Hq9.out,hQ]
 have hmn16:mn<=16:=by have:=Hst.out.many;rw [Hml.out] at this;exact this
 have hwm:IntKind.u64.wrap (mn:Int)=(mn:Int):=(wrap_nat mn (by omega) (by omega)).trans (by simp)
 have HP0:=Lib.hid (show imgP st 0=((([]++[77,73,1])++leb V)++leb Q)++leb mn by rw [imgP_zero2,hV,hQ,Hml.out])
 have HL0:=Lib.hid (show (imgP st 0).length<=1000 from imgP_len Hst.out.mkk Hst.out.many 0)
 clear hV hQ
 go_wp2_with fail
 with_reducible refine (inew_any _).mono ?_
 rintro e w2 ⟨g,hg,rfl,hwg⟩
 have HW:=Lib.hid hwg
 have Hg:=Lib.hid hg
 clear hwg hg
 -- everything below the writer stays: facts for a world that keeps what is below g since w1
 have BS:=Lib.hid (show ∀ w',Below g w1 w'->Blk w' w.heap.size 48 #[.slice CA cn cc,.slice KA kn kc] from fun w' h=>BS.out.on (Hg.out ▸ h))
 have BT:=Lib.hid (show ∀ w',Below g w1 w'->Blk w' (w.heap.size+1) 51 #[.int .i64 st.1,.int .i64 st.2.1,.slice MA mn mc,.slice RA rn rc,.slice LA ln lc] from fun w' h=>BT.out.on (Hg.out ▸ h))
 have H:=Lib.hid (show ∀ w',Below g w1 w'->ChkAt w' CA cn KA kn s MA mn RA rn LA ln st from fun w' h=>H.out.on (Hg.out ▸ h))
 have HBw:=Lib.hid (show ∀ w',Below g w1 w'->Below w.heap.size w w' from fun w' h=>bon HB.out (Hg.out ▸ h))
 clear HB
 have hconv:(convert 35 35 (.slice (some ⟨w2.heap.size,0,none⟩) 3 3)).run Tryz.prog (w2.alloc (.cells #[.int .u8 77,.int .u8 73,.int .u8 1] 5))=.ok (.slice (some ⟨w2.heap.size,0,none⟩) 3 3) (w2.alloc (.cells #[.int .u8 77,.int .u8 73,.int .u8 1] 5 (3,4))):=
  Lib.run_convert_bytes_const w2 _ _ _ 3 3 Tryz.underlying35 Tryz.underlying5
 have HW:=Lib.hid (HW.out.on (bal (Below.refl w2.heap.size w2) (.cells #[.int .u8 77,.int .u8 73,.int .u8 1] 5 (3,4))))
 have HR0:=Lib.hid (reads_marked w2 #[.int .u8 77,.int .u8 73,.int .u8 1] 5 3 4 3 (u8s [77,73,1]) rfl rfl)
 go_wp2_with fail
 with_reducible refine (iwraw_any (some ⟨w2.heap.size,0,none⟩) 3 3 [77,73,1] HW.out HR0.out (by decide) (by simp)).mono ?_
 rintro e w5 hw5
 obtain ⟨k0,HWn,hbl⟩:=hw5
 subst k0
 have HW:=Lib.hid HWn
 clear HWn hbl
 clear hconv HR0
 have l1:=leb_le V
 have l2:=leb_le Q
 have t0:=(BT.out _ HW.out.2.1).cell 0
 go_wp2_with fail
 with_reducible refine (iwvar_any V HW.out (by omega) (by simp)).mono ?_
 rintro e w5 hw5
 obtain ⟨k0,HWn,hbl⟩:=hw5
 subst k0
 have HW:=Lib.hid HWn
 clear HWn hbl
 clear t0 hwv
 have t1:=(BT.out _ HW.out.2.1).cell 1
 go_wp2_with fail
 with_reducible refine (iwvar_any Q HW.out (by omega) (by simp only [List.length_append,List.length_cons,List.length_nil];omega)).mono ?_
 rintro e w5 hw5
 obtain ⟨k0,HWn,hbl⟩:=hw5
 subst k0
 have HW:=Lib.hid HWn
 clear HWn hbl
 clear t1 hwq
 have t2:=(BT.out _ HW.out.2.1).cell 2
 go_wp2_with fail
 with_reducible refine (iwvar_any mn HW.out (by omega) (by simp only [List.length_append,List.length_cons,List.length_nil];omega)).mono ?_
 rintro e w5 hw5
 obtain ⟨k0,HWn,hbl⟩:=hw5
 subst k0
 have HW:=Lib.hid HWn
 clear HWn hbl
 clear t2 hwm l1 l2
 rw [<-HP0.out] at HW
 clear HP0 HL0
 have t2:=(BT.out _ HW.out.2.1).cell 2
 go_wp2
 clear t2
 go_loopw [44] (fun kv wr=>∃ k:Nat,k<=mn/\kv=.int .i64 (k:Int)/\Hid (Wg g w1 (imgP st k) wr)) (fun kv _=>mn-(intOf kv).toNat)
 case atStart=>exact ⟨0,Nat.zero_le _,rfl,HW⟩
 case round=>
  clear HW
  obtain ⟨k,hk,rfl,HW⟩:=hrel
  by_cases hlt:k<mn
  ·have d1:decide ((k:Int)<(mn:Int))=true:=by simp;omega
   have hki:(k:Int)<(mn:Int):=by omega
   obtain ⟨ad,m,rfl,hbk,hm,hat⟩:=mks_at (H.out _ HW.out.2.1).st.marks hlt
   have Hsu:=Lib.hid (imgP_succ2 hm)
   have hmk:=Hst.out.mkk m (List.mem_of_getElem? hm)
   have c0:=hat.c0
   have c1:=hat.c1
   obtain ⟨nm,of⟩:=m
   simp only at hmk c0 c1 Hsu
   have hwo:IntKind.u64.wrap of=((of.toNat:Nat):Int):=wrap_nat of (by omega) (by omega)
   have hof:of.toNat<18446744073709551616:=by omega
   have hnm:nm.size<=32:=hmk.1
   have HLk:=Lib.hid (show (imgP st k).length<=1000 from imgP_len Hst.out.mkk Hst.out.many k)
   have BX:=Lib.hid (Blk.new wr 90 #[.string nm,.int .i64 of])
   have HW:=Lib.hid (HW.out.on (bal (Below.refl wr.heap.size wr) (.cells #[.string nm,.int .i64 of] 90)))
   generalize of.toNat=ofn at *
   clear hm hat hbk hmk
   go_wp2_with fail
   clear c0 c1
   generalize wr.alloc (.cells #[.string nm,.int .i64 of] 90)=W3 at *
   with_reducible refine (iwtext_any nm HW.out (by omega) (by have:=HLk.out;omega)).mono ?_
   rintro e w5 hw5
   obtain ⟨k0,HWn,hbl⟩:=hw5
   subst k0
   have HW:=Lib.hid HWn
   have BX:=Lib.hid (hbl _ _ _ BX.out (by decide) (by decide))
   clear HWn hbl
   have c1:=BX.out.cell 1
   go_wp2_with fail
   have hll:(imgP st k++textB nm).length<=1000000000:=by
    have:=HLk.out
    have h3:=leb_le nm.size
    have h4:=bts_size nm
    rw [List.length_append,textB,List.length_append]
    omega
   with_reducible refine (iwvar_any ofn HW.out hof hll).mono ?_
   rintro e w5 hw5
   obtain ⟨k0,HWn,hbl⟩:=hw5
   subst k0
   have HW:=Lib.hid HWn
   clear HWn hbl
   rw [<-Hsu.out] at HW
   clear c1 hll
   go_wp2
   go_roundw
   case rel=>exact ⟨k+1,by omega,by go_num,HW⟩
   case measure=>simp [intOf];omega
  have d1:decide ((k:Int)<(mn:Int))=false:=by simp;omega
  have HAll:=Lib.hid (imgP_all (s:=s) (st:=st) (k:=k) (by rw [Hml.out];omega))
  have HLk:=Lib.hid (show (imgP st k).length<=1000 from imgP_len Hst.out.mkk Hst.out.many k)
  have s0:=(BS.out _ HW.out.2.1).cell 0
  have t0:=(BT.out _ HW.out.2.1).cell 0
  have t1:=(BT.out _ HW.out.2.1).cell 1
  have t3:=(BT.out _ HW.out.2.1).cell 3
  have HBl:=Lib.hid HW.out.2.1
  go_wp2_with fail
  with_reducible refine (benc_any CA cn cc s.1 st.1 st.2.1 RA rn rc st.2.2.2.1 _ (H.out _ HBl.out).sch.cols (by have:=Hok.out.cn;simp only [maxLen];omega) (H.out _ HBl.out).st.rows Hok.out.rn (Hst.out.baok Hq9.out) Hok.out.it (HT2.out.on (HBw.out _ HBl.out))).mono ?_
  rintro e w7 ⟨hb,⟨-,Ab,cb,rfl,ho⟩ | ⟨h0,-⟩⟩
  case inr=>exact absurd ((fits_iff s.1 (st.1,st.2.1,st.2.2.2.1)).2 Hst.out.fits) h0
  have HW:=Lib.hid (HW.out.on hb)
  have hel:=Hst.out.enc_le
  have HEn:=Lib.hid (own_reads ho)
  clear s0 t0 t1 t3 ho hb
  generalize encA s.1 (st.1,st.2.1,st.2.2.2.1)=enc at *
  have hconv:=run_bytes_string (P:=Tryz.prog) w7 35 9 5 Tryz.underlying35 Tryz.underlying5 Tryz.underlying9 _ Ab enc.length cb enc HEn.out
  have Htx:=Lib.hid (show textB (⟨enc.toArray⟩:ByteArray)=runB enc from (run_text enc).symm)
  have hes:(⟨enc.toArray⟩:ByteArray).size<=500000000:=by show enc.toArray.size<=_;rw [List.size_toArray];omega
  generalize (⟨enc.toArray⟩:ByteArray)=eb at *
  generalize hel9:enc.length=en at *
  go_wp2_with fail
  with_reducible refine (iwtext_any eb HW.out hes (by have:=HLk.out;omega)).mono ?_
  rintro e w5 hw5
  obtain ⟨k0,HWn,hbl⟩:=hw5
  subst k0
  have HW:=Lib.hid HWn
  clear HWn hbl
  rw [Htx.out] at HW
  clear hconv HEn Htx hes
  have HL:=Lib.hid (H.out _ HW.out.2.1).st.last
  have hconv:=run_bytes_string (P:=Tryz.prog) w5 35 9 5 Tryz.underlying35 Tryz.underlying5 Tryz.underlying9 _ LA ln lc st.2.2.2.2 HL.out
  have Htx:=Lib.hid (show textB (⟨st.2.2.2.2.toArray⟩:ByteArray)=runB st.2.2.2.2 from (run_text _).symm)
  have hes:(⟨st.2.2.2.2.toArray⟩:ByteArray).size<=500000000:=by show st.2.2.2.2.toArray.size<=_;rw [List.size_toArray];have:=Hst.out.last;omega
  generalize (⟨st.2.2.2.2.toArray⟩:ByteArray)=lb at *
  have t4:=(BT.out _ HW.out.2.1).cell 4
  have hnn:(imgP st k++runB enc).length<=150000000:=by
   have:=HLk.out
   have h3:=leb_le enc.length
   rw [List.length_append,runB,List.length_append]
   omega
  go_wp2_with fail
  with_reducible refine (iwtext_any lb HW.out hes (by omega)).mono ?_
  rintro e w5 hw5
  obtain ⟨k0,HWn,hbl⟩:=hw5
  subst k0
  have HW:=Lib.hid HWn
  clear HWn hbl
  rw [Htx.out,HAll.out] at HW
  clear hconv Htx hes t4 HL
  have hib:(imgB s st).length<=1000000000:=by
   have:=HLk.out
   have h3:=leb_le enc.length
   have h4:=leb_le st.2.2.2.2.length
   have h5:=Hst.out.last
   rw [<-HAll.out,List.length_append,List.length_append,runB,runB,List.length_append,List.length_append]
   omega
  have HIA:=Lib.hid (show imgB s st++sumB (crcS (imgB s st))=imgA s st from rfl)
  have HLA:=Lib.hid (show (imgB s st).length+4=(imgA s st).length by rw [imgA_len])
  clear HAll
  generalize imgB s st=ib at *
  go_wp2_with fail
  with_reducible refine (iwdone_any HW.out hib).mono ?_
  rintro e w9 ⟨A6,c6,rfl,ho,hb⟩
  have HBf:=Lib.hid (bon (HBw.out _ HW.out.2.1) hb)
  have HO:=Lib.hid (own_mono ho (HBw.out _ HW.out.2.1).size)
  have HSum:=Lib.hid (isum_any A6 ib.length c6 ib w9 (own_reads ho) (by simp only [maxLen];omega) (HT2.out.on HBf.out).ctab)
  clear ho hb
  generalize ib.length=il at *
  generalize crcS ib=X at *
  go_wp2_with fail
  with_reducible refine HSum.out.mono ?_
  rintro e w11 ⟨g4,rfl,ho,hb⟩
  have HO4:=Lib.hid ho
  have HO:=Lib.hid (own_below HO.out hb)
  have HBf:=Lib.hid (bon HBf.out hb)
  clear ho hb HSum
  have hs1:il+4<=maxLen:=by simp only [maxLen];omega
  have hs2:(il+4)*1<=70368744177664:=by omega
  have hbs:=HBf.out.size
  have hr4:=HO4.out
  go_wp2_with (at_builtin
               refine wpList_append_any _ rfl (.tmp 85) (.tmp 87) 35 rfl w.heap.size 5 i0 (.int .u8 0) 1 1 Tryz.underlying35 hi0 hz0 hz1 hz2 rfl (by decide) A6 il c6 _ rfl HO.out (some ⟨g4,0,none⟩) 4 4 (u8s (sumB X)) rfl hr4 (u8s_one _) hs1 hs2 hbs ?_
               intro A8 c8 w12 r1 r2 r3 r4 r5
               rw [<-u8s_append] at r1
               have R1:=Lib.hid r1
               have R2:=Lib.hid (HBf.out.trans r2)
               clear r1 r2 r3 r4 r5 hr4)
  go_ret2
  have R1:=R1.out
  rw [HLA.out,HIA.out] at R1
  rw [HLA.out]
  exact ⟨R2.out,.inl ⟨HE.out,A8,c8,rfl,R1⟩⟩
end Go.Proofs.YtjpjalmilfgckaaGreatDoor
namespace Go.Proofs.YtjpjalmilfgckaaGreatDoor
open Go.RowKit
def sameSt (a b:St):Bool:=decide (a.1=b.1)&&(decide (a.2.1=b.2.1)&&(decide (a.2.2.1=b.2.2.1)&&(decide (a.2.2.2.1=b.2.2.2.1)&&decide (a.2.2.2.2=b.2.2.2.2))))
theorem sameSt_iff (a b:St):sameSt a b=true ↔ a=b:=by
 obtain ⟨v,q,ms,l,la⟩:=a
 obtain ⟨v',q',ms',l',la'⟩:=b
 unfold sameSt
 simp only [Bool.and_eq_true,decide_eq_true_eq,Prod.mk.injEq]
theorem sameSt_self (a:St):sameSt a a=true:=(sameSt_iff a a).2 rfl
theorem st_ne {v q v' q':Int} {ms ms':List Mk} {l l':List It} {la la':List UInt8} (h:¬(v=v'/\q=q'/\ms=ms'/\l=l'/\la=la')):sameSt (v,q,ms,l,la) (v',q',ms',l',la')=false:=by
 cases hb:sameSt (v,q,ms,l,la) (v',q',ms',l',la') with
 | false=>rfl
 | true=>exact absurd (by simpa only [Prod.mk.injEq] using (sameSt_iff _ _).1 hb) h
set_option maxHeartbeats 1000000 in
theorem iSame_any (v q:Int) (MA:Option Addr) (mn mc:Nat) (RA:Option Addr) (rn rc:Nat) (LA:Option Addr) (ln lc:Nat) (ms:List Mk) (l:List It) (la:List UInt8) (v' q':Int) (MB:Option Addr) (mm md:Nat) (RB:Option Addr) (rm rd:Nat) (LB:Option Addr) (lm ld:Nat) (ms':List Mk) (l':List It) (la':List UInt8) (w:World) (h1:StAt w MA mn RA rn LA ln ms l la) (h2:StAt w MB mm RB rm LB lm ms' l' la') (hmn:mn<=maxLen) (hrn:rn<=maxLen) :
  Calls Tryz.prog 24 #[.agg #[.int .i64 v,.int .i64 q,.slice MA mn mc,.slice RA rn rc,.slice LA ln lc],.agg #[.int .i64 v',.int .i64 q',.slice MB mm md,.slice RB rm rd,.slice LB lm ld]] w fun e w'=>e=.returned (.bool (sameSt (v,q,ms,l,la) (v',q',ms',l',la')))/\Below w.heap.size w w':=by
 obtain ⟨W,hW1⟩:∃ W,(w.alloc (.cells #[.int .i64 v,.int .i64 q,.slice MA mn mc,.slice RA rn rc,.slice LA ln lc] 51)).alloc (.cells #[.int .i64 v',.int .i64 q',.slice MB mm md,.slice RB rm rd,.slice LB lm ld] 51)=W:=⟨_,rfl⟩
 have H1:=Lib.hid (show StAt W MA mn RA rn LA ln ms l la by rw [<-hW1];exact (h1.al _).al _)
 have H2:=Lib.hid (show StAt W MB mm RB rm LB lm ms' l' la' by rw [<-hW1];exact (h2.al _).al _)
 have HB:=Lib.hid (show Below w.heap.size w W by rw [<-hW1];exact bal (bal (Below.refl _ _) _) _)
 have BS:=Lib.hid (show Blk W w.heap.size 51 #[.int .i64 v,.int .i64 q,.slice MA mn mc,.slice RA rn rc,.slice LA ln lc] by rw [<-hW1];exact (Blk.new w _ _).alloc _)
 have BT:=Lib.hid (show Blk W (w.heap.size+1) 51 #[.int .i64 v',.int .i64 q',.slice MB mm md,.slice RB rm rd,.slice LB lm ld] by rw [<-hW1];exact Blk.new' _ _ _ _ (by simp))
 have Hmn:=Lib.hid hmn
 have Hrn:=Lib.hid hrn
 have Hl1:=Lib.hid (mks_len h1.marks)
 have Hl2:=Lib.hid (mks_len h2.marks)
 clear h1 h2 hmn hrn
 have a0:=BS.out.cell 0
 have a1:=BS.out.cell 1
 have a2:=BS.out.cell 2
 have a3:=BS.out.cell 3
 have a4:=BS.out.cell 4
 have b0:=BT.out.cell 0
 have b1:=BT.out.cell 1
 have b2:=BT.out.cell 2
 have b3:=BT.out.cell 3
 have b4:=BT.out.cell 4
 by_cases hv:v=v'
 case neg=>
  have HN:=Lib.hid (st_ne (q:=q) (q':=q') (ms:=ms) (ms':=ms') (l:=l) (l':=l') (la:=la) (la':=la') (fun h=>hv h.1))
  have e1:(v==v')=false:=by simpa using hv
  clear hv
  go_enter Tryz.func24,Tryz.ntmps24
  go_wp2
  go_ret
  exact ⟨by rw [HN.out];rfl,HB.out⟩
 subst hv
 have e1:(v==v)=true:=by simp
 by_cases hq:q=q'
 case neg=>
  have HN:=Lib.hid (st_ne (v:=v) (v':=v) (ms:=ms) (ms':=ms') (l:=l) (l':=l') (la:=la) (la':=la') (fun h=>hq h.2.1))
  have e2:(q==q')=false:=by simpa using hq
  clear hq
  go_enter Tryz.func24,Tryz.ntmps24
  go_wp2
  go_ret
  exact ⟨by rw [HN.out];rfl,HB.out⟩
 subst hq
 have e2:(q==q)=true:=by simp
 go_enter Tryz.func24,Tryz.ntmps24
 go_wp2_with fail
 try rw [hW1]
 clear hW1
 with_reducible refine (meq_any MA MB mn mc mm md ms ms' _ H1.out.marks H2.out.marks Hmn.out).mono ?_
 rintro e w1 ⟨rfl,hb⟩
 have H1:=Lib.hid (H1.out.on hb)
 have H2:=Lib.hid (H2.out.on hb)
 have HB:=Lib.hid (bon HB.out hb)
 have BS:=Lib.hid (BS.out.on hb)
 have BT:=Lib.hid (BT.out.on hb)
 clear a0 a1 a2 a3 a4 b0 b1 b2 b3 b4 hb
 have a0:=BS.out.cell 0
 have a1:=BS.out.cell 1
 have a2:=BS.out.cell 2
 have a3:=BS.out.cell 3
 have a4:=BS.out.cell 4
 have b0:=BT.out.cell 0
 have b1:=BT.out.cell 1
 have b2:=BT.out.cell 2
 have b3:=BT.out.cell 3
 have b4:=BT.out.cell 4
 by_cases hm:ms=ms'
 case neg=>
  have HN:=Lib.hid (st_ne (v:=v) (v':=v) (q:=q) (q':=q) (l:=l) (l':=l') (la:=la) (la':=la') (fun h=>hm h.2.2.1))
  rw [decide_eq_false hm]
  clear hm
  go_wp2
  go_ret
  exact ⟨by rw [HN.out];rfl,HB.out⟩
 subst hm
 rw [decide_eq_true (rfl:ms=ms)]
 go_wp2_with fail
 with_reducible refine (zsame_any RA RB rn rc rm rd l l' _ H1.out.rows H2.out.rows Hrn.out).mono ?_
 rintro e w2 ⟨rfl,hb⟩
 have H1:=Lib.hid (H1.out.on hb)
 have H2:=Lib.hid (H2.out.on hb)
 have HB:=Lib.hid (bon HB.out hb)
 have BS:=Lib.hid (BS.out.on hb)
 have BT:=Lib.hid (BT.out.on hb)
 clear a0 a1 a2 a3 a4 b0 b1 b2 b3 b4 hb
 have a0:=BS.out.cell 0
 have a1:=BS.out.cell 1
 have a2:=BS.out.cell 2
 have a3:=BS.out.cell 3
 have a4:=BS.out.cell 4
 have b0:=BT.out.cell 0
 have b1:=BT.out.cell 1
 have b2:=BT.out.cell 2
 have b3:=BT.out.cell 3
 have b4:=BT.out.cell 4
 by_cases hr:l=l'
 case neg=>
  have HN:=Lib.hid (st_ne (v:=v) (v':=v) (q:=q) (q':=q) (ms:=ms) (ms':=ms) (la:=la) (la':=la') (fun h=>hr h.2.2.2.1))
  rw [decide_eq_false hr]
  clear hr
  go_wp2
  go_ret
  exact ⟨by rw [HN.out];rfl,HB.out⟩
 subst hr
 rw [decide_eq_true (rfl:l=l)]
 go_wp2_with fail
 with_reducible refine (beq_any LA LB ln lc lm ld la la' _ H1.out.last H2.out.last).mono ?_
 rintro e w3 ⟨rfl,rfl⟩
 by_cases hz:la=la'
 case neg=>
  have HN:=Lib.hid (st_ne (v:=v) (v':=v) (q:=q) (q':=q) (ms:=ms) (ms':=ms) (l:=l) (l':=l) (fun h=>hz h.2.2.2.2))
  rw [show (la==la')=false by simpa using hz]
  clear hz
  go_wp2
  go_ret
  exact ⟨by rw [HN.out];rfl,HB.out⟩
 subst hz
 have HN:=Lib.hid (sameSt_self (v,q,ms,l,la))
 rw [show (la==la)=true by simp]
 go_wp2
 go_ret
 exact ⟨by rw [HN.out];rfl,HB.out⟩
end Go.Proofs.YtjpjalmilfgckaaGreatDoor
namespace Go.Proofs.YtjpjalmilfgckaaGreatDoor
open Go.RowKit
set_option maxHeartbeats 1000000 in
theorem summed28_any (A:Option Addr) (n c:Nat) (l:List UInt8) (w:World) (hr:Reads w w.heap.size 1 A n (u8s l)) (hn:n<=35184372088) (hT:CTab w) :
  Calls Tryz.prog 71 #[.slice A n c] w fun e w'=>∃ A' c',e=.returned (.slice A' (n+4) c')/\n+4<=c'/\c'<=maxLen/\w'.ownsRow w.heap.size 5 1 (.slice A' (n+4) c') (n+4) (u8s (l++sumB (crcS l)))/\Below w.heap.size w w':=by
 obtain ⟨i0,hi0,hz0,hz1,hz2⟩:=info_parts u8_info
 have HS:=Lib.hid (csum_any A n c l w hr (by simp only [maxLen];omega) hT)
 have HK:=Lib.hid (copyBytes_any A n c l w hr (by omega))
 have hs:crcS l<4294967296:=crcU_lt 0 l
 have Hcells:=Lib.hid (sumB_cells (crcS l))
 have Hfour:=Lib.hid (fun w a b c d ha hb hc hd=>four_new (crcS l) w a b c d ha hb hc hd)
 clear hr hT
 generalize hX:crcS l=X at *
 clear hX
 go_enter Tryz.func71,Tryz.ntmps71
 go_wp2_with fail
 with_reducible refine HS.out.mono ?_
 rintro e w1 ⟨rfl,rfl⟩
 go_wp2_with fail
 with_reducible refine HK.out.mono ?_
 rintro e w2 ⟨A2,c2,rfl,q1,q2,q3,q4⟩
 have HO:=Lib.hid q3
 have HB:=Lib.hid q4
 clear q1 q2 q3 q4 HS HK
 have hs1:n+4<=maxLen:=by simp only [maxLen];omega
 have hs2:(n+4)*1<=70368744177664:=by omega
 clear Hcells Hfour
 go_wp2_with (at_builtin
              refine wpList_append_any _ rfl (.tmp 7) (.tmp 19) 35 rfl w.heap.size 5 i0 (.int .u8 0) 1 1 Tryz.underlying35 hi0 hz0 hz1 hz2 rfl (by decide) A2 n c2 _ rfl (HO.out.alloc _) (some ⟨_,0,none⟩) 4 4 (u8s (sumB X)) rfl (by exact four_reads _ _ _ rfl _ _ _ _ (by omega) (by omega) (by omega) (by omega)) (u8s_one _) hs1 hs2 (bal HB.out _).size ?_
              intro A8 c8 w8 r1 r2 r3 r4 r5
              rw [<-u8s_append] at r1
              have R1:=Lib.hid r1
              have R2:=Lib.hid ((bal HB.out _).trans r2)
              have R4:=Lib.hid (And.intro r4 r5)
              clear r1 r2 r3 r4 r5)
 go_ret
 exact ⟨A8,c8,rfl,R4.out.1,R4.out.2,R1.out,R2.out⟩
theorem one_any (w:World):Calls Tryz.prog 72 #[] w fun e w'=>∃ g1 g2,e=.returned (.agg #[.slice (some ⟨g1,0,none⟩) 1 1,.slice (some ⟨g2,0,none⟩) 1 1])/\ScAt w' (some ⟨g1,0,none⟩) 1 (some ⟨g2,0,none⟩) 1 oneS/\Below w.heap.size w w':=by
 go_enter Tryz.func72,Tryz.ntmps72
 go_wp2
 obtain ⟨W1,hW1⟩:∃ W1,w.alloc (.cells #[.slice (some ⟨w.heap.size+1,0,none⟩) 1 1,.slice (some ⟨w.heap.size+1+1,0,none⟩) 1 1] 48)=W1:=⟨_,rfl⟩
 have hz1:W1.heap.size=w.heap.size+1:=by rw [<-hW1];simp
 have hB1:Below w.heap.size w W1:=by rw [<-hW1];exact bal (Below.refl _ _) _
 have hT1:Blk W1 w.heap.size 48 #[.slice (some ⟨w.heap.size+1,0,none⟩) 1 1,.slice (some ⟨w.heap.size+1+1,0,none⟩) 1 1]:=by rw [<-hW1];exact Blk.new _ _ _
 rw [hW1]
 clear hW1
 have c1:Blk ((W1.alloc (.cells #[.int .i64 1,.string ⟨#[105,100]⟩,.int .i64 2,.bool false,.bool false,.int .i64 0,.string ⟨#[]⟩] 45)).alloc (.cells #[.int .i64 0] 3)) (w.heap.size+1) 45 #[.int .i64 1,.string ⟨#[105,100]⟩,.int .i64 2,.bool false,.bool false,.int .i64 0,.string ⟨#[]⟩]:=by
  rw [<-hz1];exact (Blk.new _ _ _).alloc _
 have c2:Blk ((W1.alloc (.cells #[.int .i64 1,.string ⟨#[105,100]⟩,.int .i64 2,.bool false,.bool false,.int .i64 0,.string ⟨#[]⟩] 45)).alloc (.cells #[.int .i64 0] 3)) (w.heap.size+1+1) 3 #[.int .i64 0]:=by
  rw [<-hz1];exact Blk.new' _ _ _ _ (by simp)
 have c0:=(hT1.alloc (.cells #[.int .i64 1,.string ⟨#[105,100]⟩,.int .i64 2,.bool false,.bool false,.int .i64 0,.string ⟨#[]⟩] 45)).alloc (.cells #[.int .i64 0] 3)
 have r0:=c0.cell 0
 have r1:=c0.cell 1
 have hB:=bal (bal hB1 (.cells #[.int .i64 1,.string ⟨#[105,100]⟩,.int .i64 2,.bool false,.bool false,.int .i64 0,.string ⟨#[]⟩] 45)) (.cells #[.int .i64 0] 3)
 generalize (W1.alloc (.cells #[.int .i64 1,.string ⟨#[105,100]⟩,.int .i64 2,.bool false,.bool false,.int .i64 0,.string ⟨#[]⟩] 45)).alloc (.cells #[.int .i64 0] 3)=W2 at *
 refine bodyPost_ret (v:=.agg #[.slice (some ⟨w.heap.size+1,0,none⟩) 1 1,.slice (some ⟨w.heap.size+1+1,0,none⟩) 1 1]) (by simp [results,Tryz.results72,go_sem,r0,r1]) rfl ?_
 exact ⟨_,_,rfl,⟨c1.readsN 7 1 _ rfl rfl,c2.readsN 1 1 _ rfl rfl⟩,hB⟩
theorem schs_lit {w:World} {CA KA:Option Addr} {cn kn:Nat} {s:Sc} (cc kc b:Nat) (hb:b=w.heap.size) (h:ScAt w CA cn KA kn s) (h1:cn<=1000000) (h2:kn<=1000000) :
  SchsAt (w.alloc (.cells #[.slice CA cn cc,.slice KA kn kc] 48)) (w.alloc (.cells #[.slice CA cn cc,.slice KA kn kc] 48)).heap.size (some ⟨b,0,none⟩) 1 [s]:=by
 subst hb
 have h3:=h.al (.cells #[.slice CA cn cc,.slice KA kn kc] 48)
 refine ⟨[((CA,cn,cc),(KA,kn,kc))],(Blk.new w 48 #[.slice CA cn cc,.slice KA kn kc]).readsN 2 1 _ rfl rfl,rfl,fun j g s2 hj hs=>?_⟩
 have h0:j=0:=by have:=(List.getElem?_eq_some_iff.1 hj).1;simp at this;omega
 subst h0
 cases hj
 cases hs
 exact ⟨h3.cols,h3.keys,h1,h2⟩
set_option maxHeartbeats 4000000 in
theorem ifails_yes (er:Nat) (ei:Int) (hei:ei=(er:Int)) (B:Option Addr) (m cb:Nat) (xs:List UInt8) (w:World) (hx:Reads w w.heap.size 1 B m (u8s xs)) (hm:m<=cb) (hc:cb<=maxLen) (hm9:m<=1000000000) (hT:Tab2 w.heap.size w) (hE:ErrT w) (hd:parseA [oneS] xs=.error er) :
  Calls Tryz.prog 74 #[.slice B m cb,.int .i64 ei] w fun e w'=>e=.returned (.bool true)/\Below w.heap.size w w':=by
 have Hx:=Lib.hid hx
 have HT:=Lib.hid hT
 have HE:=Lib.hid hE
 have Hd:=Lib.hid hd
 subst hei
 clear hx hT hd hE
 go_enter Tryz.func74,Tryz.ntmps74
 go_wp2_with fail
 with_reducible refine (one_any _).mono ?_
 rintro e w1 ⟨g1,g2,rfl,hr,hb1⟩
 have HB:=Lib.hid (bal hb1 (.cells #[.slice (some ⟨g1,0,none⟩) 1 1,.slice (some ⟨g2,0,none⟩) 1 1] 48))
 have HS:=Lib.hid (schs_lit 1 1 w1.heap.size rfl hr (by decide) (by decide))
 obtain ⟨gb,hgb⟩:∃ gb,gb=w1.heap.size:=⟨_,rfl⟩
 rw [<-hgb] at HS
 clear hb1 hr
 go_wp2_with fail
 rw [<-hgb]
 clear hgb
 generalize w1.alloc (.cells #[.slice (some ⟨g1,0,none⟩) 1 1,.slice (some ⟨g2,0,none⟩) 1 1] 48)=w2 at *
 with_reducible refine (iparse_any (some ⟨gb,0,none⟩) 1 1 [oneS] B m cb xs w2 HS.out (by decide) (by decide) (fun s hs=>by obtain rfl:=List.mem_singleton.1 hs;exact oneS_ok) (Hx.out.on HB.out) hm hc hm9 (HT.out.on HB.out) (HE.out.on HB.out)).mono ?_
 rintro e w3 ⟨hb3,hp⟩
 rw [Hd.out] at hp
 obtain ⟨rfl,-⟩:=hp
 have HB:=Lib.hid (bal (bon HB.out hb3) (.cells #[.int .i64 0,.int .i64 0,.slice none 0 0,.slice none 0 0,.slice none 0 0] 51))
 clear hb3 HS
 go_wp2_with fail
 with_reducible refine (iSame_any 0 0 none 0 0 none 0 0 none 0 0 [] [] [] 0 0 none 0 0 none 0 0 none 0 0 [] [] [] _ (StAt.nil _) (StAt.nil _) (by decide) (by decide)).mono ?_
 rintro e w4 ⟨rfl,hb4⟩
 have HB:=Lib.hid (bon HB.out hb4)
 clear hb4
 rw [sameSt_self]
 go_wp2
 go_ret
 exact ⟨rfl,HB.out⟩
set_option maxHeartbeats 4000000 in
theorem irefused_yes (v q:Int) (MA:Option Addr) (mn mc:Nat) (RA:Option Addr) (rn rc:Nat) (LA:Option Addr) (ln lc:Nat) (ms:List Mk) (l:List It) (la:List UInt8) (w:World) (h:StAt w MA mn RA rn LA ln ms l la) (h1:mn<=maxLen) (h2:rn<=maxLen) (h3:ln<=maxLen) (hmk:MkOk ms) (hit:ItOk l) (hq:q<=9223372036854775807) (hT:Tab2 w.heap.size w) (hE:ErrT w) (hd:imgE oneS (v,q,ms,l,la)=2) :
  Calls Tryz.prog 73 #[.agg #[.int .i64 v,.int .i64 q,.slice MA mn mc,.slice RA rn rc,.slice LA ln lc]] w fun e w'=>e=.returned (.bool true)/\Below w.heap.size w w':=by
 have HSt:=Lib.hid h
 have HT:=Lib.hid hT
 have HE:=Lib.hid hE
 have Hd:=Lib.hid hd
 have Hmk:=Lib.hid hmk
 have Hit:=Lib.hid hit
 obtain ⟨W,hW⟩:∃ W,w.alloc (.cells #[.int .i64 v,.int .i64 q,.slice MA mn mc,.slice RA rn rc,.slice LA ln lc] 51)=W:=⟨_,rfl⟩
 have HB:=Lib.hid (show Below w.heap.size w W by rw [<-hW];exact bal (Below.refl _ _) _)
 have HP:=Lib.hid (show Blk W w.heap.size 51 #[.int .i64 v,.int .i64 q,.slice MA mn mc,.slice RA rn rc,.slice LA ln lc] by rw [<-hW];exact Blk.new _ _ _)
 clear h hT hE hd hmk hit
 go_enter Tryz.func73,Tryz.ntmps73
 go_wp2
 try rw [hW]
 clear hW
 have L0:=Lib.hid (show ∀ w',Below W.heap.size W w'->w'.cell? ⟨w.heap.size,0,none⟩=some (.int .i64 v) from fun w' h=>(HP.out.on h).cell 0)
 have L1:=Lib.hid (show ∀ w',Below W.heap.size W w'->w'.cell? ⟨w.heap.size,1,none⟩=some (.int .i64 q) from fun w' h=>(HP.out.on h).cell 1)
 have L2:=Lib.hid (show ∀ w',Below W.heap.size W w'->w'.cell? ⟨w.heap.size,2,none⟩=some (.slice MA mn mc) from fun w' h=>(HP.out.on h).cell 2)
 have L3:=Lib.hid (show ∀ w',Below W.heap.size W w'->w'.cell? ⟨w.heap.size,3,none⟩=some (.slice RA rn rc) from fun w' h=>(HP.out.on h).cell 3)
 have L4:=Lib.hid (show ∀ w',Below W.heap.size W w'->w'.cell? ⟨w.heap.size,4,none⟩=some (.slice LA ln lc) from fun w' h=>(HP.out.on h).cell 4)
 have hS:Below W.heap.size W W.drew:=(Below.refl _ _).drew
 refine hR (fun w'=>Below W.heap.size W w') [ff 1,tt 0,tt 2,ff 3,ff 4,ff 5,ff 6,ff 7] ?_
 refine hP5 hS L0.out L1.out L2.out L3.out L4.out ?_
 refine hE fun K hK=>?_
 go_simp
 with_reducible refine (one_any _).mono ?_
 rintro e w2 ⟨g1,g2,rfl,hr,hb⟩
 have HS:=Lib.hid (bon hS hb)
 have HR:=Lib.hid hr
 clear hr hb
 refine held_go hK (by exact HS.out) fun hS=>?_
 clear hK K
 try simp only [zp]
 clear HS
 refine hE fun K hK=>?_
 go_simp
 with_reducible refine (show Calls _ _ _ _ (EncP (imgE oneS (v,q,ms,l,la)) (imgA oneS (v,q,ms,l,la)) _) from ibytes_any (some ⟨g1,0,none⟩) 1 1 (some ⟨g2,0,none⟩) 1 1 oneS MA mn mc RA rn rc LA ln lc (v,q,ms,l,la) _ ⟨HR.out,HSt.out.on (bon HB.out hS),(HT.out.on (bon HB.out hS)).tabs⟩ ⟨by decide,by decide,h1,h2,h3,oneS_ok,Hmk.out,Hit.out⟩ hq (HT.out.on (bon HB.out hS)) (HE.out.on (bon HB.out hS))).mono ?_
 rintro e w3 ⟨hb3,hm3⟩
 rw [Hd.out] at hm3
 rcases hm3 with ⟨h0,-⟩ | ⟨-,rfl⟩
 ·exact absurd h0 (by decide)
 have HS:=Lib.hid (bon hS hb3)
 clear hb3 HR
 refine held_go hK (by exact HS.out) fun hS=>?_
 clear hK K
 try simp only [zp]
 clear HS
 iterate 5
  refine hP hS ?_
 refine held_end ?_
 go_wp2
 replace L0:=Lib.hid (show ∀ w',Below w3.heap.size w3 w'->w'.cell? ⟨w.heap.size,0,none⟩=some (.int .i64 v) from fun w' h=>L0.out w' (bon hS h))
 replace L1:=Lib.hid (show ∀ w',Below w3.heap.size w3 w'->w'.cell? ⟨w.heap.size,1,none⟩=some (.int .i64 q) from fun w' h=>L1.out w' (bon hS h))
 replace L2:=Lib.hid (show ∀ w',Below w3.heap.size w3 w'->w'.cell? ⟨w.heap.size,2,none⟩=some (.slice MA mn mc) from fun w' h=>L2.out w' (bon hS h))
 replace L3:=Lib.hid (show ∀ w',Below w3.heap.size w3 w'->w'.cell? ⟨w.heap.size,3,none⟩=some (.slice RA rn rc) from fun w' h=>L3.out w' (bon hS h))
 replace L4:=Lib.hid (show ∀ w',Below w3.heap.size w3 w'->w'.cell? ⟨w.heap.size,4,none⟩=some (.slice LA ln lc) from fun w' h=>L4.out w' (bon hS h))
 replace HB:=Lib.hid (bon HB.out hS)
 clear hS
 have hS:Below w3.heap.size w3 w3.drew:=(Below.refl _ _).drew
 refine hR (fun w'=>Below w3.heap.size w3 w') [ff 0,ff 1,ff 2,ff 3,ff 4,ff 5,ff 6,ff 7,ff 9,tt 8,tt 10,ff 11,ff 12,ff 13] ?_
 iterate 8
  refine hP hS ?_
 refine hP5 hS L0.out L1.out L2.out L3.out L4.out ?_
 refine hE fun K hK=>?_
 go_simp
 with_reducible refine (one_any _).mono ?_
 rintro e w2 ⟨g1,g2,rfl,hr,hb⟩
 have HS:=Lib.hid (bon hS hb)
 have HR:=Lib.hid hr
 clear hr hb
 refine held_go hK (by exact HS.out) fun hS=>?_
 clear hK K
 try simp only [zp]
 clear HS
 refine hE fun K hK=>?_
 go_simp
 with_reducible refine (show Calls _ _ _ _ (fun e w'=>e=.returned (.int .i64 (imgE oneS (v,q,ms,l,la)))/\Below _ _ w') from iCheck_any (some ⟨g1,0,none⟩) 1 1 (some ⟨g2,0,none⟩) 1 1 oneS MA mn mc RA rn rc LA ln lc (v,q,ms,l,la) _ ⟨HR.out,HSt.out.on (bon HB.out hS),(HT.out.on (bon HB.out hS)).tabs⟩ ⟨by decide,by decide,h1,h2,h3,oneS_ok,Hmk.out,Hit.out⟩ (HE.out.on (bon HB.out hS))).mono ?_
 rintro e w5 ⟨rfl,hb5⟩
 rw [Hd.out]
 have HS:=Lib.hid (bon hS hb5)
 clear hb5 HR
 refine held_go hK (by exact HS.out) fun hS=>?_
 clear hK K
 try simp only [zp]
 clear HS
 iterate 3
  refine hP hS ?_
 refine held_end ?_
 go_wp2
 go_ret
 exact ⟨rfl,bon HB.out hS⟩
end Go.Proofs.YtjpjalmilfgckaaGreatDoor
namespace Go.Proofs.YtjpjalmilfgckaaGreatDoor
open Go.RowKit
def wantB:List UInt8:=[77,73,1,1,0,0,10]++innerB
theorem mkNil:MkOk []:=fun m hm=>by cases hm
theorem itNil3:ItOk []:=fun m hm=>by cases hm
theorem mkOne:MkOk [(⟨#[112]⟩,-1)]:=fun m hm=>by obtain rfl:=List.mem_singleton.1 hm;decide
theorem mkTwo:MkOk [(⟨#[112]⟩,1),(⟨#[112]⟩,2)]:=fun m hm=>by
 rcases List.mem_cons.1 hm with rfl | hm
 ·decide
 obtain rfl:=List.mem_singleton.1 hm
 decide
theorem itOne3:ItOk [([(false,1,⟨#[]⟩)],2)]:=fun m hm=>by
 obtain rfl:=List.mem_singleton.1 hm
 exact ⟨fun c hc=>by obtain rfl:=List.mem_singleton.1 hc;decide,by decide,by decide⟩
theorem oneL_ok:∀ s∈[oneS],ScOk s:=fun s hs=>by obtain rfl:=List.mem_singleton.1 hs;exact oneS_ok
theorem own_over {w w':World} {B:Nat} {e:TypeId} {v v2:Value} {n size:Nat} {xs:List Value} (h:w.ownsRow B e size v n xs) (hB:∀ k,v2.ownBlock=some k->k<B) (hg:w.grownBy w' v2.ownBlock):w'.ownsRow B e size v n xs:=by
 refine h.kept hg ?_
 rcases hv:v.ownBlock with _ | k
 ·exact .inl rfl
 right
 have h1:=(h.lt k hv).1
 rcases hv2:v2.ownBlock with _ | k2
 ·simp
 have:=hB k2 hv2
 simp
 omega
set_option maxHeartbeats 8000000 in
theorem iworks_yes (w:World) (hT:Tab2 w.heap.size w) (hE:ErrT w):Calls Tryz.prog 26 #[] w fun e w'=>e=.returned (.bool true)/\Below w.heap.size w w':=by
 obtain ⟨i0,hi0,hz0,hz1,hz2⟩:=info_parts u8_info
 have HT:=Lib.hid hT
 have HE:=Lib.hid hE
 have HB:=Lib.hid (bal (Below.refl w.heap.size w) (.cells #[.int .u8 77,.int .u8 83,.int .u8 1,.int .u8 1,.int .u8 0,.int .u8 0] 5))
 have HR:=Lib.hid (reads_lit w #[.int .u8 77,.int .u8 83,.int .u8 1,.int .u8 1,.int .u8 0,.int .u8 0] 5 (u8s [77,83,1,1,0,0]) w.heap.size 6 rfl rfl rfl)
 clear hT hE
 go_enter Tryz.func26,Tryz.ntmps26
 go_wp2_with fail
 with_reducible refine (summed28_any (some ⟨w.heap.size,0,none⟩) 6 6 [77,83,1,1,0,0] _ HR.out (by decide) (HT.out.on HB.out).ctab).mono ?_
 rintro e w1 ⟨A1,c1,rfl,-,-,ho,hb⟩
 have HI:=Lib.hid (show Reads w1 w1.heap.size 1 A1 10 (u8s innerB) from own_reads ho)
 have HB1:=Lib.hid (bon HB.out hb)
 clear ho hb HB HR
 have HL:=Lib.hid (show Blk (w1.alloc (.cells #[.int .u8 77,.int .u8 73,.int .u8 1,.int .u8 1,.int .u8 0,.int .u8 0,.int .u8 10] 5)) w1.heap.size 5 #[.int .u8 77,.int .u8 73,.int .u8 1,.int .u8 1,.int .u8 0,.int .u8 0,.int .u8 10] from Blk.new _ _ _)
 have HB:=Lib.hid (bal HB1.out (.cells #[.int .u8 77,.int .u8 73,.int .u8 1,.int .u8 1,.int .u8 0,.int .u8 0,.int .u8 10] 5))
 have HI:=Lib.hid (HI.out.al (.cells #[.int .u8 77,.int .u8 73,.int .u8 1,.int .u8 1,.int .u8 0,.int .u8 0,.int .u8 10] 5))
 have HO:=Lib.hid (HL.out.own (base:=w.heap.size) (n:=7) (xs:=u8s [77,73,1,1,0,0,10]) HB1.out.size rfl rfl (by decide))
 go_wp2_with (at_builtin
              refine wpList_append_any _ rfl (.tmp 13) (.tmp 14) 35 rfl w.heap.size 5 i0 (.int .u8 0) 1 1 Tryz.underlying35 hi0 hz0 hz1 hz2 rfl (by decide) _ 7 7 _ rfl HO.out A1 10 c1 (u8s innerB) rfl HI.out (u8s_one _) (by decide) (by decide) HB.out.size ?_
              intro A2 c2 w2 r1 r2 r3 r4 r5
              rw [<-u8s_append] at r1
              have R1:=Lib.hid (show w2.ownsRow w.heap.size 5 1 (.slice A2 17 c2) 17 (u8s wantB) from r1)
              have R2:=Lib.hid (HB.out.trans r2)
              clear r1 r2 r3 r4 r5)
 have Hchk:=Lib.hid (show ∀ w',Below w.heap.size w w'->Tab2 w'.heap.size w'/\ErrT w' from fun w' h=>⟨HT.out.on h,HE.out.on h⟩)
 clear HB HB1 HL HO HI
 with_reducible refine (one_any _).mono ?_
 rintro e w3 ⟨g1,g2,rfl,hr,hb⟩
 have HB:=Lib.hid (bon R2.out hb)
 have HW:=Lib.hid (own_below R1.out hb)
 have Hlt:=Lib.hid (show ∀ k,(Value.slice A2 17 c2).ownBlock=some k->k<w3.heap.size from fun k hk=>Nat.lt_of_lt_of_le (R1.out.lt k hk).2 hb.size)
 clear hb R1 R2
 go_wp2_with fail
 refine (show Calls _ _ _ _ (EncP (imgE oneS stO) (imgA oneS stO) _) from ibytes_any (some ⟨g1,0,none⟩) 1 1 (some ⟨g2,0,none⟩) 1 1 oneS none 0 0 none 0 0 none 0 0 stO w3 ⟨hr,StAt.nil _,(Hchk.out _ HB.out).1.tabs⟩ ⟨by decide,by decide,by decide,by decide,by decide,oneS_ok,(fun m hm=>by cases hm),(fun m hm=>by cases hm)⟩ (by decide) (Hchk.out _ HB.out).1 (Hchk.out _ HB.out).2).mono ?_
 rintro e w4 ⟨hb,⟨-,Ax,cx,rfl,ho⟩ | ⟨h0,-⟩⟩
 case inr=>exact absurd imgE_O h0
 have Hpo:=Lib.hid parse_O
 have Himg:=Lib.hid (show imgA oneS stO=(wantB++[0])++sumB (crcS (wantB++[0])) from imgO)
 have hxl:(imgA oneS stO).length=22:=by kernel_rfl
 rw [hxl] at ho ⊢
 clear hxl
 generalize imgA oneS stO=xs at *
 have HX:=Lib.hid ho
 have HB:=Lib.hid (bon HB.out hb)
 have HW:=Lib.hid (own_below HW.out hb)
 clear ho hb hr
 have hal:=bal (Below.refl w4.heap.size w4) (.cells #[.int .u8 0] 5)
 have HZ:=Lib.hid (reads_lit w4 #[.int .u8 0] 5 (u8s [0]) w4.heap.size 1 rfl rfl rfl)
 have HXa:=Lib.hid (own_below HX.out hal)
 have HWa:=Lib.hid (own_below HW.out hal)
 have HBa:=Lib.hid (bon HB.out hal)
 clear hal
 go_wp2_with (at_builtin
              refine wpList_append_any _ rfl (.tmp 23) (.tmp 24) 35 rfl w.heap.size 5 i0 (.int .u8 0) 1 1 Tryz.underlying35 hi0 hz0 hz1 hz2 rfl (by decide) A2 17 c2 _ rfl HWa.out (some ⟨_,0,none⟩) 1 1 (u8s [0]) rfl HZ.out (u8s_one _) (by decide) (by decide) HBa.out.size ?_
              intro A5 c5 w5 r1 r2 r3 r4 r5
              rw [<-u8s_append] at r1
              have R1:=Lib.hid (show Reads w5 w5.heap.size 1 A5 18 (u8s (wantB++[0])) from own_reads r1)
              have R2:=Lib.hid (HBa.out.trans r2)
              have R3:=Lib.hid (own_over HXa.out Hlt.out r3)
              clear r1 r2 r3 r4 r5)
 have hxr:=own_reads R3.out
 have hxc:=own_caps2 R3.out
 have HX:=Lib.hid hxr
 have Hxc:=Lib.hid hxc
 clear hxr hxc R3 HW HWa HXa HB HBa HZ Hlt
 with_reducible refine (summed28_any A5 18 c5 (wantB++[0]) w5 R1.out (by decide) (Hchk.out _ R2.out).1.ctab).mono ?_
 rintro e w6 ⟨A6,c6,rfl,-,-,ho,hb⟩
 have HX:=Lib.hid (HX.out.on hb)
 have HY:=Lib.hid (show Reads w6 w6.heap.size 1 A6 22 (u8s xs) by rw [Himg.out];exact own_reads ho)
 have HB:=Lib.hid (bon R2.out hb)
 clear ho hb R1 R2
 go_wp2_with fail
 with_reducible refine (eq_yes Ax A6 22 cx 22 c6 xs xs _ HX.out HY.out rfl).mono ?_
 rintro e w7 ⟨rfl,rfl⟩
 have hal:=bal (Below.refl w6.heap.size w6) (.cells #[.string ⟨#[112]⟩,.int .i64 1,.string ⟨#[112]⟩,.int .i64 2] 90)
 have HM:=Lib.hid ((Blk.new w6 90 #[.string ⟨#[112]⟩,.int .i64 1,.string ⟨#[112]⟩,.int .i64 2]).readsN 2 2 (mks [(⟨#[112]⟩,1),(⟨#[112]⟩,2)]) rfl rfl)
 replace HX:=Lib.hid (HX.out.on hal)
 replace HB:=Lib.hid (bon HB.out hal)
 clear hal HY
 obtain ⟨gm,hgm⟩:∃ gm,gm=w6.heap.size:=⟨_,rfl⟩
 go_wp2_with fail
 rw [<-hgm] at HM ⊢
 clear hgm
 generalize w6.alloc (.cells #[.string ⟨#[112]⟩,.int .i64 1,.string ⟨#[112]⟩,.int .i64 2] 90)=w8 at *
 with_reducible refine (irefused_yes 0 0 none 0 0 none 0 0 none 0 0 [] [] [] w8 (StAt.nil _) (by decide) (by decide) (by decide) mkNil itNil3 (by decide) (Hchk.out _ HB.out).1 (Hchk.out _ HB.out).2 ref_1).mono ?_
 rintro e w9 ⟨rfl,hb⟩
 replace HX:=Lib.hid (HX.out.on hb)
 replace HM:=Lib.hid (HM.out.on hb)
 replace HB:=Lib.hid (bon HB.out hb)
 clear hb
 have hal:=bal (Below.refl w9.heap.size w9) (.cells #[.string ⟨#[112]⟩,.int .i64 (-1)] 90)
 have HN:=Lib.hid (reads_mkb w9 _ rfl ⟨#[112]⟩ (-1))
 replace HX:=Lib.hid (HX.out.on hal)
 replace HM:=Lib.hid (HM.out.on hal)
 replace HB:=Lib.hid (bon HB.out hal)
 clear hal
 go_wp2_with fail
 generalize w9.alloc (.cells #[.string ⟨#[112]⟩,.int .i64 (-1)] 90)=w10 at *
 with_reducible refine (irefused_yes 1 0 (some ⟨w9.heap.size,0,none⟩) 1 1 none 0 0 none 0 0 [(⟨#[112]⟩,-1)] [] [] w10 ⟨HN.out,ItemsAt.nil,Reads.none_⟩ (by decide) (by decide) (by decide) mkOne itNil3 (by decide) (Hchk.out _ HB.out).1 (Hchk.out _ HB.out).2 ref_2).mono ?_
 rintro e w11 ⟨rfl,hb⟩
 replace HX:=Lib.hid (HX.out.on hb)
 replace HM:=Lib.hid (HM.out.on hb)
 replace HB:=Lib.hid (bon HB.out hb)
 clear hb HN
 go_wp2_with fail
 with_reducible refine (irefused_yes 1 0 (some ⟨gm,0,none⟩) 2 2 none 0 0 none 0 0 [(⟨#[112]⟩,1),(⟨#[112]⟩,2)] [] [] w11 ⟨HM.out,ItemsAt.nil,Reads.none_⟩ (by decide) (by decide) (by decide) mkTwo itNil3 (by decide) (Hchk.out _ HB.out).1 (Hchk.out _ HB.out).2 ref_3).mono ?_
 rintro e w12 ⟨rfl,hb⟩
 replace HX:=Lib.hid (HX.out.on hb)
 replace HB:=Lib.hid (bon HB.out hb)
 clear hb HM
 have hal:=bal (bal (Below.refl w12.heap.size w12) (.cells #[.bool false,.int .i64 1,.string ⟨#[]⟩] 23)) (.cells #[.slice (some ⟨w12.heap.size,0,none⟩) 1 1,.int .i64 2] 26)
 have HN:=Lib.hid (items_one (w:=(w12.alloc (.cells #[.bool false,.int .i64 1,.string ⟨#[]⟩] 23)).alloc (.cells #[.slice (some ⟨w12.heap.size,0,none⟩) 1 1,.int .i64 2] 26)) (g:=w12.heap.size+1) (A:=some ⟨w12.heap.size,0,none⟩) (n:=1) (c:=1) (r:=[(false,1,⟨#[]⟩)]) (x:=2) (Blk.new' _ _ _ _ (by simp)) ((reads_cellb w12 _ rfl false 1 ⟨#[]⟩).al _) (by decide) (by decide))
 replace HX:=Lib.hid (HX.out.on hal)
 replace HB:=Lib.hid (bon HB.out hal)
 clear hal
 go_wp2_with fail
 generalize (w12.alloc (.cells #[.bool false,.int .i64 1,.string ⟨#[]⟩] 23)).alloc (.cells #[.slice (some ⟨w12.heap.size,0,none⟩) 1 1,.int .i64 2] 26)=w13 at *
 with_reducible refine (irefused_yes 1 0 none 0 0 (some ⟨w12.heap.size+1,0,none⟩) 1 1 none 0 0 [] [([(false,1,⟨#[]⟩)],2)] [] w13 ⟨Reads.none_,HN.out,Reads.none_⟩ (by decide) (by decide) (by decide) mkNil itOne3 (by decide) (Hchk.out _ HB.out).1 (Hchk.out _ HB.out).2 ref_4).mono ?_
 rintro e w14 ⟨rfl,hb⟩
 replace HX:=Lib.hid (HX.out.on hb)
 replace HB:=Lib.hid (bon HB.out hb)
 clear hb HN
 go_wp2_with fail
 with_reducible refine (one_any _).mono ?_
 rintro e w15 ⟨g3,g4,rfl,hr,hb⟩
 have HS:=Lib.hid (schs_lit 1 1 w15.heap.size rfl hr (by decide) (by decide))
 have hal:=bal (Below.refl w15.heap.size w15) (.cells #[.slice (some ⟨g3,0,none⟩) 1 1,.slice (some ⟨g4,0,none⟩) 1 1] 48)
 replace HX:=Lib.hid ((HX.out.on hb).on hal)
 replace HB:=Lib.hid (bon (bon HB.out hb) hal)
 clear hal hb hr
 go_wp2_with fail
 generalize w15.alloc (.cells #[.slice (some ⟨g3,0,none⟩) 1 1,.slice (some ⟨g4,0,none⟩) 1 1] 48)=w16 at *
 with_reducible refine (iparse_any (some ⟨w15.heap.size,0,none⟩) 1 1 [oneS] Ax 22 cx xs w16 HS.out (by decide) (by decide) oneL_ok HX.out Hxc.out.1 Hxc.out.2 (by decide) (Hchk.out _ HB.out).1 (Hchk.out _ HB.out).2).mono ?_
 rintro e w17 ⟨hb,hp⟩
 rw [Hpo.out] at hp
 obtain ⟨MA,mn,mc,RA,rn,rc,LA,ln,lc,he,hst,hm1,hm2,hm3⟩:=hp
 have he2:e=.returned (.tuple #[.agg #[.int .i64 1,.int .i64 0,.slice MA mn mc,.slice RA rn rc,.slice LA ln lc],.int .i64 0]):=he
 clear he
 subst he2
 have hal:=bal (Below.refl w17.heap.size w17) (.cells #[.int .i64 1,.int .i64 0,.slice MA mn mc,.slice RA rn rc,.slice LA ln lc] 51)
 have HSt:=Lib.hid (show StAt _ MA mn RA rn LA ln [] [] [] from hst.on hal)
 replace HB:=Lib.hid (bon (bon HB.out hb) hal)
 have hm1':mn<=maxLen:=Nat.le_trans hm1.1 hm1.2
 have hm2':rn<=maxLen:=Nat.le_trans hm2.1 hm2.2
 clear hal hb hst HS HX
 go_wp2_with fail
 generalize w17.alloc (.cells #[.int .i64 1,.int .i64 0,.slice MA mn mc,.slice RA rn rc,.slice LA ln lc] 51)=w18 at *
 with_reducible refine (iSame_any 1 0 MA mn mc RA rn rc LA ln lc [] [] [] 1 0 none 0 0 none 0 0 none 0 0 [] [] [] w18 HSt.out (StAt.nil _) hm1' hm2').mono ?_
 rintro e w19 ⟨rfl,hb⟩
 replace HB:=Lib.hid (bon HB.out hb)
 clear hb HSt
 rw [sameSt_self]
 go_wp2_with fail
 with_reducible refine (ifails_yes 3 3 rfl none 0 0 [] w19 Reads.none_ (by decide) (by decide) (by decide) (Hchk.out _ HB.out).1 (Hchk.out _ HB.out).2 parse_1).mono ?_
 rintro e w20 ⟨rfl,hb⟩
 replace HB:=Lib.hid (bon HB.out hb)
 clear hb
 have hal:=bal (Below.refl w20.heap.size w20) (.cells #[.int .u8 77,.int .u8 73,.int .u8 2] 5)
 have HL:=Lib.hid (reads_lit w20 #[.int .u8 77,.int .u8 73,.int .u8 2] 5 (u8s [77,73,2]) w20.heap.size 3 rfl rfl rfl)
 replace HB:=Lib.hid (bon HB.out hal)
 clear hal
 go_wp2_with fail
 generalize w20.alloc (.cells #[.int .u8 77,.int .u8 73,.int .u8 2] 5)=w21 at *
 with_reducible refine (summed28_any (some ⟨w20.heap.size,0,none⟩) 3 3 [77,73,2] w21 HL.out (by decide) (Hchk.out _ HB.out).1.ctab).mono ?_
 rintro e w22 ⟨Aa,ca,rfl,q1,q2,ho,hb⟩
 replace HL:=Lib.hid (own_reads ho)
 have Hq:=Lib.hid (And.intro q1 q2)
 replace HB:=Lib.hid (bon HB.out hb)
 clear hb ho q1 q2
 go_wp2_with fail
 with_reducible refine (ifails_yes 280 280 rfl Aa (3+4) ca ([77,73,2]++sumB (crcS [77,73,2])) w22 HL.out Hq.out.1 Hq.out.2 (by decide) (Hchk.out _ HB.out).1 (Hchk.out _ HB.out).2 parse_2).mono ?_
 rintro e w23 ⟨rfl,hb⟩
 replace HB:=Lib.hid (bon HB.out hb)
 clear hb HL Hq
 have hal:=bal (Below.refl w23.heap.size w23) (.cells #[.int .u8 77,.int .u8 73,.int .u8 1,.int .u8 2] 5)
 have HL:=Lib.hid (reads_lit w23 #[.int .u8 77,.int .u8 73,.int .u8 1,.int .u8 2] 5 (u8s [77,73,1,2]) w23.heap.size 4 rfl rfl rfl)
 replace HB:=Lib.hid (bon HB.out hal)
 clear hal
 go_wp2_with fail
 generalize w23.alloc (.cells #[.int .u8 77,.int .u8 73,.int .u8 1,.int .u8 2] 5)=w24 at *
 with_reducible refine (summed28_any (some ⟨w23.heap.size,0,none⟩) 4 4 [77,73,1,2] w24 HL.out (by decide) (Hchk.out _ HB.out).1.ctab).mono ?_
 rintro e w25 ⟨Aa,ca,rfl,q1,q2,ho,hb⟩
 replace HL:=Lib.hid (own_reads ho)
 have Hq:=Lib.hid (And.intro q1 q2)
 replace HB:=Lib.hid (bon HB.out hb)
 clear hb ho q1 q2
 go_wp2_with fail
 with_reducible refine (ifails_yes 131 131 rfl Aa (4+4) ca ([77,73,1,2]++sumB (crcS [77,73,1,2])) w25 HL.out Hq.out.1 Hq.out.2 (by decide) (Hchk.out _ HB.out).1 (Hchk.out _ HB.out).2 parse_3).mono ?_
 rintro e w26 ⟨rfl,hb⟩
 replace HB:=Lib.hid (bon HB.out hb)
 clear hb HL Hq
 have hal:=bal (Below.refl w26.heap.size w26) (.cells #[.int .u8 77,.int .u8 73,.int .u8 1,.int .u8 1] 5)
 have HL:=Lib.hid (reads_lit w26 #[.int .u8 77,.int .u8 73,.int .u8 1,.int .u8 1] 5 (u8s [77,73,1,1]) w26.heap.size 4 rfl rfl rfl)
 replace HB:=Lib.hid (bon HB.out hal)
 clear hal
 go_wp2_with fail
 generalize w26.alloc (.cells #[.int .u8 77,.int .u8 73,.int .u8 1,.int .u8 1] 5)=w27 at *
 with_reducible refine (summed28_any (some ⟨w26.heap.size,0,none⟩) 4 4 [77,73,1,1] w27 HL.out (by decide) (Hchk.out _ HB.out).1.ctab).mono ?_
 rintro e w28 ⟨Aa,ca,rfl,q1,q2,ho,hb⟩
 replace HL:=Lib.hid (own_reads ho)
 have Hq:=Lib.hid (And.intro q1 q2)
 replace HB:=Lib.hid (bon HB.out hb)
 clear hb ho q1 q2
 go_wp2_with fail
 with_reducible refine (ifails_yes 280 280 rfl Aa (4+4) ca ([77,73,1,1]++sumB (crcS [77,73,1,1])) w28 HL.out Hq.out.1 Hq.out.2 (by decide) (Hchk.out _ HB.out).1 (Hchk.out _ HB.out).2 parse_4).mono ?_
 rintro e w29 ⟨rfl,hb⟩
 replace HB:=Lib.hid (bon HB.out hb)
 clear hb HL Hq
 go_wp2
 go_ret
 exact ⟨rfl,HB.out⟩
end Go.Proofs.YtjpjalmilfgckaaGreatDoor
