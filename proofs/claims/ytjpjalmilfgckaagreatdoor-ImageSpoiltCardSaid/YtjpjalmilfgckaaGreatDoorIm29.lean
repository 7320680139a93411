/- Part 29 of the walks, merged: each text under its own heading. Conditions: none of its own; each lemma states what it asks. -/
import Derived.Test.YtjpjalmilfgckaaGreatDoorIm7
import Derived.Test.YtjpjalmilfgckaaGreatDoorIm10
import Derived.Test.YtjpjalmilfgckaaGreatDoorIm11
import Derived.Test.YtjpjalmilfgckaaGreatDoorIm19
import Derived.Test.YtjpjalmilfgckaaGreatDoorIm20
import Derived.Test.YtjpjalmilfgckaaGreatDoorIm21
import Derived.Test.YtjpjalmilfgckaaGreatDoorIm25
import Derived.Test.YtjpjalmilfgckaaGreatDoorIm26
import Derived.Test.YtjpjalmilfgckaaGreatDoorIm28
set_option maxRecDepth 100000
set_option linter.unusedVariables false
set_option linter.unusedSimpArgs false
namespace Go.Proofs.YtjpjalmilfgckaaGreatDoor
open Go.RowKit
def ParsP (r:Got St) (w:World) (e:Ending) (w':World):Prop:=
 Below w.heap.size w w'/\match r with
  | .ok st=>∃ MA mn mc RA rn rc LA ln lc,e=.returned (.tuple #[.agg #[.int .i64 st.1,.int .i64 st.2.1,.slice MA mn mc,.slice RA rn rc,.slice LA ln lc],.int .i64 0])/\StAt w' MA mn RA rn LA ln st.2.2.1 st.2.2.2.1 st.2.2.2.2/\(mn<=mc/\mc<=maxLen)/\(rn<=rc/\rc<=maxLen)/\(ln<=lc/\lc<=maxLen)
  | .error er=>e=.returned (.tuple #[.agg #[.int .i64 0,.int .i64 0,.slice none 0 0,.slice none 0 0,.slice none 0 0],.int .i64 (er:Int)])/\er≠0
theorem cutP_ahead {xs:List UInt8} {B:Option Addr} {E c b:Nat} {w w':World} {e:Ending} (h:CutP (xs.take E) [77,73,1] B E c 3 b w e w') (hE:xs.length-4=E) (hr:Reads w b 1 B E (u8s (xs.take E))) (h1:E<=c) (h2:c<=maxLen) :
  w=w'/\∃ mk A' k c' ah,e=.returned (.tuple #[.slice A' k c',.bool mk])/\aheadB xs=(mk,ah)/\Reads w b 1 A' k (u8s ah)/\k<=c'/\c'<=maxLen/\ah.length<=xs.length:=by
 obtain ⟨rfl,h⟩:=h
 refine ⟨rfl,?_⟩
 by_cases hp:((xs.take E).take 3==[77,73,1])=true
 ·rw [if_pos hp] at h
  obtain ⟨A',k,c',rfl,g1,g2,g3⟩:=h
  exact ⟨true,A',k,c',_,rfl,by rw [<-hE];rw [<-hE] at hp;exact aheadB_yes (by simpa using hp),g1,g2,g3,by simp;omega⟩
 rw [if_neg hp] at h
 exact ⟨false,B,E,c,_,h,by rw [<-hE];rw [<-hE] at hp;exact aheadB_no (by simpa using hp),hr,h1,h2,by simp;omega⟩
theorem ineed_v {b:Bool} (q:Bool) (e:Int) (w:World) (h:b=q):Calls Tryz.prog 83 #[.bool b,.int .i64 e] w fun x w'=>∃ u,x=.returned u/\Hid (u=errV (needO q e))/\u.cells=#[u]/\w=w':=by
 subst h
 exact (ineed_any b e w).mono fun x w' hh=>⟨_,hh.1,Lib.hid rfl,by cases b<;>rfl,hh.2⟩
theorem firstO_none {a b c d e:Option Int} (h:firstO [a,b,c,d,e]=none):d=none/\e=none:=by
 cases a<;>cases b<;>cases c<;>cases d<;>cases e<;>simp_all [firstO]
set_option maxHeartbeats 8000000 in
theorem iparse_any (A:Option Addr) (n c:Nat) (l:List Sc) (B:Option Addr) (m cb:Nat) (xs:List UInt8) (w:World) (hl:SchsAt w w.heap.size A n l) (hn:n<=c) (hc:c<=maxLen) (hok:∀ s∈l,ScOk s) (hx:Reads w w.heap.size 1 B m (u8s xs)) (hm:m<=cb) (hcb:cb<=maxLen) (hm9:m<=1000000000) (hT:Tab2 w.heap.size w) (hE:ErrT w) :
  Calls Tryz.prog 28 #[.slice A n c,.slice B m cb] w (ParsP (parseA l xs) w):=by
 obtain ⟨E,hE1⟩:∃ E:Nat,E=m-4:=⟨_,rfl⟩
 have hxl:=reads_len hx
 have HEx:=Lib.hid (show xs.length-4=E by omega)
 have hw1:wrap64 ((m:Int)-4)=(m:Int)-4:=by unfold wrap64;omega
 have hw2:max (0:Int) ((m:Int)-4)=(E:Int):=by omega
 have hEm:E<=m:=by omega
 have hEmi:(E:Int)<=(m:Int):=by omega
 have hEc:E<=cb:=by omega
 have hEci:(E:Int)<=(cb:Int):=by omega
 have hmci:(m:Int)<=(cb:Int):=by omega
 have hcb63:cb<=9223372036854775807:=by simp only [maxLen] at hcb;omega
 have hn63:n<=9223372036854775807:=by simp only [maxLen] at hc;omega
 have HX0:=Lib.hid (show Reads w w.heap.size 1 B E (u8s (xs.take E)) by have:=hx.head hEm;rwa [Nat.mul_one,u8s_take] at this)
 have hdr:=hx.cut hEm hm
 rw [Nat.mul_one,u8s_drop] at hdr
 obtain ⟨B2,hB2⟩:∃ B2,(if cb=E then B else Option.map (fun x=>x.add E) B)=B2:=⟨_,rfl⟩
 rw [hB2] at hdr
 have Hdr:=Lib.hid hdr
 have Hq2:=Lib.hid (show decide ((4:Int)<=(m:Int))=decide (4<=xs.length) by rw [hxl];exact decide_eq_decide.2 (by omega))
 have Hq2b:=Lib.hid (show decide (4<=m)=decide (4<=xs.length) by rw [hxl])
 have Hl:=Lib.hid hl
 have Hok:=Lib.hid hok
 have HT:=Lib.hid hT
 have HE:=Lib.hid hE
 obtain ⟨W0,hW0⟩:∃ W0,w.alloc (.cells #[.int .i64 0,.int .i64 0,.slice none 0 0,.slice none 0 0,.slice none 0 0] 51)=W0:=⟨_,rfl⟩
 have hz0:W0.heap.size=w.heap.size+1:=by rw [<-hW0];simp
 have hc3:=Lib.run_convert_bytes_const (P:=Tryz.prog) W0 35 5 #[.int .u8 77,.int .u8 73,.int .u8 1] 3 3 Tryz.underlying35 Tryz.underlying5
 have hr3:=reads_marked W0 #[.int .u8 77,.int .u8 73,.int .u8 1] 5 3 4 3 (u8s [77,73,1]) rfl rfl
 have hB0:Below w.heap.size w (W0.alloc (.cells #[.int .u8 77,.int .u8 73,.int .u8 1] 5 (3,4))):=by rw [<-hW0];exact bal (bal (Below.refl _ _) _) _
 have hT0:Blk (W0.alloc (.cells #[.int .u8 77,.int .u8 73,.int .u8 1] 5 (3,4))) w.heap.size 51 #[.int .i64 0,.int .i64 0,.slice none 0 0,.slice none 0 0,.slice none 0 0]:=by rw [<-hW0];exact (Blk.new w _ _).alloc _
 obtain ⟨W2,hW2⟩:∃ W2,W0.alloc (.cells #[.int .u8 77,.int .u8 73,.int .u8 1] 5 (3,4))=W2:=⟨_,rfl⟩
 rw [hz0] at hc3 hr3
 rw [hW2] at hr3 hB0 hT0
 have hc3:(convert 35 35 (.slice (some ⟨w.heap.size+1,0,none⟩) 3 3)).run Tryz.prog ((w.alloc (.cells #[.int .i64 0,.int .i64 0,.slice none 0 0,.slice none 0 0,.slice none 0 0] 51)).alloc (.cells #[.int .u8 77,.int .u8 73,.int .u8 1] 5))=.ok (.slice (some ⟨w.heap.size+1,0,none⟩) 3 3) W2:=by
  rw [hW0,<-hW2]
  exact hc3
 have HB2:=Lib.hid hB0
 have BT:=Lib.hid hT0
 have HR3:=Lib.hid hr3
 clear hl hok hx hT hE hdr hE1 hW0 hz0 hW2 hB0 hT0 hr3
 go_enter Tryz.func28,Tryz.ntmps28
 go_wp2_with fail
 with_reducible refine (bcut_any w.heap.size B (some ⟨w.heap.size+1,0,none⟩) E cb 3 3 (xs.take E) [77,73,1] W2 (HX0.out.below HB2.out) HB2.out.size HR3.out hEc hcb).mono ?_
 rintro e w3 hcp
 obtain ⟨rfl,mk,A',k',c',ah,rfl,hah,hrah,hk1,hk2,hk3⟩:=cutP_ahead hcp HEx.out (HX0.out.below HB2.out) hEc hcb
 clear hcp hc3 hw1 hw2
 have Hrah:=Lib.hid hrah
 have Hah:=Lib.hid hah
 have hahl:=reads_len hrah
 clear hrah hah HR3
 go_wp2_with fail
 with_reducible refine (get_any A' k' c' ah W2 (Hrah.out.more HB2.out.size) hk1 hk2).mono ?_
 rintro e w3 ⟨he,rfl⟩
 obtain ⟨⟨v,sz,ge⟩,hget⟩:∃ G,get ah=G:=⟨_,rfl⟩
 have hvl:v<18446744073709551616:=by have:=(get_size3 ah).2.2.1;rwa [hget] at this
 rw [hget] at he
 have Hget:=Lib.hid hget
 simp only [gotten] at he
 subst he
 clear hget
 have hwn:IntKind.u64.wrap (n:Int)=(n:Int):=by rw [wrap_nat _ (by omega) (by omega)];omega
 have hS:Below W2.heap.size W2 W2.drew:=(Below.refl _ _).drew
 have Hln:=Lib.hid Hl.out.len
 cases mk with
 | false=>
  by_cases h1v:1<=v
  ·have d1:decide ((1:Int)<=(v:Int))=true:=by simp;omega
   have d2:decide (1<=v)=true:=by simp;omega
   have h1vi:(1:Int)<=(v:Int):=by omega
   go_wp2
   refine hR (fun w'=>Below W2.heap.size W2 w') [ff 0,ff 4,ff 5,ff 6,ff 8,ff 9,ff 10,ff 11,ff 12,ff 13,ff 17,ff 23,ff 24,tt 1,ff 2,tt 3,tt 7,tt 14,tt 15,tt 16,ff 18,ff 19,ff 20,ff 21,tt 22,ff 25,ff 26,ff 27,ff 28,ff 29,ff 30,ff 31,tt 32,tt 33,tt 34,ff 35] ?_
   iterate 6
    refine hP hS ?_
   iterate 4
    refine hP hS ?_
   iterate 3
    refine hP hS ?_
   refine hE fun K hK=>?_
   go_simp
   with_reducible refine (chain_any A n c l _ (Hl.out.on (bon HB2.out hS)) hn hc Hok.out (HT.out.on (bon HB2.out hS)).tabs).mono ?_
   rintro e w4 ⟨rfl,hb⟩
   have HS:=Lib.hid (bon hS hb)
   clear hb
   refine held_go hK (by exact HS.out) fun hS=>?_
   clear hK K
   try simp only [zp]
   clear HS
   refine hP hS ?_
   refine hE fun K hK=>?_
   go_simp
   refine (ineed_v (chainE l==0) 2 _ (rfl)).mono ?_
   rintro e w9 ⟨u1,rfl,Hu1,cu1,rfl⟩
   unfold Value.cells at cu1
   refine held_go hK hS fun hS=>?_
   clear hK K
   try simp only [zp]
   refine hE fun K hK=>?_
   go_simp
   refine (ineed_v (decide (4<=xs.length)) 3 _ (by first | exact Hq2.out | exact Hq2b.out)).mono ?_
   rintro e w9 ⟨u2,rfl,Hu2,cu2,rfl⟩
   unfold Value.cells at cu2
   refine held_go hK hS fun hS=>?_
   clear hK K
   try simp only [zp]
   refine hE fun K hK=>?_
   go_simp
   with_reducible refine (isum_any B E cb (xs.take E) _ (HX0.out.on (bon HB2.out hS)) (by omega) (HT.out.on (bon HB2.out hS)).ctab).mono ?_
   rintro e w5 ⟨gs,rfl,hrs,hb⟩
   have HS:=Lib.hid (bon hS hb)
   have Hrs:=Lib.hid hrs
   clear hb hrs
   refine held_go hK (by exact HS.out) fun hS=>?_
   clear hK K
   try simp only [zp]
   clear HS
   refine hE fun K hK=>?_
   go_simp
   with_reducible refine (beq_any B2 (some ⟨gs,0,none⟩) (m-E) (cb-E) 4 4 (xs.drop E) (sumB (crcS (xs.take E))) _ (Hdr.out.on (bon HB2.out hS)) Hrs.out).mono ?_
   rintro e w6 ⟨rfl,rfl⟩
   clear Hrs
   refine held_go hK hS fun hS=>?_
   clear hK K
   try simp only [zp]
   refine hE fun K hK=>?_
   go_simp
   refine (ineed_v (xs.drop (xs.length-4)==sumB (crcS (xs.take (xs.length-4)))) 170 _ (by rw [HEx.out])).mono ?_
   rintro e w9 ⟨u3,rfl,Hu3,cu3,rfl⟩
   unfold Value.cells at cu3
   refine held_go hK hS fun hS=>?_
   clear hK K
   try simp only [zp]
   refine hP hS ?_
   refine hO hS ?_
   refine hO hS ?_
   refine hP hS ?_
   refine hE fun K hK=>?_
   go_simp
   refine (ineed_v (false&&decide (ge=0)) 280 _ (rfl)).mono ?_
   rintro e w9 ⟨u4,rfl,Hu4,cu4,rfl⟩
   unfold Value.cells at cu4
   refine held_go hK hS fun hS=>?_
   clear hK K
   try simp only [zp]
   iterate 7
    refine hP hS ?_
   refine hE fun K hK=>?_
   go_simp
   refine (ineed_v (decide (1<=v)&&decide (v<=l.length)) 131 _ (by first | (rw [Hln.out];simp;done) | (rw [Hln.out];simp;omega) | (rw [Hln.out];simp_all))).mono ?_
   rintro e w9 ⟨u5,rfl,Hu5,cu5,rfl⟩
   unfold Value.cells at cu5
   refine held_go hK hS fun hS=>?_
   clear hK K
   try simp only [zp]
   refine hE fun K hK=>?_
   go_simp
   obtain ⟨ge5,hge5⟩:∃ g5,g5=w5.heap.size:=⟨_,rfl⟩
   have HBe:=Lib.hid (Blk.new w5 102 #[u1,u2,u3,u4,u5])
   have HS:=Lib.hid (bal hS (.cells #[u1,u2,u3,u4,u5] 102))
   rw [<-hge5] at HBe ⊢
   generalize w5.alloc (.cells #[u1,u2,u3,u4,u5] 102)=w7 at *
   clear hge5
   refine held_go hK (by exact HS.out) fun hS=>?_
   clear hK K
   try simp only [zp]
   clear HS
   refine hE fun K hK=>?_
   go_simp
   refine (ifirst_any ge5 5 5 (firstP l xs) _ (by have:=HBe.out;rw [Hu1.out,Hu2.out,Hu3.out,Hu4.out,Hu5.out,HEx.out] at this;unfold firstP;rw [Hah.out,Hget.out,HEx.out];exact this) rfl (by decide)).mono ?_
   rintro e w8 ⟨rfl,rfl⟩
   clear HBe
   rcases parseA_first l xs with ⟨kk,hf,hk0,hpa⟩ | ⟨hf,-⟩
   ·have Hpa:=Lib.hid hpa
    have Hk0:=Lib.hid hk0
    rw [hf]
    simp only [errV]
    clear hf hpa hk0
    refine held_go hK hS fun hS=>?_
    clear hK K
    try simp only [zp]
    refine hP hS ?_
    refine held_end ?_
    have HBs:=Lib.hid (bon HB2.out hS)
    have BTs:=Lib.hid (BT.out.on hS)
    clear hS cu1 cu2 cu3 cu4 cu5
    go_wp2_with fail
    refine (show Calls _ _ #[.iface 164 (.agg #[.int .i64 (kk:Int)])] _ _ from icode_any (some (kk:Int)) _ (HE.out.on HBs.out)).mono ?_
    rintro e w11 ⟨rfl,hb⟩
    simp only [codeO]
    have BTf:=Lib.hid (BTs.out.on hb)
    have HBf:=Lib.hid (bon HBs.out hb)
    clear hb
    have t0:=BTf.out.cell 0
    have t1:=BTf.out.cell 1
    have t2:=BTf.out.cell 2
    have t3:=BTf.out.cell 3
    have t4:=BTf.out.cell 4
    have f0:=BTf.out.frozen 0
    have f1:=BTf.out.frozen 1
    have f2:=BTf.out.frozen 2
    have f3:=BTf.out.frozen 3
    have f4:=BTf.out.frozen 4
    go_wp2
    clear t0 t1 t2 t3 t4 f0 f1 f2 f3 f4
    have hst:=BTf.out
    rw [setCell_id hst (i:=0) (v:=.int .i64 0) rfl,setCell_id hst (i:=1) (v:=.int .i64 0) rfl,setCell_id hst (i:=2) (v:=.slice none 0 0) rfl,setCell_id hst (i:=3) (v:=.slice none 0 0) rfl,setCell_id hst (i:=4) (v:=.slice none 0 0) rfl]
    have r0:=hst.cell 0
    have r1:=hst.cell 1
    have r2:=hst.cell 2
    have r3:=hst.cell 3
    have r4:=hst.cell 4
    refine bodyPost_ret (v:=.tuple #[.agg #[.int .i64 0,.int .i64 0,.slice none 0 0,.slice none 0 0,.slice none 0 0],.int .i64 (kk:Int)]) (by simp [results,Tryz.results28,go_sem,r0,r1,r2,r3,r4]) rfl ?_
    rw [Hpa.out]
    exact ⟨HBf.out,rfl,Hk0.out⟩
   exfalso
   unfold firstP at hf
   have:=(firstO_none hf).1
   rw [Hah.out] at this
   simp [needO] at this
  have d1:decide ((1:Int)<=(v:Int))=false:=by simp;omega
  have d2:decide (1<=v)=false:=by simp;omega
  go_wp2
  refine hR (fun w'=>Below W2.heap.size W2 w') [ff 0,ff 4,ff 5,ff 6,ff 8,ff 9,ff 10,ff 11,ff 12,ff 13,ff 17,ff 23,ff 24,tt 1,ff 2,tt 3,tt 7,tt 14,tt 15,tt 16,ff 18,ff 19,ff 20,ff 21,tt 22,ff 25,ff 26,ff 27,ff 28,ff 29,ff 30,ff 31,tt 32,tt 33,tt 34,ff 35] ?_
  iterate 6
   refine hP hS ?_
  iterate 4
   refine hP hS ?_
  iterate 3
   refine hP hS ?_
  refine hE fun K hK=>?_
  go_simp
  with_reducible refine (chain_any A n c l _ (Hl.out.on (bon HB2.out hS)) hn hc Hok.out (HT.out.on (bon HB2.out hS)).tabs).mono ?_
  rintro e w4 ⟨rfl,hb⟩
  have HS:=Lib.hid (bon hS hb)
  clear hb
  refine held_go hK (by exact HS.out) fun hS=>?_
  clear hK K
  try simp only [zp]
  clear HS
  refine hP hS ?_
  refine hE fun K hK=>?_
  go_simp
  refine (ineed_v (chainE l==0) 2 _ (rfl)).mono ?_
  rintro e w9 ⟨u1,rfl,Hu1,cu1,rfl⟩
  unfold Value.cells at cu1
  refine held_go hK hS fun hS=>?_
  clear hK K
  try simp only [zp]
  refine hE fun K hK=>?_
  go_simp
  refine (ineed_v (decide (4<=xs.length)) 3 _ (by first | exact Hq2.out | exact Hq2b.out)).mono ?_
  rintro e w9 ⟨u2,rfl,Hu2,cu2,rfl⟩
  unfold Value.cells at cu2
  refine held_go hK hS fun hS=>?_
  clear hK K
  try simp only [zp]
  refine hE fun K hK=>?_
  go_simp
  with_reducible refine (isum_any B E cb (xs.take E) _ (HX0.out.on (bon HB2.out hS)) (by omega) (HT.out.on (bon HB2.out hS)).ctab).mono ?_
  rintro e w5 ⟨gs,rfl,hrs,hb⟩
  have HS:=Lib.hid (bon hS hb)
  have Hrs:=Lib.hid hrs
  clear hb hrs
  refine held_go hK (by exact HS.out) fun hS=>?_
  clear hK K
  try simp only [zp]
  clear HS
  refine hE fun K hK=>?_
  go_simp
  with_reducible refine (beq_any B2 (some ⟨gs,0,none⟩) (m-E) (cb-E) 4 4 (xs.drop E) (sumB (crcS (xs.take E))) _ (Hdr.out.on (bon HB2.out hS)) Hrs.out).mono ?_
  rintro e w6 ⟨rfl,rfl⟩
  clear Hrs
  refine held_go hK hS fun hS=>?_
  clear hK K
  try simp only [zp]
  refine hE fun K hK=>?_
  go_simp
  refine (ineed_v (xs.drop (xs.length-4)==sumB (crcS (xs.take (xs.length-4)))) 170 _ (by rw [HEx.out])).mono ?_
  rintro e w9 ⟨u3,rfl,Hu3,cu3,rfl⟩
  unfold Value.cells at cu3
  refine held_go hK hS fun hS=>?_
  clear hK K
  try simp only [zp]
  refine hP hS ?_
  refine hO hS ?_
  refine hO hS ?_
  refine hP hS ?_
  refine hE fun K hK=>?_
  go_simp
  refine (ineed_v (false&&decide (ge=0)) 280 _ (rfl)).mono ?_
  rintro e w9 ⟨u4,rfl,Hu4,cu4,rfl⟩
  unfold Value.cells at cu4
  refine held_go hK hS fun hS=>?_
  clear hK K
  try simp only [zp]
  refine hP hS ?_
  refine hO hS ?_
  refine hO hS ?_
  refine hO hS ?_
  refine hO hS ?_
  refine hO hS ?_
  refine hP hS ?_
  refine hE fun K hK=>?_
  go_simp
  refine (ineed_v (decide (1<=v)&&decide (v<=l.length)) 131 _ (by first | (rw [Hln.out];simp;done) | (rw [Hln.out];simp;omega) | (rw [Hln.out];simp_all))).mono ?_
  rintro e w9 ⟨u5,rfl,Hu5,cu5,rfl⟩
  unfold Value.cells at cu5
  refine held_go hK hS fun hS=>?_
  clear hK K
  try simp only [zp]
  refine hE fun K hK=>?_
  go_simp
  obtain ⟨ge5,hge5⟩:∃ g5,g5=w5.heap.size:=⟨_,rfl⟩
  have HBe:=Lib.hid (Blk.new w5 102 #[u1,u2,u3,u4,u5])
  have HS:=Lib.hid (bal hS (.cells #[u1,u2,u3,u4,u5] 102))
  rw [<-hge5] at HBe ⊢
  generalize w5.alloc (.cells #[u1,u2,u3,u4,u5] 102)=w7 at *
  clear hge5
  refine held_go hK (by exact HS.out) fun hS=>?_
  clear hK K
  try simp only [zp]
  clear HS
  refine hE fun K hK=>?_
  go_simp
  refine (ifirst_any ge5 5 5 (firstP l xs) _ (by have:=HBe.out;rw [Hu1.out,Hu2.out,Hu3.out,Hu4.out,Hu5.out,HEx.out] at this;unfold firstP;rw [Hah.out,Hget.out,HEx.out];exact this) rfl (by decide)).mono ?_
  rintro e w8 ⟨rfl,rfl⟩
  clear HBe
  rcases parseA_first l xs with ⟨kk,hf,hk0,hpa⟩ | ⟨hf,-⟩
  ·have Hpa:=Lib.hid hpa
   have Hk0:=Lib.hid hk0
   rw [hf]
   simp only [errV]
   clear hf hpa hk0
   refine held_go hK hS fun hS=>?_
   clear hK K
   try simp only [zp]
   refine hP hS ?_
   refine held_end ?_
   have HBs:=Lib.hid (bon HB2.out hS)
   have BTs:=Lib.hid (BT.out.on hS)
   clear hS cu1 cu2 cu3 cu4 cu5
   go_wp2_with fail
   refine (show Calls _ _ #[.iface 164 (.agg #[.int .i64 (kk:Int)])] _ _ from icode_any (some (kk:Int)) _ (HE.out.on HBs.out)).mono ?_
   rintro e w11 ⟨rfl,hb⟩
   simp only [codeO]
   have BTf:=Lib.hid (BTs.out.on hb)
   have HBf:=Lib.hid (bon HBs.out hb)
   clear hb
   have t0:=BTf.out.cell 0
   have t1:=BTf.out.cell 1
   have t2:=BTf.out.cell 2
   have t3:=BTf.out.cell 3
   have t4:=BTf.out.cell 4
   have f0:=BTf.out.frozen 0
   have f1:=BTf.out.frozen 1
   have f2:=BTf.out.frozen 2
   have f3:=BTf.out.frozen 3
   have f4:=BTf.out.frozen 4
   go_wp2
   clear t0 t1 t2 t3 t4 f0 f1 f2 f3 f4
   have hst:=BTf.out
   rw [setCell_id hst (i:=0) (v:=.int .i64 0) rfl,setCell_id hst (i:=1) (v:=.int .i64 0) rfl,setCell_id hst (i:=2) (v:=.slice none 0 0) rfl,setCell_id hst (i:=3) (v:=.slice none 0 0) rfl,setCell_id hst (i:=4) (v:=.slice none 0 0) rfl]
   have r0:=hst.cell 0
   have r1:=hst.cell 1
   have r2:=hst.cell 2
   have r3:=hst.cell 3
   have r4:=hst.cell 4
   refine bodyPost_ret (v:=.tuple #[.agg #[.int .i64 0,.int .i64 0,.slice none 0 0,.slice none 0 0,.slice none 0 0],.int .i64 (kk:Int)]) (by simp [results,Tryz.results28,go_sem,r0,r1,r2,r3,r4]) rfl ?_
   rw [Hpa.out]
   exact ⟨HBf.out,rfl,Hk0.out⟩
  exfalso
  unfold firstP at hf
  have:=(firstO_none hf).1
  rw [Hah.out] at this
  simp [needO] at this
 | true=>
  by_cases h1v:1<=v
  ·have d1:decide ((1:Int)<=(v:Int))=true:=by simp;omega
   have d2:decide (1<=v)=true:=by simp;omega
   have h1vi:(1:Int)<=(v:Int):=by omega
   go_wp2
   refine hR (fun w'=>Below W2.heap.size W2 w') [ff 0,ff 4,ff 5,ff 6,ff 8,ff 9,ff 10,ff 11,ff 12,ff 13,ff 17,ff 23,ff 24,tt 1,ff 2,tt 3,tt 7,tt 14,tt 15,tt 16,ff 18,ff 19,ff 20,ff 21,tt 22,ff 25,ff 26,ff 27,ff 28,ff 29,ff 30,ff 31,tt 32,tt 33,tt 34,ff 35] ?_
   iterate 6
    refine hP hS ?_
   iterate 4
    refine hP hS ?_
   iterate 3
    refine hP hS ?_
   refine hE fun K hK=>?_
   go_simp
   with_reducible refine (chain_any A n c l _ (Hl.out.on (bon HB2.out hS)) hn hc Hok.out (HT.out.on (bon HB2.out hS)).tabs).mono ?_
   rintro e w4 ⟨rfl,hb⟩
   have HS:=Lib.hid (bon hS hb)
   clear hb
   refine held_go hK (by exact HS.out) fun hS=>?_
   clear hK K
   try simp only [zp]
   clear HS
   refine hP hS ?_
   refine hE fun K hK=>?_
   go_simp
   refine (ineed_v (chainE l==0) 2 _ (rfl)).mono ?_
   rintro e w9 ⟨u1,rfl,Hu1,cu1,rfl⟩
   unfold Value.cells at cu1
   refine held_go hK hS fun hS=>?_
   clear hK K
   try simp only [zp]
   refine hE fun K hK=>?_
   go_simp
   refine (ineed_v (decide (4<=xs.length)) 3 _ (by first | exact Hq2.out | exact Hq2b.out)).mono ?_
   rintro e w9 ⟨u2,rfl,Hu2,cu2,rfl⟩
   unfold Value.cells at cu2
   refine held_go hK hS fun hS=>?_
   clear hK K
   try simp only [zp]
   refine hE fun K hK=>?_
   go_simp
   with_reducible refine (isum_any B E cb (xs.take E) _ (HX0.out.on (bon HB2.out hS)) (by omega) (HT.out.on (bon HB2.out hS)).ctab).mono ?_
   rintro e w5 ⟨gs,rfl,hrs,hb⟩
   have HS:=Lib.hid (bon hS hb)
   have Hrs:=Lib.hid hrs
   clear hb hrs
   refine held_go hK (by exact HS.out) fun hS=>?_
   clear hK K
   try simp only [zp]
   clear HS
   refine hE fun K hK=>?_
   go_simp
   with_reducible refine (beq_any B2 (some ⟨gs,0,none⟩) (m-E) (cb-E) 4 4 (xs.drop E) (sumB (crcS (xs.take E))) _ (Hdr.out.on (bon HB2.out hS)) Hrs.out).mono ?_
   rintro e w6 ⟨rfl,rfl⟩
   clear Hrs
   refine held_go hK hS fun hS=>?_
   clear hK K
   try simp only [zp]
   refine hE fun K hK=>?_
   go_simp
   refine (ineed_v (xs.drop (xs.length-4)==sumB (crcS (xs.take (xs.length-4)))) 170 _ (by rw [HEx.out])).mono ?_
   rintro e w9 ⟨u3,rfl,Hu3,cu3,rfl⟩
   unfold Value.cells at cu3
   refine held_go hK hS fun hS=>?_
   clear hK K
   try simp only [zp]
   iterate 4
    refine hP hS ?_
   refine hE fun K hK=>?_
   go_simp
   refine (ineed_v (true&&decide (ge=0)) 280 _ (by first | rfl | (rw [Bool.true_and];exact decide_eq_decide.2 (by omega)) | (cases hge:decide (ge=0)<;>simp_all))).mono ?_
   rintro e w9 ⟨u4,rfl,Hu4,cu4,rfl⟩
   unfold Value.cells at cu4
   refine held_go hK hS fun hS=>?_
   clear hK K
   try simp only [zp]
   iterate 7
    refine hP hS ?_
   refine hE fun K hK=>?_
   go_simp
   refine (ineed_v (decide (1<=v)&&decide (v<=l.length)) 131 _ (by first | (rw [Hln.out];simp;done) | (rw [Hln.out];simp;omega) | (rw [Hln.out];simp_all))).mono ?_
   rintro e w9 ⟨u5,rfl,Hu5,cu5,rfl⟩
   unfold Value.cells at cu5
   refine held_go hK hS fun hS=>?_
   clear hK K
   try simp only [zp]
   refine hE fun K hK=>?_
   go_simp
   obtain ⟨ge5,hge5⟩:∃ g5,g5=w5.heap.size:=⟨_,rfl⟩
   have HBe:=Lib.hid (Blk.new w5 102 #[u1,u2,u3,u4,u5])
   have HS:=Lib.hid (bal hS (.cells #[u1,u2,u3,u4,u5] 102))
   rw [<-hge5] at HBe ⊢
   generalize w5.alloc (.cells #[u1,u2,u3,u4,u5] 102)=w7 at *
   clear hge5
   refine held_go hK (by exact HS.out) fun hS=>?_
   clear hK K
   try simp only [zp]
   clear HS
   refine hE fun K hK=>?_
   go_simp
   refine (ifirst_any ge5 5 5 (firstP l xs) _ (by have:=HBe.out;rw [Hu1.out,Hu2.out,Hu3.out,Hu4.out,Hu5.out,HEx.out] at this;unfold firstP;rw [Hah.out,Hget.out,HEx.out];exact this) rfl (by decide)).mono ?_
   rintro e w8 ⟨rfl,rfl⟩
   clear HBe
   rcases parseA_first l xs with ⟨kk,hf,hk0,hpa⟩ | ⟨hf,s,hv1,hvn,hls,hpa⟩
   ·have Hpa:=Lib.hid hpa
    have Hk0:=Lib.hid hk0
    rw [hf]
    simp only [errV]
    clear hf hpa hk0
    refine held_go hK hS fun hS=>?_
    clear hK K
    try simp only [zp]
    refine hP hS ?_
    refine held_end ?_
    have HBs:=Lib.hid (bon HB2.out hS)
    have BTs:=Lib.hid (BT.out.on hS)
    clear hS cu1 cu2 cu3 cu4 cu5
    go_wp2_with fail
    refine (show Calls _ _ #[.iface 164 (.agg #[.int .i64 (kk:Int)])] _ _ from icode_any (some (kk:Int)) _ (HE.out.on HBs.out)).mono ?_
    rintro e w11 ⟨rfl,hb⟩
    simp only [codeO]
    have BTf:=Lib.hid (BTs.out.on hb)
    have HBf:=Lib.hid (bon HBs.out hb)
    clear hb
    have t0:=BTf.out.cell 0
    have t1:=BTf.out.cell 1
    have t2:=BTf.out.cell 2
    have t3:=BTf.out.cell 3
    have t4:=BTf.out.cell 4
    have f0:=BTf.out.frozen 0
    have f1:=BTf.out.frozen 1
    have f2:=BTf.out.frozen 2
    have f3:=BTf.out.frozen 3
    have f4:=BTf.out.frozen 4
    go_wp2
    clear t0 t1 t2 t3 t4 f0 f1 f2 f3 f4
    have hst:=BTf.out
    rw [setCell_id hst (i:=0) (v:=.int .i64 0) rfl,setCell_id hst (i:=1) (v:=.int .i64 0) rfl,setCell_id hst (i:=2) (v:=.slice none 0 0) rfl,setCell_id hst (i:=3) (v:=.slice none 0 0) rfl,setCell_id hst (i:=4) (v:=.slice none 0 0) rfl]
    have r0:=hst.cell 0
    have r1:=hst.cell 1
    have r2:=hst.cell 2
    have r3:=hst.cell 3
    have r4:=hst.cell 4
    refine bodyPost_ret (v:=.tuple #[.agg #[.int .i64 0,.int .i64 0,.slice none 0 0,.slice none 0 0,.slice none 0 0],.int .i64 (kk:Int)]) (by simp [results,Tryz.results28,go_sem,r0,r1,r2,r3,r4]) rfl ?_
    rw [Hpa.out]
    exact ⟨HBf.out,rfl,Hk0.out⟩
   rw [Hah.out] at hv1 hvn hls hpa
   simp only at hv1 hvn hls hpa
   rw [Hget.out] at hv1 hvn hls
   simp only at hv1 hvn hls
   have Hpa:=Lib.hid hpa
   have Hss:=Lib.hid (Hok.out s (List.mem_of_getElem? hls))
   obtain ⟨j,hj⟩:∃ j,v=j+1:=⟨v-1,by omega⟩
   have hjn:j<n:=by have:=Hln.out;omega
   have hjni:(j:Int)<(n:Int):=by omega
   have hwv:IntKind.u64.wrap ((v:Int)-1)=(j:Int):=by rw [wrap_nat _ (by omega) (by omega)];omega
   obtain ⟨ad,g,s2,rfl,hbk,hs2,c0,c1,hsc,hg1,hg2⟩:=(Hl.out.on (bon HB2.out hS)).at_ hjn
   obtain rfl:s2=s:=by rw [show v-1=j by omega] at hls;exact Option.some.inj (hs2.symm.trans hls)
   have Hsc:=Lib.hid hsc
   rw [hf]
   simp only [errV]
   clear hf hpa hls hs2 hsc hbk hj hv1 hvn
   refine held_go hK hS fun hS=>?_
   clear hK K
   try simp only [zp]
   refine hP hS ?_
   refine held_end ?_
   have HBs:=Lib.hid (bon HB2.out hS)
   have BTs:=Lib.hid (BT.out.on hS)
   have Hrah7:=Lib.hid ((Hrah.out.more HB2.out.size).on hS)
   clear hS cu1 cu2 cu3 cu4 cu5 d1 d2 h1vi
   go_wp2_with fail
   with_reducible refine (parse_any g.1.1 g.1.2.1 g.1.2.2 g.2.1 g.2.2.1 g.2.2.2 s2 A' k' c' ah _ Hsc.out hg1 hg2 Hss.out Hrah7.out (by omega) (HT.out.on HBs.out) (HE.out.on HBs.out)).mono ?_
   rintro e w11 ⟨hb,hp⟩
   have hlow:w.heap.size<w7.heap.size:=BTs.out.lt
   have BTf:=Lib.hid (BTs.out.on hb)
   have HBf:=Lib.hid (bon HBs.out hb)
   clear hb c0 c1 hwv
   obtain ⟨R,hR⟩:∃ R,parseI s2 ah=R:=⟨_,rfl⟩
   rw [hR] at hp Hpa
   clear hR
   cases R with
   | error er=>
    obtain ⟨rfl,hne⟩:=hp
    have Hne:=Lib.hid hne
    clear hne
    have HBz:=Lib.hid (Blk.new w11 51 #[.int .i64 0,.int .i64 0,.slice none 0 0,.slice none 0 0,.slice none 0 0])
    have hal:=bal (Below.refl w11.heap.size w11) (.cells #[.int .i64 0,.int .i64 0,.slice none 0 0,.slice none 0 0,.slice none 0 0] 51)
    have BTg:=Lib.hid (BTf.out.on hal)
    have HBg:=Lib.hid (bon HBf.out hal)
    have hzz:=Lib.hid (show w11.heap.size≠w.heap.size from (Nat.ne_of_lt BTf.out.lt).symm)
    clear hal
    obtain ⟨z,hz⟩:∃ z,z=w11.heap.size:=⟨_,rfl⟩
    go_wp2
    rw [<-hz] at HBz hzz ⊢
    generalize w11.alloc (.cells #[.int .i64 0,.int .i64 0,.slice none 0 0,.slice none 0 0,.slice none 0 0] 51)=w12 at *
    clear hz
    have hS:Blk w12.drew z 51 #[.int .i64 0,.int .i64 0,.slice none 0 0,.slice none 0 0,.slice none 0 0]:=HBz.out.drew
    refine hR (fun w'=>Blk w' z 51 #[.int .i64 0,.int .i64 0,.slice none 0 0,.slice none 0 0,.slice none 0 0]) [ff 0,ff 1,tt 2,tt 3,ff 4] ?_
    replace BTg:=Lib.hid BTg.out.drew
    replace HBg:=Lib.hid HBg.out.drew
    generalize w12.drew=w13 at *
    have Z0:=Lib.hid (fun (w':World) (h:Blk w' z 51 #[.int .i64 0,.int .i64 0,.slice none 0 0,.slice none 0 0,.slice none 0 0])=>h.cell 0)
    have Z1:=Lib.hid (fun (w':World) (h:Blk w' z 51 #[.int .i64 0,.int .i64 0,.slice none 0 0,.slice none 0 0,.slice none 0 0])=>h.cell 1)
    have Z2:=Lib.hid (fun (w':World) (h:Blk w' z 51 #[.int .i64 0,.int .i64 0,.slice none 0 0,.slice none 0 0,.slice none 0 0])=>h.cell 2)
    have Z3:=Lib.hid (fun (w':World) (h:Blk w' z 51 #[.int .i64 0,.int .i64 0,.slice none 0 0,.slice none 0 0,.slice none 0 0])=>h.cell 3)
    have Z4:=Lib.hid (fun (w':World) (h:Blk w' z 51 #[.int .i64 0,.int .i64 0,.slice none 0 0,.slice none 0 0,.slice none 0 0])=>h.cell 4)
    refine hP5 hS Z0.out Z1.out Z2.out Z3.out Z4.out ?_
    refine hP hS ?_
    refine hE fun K hK=>?_
    go_simp
    refine (show Calls _ _ #[.iface 164 (.agg #[.int .i64 (er:Int)])] _ _ from icode_any (some (er:Int)) _ (HE.out.on HBg.out)).mono ?_
    rintro e w14 ⟨rfl,hb⟩
    simp only [codeO]
    replace BTg:=Lib.hid (BTg.out.on hb)
    replace HBg:=Lib.hid (bon HBg.out hb)
    have HS:=Lib.hid (hS.on hb)
    clear hb Z0 Z1 Z2 Z3 Z4
    refine held_go hK (by exact HS.out) fun hS=>?_
    clear hK K
    try simp only [zp]
    clear HS
    have t0:=BTg.out.cell 0
    have t1:=BTg.out.cell 1
    have t2:=BTg.out.cell 2
    have t3:=BTg.out.cell 3
    have t4:=BTg.out.cell 4
    have f0:=BTg.out.frozen 0
    have f1:=BTg.out.frozen 1
    have f2:=BTg.out.frozen 2
    have f3:=BTg.out.frozen 3
    have f4:=BTg.out.frozen 4
    refine hE fun K hK=>?_
    go_simp
    clear t0 t1 t2 t3 t4 f0 f1 f2 f3 f4
    have hst:=BTg.out
    rw [setCell_id hst (i:=0) (v:=.int .i64 0) rfl,setCell_id hst (i:=1) (v:=.int .i64 0) rfl,setCell_id hst (i:=2) (v:=.slice none 0 0) rfl,setCell_id hst (i:=3) (v:=.slice none 0 0) rfl,setCell_id hst (i:=4) (v:=.slice none 0 0) rfl]
    refine held_go hK hS fun hS=>?_
    clear hK K
    try simp only [zp]
    refine hP hS ?_
    refine held_end ?_
    go_wp2
    have r0:=hst.cell 0
    have r1:=hst.cell 1
    have r2:=hst.cell 2
    have r3:=hst.cell 3
    have r4:=hst.cell 4
    refine bodyPost_ret (v:=.tuple #[.agg #[.int .i64 0,.int .i64 0,.slice none 0 0,.slice none 0 0,.slice none 0 0],.int .i64 (er:Int)]) (by simp [results,Tryz.results28,go_sem,r0,r1,r2,r3,r4]) rfl ?_
    rw [Hpa.out]
    exact ⟨HBg.out,rfl,Hne.out⟩
   | ok st=>
    obtain ⟨MA,mn,mc,RA,rn,rc,LA,ln,lc,rfl,hm1,hi1,hl1,hl2,hl3⟩:=hp
    obtain ⟨sv,sq,sm,sr,sl⟩:=st
    simp only at hm1 hi1 hl1 ⊢
    have HM:=Lib.hid hm1
    have HI:=Lib.hid hi1
    have HL:=Lib.hid hl1
    have HLa:=Lib.hid (show ∀ ad,LA=some ad->ad.block≠w.heap.size from fun ad h=>by have:=hl2 ad h;omega)
    have HLc:=Lib.hid hl3
    clear hm1 hi1 hl1 hl2 hl3
    have HBz:=Lib.hid (Blk.new w11 51 #[.int .i64 sv,.int .i64 sq,.slice MA mn mc,.slice RA rn rc,.slice LA ln lc])
    have hal:=bal (Below.refl w11.heap.size w11) (.cells #[.int .i64 sv,.int .i64 sq,.slice MA mn mc,.slice RA rn rc,.slice LA ln lc] 51)
    have BTg:=Lib.hid (BTf.out.on hal)
    have HBg:=Lib.hid (bon HBf.out hal)
    replace HM:=Lib.hid (own_below HM.out hal)
    replace HI:=Lib.hid (HI.out.below hal)
    replace HL:=Lib.hid (HL.out.on hal)
    have hzz:=Lib.hid (show w11.heap.size≠w.heap.size from (Nat.ne_of_lt BTf.out.lt).symm)
    clear hal
    obtain ⟨z,hz⟩:∃ z,z=w11.heap.size:=⟨_,rfl⟩
    go_wp2
    rw [<-hz] at HBz hzz ⊢
    generalize w11.alloc (.cells #[.int .i64 sv,.int .i64 sq,.slice MA mn mc,.slice RA rn rc,.slice LA ln lc] 51)=w12 at *
    clear hz
    have hS:Blk w12.drew z 51 #[.int .i64 sv,.int .i64 sq,.slice MA mn mc,.slice RA rn rc,.slice LA ln lc]:=HBz.out.drew
    refine hR (fun w'=>Blk w' z 51 #[.int .i64 sv,.int .i64 sq,.slice MA mn mc,.slice RA rn rc,.slice LA ln lc]) [ff 0,ff 1,tt 2,tt 3,ff 4] ?_
    replace BTg:=Lib.hid BTg.out.drew
    replace HBg:=Lib.hid HBg.out.drew
    replace HM:=Lib.hid (own_below HM.out (Below.refl w12.heap.size w12).drew)
    replace HI:=Lib.hid (HI.out.below (Below.refl w12.heap.size w12).drew)
    replace HL:=Lib.hid (HL.out.on (Below.refl w12.heap.size w12).drew)
    generalize w12.drew=w13 at *
    have Z0:=Lib.hid (fun (w':World) (h:Blk w' z 51 #[.int .i64 sv,.int .i64 sq,.slice MA mn mc,.slice RA rn rc,.slice LA ln lc])=>h.cell 0)
    have Z1:=Lib.hid (fun (w':World) (h:Blk w' z 51 #[.int .i64 sv,.int .i64 sq,.slice MA mn mc,.slice RA rn rc,.slice LA ln lc])=>h.cell 1)
    have Z2:=Lib.hid (fun (w':World) (h:Blk w' z 51 #[.int .i64 sv,.int .i64 sq,.slice MA mn mc,.slice RA rn rc,.slice LA ln lc])=>h.cell 2)
    have Z3:=Lib.hid (fun (w':World) (h:Blk w' z 51 #[.int .i64 sv,.int .i64 sq,.slice MA mn mc,.slice RA rn rc,.slice LA ln lc])=>h.cell 3)
    have Z4:=Lib.hid (fun (w':World) (h:Blk w' z 51 #[.int .i64 sv,.int .i64 sq,.slice MA mn mc,.slice RA rn rc,.slice LA ln lc])=>h.cell 4)
    refine hP5 hS Z0.out Z1.out Z2.out Z3.out Z4.out ?_
    refine hP hS ?_
    refine hE fun K hK=>?_
    go_simp
    refine (show Calls _ _ #[.nilIface] _ _ from icode_any none _ (HE.out.on HBg.out)).mono ?_
    rintro e w14 ⟨rfl,hb⟩
    simp only [codeO]
    replace BTg:=Lib.hid (BTg.out.on hb)
    replace HBg:=Lib.hid (bon HBg.out hb)
    replace HM:=Lib.hid (own_below HM.out hb)
    replace HI:=Lib.hid (HI.out.below hb)
    replace HL:=Lib.hid (HL.out.on hb)
    have HS:=Lib.hid (hS.on hb)
    clear hb Z0 Z1 Z2 Z3 Z4
    refine held_go hK (by exact HS.out) fun hS=>?_
    clear hK K
    try simp only [zp]
    clear HS
    have t0:=BTg.out.cell 0
    have t1:=BTg.out.cell 1
    have t2:=BTg.out.cell 2
    have t3:=BTg.out.cell 3
    have t4:=BTg.out.cell 4
    have f0:=BTg.out.frozen 0
    have f1:=BTg.out.frozen 1
    have f2:=BTg.out.frozen 2
    have f3:=BTg.out.frozen 3
    have f4:=BTg.out.frozen 4
    refine hE fun K hK=>?_
    go_simp
    clear t0 t1 t2 t3 t4 f0 f1 f2 f3 f4
    have hzw:=hzz.out
    replace HM:=Lib.hid (own_far5 HM.out BTg.out (by decide) (.int .i64 sv) (.int .i64 sq) (.slice MA mn mc) (.slice RA rn rc) (.slice LA ln lc))
    replace HI:=Lib.hid (items_far5 HI.out BTg.out (by decide) (by decide) (.int .i64 sv) (.int .i64 sq) (.slice MA mn mc) (.slice RA rn rc) (.slice LA ln lc))
    replace HL:=Lib.hid (((((HL.out.setCellFar (p:=⟨w.heap.size,0,none⟩) HLa.out (.int .i64 sv)).setCellFar (p:=⟨w.heap.size,1,none⟩) HLa.out (.int .i64 sq)).setCellFar (p:=⟨w.heap.size,2,none⟩) HLa.out (.slice MA mn mc)).setCellFar (p:=⟨w.heap.size,3,none⟩) HLa.out (.slice RA rn rc)).setCellFar (p:=⟨w.heap.size,4,none⟩) HLa.out (.slice LA ln lc))
    have HS:=Lib.hid (((((hS.far (p:=⟨w.heap.size,0,none⟩) hzw (.int .i64 sv)).far (p:=⟨w.heap.size,1,none⟩) hzw (.int .i64 sq)).far (p:=⟨w.heap.size,2,none⟩) hzw (.slice MA mn mc)).far (p:=⟨w.heap.size,3,none⟩) hzw (.slice RA rn rc)).far (p:=⟨w.heap.size,4,none⟩) hzw (.slice LA ln lc))
    replace HBg:=Lib.hid (((((HBg.out.setCell (p:=⟨w.heap.size,0,none⟩) (Nat.le_refl _) (.int .i64 sv)).setCell (p:=⟨w.heap.size,1,none⟩) (Nat.le_refl _) (.int .i64 sq)).setCell (p:=⟨w.heap.size,2,none⟩) (Nat.le_refl _) (.slice MA mn mc)).setCell (p:=⟨w.heap.size,3,none⟩) (Nat.le_refl _) (.slice RA rn rc)).setCell (p:=⟨w.heap.size,4,none⟩) (Nat.le_refl _) (.slice LA ln lc))
    have hst:=((((BTg.out.set_ 0 (.int .i64 sv)).set_ 1 (.int .i64 sq)).set_ 2 (.slice MA mn mc)).set_ 3 (.slice RA rn rc)).set_ 4 (.slice LA ln lc)
    simp only [List.setIfInBounds_toArray,List.set_cons_succ,List.set_cons_zero] at hst
    refine held_go hK (by exact HS.out) fun hS=>?_
    clear hK K
    try simp only [zp]
    clear HS
    refine hP hS ?_
    refine held_end ?_
    go_wp2
    have r0:=hst.cell 0
    have r1:=hst.cell 1
    have r2:=hst.cell 2
    have r3:=hst.cell 3
    have r4:=hst.cell 4
    refine bodyPost_ret (v:=.tuple #[.agg #[.int .i64 sv,.int .i64 sq,.slice MA mn mc,.slice RA rn rc,.slice LA ln lc],.int .i64 0]) (by simp [results,Tryz.results28,go_sem,r0,r1,r2,r3,r4]) rfl ?_
    rw [Hpa.out]
    exact ⟨HBg.out,MA,mn,mc,RA,rn,rc,LA,ln,lc,rfl,⟨own_reads HM.out,HI.out.at_,HL.out⟩,own_caps2 HM.out,HI.out.caps,HLc.out⟩
  have d1:decide ((1:Int)<=(v:Int))=false:=by simp;omega
  have d2:decide (1<=v)=false:=by simp;omega
  go_wp2
  refine hR (fun w'=>Below W2.heap.size W2 w') [ff 0,ff 4,ff 5,ff 6,ff 8,ff 9,ff 10,ff 11,ff 12,ff 13,ff 17,ff 23,ff 24,tt 1,ff 2,tt 3,tt 7,tt 14,tt 15,tt 16,ff 18,ff 19,ff 20,ff 21,tt 22,ff 25,ff 26,ff 27,ff 28,ff 29,ff 30,ff 31,tt 32,tt 33,tt 34,ff 35] ?_
  iterate 6
   refine hP hS ?_
  iterate 4
   refine hP hS ?_
  iterate 3
   refine hP hS ?_
  refine hE fun K hK=>?_
  go_simp
  with_reducible refine (chain_any A n c l _ (Hl.out.on (bon HB2.out hS)) hn hc Hok.out (HT.out.on (bon HB2.out hS)).tabs).mono ?_
  rintro e w4 ⟨rfl,hb⟩
  have HS:=Lib.hid (bon hS hb)
  clear hb
  refine held_go hK (by exact HS.out) fun hS=>?_
  clear hK K
  try simp only [zp]
  clear HS
  refine hP hS ?_
  refine hE fun K hK=>?_
  go_simp
  refine (ineed_v (chainE l==0) 2 _ (rfl)).mono ?_
  rintro e w9 ⟨u1,rfl,Hu1,cu1,rfl⟩
  unfold Value.cells at cu1
  refine held_go hK hS fun hS=>?_
  clear hK K
  try simp only [zp]
  refine hE fun K hK=>?_
  go_simp
  refine (ineed_v (decide (4<=xs.length)) 3 _ (by first | exact Hq2.out | exact Hq2b.out)).mono ?_
  rintro e w9 ⟨u2,rfl,Hu2,cu2,rfl⟩
  unfold Value.cells at cu2
  refine held_go hK hS fun hS=>?_
  clear hK K
  try simp only [zp]
  refine hE fun K hK=>?_
  go_simp
  with_reducible refine (isum_any B E cb (xs.take E) _ (HX0.out.on (bon HB2.out hS)) (by omega) (HT.out.on (bon HB2.out hS)).ctab).mono ?_
  rintro e w5 ⟨gs,rfl,hrs,hb⟩
  have HS:=Lib.hid (bon hS hb)
  have Hrs:=Lib.hid hrs
  clear hb hrs
  refine held_go hK (by exact HS.out) fun hS=>?_
  clear hK K
  try simp only [zp]
  clear HS
  refine hE fun K hK=>?_
  go_simp
  with_reducible refine (beq_any B2 (some ⟨gs,0,none⟩) (m-E) (cb-E) 4 4 (xs.drop E) (sumB (crcS (xs.take E))) _ (Hdr.out.on (bon HB2.out hS)) Hrs.out).mono ?_
  rintro e w6 ⟨rfl,rfl⟩
  clear Hrs
  refine held_go hK hS fun hS=>?_
  clear hK K
  try simp only [zp]
  refine hE fun K hK=>?_
  go_simp
  refine (ineed_v (xs.drop (xs.length-4)==sumB (crcS (xs.take (xs.length-4)))) 170 _ (by rw [HEx.out])).mono ?_
  rintro e w9 ⟨u3,rfl,Hu3,cu3,rfl⟩
  unfold Value.cells at cu3
  refine held_go hK hS fun hS=>?_
  clear hK K
  try simp only [zp]
  iterate 4
   refine hP hS ?_
  refine hE fun K hK=>?_
  go_simp
  refine (ineed_v (true&&decide (ge=0)) 280 _ (by first | rfl | (rw [Bool.true_and];exact decide_eq_decide.2 (by omega)) | (cases hge:decide (ge=0)<;>simp_all))).mono ?_
  rintro e w9 ⟨u4,rfl,Hu4,cu4,rfl⟩
  unfold Value.cells at cu4
  refine held_go hK hS fun hS=>?_
  clear hK K
  try simp only [zp]
  refine hP hS ?_
  refine hO hS ?_
  refine hO hS ?_
  refine hO hS ?_
  refine hO hS ?_
  refine hO hS ?_
  refine hP hS ?_
  refine hE fun K hK=>?_
  go_simp
  refine (ineed_v (decide (1<=v)&&decide (v<=l.length)) 131 _ (by first | (rw [Hln.out];simp;done) | (rw [Hln.out];simp;omega) | (rw [Hln.out];simp_all))).mono ?_
  rintro e w9 ⟨u5,rfl,Hu5,cu5,rfl⟩
  unfold Value.cells at cu5
  refine held_go hK hS fun hS=>?_
  clear hK K
  try simp only [zp]
  refine hE fun K hK=>?_
  go_simp
  obtain ⟨ge5,hge5⟩:∃ g5,g5=w5.heap.size:=⟨_,rfl⟩
  have HBe:=Lib.hid (Blk.new w5 102 #[u1,u2,u3,u4,u5])
  have HS:=Lib.hid (bal hS (.cells #[u1,u2,u3,u4,u5] 102))
  rw [<-hge5] at HBe ⊢
  generalize w5.alloc (.cells #[u1,u2,u3,u4,u5] 102)=w7 at *
  clear hge5
  refine held_go hK (by exact HS.out) fun hS=>?_
  clear hK K
  try simp only [zp]
  clear HS
  refine hE fun K hK=>?_
  go_simp
  refine (ifirst_any ge5 5 5 (firstP l xs) _ (by have:=HBe.out;rw [Hu1.out,Hu2.out,Hu3.out,Hu4.out,Hu5.out,HEx.out] at this;unfold firstP;rw [Hah.out,Hget.out,HEx.out];exact this) rfl (by decide)).mono ?_
  rintro e w8 ⟨rfl,rfl⟩
  clear HBe
  rcases parseA_first l xs with ⟨kk,hf,hk0,hpa⟩ | ⟨hf,-,hv1,-⟩
  ·have Hpa:=Lib.hid hpa
   have Hk0:=Lib.hid hk0
   rw [hf]
   simp only [errV]
   clear hf hpa hk0
   refine held_go hK hS fun hS=>?_
   clear hK K
   try simp only [zp]
   refine hP hS ?_
   refine held_end ?_
   have HBs:=Lib.hid (bon HB2.out hS)
   have BTs:=Lib.hid (BT.out.on hS)
   clear hS cu1 cu2 cu3 cu4 cu5
   go_wp2_with fail
   refine (show Calls _ _ #[.iface 164 (.agg #[.int .i64 (kk:Int)])] _ _ from icode_any (some (kk:Int)) _ (HE.out.on HBs.out)).mono ?_
   rintro e w11 ⟨rfl,hb⟩
   simp only [codeO]
   have BTf:=Lib.hid (BTs.out.on hb)
   have HBf:=Lib.hid (bon HBs.out hb)
   clear hb
   have t0:=BTf.out.cell 0
   have t1:=BTf.out.cell 1
   have t2:=BTf.out.cell 2
   have t3:=BTf.out.cell 3
   have t4:=BTf.out.cell 4
   have f0:=BTf.out.frozen 0
   have f1:=BTf.out.frozen 1
   have f2:=BTf.out.frozen 2
   have f3:=BTf.out.frozen 3
   have f4:=BTf.out.frozen 4
   go_wp2
   clear t0 t1 t2 t3 t4 f0 f1 f2 f3 f4
   have hst:=BTf.out
   rw [setCell_id hst (i:=0) (v:=.int .i64 0) rfl,setCell_id hst (i:=1) (v:=.int .i64 0) rfl,setCell_id hst (i:=2) (v:=.slice none 0 0) rfl,setCell_id hst (i:=3) (v:=.slice none 0 0) rfl,setCell_id hst (i:=4) (v:=.slice none 0 0) rfl]
   have r0:=hst.cell 0
   have r1:=hst.cell 1
   have r2:=hst.cell 2
   have r3:=hst.cell 3
   have r4:=hst.cell 4
   refine bodyPost_ret (v:=.tuple #[.agg #[.int .i64 0,.int .i64 0,.slice none 0 0,.slice none 0 0,.slice none 0 0],.int .i64 (kk:Int)]) (by simp [results,Tryz.results28,go_sem,r0,r1,r2,r3,r4]) rfl ?_
   rw [Hpa.out]
   exact ⟨HBf.out,rfl,Hk0.out⟩
  exfalso
  rw [Hah.out] at hv1
  simp only at hv1
  rw [Hget.out] at hv1
  exact h1v hv1
end Go.Proofs.YtjpjalmilfgckaaGreatDoor
namespace Go.Proofs.YtjpjalmilfgckaaGreatDoor
open Go.RowKit
def oneS:Sc:=([(1,⟨#[105,100]⟩,2,false,false,0,⟨#[]⟩)],[0])
theorem oneS_sch:schB oneS=true:=by kernel_rfl
theorem oneS_ok:ScOk oneS:=by
 refine ⟨fun c hc=>?_,fun c hc=>?_,fun c hc=>?_,fun c hc=>?_⟩<;>(obtain rfl:=List.mem_singleton.1 hc;decide)
theorem oneS_chain:chainE [oneS]=0:=chain_one oneS_sch
def stO:St:=(1,0,[],[],[])
theorem stO_ok:stB oneS stO=true:=by kernel_rfl
def innerB:List UInt8:=[77,83,1,1,0,0]++sumB (crcS [77,83,1,1,0,0])
theorem imgO:imgA oneS stO=(([77,73,1,1,0,0,10]++innerB)++[0])++sumB (crcS (([77,73,1,1,0,0,10]++innerB)++[0])):=by kernel_rfl
theorem imgE_O:imgE oneS stO=0:=(imgE_zero).2 stO_ok
theorem parse_O:parseA [oneS] (imgA oneS stO)=.ok stO:=parseA_back oneS_chain stO_ok (by decide) rfl
theorem parse_1:parseA [oneS] []=.error 3:=by kernel_rfl
theorem parse_2:parseA [oneS] ([77,73,2]++sumB (crcS [77,73,2]))=.error 280:=by kernel_rfl
theorem parse_3:parseA [oneS] ([77,73,1,2]++sumB (crcS [77,73,1,2]))=.error 131:=by kernel_rfl
theorem parse_4:parseA [oneS] ([77,73,1,1]++sumB (crcS [77,73,1,1]))=.error 280:=by kernel_rfl
theorem ref_1:imgE oneS (0,0,[],[],[])=2:=by kernel_rfl
theorem ref_2:imgE oneS (1,0,[(⟨#[112]⟩,-1)],[],[])=2:=by kernel_rfl
theorem ref_3:imgE oneS (1,0,[(⟨#[112]⟩,1),(⟨#[112]⟩,2)],[],[])=2:=by kernel_rfl
theorem ref_4:imgE oneS (1,0,[],[([(false,1,⟨#[]⟩)],2)],[])=2:=by kernel_rfl
end Go.Proofs.YtjpjalmilfgckaaGreatDoor
namespace Go.Proofs.YtjpjalmilfgckaaGreatDoor
open Go.RowKit
def imgP (st:St) (k:Nat):List UInt8:=[77,73,1]++(imgH st++marksW (st.2.2.1.take k))
theorem run_bts (s:ByteArray):runB s.data.toList=textB s:=by
 unfold runB textB
 rw [bts_size]
theorem imgP_zero (st:St):imgP st 0=(([77,73,1]++leb st.1.toNat)++leb st.2.1.toNat)++leb st.2.2.1.length:=by
 unfold imgP imgH marksW
 simp
theorem imgP_succ {st:St} {k:Nat} {m:Mk} (h:st.2.2.1[k]? = some m):imgP st (k+1)=(imgP st k++runB m.1.data.toList)++leb m.2.toNat:=by
 have h1:marksW [m]=runB m.1.data.toList++leb m.2.toNat:=by
  rw [run_bts]
  exact List.append_nil _
 unfold imgP
 rw [List.take_add_one,h,marksW_append,show (some m).toList=[m] from rfl,h1]
 simp
theorem imgP_all {s:Sc} {st:St} {k:Nat} (h:st.2.2.1.length<=k):(imgP st k++runB (encA s.1 (st.1,st.2.1,st.2.2.2.1)))++runB st.2.2.2.2=imgB s st:=by
 unfold imgP imgB imgR
 rw [List.take_of_length_le h]
 simp
theorem imgP_len {st:St} (h:∀ m∈st.2.2.1,m.1.size<=32/\0<=m.2/\m.2<=9007199254740991) (h16:st.2.2.1.length<=16) (k:Nat):(imgP st k).length<=1000:=by
 have h1:=marksW_le (l:=st.2.2.1.take k) (fun m hm=>h m (List.mem_of_mem_take hm))
 have h2:(st.2.2.1.take k).length<=16:=by rw [List.length_take];omega
 have a:=leb_le st.1.toNat
 have b:=leb_le st.2.1.toNat
 have c:=leb_le st.2.2.1.length
 unfold imgP imgH
 simp only [List.length_append,List.length_cons,List.length_nil]
 omega
end Go.Proofs.YtjpjalmilfgckaaGreatDoor
namespace Go.Proofs.YtjpjalmilfgckaaGreatDoor
open Go.RowKit
set_option maxHeartbeats 1000000 in
theorem wtextBig_any (base g:Nat) (r:Option Nat) (B:List UInt8) (most:Int) (full:Bool) (s:ByteArray) (w:World) (hp:PWr w base g r B most full) (hm0:0<=most) (hm1:most<=9223372036854775807) (hs0:s.size<=1000000000) (hb:B.length<=1000000000) :
  Calls Tryz.prog 57 #[.pointer (some ⟨g,0,none⟩),.string s] w (Wr base g r B most full (textB s) w):=by
 obtain ⟨i0,hi0,hz0,hz1,hz2⟩:=info_parts u8_info
 go_enter Tryz.func57,Tryz.ntmps57
 have hl:=leb_le s.size
 have hs:s.size<18446744073709551616:=by omega
 have hss:s.size<=9223372036854775807:=by omega
 have Hbs:=Lib.hid (bts_size s)
 have hp':=Lib.hid hp
 clear hp
 go_wp2_with fail
 with_reducible refine (put_any none 0 0 s.size [] _ Reads.none_ (by decide) (by decide) (by decide) hs).mono ?_
 simp only [Nat.zero_add,List.nil_append]
 rintro e w1 ⟨A1,c1,rfl,g1,g2,o1,hb1⟩
 have hs63:(leb s.size).length+s.data.toList.length<=70368744177664:=by have:=Hbs.out;omega
 have hsz:=hb1.size
 go_wp2_with (at_builtin
              refine wpList_append_str rfl (.tmp 8) (.tmp 9) 35 9 rfl w.heap.size 5 i0 Tryz.underlying35 Tryz.underlying9 hi0 hz0 hz1 hz2 A1 _ c1 _ rfl o1 s rfl hs63 hsz ?_
              intro A2 c2 w2 o2 hb2 hg2 hc2 hd2)
 have hb3:Below w.heap.size w w2:=hb1.trans hb2
 have r2:=own_reads o2
 refine (wraw_any base g r B most full A2 _ c2 (textB s) _ (hp'.out.on hb3) hm0 hm1 r2 (by have:=Hbs.out;omega)).mono ?_
 rintro e w2 hw
 obtain ⟨rfl,-⟩:=id hw
 go_wp2
 go_end0
 exact hw.from_ hb3
def Wg (base:Nat) (w0:World) (B:List UInt8) (wr:World):Prop:=(∃ r,PWr wr base base r B 2147483647 false)/\Below base w0 wr/\base<=wr.heap.size
theorem raw_fit {B b:List UInt8} (h:B.length+b.length<=2147483647):rawB B 2147483647 false b=(B++b,false):=by
 unfold rawB
 rw [if_neg]
 simp only [Bool.false_eq_true,false_or]
 omega
theorem Wg.on {base:Nat} {w0 w w':World} {B:List UInt8} (h:Wg base w0 B w) (hb:Below w.heap.size w w'):Wg base w0 B w':=by
 obtain ⟨⟨r,hp⟩,h2,h3⟩:=h
 exact ⟨⟨r,hp.on hb⟩,h2.trans (hb.mono h3),Nat.le_trans h3 hb.size⟩
theorem Wg.of {base:Nat} {w0 w w':World} {B b:List UInt8} {r:Option Nat} {e:Ending} (hp:PWr w base base r B 2147483647 false) (h2:Below base w0 w) (h3:base<=w.heap.size) (hl:B.length+b.length<=2147483647) (h:Wr base base r B 2147483647 false b w e w') :
  e=.returned (.tuple #[])/\Wg base w0 (B++b) w'/\∀ k t cs,Blk w k t cs->t≠159->t≠5->Blk w' k t cs:=by
 obtain ⟨k0,h4,r',h5,h6⟩:=h
 rw [raw_fit hl] at h6
 have hlt:=hp.lt
 have hb:Below base w w':=h4.below h3 (Nat.le_refl _) (fun k hk=>(hlt.2.2 k hk).1)
 refine ⟨k0,⟨⟨r',h6⟩,h2.trans hb,Nat.le_trans h3 h4.size⟩,fun k t cs hk ht hu=>?_⟩
 obtain ⟨-,A,c,hw,ho,hr⟩:=hp
 refine (h4.block k hk.lt ?_ ?_).trans hk
 ·intro e
  subst e
  have e1:=(hw.symm.trans hk)
  injection e1 with e1
  injection e1 with e2 e3
  exact ht e3.symm
 intro e
 exact own_blk ho hk (Ne.symm hu) (hr.trans e.symm)
section
variable {base:Nat} {w0 w:World} {B:List UInt8}
def Wgd (base:Nat) (w0 w:World) (B:List UInt8) (e:Ending) (w':World):Prop:=e=.returned (.tuple #[])/\Wg base w0 B w'/\∀ k t cs,Blk w k t cs->t≠159->t≠5->Blk w' k t cs
theorem iwvar_any (n:Nat) (h:Wg base w0 B w) (hn:n<18446744073709551616) (hB:B.length<=1000000000) :
  Calls Tryz.prog 56 #[.pointer (some ⟨base,0,none⟩),.int .u64 (n:Int)] w (Wgd base w0 w (B++leb n)):=by
 obtain ⟨⟨r,hp⟩,h2,h3⟩:=h
 exact (wvar_any base base r B 2147483647 false n w hp (by decide) (by decide) hn hB).mono fun e w' hw=>Wg.of hp h2 h3 (by have:=leb_le n;omega) hw
theorem iwtext_any (t:ByteArray) (h:Wg base w0 B w) (hs:t.size<=500000000) (hB:B.length<=1000000000) :
  Calls Tryz.prog 57 #[.pointer (some ⟨base,0,none⟩),.string t] w (Wgd base w0 w (B++textB t)):=by
 obtain ⟨⟨r,hp⟩,h2,h3⟩:=h
 exact (wtextBig_any base base r B 2147483647 false t w hp (by decide) (by decide) (by omega) hB).mono fun e w' hw=>Wg.of hp h2 h3 (by
  have:=leb_le t.size
  have h5:=bts_size t
  unfold textB
  rw [List.length_append]
  omega) hw
theorem iwraw_any (A:Option Addr) (l c:Nat) (xs:List UInt8) (h:Wg base w0 B w) (hr:Reads w w.heap.size 1 A l (u8s xs)) (hl:l<=1000000) (hB:B.length<=1000000000) :
  Calls Tryz.prog 55 #[.pointer (some ⟨base,0,none⟩),.slice A l c] w (Wgd base w0 w (B++xs)):=by
 have hx:=reads_len hr
 obtain ⟨⟨r,hp⟩,h2,h3⟩:=h
 exact (wraw_any base base r B 2147483647 false A l c xs w hp (by decide) (by decide) hr (by omega)).mono fun e w' hw=>Wg.of hp h2 h3 (by omega) hw
theorem iwdone_any (h:Wg base w0 B w) (hB:B.length<=1000000000) :
  Calls Tryz.prog 58 #[.pointer (some ⟨base,0,none⟩)] w fun e w'=>∃ A c,e=.returned (.tuple #[.slice A B.length c,.int .i64 0])/\w'.ownsRow w.heap.size 5 1 (.slice A B.length c) B.length (u8s B)/\Below w.heap.size w w':=by
 obtain ⟨⟨r,hp⟩,h2,h3⟩:=h
 refine (wdone_any base base r B 2147483647 false w hp hB).mono fun e w' hw=>?_
 obtain ⟨h4,A,c,h5,-,-,h6⟩:=hw
 exact ⟨A,c,h5,h6,h4⟩
end
theorem inew_any (w:World):Calls Tryz.prog 54 #[.int .i64 2147483647] w fun e w'=>∃ g,g=w.heap.size/\e=.returned (.pointer (some ⟨g,0,none⟩))/\Wg g w [] w':=by
 refine (newW_any 2147483647 w (by decide) (by decide)).mono fun e w' h=>?_
 obtain ⟨h1,h2,h3,h4⟩:=h
 exact ⟨_,rfl,h1,⟨_,h2⟩,h3,Nat.le_of_lt h4⟩
end Go.Proofs.YtjpjalmilfgckaaGreatDoor
