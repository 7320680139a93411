/- Part 22 of the walks. Conditions: each lemma states its own. -/
import Derived.Test.YtjpjalmilfgckaaGreatDoorZz21
set_option maxRecDepth 100000
set_option maxHeartbeats 8000000
set_option linter.unusedVariables false
set_option linter.unusedSimpArgs false
namespace Go.Proofs.YtjpjalmilfgckaaGreatDoor
section
open Go.RowKit
def akG (r:Got St) (w:World) (e:Ending) (w':World):Prop:=
 Below w.heap.size w w'/\match r with
  | .ok st=>∃ MA mn mc RA rn rc LA ln lc,e=.returned (.tuple #[.agg #[.int .i64 st.1,.int .i64 st.2.1,.slice MA mn mc,.slice RA rn rc,.slice LA ln lc],.int .i64 0])/\StAt w' MA mn RA rn LA ln st.2.2.1 st.2.2.2.1 st.2.2.2.2/\(mn<=mc/\mc<=maxLen)/\(rn<=rc/\rc<=maxLen)/\(ln<=lc/\lc<=maxLen)
  | .error er=>e=.returned (.tuple #[.agg #[.int .i64 0,.int .i64 0,.slice none 0 0,.slice none 0 0,.slice none 0 0],.int .i64 (er:Int)])/\er≠0
theorem aew {xs:List UInt8} {B:Option Addr} {E c b:Nat} {w w':World} {e:Ending} (h:akN (xs.take E) [77,73,1] B E c 3 b w e w') (hE:xs.length-4=E) (hr:Reads w b 1 B E (u8s (xs.take E))) (h1:E<=c) (h2:c<=maxLen) :
  w=w'/\∃ mk A' k c' ah,e=.returned (.tuple #[.slice A' k c',.bool mk])/\Zv xs=(mk,ah)/\Reads w b 1 A' k (u8s ah)/\k<=c'/\c'<=maxLen/\ah.length<=xs.length:=by
 obtain ⟨rfl,h⟩:=h;refine ⟨rfl,?_⟩;by_cases hp:((xs.take E).take 3==[77,73,1])=true
 ·rw [if_pos hp] at h;obtain ⟨A',k,c',rfl,g1,g2,g3⟩:=h;exact ⟨true,A',k,c',_,rfl,by rw [<-hE];rw [<-hE] at hp;exact aaC (by simpa using hp),g1,g2,g3,by simp;omega⟩
 rw [if_neg hp] at h;exact ⟨false,B,E,c,_,h,by rw [<-hE];rw [<-hE] at hp;exact abr (by simpa using hp),hr,h1,h2,by simp;omega⟩
theorem yu {b:Bool} (q:Bool) (e:Int) (w:World) (h:b=q):Calls Tryz.prog 83 #[.bool b,.int .i64 e] w fun x w'=>∃ u,x=.returned u/\Hid (u=qG (XB q e))/\u.cells=#[u]/\w=w':=by
 subst h;exact (US b e w).mono fun x w' hh=>⟨_,hh.1,za rfl,by cases b<;>rfl,hh.2⟩
theorem Jb {a b c d e:Option Int} (h:ZG [a,b,c,d,e]=none):d=none/\e=none:=by
 cases a<;>cases b<;>cases c<;>cases d<;>cases e<;>simp_all [ZG]
theorem aak (A:Option Addr) (n c:Nat) (l:List Sc) (B:Option Addr) (m cb:Nat) (xs:List UInt8) (w:World) (hl:SchsAt w w.heap.size A n l) (hn:n<=c) (hc:c<=maxLen) (hok:∀ s∈l,ScOk s) (hx:Reads w w.heap.size 1 B m (u8s xs)) (hm:m<=cb) (hcb:cb<=maxLen) (hm9:m<=1000000000) (hT:Tab2 w.heap.size w) (hE:ErrT w) :
  Calls Tryz.prog 28 #[.slice A n c,.slice B m cb] w (akG (qL l xs) w):=by
 obtain ⟨E,hE1⟩:∃ E:Nat,E=m-4:=⟨_,rfl⟩;have hxl:=zh hx;have HEx:=za (show xs.length-4=E by omega);have hw1:wrap64 ((m:Int)-4)=(m:Int)-4:=by unfold wrap64;omega
 have hw2:max (0:Int) ((m:Int)-4)=(E:Int):=by omega
 have hEm:E<=m:=by omega
 have hEmi:(E:Int)<=(m:Int):=by omega
 have hEc:E<=cb:=by omega
 have hEci:(E:Int)<=(cb:Int):=by omega
 have hmci:(m:Int)<=(cb:Int):=by omega
 have hcb63:cb<=9223372036854775807:=by simp only [maxLen] at hcb;omega
 have hn63:n<=9223372036854775807:=by simp only [maxLen] at hc;omega
 have HX0:=za (show Reads w w.heap.size 1 B E (u8s (xs.take E)) by have:=hx.head hEm;rwa [Nat.mul_one,Yc] at this);have hdr:=hx.cut hEm hm;rw [Nat.mul_one,yw] at hdr;obtain ⟨B2,hB2⟩:∃ B2,(if cb=E then B else Option.map (fun x=>x.add E) B)=B2:=⟨_,rfl⟩;rw [hB2] at hdr;have Hdr:=za hdr;have Hq2:=za (show decide ((4:Int)<=(m:Int))=decide (4<=xs.length) by rw [hxl];exact decide_eq_decide.2 (by omega));have Hq2b:=za (show decide (4<=m)=decide (4<=xs.length) by rw [hxl]);have Hl:=za hl;have Hok:=za hok;have HT:=za hT;have HE:=za hE;obtain ⟨W0,hW0⟩:∃ W0,w.alloc (.cells #[.int .i64 0,.int .i64 0,.slice none 0 0,.slice none 0 0,.slice none 0 0] 51)=W0:=⟨_,rfl⟩;have hz0:W0.heap.size=w.heap.size+1:=by rw [<-hW0];simp
 have hc3:=Lib.run_convert_bytes_const (P:=Tryz.prog) W0 35 5 #[.int .u8 77,.int .u8 73,.int .u8 1] 3 3 Tryz.underlying35 Tryz.underlying5;have hr3:=ZL W0 #[.int .u8 77,.int .u8 73,.int .u8 1] 5 3 4 3 (u8s [77,73,1]) rfl rfl;have hB0:Below w.heap.size w (W0.alloc (.cells #[.int .u8 77,.int .u8 73,.int .u8 1] 5 (3,4))):=by rw [<-hW0];exact bal (bal (Below.refl _ _) _) _
 have hT0:Blk (W0.alloc (.cells #[.int .u8 77,.int .u8 73,.int .u8 1] 5 (3,4))) w.heap.size 51 #[.int .i64 0,.int .i64 0,.slice none 0 0,.slice none 0 0,.slice none 0 0]:=by rw [<-hW0];exact (Blk.new w _ _).alloc _
 obtain ⟨W2,hW2⟩:∃ W2,W0.alloc (.cells #[.int .u8 77,.int .u8 73,.int .u8 1] 5 (3,4))=W2:=⟨_,rfl⟩;rw [hz0] at hc3 hr3;rw [hW2] at hr3 hB0 hT0;have hc3:(convert 35 35 (.slice (some ⟨w.heap.size+1,0,none⟩) 3 3)).run Tryz.prog ((w.alloc (.cells #[.int .i64 0,.int .i64 0,.slice none 0 0,.slice none 0 0,.slice none 0 0] 51)).alloc (.cells #[.int .u8 77,.int .u8 73,.int .u8 1] 5))=.ok (.slice (some ⟨w.heap.size+1,0,none⟩) 3 3) W2:=by
  rw [hW0,<-hW2];exact hc3
 have HB2:=za hB0;have BT:=za hT0;have HR3:=za hr3;clear hl hok hx hT hE hdr hE1 hW0 hz0 hW2 hB0 hT0 hr3;go_enter Tryz.func28,Tryz.ntmps28;go_wp2_with fail
 with_reducible refine (adk w.heap.size B (some ⟨w.heap.size+1,0,none⟩) E cb 3 3 (xs.take E) [77,73,1] W2 (HX0.out.below HB2.out) HB2.out.size HR3.out hEc hcb).mono ?_
 rintro e w3 hcp;obtain ⟨rfl,mk,A',k',c',ah,rfl,hah,hrah,hk1,hk2,hk3⟩:=aew hcp HEx.out (HX0.out.below HB2.out) hEc hcb;clear hcp hc3 hw1 hw2;have Hrah:=za hrah;have Hah:=za hah;have hahl:=zh hrah;clear hrah hah HR3;go_wp2_with fail
 with_reducible refine (Xq A' k' c' ah W2 (Hrah.out.more HB2.out.size) hk1 hk2).mono ?_
 rintro e w3 ⟨he,rfl⟩;obtain ⟨⟨v,sz,ge⟩,hget⟩:∃ G,get ah=G:=⟨_,rfl⟩;have hvl:v<18446744073709551616:=by have:=(UU ah).2.2.1;rwa [hget] at this
 rw [hget] at he;have Hget:=za hget;simp only [ZF] at he;subst he;clear hget;have hwn:IntKind.u64.wrap (n:Int)=(n:Int):=by rw [yv _ (by omega) (by omega)];omega
 have hS:=ak2 W2;have Hln:=za Hl.out.len;cases mk with
 | false=>
  by_cases h1v:1<=v
  ·have d1:decide ((1:Int)<=(v:Int))=true:=(by simp;omega);have d2:decide (1<=v)=true:=(by simp;omega);have h1vi:(1:Int)<=(v:Int):=(by omega);go_wp2;refine hB W2 [0,4,5,6,8,9,10,11,12,13,17,23,24,tt 1,2,tt 3,tt 7,tt 14,tt 15,tt 16,18,19,20,21,tt 22,25,26,27,28,29,30,31,tt 32,tt 33,tt 34,35] ?_;(iterate 6 refine hP hS ?_);(iterate 4 refine hP hS ?_);(iterate 3 refine hP hS ?_);refine hE fun K hK=>?_;go_simp;(with_reducible refine (VA A n c l _ (Hl.out.on (bon HB2.out hS)) hn hc Hok.out (HT.out.on (bon HB2.out hS)).tabs).mono ?_);rintro e w4 ⟨rfl,hb⟩;have HS:=za (bon hS hb);clear hb;refine hG hK (by exact HS.out) fun hS=>?_;clear hK K;clear HS;refine hP hS ?_;refine hE fun K hK=>?_;go_simp;refine (yu (yQ l==0) 2 _ (rfl)).mono ?_;rintro e w9 ⟨u1,rfl,Hu1,cu1,rfl⟩;unfold Value.cells at cu1;refine hG hK hS fun hS=>?_;clear hK K;refine hE fun K hK=>?_;go_simp;refine (yu (decide (4<=xs.length)) 3 _ (by first | exact Hq2.out | exact Hq2b.out)).mono ?_;rintro e w9 ⟨u2,rfl,Hu2,cu2,rfl⟩;unfold Value.cells at cu2;refine hG hK hS fun hS=>?_;clear hK K;refine hE fun K hK=>?_;go_simp;(with_reducible refine (X6 B E cb (xs.take E) _ (HX0.out.on (bon HB2.out hS)) (by omega) (HT.out.on (bon HB2.out hS)).ctab).mono ?_);rintro e w5 ⟨gs,rfl,hrs,hb⟩;have HS:=za (bon hS hb);have Hrs:=za hrs;clear hb hrs;refine hG hK (by exact HS.out) fun hS=>?_;clear hK K;clear HS;refine hE fun K hK=>?_;go_simp;(with_reducible refine (Xw B2 (some ⟨gs,0,none⟩) (m-E) (cb-E) 4 4 (xs.drop E) (yj (zZ (xs.take E))) _ (Hdr.out.on (bon HB2.out hS)) Hrs.out).mono ?_);rintro e w6 ⟨rfl,rfl⟩;clear Hrs;refine hG hK hS fun hS=>?_;clear hK K;refine hE fun K hK=>?_;go_simp;refine (yu (xs.drop (xs.length-4)==yj (zZ (xs.take (xs.length-4)))) 170 _ (by rw [HEx.out])).mono ?_;rintro e w9 ⟨u3,rfl,Hu3,cu3,rfl⟩;unfold Value.cells at cu3;refine hG hK hS fun hS=>?_;clear hK K;refine hP hS ?_;(iterate 2 refine hO hS ?_);refine hP hS ?_;refine hE fun K hK=>?_;go_simp;refine (yu (false&&decide (ge=0)) 280 _ (rfl)).mono ?_;rintro e w9 ⟨u4,rfl,Hu4,cu4,rfl⟩;unfold Value.cells at cu4;refine hG hK hS fun hS=>?_;clear hK K;(iterate 7 refine hP hS ?_);refine hE fun K hK=>?_;go_simp;refine (yu (decide (1<=v)&&decide (v<=l.length)) 131 _ (by first | (rw [Hln.out];simp;done) | (rw [Hln.out];simp;omega) | (rw [Hln.out];simp_all))).mono ?_;rintro e w9 ⟨u5,rfl,Hu5,cu5,rfl⟩;unfold Value.cells at cu5;refine hG hK hS fun hS=>?_;clear hK K;refine hE fun K hK=>?_;go_simp;obtain ⟨ge5,hge5⟩:∃ g5,g5=w5.heap.size:=⟨_,rfl⟩;have HBe:=za (Blk.new w5 102 #[u1,u2,u3,u4,u5]);have HS:=za (bal hS (.cells #[u1,u2,u3,u4,u5] 102));rw [<-hge5] at HBe ⊢;generalize w5.alloc (.cells #[u1,u2,u3,u4,u5] 102)=w7 at *;clear hge5;refine hG hK (by exact HS.out) fun hS=>?_;clear hK K;clear HS;refine hE fun K hK=>?_;go_simp;refine (zF ge5 5 5 (Zs l xs) _ (by have:=HBe.out;rw [Hu1.out,Hu2.out,Hu3.out,Hu4.out,Hu5.out,HEx.out] at this;unfold Zs;rw [Hah.out,Hget.out,HEx.out];exact this) rfl (by decide)).mono ?_;rintro e w8 ⟨rfl,rfl⟩;clear HBe
   rcases ZN l xs with ⟨kk,hf,hk0,hpa⟩ | ⟨hf,-⟩
   ·have Hpa:=za hpa;have Hk0:=za hk0;rw [hf];simp only [qG];clear hf hpa hk0;refine hG hK hS fun hS=>?_;clear hK K;refine hP hS ?_;refine zc ?_;have HBs:=za (bon HB2.out hS);have BTs:=za (BT.out.on hS);clear hS cu1 cu2 cu3 cu4 cu5;(go_wp2_with fail);refine (show Calls _ _ #[.iface 164 (.agg #[.int .i64 (kk:Int)])] _ _ from Zr (some (kk:Int)) _ (HE.out.on HBs.out)).mono ?_;rintro e w11 ⟨rfl,hb⟩;simp only [aaw];have BTf:=za (BTs.out.on hb);have HBf:=za (bon HBs.out hb);clear hb;have t0:=BTf.out.cell 0;have t1:=BTf.out.cell 1;have t2:=BTf.out.cell 2;have t3:=BTf.out.cell 3;have t4:=BTf.out.cell 4;have f0:=BTf.out.frozen 0;have f1:=BTf.out.frozen 1;have f2:=BTf.out.frozen 2;have f3:=BTf.out.frozen 3;have f4:=BTf.out.frozen 4;go_wp2;clear t0 t1 t2 t3 t4 f0 f1 f2 f3 f4;have hst:=BTf.out;rw [zo hst (i:=0) (v:=.int .i64 0) rfl,zo hst (i:=1) (v:=.int .i64 0) rfl,zo hst (i:=2) (v:=.slice none 0 0) rfl,zo hst (i:=3) (v:=.slice none 0 0) rfl,zo hst (i:=4) (v:=.slice none 0 0) rfl];have r0:=hst.cell 0;have r1:=hst.cell 1;have r2:=hst.cell 2;have r3:=hst.cell 3;have r4:=hst.cell 4;refine bodyPost_ret (v:=.tuple #[.agg #[.int .i64 0,.int .i64 0,.slice none 0 0,.slice none 0 0,.slice none 0 0],.int .i64 (kk:Int)]) (by simp [results,Tryz.results28,go_sem,r0,r1,r2,r3,r4]) rfl ?_;rw [Hpa.out];exact ⟨HBf.out,rfl,Hk0.out⟩
   exfalso;unfold Zs at hf;have:=(Jb hf).1;rw [Hah.out] at this;simp [XB] at this
  have d1:decide ((1:Int)<=(v:Int))=false:=by simp;omega
  have d2:decide (1<=v)=false:=by simp;omega
  go_wp2;refine hB W2 [0,4,5,6,8,9,10,11,12,13,17,23,24,tt 1,2,tt 3,tt 7,tt 14,tt 15,tt 16,18,19,20,21,tt 22,25,26,27,28,29,30,31,tt 32,tt 33,tt 34,35] ?_;iterate 6 refine hP hS ?_
  iterate 4 refine hP hS ?_
  iterate 3 refine hP hS ?_
  refine hE fun K hK=>?_;go_simp;with_reducible refine (VA A n c l _ (Hl.out.on (bon HB2.out hS)) hn hc Hok.out (HT.out.on (bon HB2.out hS)).tabs).mono ?_
  rintro e w4 ⟨rfl,hb⟩;have HS:=za (bon hS hb);clear hb;refine hG hK (by exact HS.out) fun hS=>?_;clear hK K;clear HS;refine hP hS ?_;refine hE fun K hK=>?_;go_simp;refine (yu (yQ l==0) 2 _ (rfl)).mono ?_;rintro e w9 ⟨u1,rfl,Hu1,cu1,rfl⟩;unfold Value.cells at cu1;refine hG hK hS fun hS=>?_;clear hK K;refine hE fun K hK=>?_;go_simp;refine (yu (decide (4<=xs.length)) 3 _ (by first | exact Hq2.out | exact Hq2b.out)).mono ?_;rintro e w9 ⟨u2,rfl,Hu2,cu2,rfl⟩;unfold Value.cells at cu2;refine hG hK hS fun hS=>?_;clear hK K;refine hE fun K hK=>?_;go_simp;with_reducible refine (X6 B E cb (xs.take E) _ (HX0.out.on (bon HB2.out hS)) (by omega) (HT.out.on (bon HB2.out hS)).ctab).mono ?_
  rintro e w5 ⟨gs,rfl,hrs,hb⟩;have HS:=za (bon hS hb);have Hrs:=za hrs;clear hb hrs;refine hG hK (by exact HS.out) fun hS=>?_;clear hK K;clear HS;refine hE fun K hK=>?_;go_simp;with_reducible refine (Xw B2 (some ⟨gs,0,none⟩) (m-E) (cb-E) 4 4 (xs.drop E) (yj (zZ (xs.take E))) _ (Hdr.out.on (bon HB2.out hS)) Hrs.out).mono ?_
  rintro e w6 ⟨rfl,rfl⟩;clear Hrs;refine hG hK hS fun hS=>?_;clear hK K;refine hE fun K hK=>?_;go_simp;refine (yu (xs.drop (xs.length-4)==yj (zZ (xs.take (xs.length-4)))) 170 _ (by rw [HEx.out])).mono ?_;rintro e w9 ⟨u3,rfl,Hu3,cu3,rfl⟩;unfold Value.cells at cu3;refine hG hK hS fun hS=>?_;clear hK K;refine hP hS ?_;iterate 2 refine hO hS ?_
  refine hP hS ?_;refine hE fun K hK=>?_;go_simp;refine (yu (false&&decide (ge=0)) 280 _ (rfl)).mono ?_;rintro e w9 ⟨u4,rfl,Hu4,cu4,rfl⟩;unfold Value.cells at cu4;refine hG hK hS fun hS=>?_;clear hK K;refine hP hS ?_;iterate 5 refine hO hS ?_
  refine hP hS ?_;refine hE fun K hK=>?_;go_simp;refine (yu (decide (1<=v)&&decide (v<=l.length)) 131 _ (by first | (rw [Hln.out];simp;done) | (rw [Hln.out];simp;omega) | (rw [Hln.out];simp_all))).mono ?_;rintro e w9 ⟨u5,rfl,Hu5,cu5,rfl⟩;unfold Value.cells at cu5;refine hG hK hS fun hS=>?_;clear hK K;refine hE fun K hK=>?_;go_simp;obtain ⟨ge5,hge5⟩:∃ g5,g5=w5.heap.size:=⟨_,rfl⟩;have HBe:=za (Blk.new w5 102 #[u1,u2,u3,u4,u5]);have HS:=za (bal hS (.cells #[u1,u2,u3,u4,u5] 102));rw [<-hge5] at HBe ⊢;generalize w5.alloc (.cells #[u1,u2,u3,u4,u5] 102)=w7 at *;clear hge5;refine hG hK (by exact HS.out) fun hS=>?_;clear hK K;clear HS;refine hE fun K hK=>?_;go_simp;refine (zF ge5 5 5 (Zs l xs) _ (by have:=HBe.out;rw [Hu1.out,Hu2.out,Hu3.out,Hu4.out,Hu5.out,HEx.out] at this;unfold Zs;rw [Hah.out,Hget.out,HEx.out];exact this) rfl (by decide)).mono ?_;rintro e w8 ⟨rfl,rfl⟩;clear HBe;rcases ZN l xs with ⟨kk,hf,hk0,hpa⟩ | ⟨hf,-⟩
  ·have Hpa:=za hpa;have Hk0:=za hk0;rw [hf];simp only [qG];clear hf hpa hk0;refine hG hK hS fun hS=>?_;clear hK K;refine hP hS ?_;refine zc ?_;have HBs:=za (bon HB2.out hS);have BTs:=za (BT.out.on hS);clear hS cu1 cu2 cu3 cu4 cu5;(go_wp2_with fail);refine (show Calls _ _ #[.iface 164 (.agg #[.int .i64 (kk:Int)])] _ _ from Zr (some (kk:Int)) _ (HE.out.on HBs.out)).mono ?_;rintro e w11 ⟨rfl,hb⟩;simp only [aaw];have BTf:=za (BTs.out.on hb);have HBf:=za (bon HBs.out hb);clear hb;have t0:=BTf.out.cell 0;have t1:=BTf.out.cell 1;have t2:=BTf.out.cell 2;have t3:=BTf.out.cell 3;have t4:=BTf.out.cell 4;have f0:=BTf.out.frozen 0;have f1:=BTf.out.frozen 1;have f2:=BTf.out.frozen 2;have f3:=BTf.out.frozen 3;have f4:=BTf.out.frozen 4;go_wp2;clear t0 t1 t2 t3 t4 f0 f1 f2 f3 f4;have hst:=BTf.out;rw [zo hst (i:=0) (v:=.int .i64 0) rfl,zo hst (i:=1) (v:=.int .i64 0) rfl,zo hst (i:=2) (v:=.slice none 0 0) rfl,zo hst (i:=3) (v:=.slice none 0 0) rfl,zo hst (i:=4) (v:=.slice none 0 0) rfl];have r0:=hst.cell 0;have r1:=hst.cell 1;have r2:=hst.cell 2;have r3:=hst.cell 3;have r4:=hst.cell 4;refine bodyPost_ret (v:=.tuple #[.agg #[.int .i64 0,.int .i64 0,.slice none 0 0,.slice none 0 0,.slice none 0 0],.int .i64 (kk:Int)]) (by simp [results,Tryz.results28,go_sem,r0,r1,r2,r3,r4]) rfl ?_;rw [Hpa.out];exact ⟨HBf.out,rfl,Hk0.out⟩
  exfalso;unfold Zs at hf;have:=(Jb hf).1;rw [Hah.out] at this;simp [XB] at this
 | true=>
  by_cases h1v:1<=v
  ·have d1:decide ((1:Int)<=(v:Int))=true:=(by simp;omega);have d2:decide (1<=v)=true:=(by simp;omega);have h1vi:(1:Int)<=(v:Int):=(by omega);go_wp2;refine hB W2 [0,4,5,6,8,9,10,11,12,13,17,23,24,tt 1,2,tt 3,tt 7,tt 14,tt 15,tt 16,18,19,20,21,tt 22,25,26,27,28,29,30,31,tt 32,tt 33,tt 34,35] ?_;(iterate 6 refine hP hS ?_);(iterate 4 refine hP hS ?_);(iterate 3 refine hP hS ?_);refine hE fun K hK=>?_;go_simp;(with_reducible refine (VA A n c l _ (Hl.out.on (bon HB2.out hS)) hn hc Hok.out (HT.out.on (bon HB2.out hS)).tabs).mono ?_);rintro e w4 ⟨rfl,hb⟩;have HS:=za (bon hS hb);clear hb;refine hG hK (by exact HS.out) fun hS=>?_;clear hK K;clear HS;refine hP hS ?_;refine hE fun K hK=>?_;go_simp;refine (yu (yQ l==0) 2 _ (rfl)).mono ?_;rintro e w9 ⟨u1,rfl,Hu1,cu1,rfl⟩;unfold Value.cells at cu1;refine hG hK hS fun hS=>?_;clear hK K;refine hE fun K hK=>?_;go_simp;refine (yu (decide (4<=xs.length)) 3 _ (by first | exact Hq2.out | exact Hq2b.out)).mono ?_;rintro e w9 ⟨u2,rfl,Hu2,cu2,rfl⟩;unfold Value.cells at cu2;refine hG hK hS fun hS=>?_;clear hK K;refine hE fun K hK=>?_;go_simp;(with_reducible refine (X6 B E cb (xs.take E) _ (HX0.out.on (bon HB2.out hS)) (by omega) (HT.out.on (bon HB2.out hS)).ctab).mono ?_);rintro e w5 ⟨gs,rfl,hrs,hb⟩;have HS:=za (bon hS hb);have Hrs:=za hrs;clear hb hrs;refine hG hK (by exact HS.out) fun hS=>?_;clear hK K;clear HS;refine hE fun K hK=>?_;go_simp;(with_reducible refine (Xw B2 (some ⟨gs,0,none⟩) (m-E) (cb-E) 4 4 (xs.drop E) (yj (zZ (xs.take E))) _ (Hdr.out.on (bon HB2.out hS)) Hrs.out).mono ?_);rintro e w6 ⟨rfl,rfl⟩;clear Hrs;refine hG hK hS fun hS=>?_;clear hK K;refine hE fun K hK=>?_;go_simp;refine (yu (xs.drop (xs.length-4)==yj (zZ (xs.take (xs.length-4)))) 170 _ (by rw [HEx.out])).mono ?_;rintro e w9 ⟨u3,rfl,Hu3,cu3,rfl⟩;unfold Value.cells at cu3;refine hG hK hS fun hS=>?_;clear hK K;(iterate 4 refine hP hS ?_);refine hE fun K hK=>?_;go_simp;refine (yu (true&&decide (ge=0)) 280 _ (by first | rfl | (rw [Bool.true_and];exact decide_eq_decide.2 (by omega)) | (cases hge:decide (ge=0)<;>simp_all))).mono ?_;rintro e w9 ⟨u4,rfl,Hu4,cu4,rfl⟩;unfold Value.cells at cu4;refine hG hK hS fun hS=>?_;clear hK K;(iterate 7 refine hP hS ?_);refine hE fun K hK=>?_;go_simp;refine (yu (decide (1<=v)&&decide (v<=l.length)) 131 _ (by first | (rw [Hln.out];simp;done) | (rw [Hln.out];simp;omega) | (rw [Hln.out];simp_all))).mono ?_;rintro e w9 ⟨u5,rfl,Hu5,cu5,rfl⟩;unfold Value.cells at cu5;refine hG hK hS fun hS=>?_;clear hK K;refine hE fun K hK=>?_;go_simp;obtain ⟨ge5,hge5⟩:∃ g5,g5=w5.heap.size:=⟨_,rfl⟩;have HBe:=za (Blk.new w5 102 #[u1,u2,u3,u4,u5]);have HS:=za (bal hS (.cells #[u1,u2,u3,u4,u5] 102));rw [<-hge5] at HBe ⊢;generalize w5.alloc (.cells #[u1,u2,u3,u4,u5] 102)=w7 at *;clear hge5;refine hG hK (by exact HS.out) fun hS=>?_;clear hK K;clear HS;refine hE fun K hK=>?_;go_simp
   refine (zF ge5 5 5 (Zs l xs) _ (by have:=HBe.out;rw [Hu1.out,Hu2.out,Hu3.out,Hu4.out,Hu5.out,HEx.out] at this;unfold Zs;rw [Hah.out,Hget.out,HEx.out];exact this) rfl (by decide)).mono ?_;rintro e w8 ⟨rfl,rfl⟩;clear HBe;rcases ZN l xs with ⟨kk,hf,hk0,hpa⟩ | ⟨hf,s,hv1,hvn,hls,hpa⟩
   ·have Hpa:=za hpa;have Hk0:=za hk0;rw [hf];simp only [qG];clear hf hpa hk0;refine hG hK hS fun hS=>?_;clear hK K;refine hP hS ?_;refine zc ?_;have HBs:=za (bon HB2.out hS);have BTs:=za (BT.out.on hS);clear hS cu1 cu2 cu3 cu4 cu5;(go_wp2_with fail);refine (show Calls _ _ #[.iface 164 (.agg #[.int .i64 (kk:Int)])] _ _ from Zr (some (kk:Int)) _ (HE.out.on HBs.out)).mono ?_;rintro e w11 ⟨rfl,hb⟩;simp only [aaw];have BTf:=za (BTs.out.on hb);have HBf:=za (bon HBs.out hb);clear hb;have t0:=BTf.out.cell 0;have t1:=BTf.out.cell 1;have t2:=BTf.out.cell 2;have t3:=BTf.out.cell 3;have t4:=BTf.out.cell 4;have f0:=BTf.out.frozen 0;have f1:=BTf.out.frozen 1;have f2:=BTf.out.frozen 2;have f3:=BTf.out.frozen 3;have f4:=BTf.out.frozen 4;go_wp2;clear t0 t1 t2 t3 t4 f0 f1 f2 f3 f4;have hst:=BTf.out;rw [zo hst (i:=0) (v:=.int .i64 0) rfl,zo hst (i:=1) (v:=.int .i64 0) rfl,zo hst (i:=2) (v:=.slice none 0 0) rfl,zo hst (i:=3) (v:=.slice none 0 0) rfl,zo hst (i:=4) (v:=.slice none 0 0) rfl];have r0:=hst.cell 0;have r1:=hst.cell 1;have r2:=hst.cell 2;have r3:=hst.cell 3;have r4:=hst.cell 4;refine bodyPost_ret (v:=.tuple #[.agg #[.int .i64 0,.int .i64 0,.slice none 0 0,.slice none 0 0,.slice none 0 0],.int .i64 (kk:Int)]) (by simp [results,Tryz.results28,go_sem,r0,r1,r2,r3,r4]) rfl ?_;rw [Hpa.out];exact ⟨HBf.out,rfl,Hk0.out⟩
   rw [Hah.out] at hv1 hvn hls hpa;simp only at hv1 hvn hls hpa;rw [Hget.out] at hv1 hvn hls;simp only at hv1 hvn hls;have Hpa:=za hpa;have Hss:=za (Hok.out s (List.mem_of_getElem? hls));obtain ⟨j,hj⟩:∃ j,v=j+1:=⟨v-1,by omega⟩;have hjn:j<n:=(by have:=Hln.out;omega);have hjni:(j:Int)<(n:Int):=(by omega);have hwv:IntKind.u64.wrap ((v:Int)-1)=(j:Int):=(by rw [yv _ (by omega) (by omega)];omega);obtain ⟨ad,g,s2,rfl,hbk,hs2,c0,c1,hsc,hg1,hg2⟩:=(Hl.out.on (bon HB2.out hS)).at_ hjn;obtain rfl:s2=s:=(by rw [show v-1=j by omega] at hls;exact Option.some.inj (hs2.symm.trans hls));have Hsc:=za hsc;rw [hf];simp only [qG];clear hf hpa hls hs2 hsc hbk hj hv1 hvn;refine hG hK hS fun hS=>?_;clear hK K;refine hP hS ?_;refine zc ?_;have HBs:=za (bon HB2.out hS);have BTs:=za (BT.out.on hS);have Hrah7:=za ((Hrah.out.more HB2.out.size).on hS);clear hS cu1 cu2 cu3 cu4 cu5 d1 d2 h1vi;(go_wp2_with fail);(with_reducible refine (afX g.1.1 g.1.2.1 g.1.2.2 g.2.1 g.2.2.1 g.2.2.2 s2 A' k' c' ah _ Hsc.out hg1 hg2 Hss.out Hrah7.out (by omega) (HT.out.on HBs.out) (HE.out.on HBs.out)).mono ?_);rintro e w11 ⟨hb,hp⟩;have hlow:w.heap.size<w7.heap.size:=BTs.out.lt;have BTf:=za (BTs.out.on hb);have HBf:=za (bon HBs.out hb);clear hb c0 c1 hwv;obtain ⟨R,hR⟩:∃ R,qh s2 ah=R:=⟨_,rfl⟩;rw [hR] at hp Hpa;clear hR;cases R with
   | error er=>
    obtain ⟨rfl,hne⟩:=hp;have Hne:=za hne;clear hne;have HBz:=za (Blk.new w11 51 #[.int .i64 0,.int .i64 0,.slice none 0 0,.slice none 0 0,.slice none 0 0]);have hal:=bal (Below.refl w11.heap.size w11) (.cells #[.int .i64 0,.int .i64 0,.slice none 0 0,.slice none 0 0,.slice none 0 0] 51);have BTg:=za (BTf.out.on hal);have HBg:=za (bon HBf.out hal);have hzz:=za (show w11.heap.size≠w.heap.size from (Nat.ne_of_lt BTf.out.lt).symm);clear hal;obtain ⟨z,hz⟩:∃ z,z=w11.heap.size:=⟨_,rfl⟩;go_wp2;rw [<-hz] at HBz hzz ⊢;generalize w11.alloc (.cells #[.int .i64 0,.int .i64 0,.slice none 0 0,.slice none 0 0,.slice none 0 0] 51)=w12 at *;clear hz;have hS:Blk w12.drew z 51 #[.int .i64 0,.int .i64 0,.slice none 0 0,.slice none 0 0,.slice none 0 0]:=HBz.out.drew;refine hR (fun w'=>Blk w' z 51 #[.int .i64 0,.int .i64 0,.slice none 0 0,.slice none 0 0,.slice none 0 0]) [0,1,tt 2,tt 3,4] ?_;replace BTg:=za BTg.out.drew;replace HBg:=za HBg.out.drew;generalize w12.drew=w13 at *;have Z0:=za (fun (w':World) (h:Blk w' z 51 #[.int .i64 0,.int .i64 0,.slice none 0 0,.slice none 0 0,.slice none 0 0])=>h.cell 0);have Z1:=za (fun (w':World) (h:Blk w' z 51 #[.int .i64 0,.int .i64 0,.slice none 0 0,.slice none 0 0,.slice none 0 0])=>h.cell 1);have Z2:=za (fun (w':World) (h:Blk w' z 51 #[.int .i64 0,.int .i64 0,.slice none 0 0,.slice none 0 0,.slice none 0 0])=>h.cell 2);have Z3:=za (fun (w':World) (h:Blk w' z 51 #[.int .i64 0,.int .i64 0,.slice none 0 0,.slice none 0 0,.slice none 0 0])=>h.cell 3);have Z4:=za (fun (w':World) (h:Blk w' z 51 #[.int .i64 0,.int .i64 0,.slice none 0 0,.slice none 0 0,.slice none 0 0])=>h.cell 4);refine hP5 hS Z0.out Z1.out Z2.out Z3.out Z4.out ?_;refine hP hS ?_;refine hE fun K hK=>?_;go_simp;refine (show Calls _ _ #[.iface 164 (.agg #[.int .i64 (er:Int)])] _ _ from Zr (some (er:Int)) _ (HE.out.on HBg.out)).mono ?_;rintro e w14 ⟨rfl,hb⟩;simp only [aaw];replace BTg:=za (BTg.out.on hb);replace HBg:=za (bon HBg.out hb);have HS:=za (hS.on hb);clear hb Z0 Z1 Z2 Z3 Z4;refine hG hK (by exact HS.out) fun hS=>?_;clear hK K;clear HS;have t0:=BTg.out.cell 0;have t1:=BTg.out.cell 1;have t2:=BTg.out.cell 2;have t3:=BTg.out.cell 3;have t4:=BTg.out.cell 4;have f0:=BTg.out.frozen 0;have f1:=BTg.out.frozen 1;have f2:=BTg.out.frozen 2;have f3:=BTg.out.frozen 3;have f4:=BTg.out.frozen 4;refine hE fun K hK=>?_;go_simp;clear t0 t1 t2 t3 t4 f0 f1 f2 f3 f4;have hst:=BTg.out;rw [zo hst (i:=0) (v:=.int .i64 0) rfl,zo hst (i:=1) (v:=.int .i64 0) rfl,zo hst (i:=2) (v:=.slice none 0 0) rfl,zo hst (i:=3) (v:=.slice none 0 0) rfl,zo hst (i:=4) (v:=.slice none 0 0) rfl];refine hG hK hS fun hS=>?_;clear hK K;refine hP hS ?_;refine zc ?_;go_wp2;have r0:=hst.cell 0;have r1:=hst.cell 1;have r2:=hst.cell 2;have r3:=hst.cell 3;have r4:=hst.cell 4;refine bodyPost_ret (v:=.tuple #[.agg #[.int .i64 0,.int .i64 0,.slice none 0 0,.slice none 0 0,.slice none 0 0],.int .i64 (er:Int)]) (by simp [results,Tryz.results28,go_sem,r0,r1,r2,r3,r4]) rfl ?_;rw [Hpa.out];exact ⟨HBg.out,rfl,Hne.out⟩
   | ok st=>
    obtain ⟨MA,mn,mc,RA,rn,rc,LA,ln,lc,rfl,hm1,hi1,hl1,hl2,hl3⟩:=hp;obtain ⟨sv,sq,sm,sr,sl⟩:=st;simp only at hm1 hi1 hl1 ⊢;have HM:=za hm1;have HI:=za hi1;have HL:=za hl1;have HLa:=za (show ∀ ad,LA=some ad->ad.block≠w.heap.size from fun ad h=>by have:=hl2 ad h;omega);have HLc:=za hl3;clear hm1 hi1 hl1 hl2 hl3;have HBz:=za (Blk.new w11 51 #[.int .i64 sv,.int .i64 sq,.slice MA mn mc,.slice RA rn rc,.slice LA ln lc]);have hal:=bal (Below.refl w11.heap.size w11) (.cells #[.int .i64 sv,.int .i64 sq,.slice MA mn mc,.slice RA rn rc,.slice LA ln lc] 51);have BTg:=za (BTf.out.on hal);have HBg:=za (bon HBf.out hal);replace HM:=za (zd HM.out hal);replace HI:=za (HI.out.below hal);replace HL:=za (HL.out.on hal);have hzz:=za (show w11.heap.size≠w.heap.size from (Nat.ne_of_lt BTf.out.lt).symm);clear hal;obtain ⟨z,hz⟩:∃ z,z=w11.heap.size:=⟨_,rfl⟩;go_wp2;rw [<-hz] at HBz hzz ⊢;generalize w11.alloc (.cells #[.int .i64 sv,.int .i64 sq,.slice MA mn mc,.slice RA rn rc,.slice LA ln lc] 51)=w12 at *;clear hz;have hS:Blk w12.drew z 51 #[.int .i64 sv,.int .i64 sq,.slice MA mn mc,.slice RA rn rc,.slice LA ln lc]:=HBz.out.drew;refine hR (fun w'=>Blk w' z 51 #[.int .i64 sv,.int .i64 sq,.slice MA mn mc,.slice RA rn rc,.slice LA ln lc]) [0,1,tt 2,tt 3,4] ?_;replace BTg:=za BTg.out.drew;replace HBg:=za HBg.out.drew;replace HM:=za (zd HM.out (Below.refl w12.heap.size w12).drew);replace HI:=za (HI.out.below (Below.refl w12.heap.size w12).drew);replace HL:=za (HL.out.on (Below.refl w12.heap.size w12).drew);generalize w12.drew=w13 at *;have Z0:=za (fun (w':World) (h:Blk w' z 51 #[.int .i64 sv,.int .i64 sq,.slice MA mn mc,.slice RA rn rc,.slice LA ln lc])=>h.cell 0);have Z1:=za (fun (w':World) (h:Blk w' z 51 #[.int .i64 sv,.int .i64 sq,.slice MA mn mc,.slice RA rn rc,.slice LA ln lc])=>h.cell 1);have Z2:=za (fun (w':World) (h:Blk w' z 51 #[.int .i64 sv,.int .i64 sq,.slice MA mn mc,.slice RA rn rc,.slice LA ln lc])=>h.cell 2);have Z3:=za (fun (w':World) (h:Blk w' z 51 #[.int .i64 sv,.int .i64 sq,.slice MA mn mc,.slice RA rn rc,.slice LA ln lc])=>h.cell 3);have Z4:=za (fun (w':World) (h:Blk w' z 51 #[.int .i64 sv,.int .i64 sq,.slice MA mn mc,.slice RA rn rc,.slice LA ln lc])=>h.cell 4);refine hP5 hS Z0.out Z1.out Z2.out Z3.out Z4.out ?_;refine hP hS ?_;refine hE fun K hK=>?_;go_simp;refine (show Calls _ _ #[.nilIface] _ _ from Zr none _ (HE.out.on HBg.out)).mono ?_;rintro e w14 ⟨rfl,hb⟩;simp only [aaw];replace BTg:=za (BTg.out.on hb);replace HBg:=za (bon HBg.out hb);replace HM:=za (zd HM.out hb);replace HI:=za (HI.out.below hb);replace HL:=za (HL.out.on hb);have HS:=za (hS.on hb);clear hb Z0 Z1 Z2 Z3 Z4;refine hG hK (by exact HS.out) fun hS=>?_;clear hK K;clear HS;have t0:=BTg.out.cell 0;have t1:=BTg.out.cell 1;have t2:=BTg.out.cell 2;have t3:=BTg.out.cell 3;have t4:=BTg.out.cell 4;have f0:=BTg.out.frozen 0;have f1:=BTg.out.frozen 1;have f2:=BTg.out.frozen 2;have f3:=BTg.out.frozen 3;have f4:=BTg.out.frozen 4;refine hE fun K hK=>?_;go_simp;clear t0 t1 t2 t3 t4 f0 f1 f2 f3 f4
    have hzw:=hzz.out;replace HM:=za (yq HM.out BTg.out (by decide) (.int .i64 sv) (.int .i64 sq) (.slice MA mn mc) (.slice RA rn rc) (.slice LA ln lc));replace HI:=za (qW HI.out BTg.out (by decide) (by decide) (.int .i64 sv) (.int .i64 sq) (.slice MA mn mc) (.slice RA rn rc) (.slice LA ln lc));replace HL:=za (((((HL.out.setCellFar (p:=⟨w.heap.size,0,none⟩) HLa.out (.int .i64 sv)).setCellFar (p:=⟨w.heap.size,1,none⟩) HLa.out (.int .i64 sq)).setCellFar (p:=⟨w.heap.size,2,none⟩) HLa.out (.slice MA mn mc)).setCellFar (p:=⟨w.heap.size,3,none⟩) HLa.out (.slice RA rn rc)).setCellFar (p:=⟨w.heap.size,4,none⟩) HLa.out (.slice LA ln lc));have HS:=za (((((hS.far (p:=⟨w.heap.size,0,none⟩) hzw (.int .i64 sv)).far (p:=⟨w.heap.size,1,none⟩) hzw (.int .i64 sq)).far (p:=⟨w.heap.size,2,none⟩) hzw (.slice MA mn mc)).far (p:=⟨w.heap.size,3,none⟩) hzw (.slice RA rn rc)).far (p:=⟨w.heap.size,4,none⟩) hzw (.slice LA ln lc));replace HBg:=za (((((HBg.out.setCell (p:=⟨w.heap.size,0,none⟩) (Nat.le_refl _) (.int .i64 sv)).setCell (p:=⟨w.heap.size,1,none⟩) (Nat.le_refl _) (.int .i64 sq)).setCell (p:=⟨w.heap.size,2,none⟩) (Nat.le_refl _) (.slice MA mn mc)).setCell (p:=⟨w.heap.size,3,none⟩) (Nat.le_refl _) (.slice RA rn rc)).setCell (p:=⟨w.heap.size,4,none⟩) (Nat.le_refl _) (.slice LA ln lc));have hst:=((((BTg.out.set_ 0 (.int .i64 sv)).set_ 1 (.int .i64 sq)).set_ 2 (.slice MA mn mc)).set_ 3 (.slice RA rn rc)).set_ 4 (.slice LA ln lc);simp only [List.setIfInBounds_toArray,List.set_cons_succ,List.set_cons_zero] at hst;refine hG hK (by exact HS.out) fun hS=>?_;clear hK K;clear HS;refine hP hS ?_;refine zc ?_;go_wp2;have r0:=hst.cell 0;have r1:=hst.cell 1;have r2:=hst.cell 2;have r3:=hst.cell 3;have r4:=hst.cell 4;refine bodyPost_ret (v:=.tuple #[.agg #[.int .i64 sv,.int .i64 sq,.slice MA mn mc,.slice RA rn rc,.slice LA ln lc],.int .i64 0]) (by simp [results,Tryz.results28,go_sem,r0,r1,r2,r3,r4]) rfl ?_;rw [Hpa.out];exact ⟨HBg.out,MA,mn,mc,RA,rn,rc,LA,ln,lc,rfl,⟨ze HM.out,HI.out.at_,HL.out⟩,YY HM.out,HI.out.caps,HLc.out⟩
  have d1:decide ((1:Int)<=(v:Int))=false:=by simp;omega
  have d2:decide (1<=v)=false:=by simp;omega
  go_wp2;refine hB W2 [0,4,5,6,8,9,10,11,12,13,17,23,24,tt 1,2,tt 3,tt 7,tt 14,tt 15,tt 16,18,19,20,21,tt 22,25,26,27,28,29,30,31,tt 32,tt 33,tt 34,35] ?_;iterate 6 refine hP hS ?_
  iterate 4 refine hP hS ?_
  iterate 3 refine hP hS ?_
  refine hE fun K hK=>?_;go_simp;with_reducible refine (VA A n c l _ (Hl.out.on (bon HB2.out hS)) hn hc Hok.out (HT.out.on (bon HB2.out hS)).tabs).mono ?_
  rintro e w4 ⟨rfl,hb⟩;have HS:=za (bon hS hb);clear hb;refine hG hK (by exact HS.out) fun hS=>?_;clear hK K;clear HS;refine hP hS ?_;refine hE fun K hK=>?_;go_simp;refine (yu (yQ l==0) 2 _ (rfl)).mono ?_;rintro e w9 ⟨u1,rfl,Hu1,cu1,rfl⟩;unfold Value.cells at cu1;refine hG hK hS fun hS=>?_;clear hK K;refine hE fun K hK=>?_;go_simp;refine (yu (decide (4<=xs.length)) 3 _ (by first | exact Hq2.out | exact Hq2b.out)).mono ?_;rintro e w9 ⟨u2,rfl,Hu2,cu2,rfl⟩;unfold Value.cells at cu2;refine hG hK hS fun hS=>?_;clear hK K;refine hE fun K hK=>?_;go_simp;with_reducible refine (X6 B E cb (xs.take E) _ (HX0.out.on (bon HB2.out hS)) (by omega) (HT.out.on (bon HB2.out hS)).ctab).mono ?_
  rintro e w5 ⟨gs,rfl,hrs,hb⟩;have HS:=za (bon hS hb);have Hrs:=za hrs;clear hb hrs;refine hG hK (by exact HS.out) fun hS=>?_;clear hK K;clear HS;refine hE fun K hK=>?_;go_simp;with_reducible refine (Xw B2 (some ⟨gs,0,none⟩) (m-E) (cb-E) 4 4 (xs.drop E) (yj (zZ (xs.take E))) _ (Hdr.out.on (bon HB2.out hS)) Hrs.out).mono ?_
  rintro e w6 ⟨rfl,rfl⟩;clear Hrs;refine hG hK hS fun hS=>?_;clear hK K;refine hE fun K hK=>?_;go_simp;refine (yu (xs.drop (xs.length-4)==yj (zZ (xs.take (xs.length-4)))) 170 _ (by rw [HEx.out])).mono ?_;rintro e w9 ⟨u3,rfl,Hu3,cu3,rfl⟩;unfold Value.cells at cu3;refine hG hK hS fun hS=>?_;clear hK K;iterate 4 refine hP hS ?_
  refine hE fun K hK=>?_;go_simp;refine (yu (true&&decide (ge=0)) 280 _ (by first | rfl | (rw [Bool.true_and];exact decide_eq_decide.2 (by omega)) | (cases hge:decide (ge=0)<;>simp_all))).mono ?_;rintro e w9 ⟨u4,rfl,Hu4,cu4,rfl⟩;unfold Value.cells at cu4;refine hG hK hS fun hS=>?_;clear hK K;refine hP hS ?_;iterate 5 refine hO hS ?_
  refine hP hS ?_;refine hE fun K hK=>?_;go_simp;refine (yu (decide (1<=v)&&decide (v<=l.length)) 131 _ (by first | (rw [Hln.out];simp;done) | (rw [Hln.out];simp;omega) | (rw [Hln.out];simp_all))).mono ?_;rintro e w9 ⟨u5,rfl,Hu5,cu5,rfl⟩;unfold Value.cells at cu5;refine hG hK hS fun hS=>?_;clear hK K;refine hE fun K hK=>?_;go_simp;obtain ⟨ge5,hge5⟩:∃ g5,g5=w5.heap.size:=⟨_,rfl⟩;have HBe:=za (Blk.new w5 102 #[u1,u2,u3,u4,u5]);have HS:=za (bal hS (.cells #[u1,u2,u3,u4,u5] 102));rw [<-hge5] at HBe ⊢;generalize w5.alloc (.cells #[u1,u2,u3,u4,u5] 102)=w7 at *;clear hge5;refine hG hK (by exact HS.out) fun hS=>?_;clear hK K;clear HS;refine hE fun K hK=>?_;go_simp;refine (zF ge5 5 5 (Zs l xs) _ (by have:=HBe.out;rw [Hu1.out,Hu2.out,Hu3.out,Hu4.out,Hu5.out,HEx.out] at this;unfold Zs;rw [Hah.out,Hget.out,HEx.out];exact this) rfl (by decide)).mono ?_;rintro e w8 ⟨rfl,rfl⟩;clear HBe;rcases ZN l xs with ⟨kk,hf,hk0,hpa⟩ | ⟨hf,-,hv1,-⟩
  ·have Hpa:=za hpa;have Hk0:=za hk0;rw [hf];simp only [qG];clear hf hpa hk0;refine hG hK hS fun hS=>?_;clear hK K;refine hP hS ?_;refine zc ?_;have HBs:=za (bon HB2.out hS);have BTs:=za (BT.out.on hS);clear hS cu1 cu2 cu3 cu4 cu5;(go_wp2_with fail);refine (show Calls _ _ #[.iface 164 (.agg #[.int .i64 (kk:Int)])] _ _ from Zr (some (kk:Int)) _ (HE.out.on HBs.out)).mono ?_;rintro e w11 ⟨rfl,hb⟩;simp only [aaw];have BTf:=za (BTs.out.on hb);have HBf:=za (bon HBs.out hb);clear hb;have t0:=BTf.out.cell 0;have t1:=BTf.out.cell 1;have t2:=BTf.out.cell 2;have t3:=BTf.out.cell 3;have t4:=BTf.out.cell 4;have f0:=BTf.out.frozen 0;have f1:=BTf.out.frozen 1;have f2:=BTf.out.frozen 2;have f3:=BTf.out.frozen 3;have f4:=BTf.out.frozen 4;go_wp2;clear t0 t1 t2 t3 t4 f0 f1 f2 f3 f4;have hst:=BTf.out;rw [zo hst (i:=0) (v:=.int .i64 0) rfl,zo hst (i:=1) (v:=.int .i64 0) rfl,zo hst (i:=2) (v:=.slice none 0 0) rfl,zo hst (i:=3) (v:=.slice none 0 0) rfl,zo hst (i:=4) (v:=.slice none 0 0) rfl];have r0:=hst.cell 0;have r1:=hst.cell 1;have r2:=hst.cell 2;have r3:=hst.cell 3;have r4:=hst.cell 4;refine bodyPost_ret (v:=.tuple #[.agg #[.int .i64 0,.int .i64 0,.slice none 0 0,.slice none 0 0,.slice none 0 0],.int .i64 (kk:Int)]) (by simp [results,Tryz.results28,go_sem,r0,r1,r2,r3,r4]) rfl ?_;rw [Hpa.out];exact ⟨HBf.out,rfl,Hk0.out⟩
  exfalso;rw [Hah.out] at hv1;simp only at hv1;rw [Hget.out] at hv1;exact h1v hv1
end
section
open Go.RowKit
def qM:Sc:=([(1,⟨#[105,100]⟩,2,false,false,0,⟨#[]⟩)],[0])
theorem ahr:z8 qM=true:=by kernel_rfl
theorem Ui:ScOk qM:=by
 refine ⟨fun c hc=>?_,fun c hc=>?_,fun c hc=>?_,fun c hc=>?_⟩<;>(obtain rfl:=List.mem_singleton.1 hc;decide)
theorem ad8:yQ [qM]=0:=agE ahr
def stO:St:=(1,0,[],[],[])
theorem agX:stB qM stO=true:=by kernel_rfl
def aal:List UInt8:=[77,83,1,1,0,0]++yj (zZ [77,83,1,1,0,0])
theorem akS:ZV qM stO=(([77,73,1,1,0,0,10]++aal)++[0])++yj (zZ (([77,73,1,1,0,0,10]++aal)++[0])):=by kernel_rfl
theorem aj0:Zi qM stO=0:=(Vu).2 agX
theorem aiZ:qL [qM] (ZV qM stO)=.ok stO:=acv ad8 agX (by decide) rfl
theorem ai3:qL [qM] []=.error 3:=by kernel_rfl
theorem ai2:qL [qM] ([77,73,2]++yj (zZ [77,73,2]))=.error 280:=by kernel_rfl
theorem ai1:qL [qM] ([77,73,1,2]++yj (zZ [77,73,1,2]))=.error 131:=by kernel_rfl
theorem ai0:qL [qM] ([77,73,1,1]++yj (zZ [77,73,1,1]))=.error 280:=by kernel_rfl
theorem akt:Zi qM (0,0,[],[],[])=2:=by kernel_rfl
theorem aks:Zi qM (1,0,[(⟨#[112]⟩,-1)],[],[])=2:=by kernel_rfl
theorem akr:Zi qM (1,0,[(⟨#[112]⟩,1),(⟨#[112]⟩,2)],[],[])=2:=by kernel_rfl
theorem akq:Zi qM (1,0,[],[([(false,1,⟨#[]⟩)],2)],[])=2:=by kernel_rfl
end
section
open Go.RowKit
theorem Uz {α:Type} (f:Option α->α->Bool) (l:List α):∀ (d i:Nat),l.length-i=d->(zn f (zu l i) (l.drop i)=true ↔ ∀ j x,i<=j->l[j]? = some x->f (zu l j) x=true)
 | 0,i,h=>by
  rw [List.drop_of_length_le (by omega)];simp only [zn,true_iff];intro j x hj hx;have:=(List.getElem?_eq_some_iff.1 hx).1;omega
 | d+1,i,h=>by
  have hx:=List.getElem?_eq_getElem (l:=l) (i:=i) (by omega);rw [qI f hx,Bool.and_eq_true,Uz f l d (i+1) (by omega)];constructor
  ·rintro ⟨h1,h2⟩ j x hj hjx;rcases Nat.eq_or_lt_of_le hj with rfl | hlt
   ·rw [hx] at hjx;cases hjx;exact h1
   exact h2 j x hlt hjx
  intro h1;exact ⟨h1 i _ (Nat.le_refl _) hx,fun j x hj hjx=>h1 j x (by omega) hjx⟩
theorem adl {α:Type} (f:Option α->α->Bool) (l:List α):zn f none l=true ↔ ∀ j x,l[j]? = some x->f (zu l j) x=true:=by
 have:=Uz f l (l.length-0) 0 rfl;rw [show zu l 0=none from rfl,List.drop_zero] at this;rw [this];exact ⟨fun h j x hx=>h j x (Nat.zero_le _) hx,fun h j x _ hx=>h j x hx⟩
theorem acE (x:ByteArray) (l:List ByteArray):Ul x l=true ↔ x∈l:=by
 unfold Ul;rw [List.any_eq_true];exact ⟨fun ⟨y,h1,h2⟩=>by rw [<-of_decide_eq_true h2];exact h1,fun h=>⟨x,h,decide_eq_true rfl⟩⟩
theorem J2:∀ l:List ByteArray,qU l=true ↔ ∀ (i j:Nat) (x y:ByteArray),i<j->l[i]? = some x->l[j]? = some y->x≠y
 | []=>by simp [qU]
 | a::l=>by
  rw [qU,Bool.and_eq_true,J2 l,Bool.not_eq_true'];constructor
  ·rintro ⟨h1,h2⟩ i j x y hij hx hy;cases j with
   | zero=>omega
   | succ j=>
    cases i with
    | zero=>
     simp only [List.getElem?_cons_zero,Option.some.injEq] at hx;simp only [List.getElem?_cons_succ] at hy;subst hx;intro e;subst e;rw [(acE _ _).2 (List.mem_of_getElem? hy)] at h1;cases h1
    | succ i=>exact h2 i j x y (by omega) (by simpa using hx) (by simpa using hy)
  intro h;refine ⟨?_,fun i j x y hij hx hy=>h (i+1) (j+1) x y (by omega) (by simpa using hx) (by simpa using hy)⟩;cases hm:Ul a l with
  | false=>rfl
  | true=>
   obtain ⟨j,hj⟩:=List.getElem?_of_mem ((acE _ _).1 hm);exact absurd rfl (h 0 (j+1) a a (by omega) rfl (by simpa using hj))
structure ColGd (cs:List Co) (j:Nat) (c:Co):Prop where
 id:1<=c.1/\c.1<=1048576
 rise:∀ p,0<j->cs[j-1]? = some p->p.1<c.1
 col:Zt c=true
 name:∀ i p,i<j->cs[i]? = some p->p.2.1≠c.2.1
structure KeyGd (s:Sc) (j:Nat) (x:Int):Prop where
 range:0<=x/\x<(s.1.length:Int)
 rise:∀ p,0<j->s.2[j-1]? = some p->p<x
 null:ZS s.1 x=true
theorem YV (s:Sc):z8 s=true ↔ (1<=s.1.length/\s.1.length<=32)/\s.2.length<=8/\(∀ j c,s.1[j]? = some c->ColGd s.1 j c)/\(∀ j x,s.2[j]? = some x->KeyGd s j x):=by
 have hprev:∀ (l:List Int) (j:Nat) (p:Int),0<j->l[j-1]? = some p->zu l j=some p:=fun l j p hj hp=>by unfold zu;rw [if_neg (by omega)];exact hp
 unfold z8;simp only [Bool.and_eq_true,decide_eq_true_eq,J2,yE,adl,List.all_eq_true];constructor
 ·rintro ⟨⟨⟨⟨⟨⟨h1,h2⟩,h3⟩,h4⟩,h5⟩,h6⟩,h7⟩;refine ⟨h2,h5,fun j c hc=>⟨?_,fun p hj hp=>?_,h1 c (List.mem_of_getElem? hc),fun i p hij hp=>?_⟩,fun j x hx=>⟨?_,fun p hj hp=>?_,h7 x (List.mem_of_getElem? hx)⟩⟩
  ·have:=h4 j c.1 (by rw [List.getElem?_map,hc];rfl);unfold qZ at this;simp only [Bool.and_eq_true,decide_eq_true_eq] at this;exact this.1
  ·have:=h4 j c.1 (by rw [List.getElem?_map,hc];rfl);rw [hprev _ j p.1 hj (by rw [List.getElem?_map,hp];rfl)] at this;unfold qZ at this;simp only [Bool.and_eq_true,Option.all_some,decide_eq_true_eq] at this;exact this.2
  ·exact h3 i j p.2.1 c.2.1 hij (by rw [List.getElem?_map,hp];rfl) (by rw [List.getElem?_map,hc];rfl)
  ·have:=h6 j x hx;unfold qZ at this;simp only [Bool.and_eq_true,decide_eq_true_eq] at this;omega
  have:=h6 j x hx;rw [hprev _ j p hj hp] at this;unfold qZ at this;simp only [Bool.and_eq_true,Option.all_some,decide_eq_true_eq] at this;exact this.2
 rintro ⟨h2,h5,hc,hk⟩;have hm:∀ {α β:Type} (f:α->β) (l:List α) (j:Nat) (y:β),(l.map f)[j]? = some y->∃ x,l[j]? = some x/\f x=y:=fun f l j y h=>by
  rw [List.getElem?_map,Option.map_eq_some_iff] at h;exact h
 refine ⟨⟨⟨⟨⟨⟨fun c hcm=>?_,h2⟩,fun i j x y hij hx hy=>?_⟩,fun j x hx=>?_⟩,h5⟩,fun j x hx=>?_⟩,fun x hx=>?_⟩
 ·obtain ⟨j,hj⟩:=List.getElem?_of_mem hcm;exact (hc j c hj).col
 ·obtain ⟨p,hp,rfl⟩:=hm _ _ _ _ hx;obtain ⟨c,hcc,rfl⟩:=hm _ _ _ _ hy;exact (hc j c hcc).name i p hij hp
 ·obtain ⟨c,hcc,rfl⟩:=hm _ _ _ _ hx;have G:=hc j c hcc;unfold qZ;rw [decide_eq_true G.id,Bool.true_and];unfold zu;by_cases hj:j=0
  ·rw [if_pos hj];rfl
  rw [if_neg hj];cases hp:(s.1.map (·.1))[j-1]? with
  | none=>rfl
  | some p=>
   obtain ⟨q,hq,rfl⟩:=hm _ _ _ _ hp;exact decide_eq_true (G.rise q (by omega) hq)
 ·have G:=hk j x hx;unfold qZ;rw [decide_eq_true (by have:=G.range;omega),Bool.true_and];unfold zu;by_cases hj:j=0
  ·rw [if_pos hj];rfl
  rw [if_neg hj];cases hp:s.2[j-1]? with
  | none=>rfl
  | some p=>exact decide_eq_true (G.rise p (by omega) hp)
 obtain ⟨j,hj⟩:=List.getElem?_of_mem hx;exact (hk j x hj).null
theorem yy {s:Sc} {j:Nat} {c:Co} (hc:s.1[j]? = some c) (h:¬ColGd s.1 j c):z8 s=false:=by
 cases hb:z8 s with
 | false=>rfl
 | true=>exact absurd (((YV s).1 hb).2.2.1 j c hc) h
theorem Ze {s:Sc} {j:Nat} {x:Int} (hx:s.2[j]? = some x) (h:¬KeyGd s j x):z8 s=false:=by
 cases hb:z8 s with
 | false=>rfl
 | true=>exact absurd (((YV s).1 hb).2.2.2 j x hx) h
theorem acf (CA:Option Addr) (cn cc:Nat) (KA:Option Addr) (kn kc:Nat) (s:Sc) (w:World) (h:ScAt w CA cn KA kn s) (hcn:cn<=1000000) (hkn:kn<=1000000) (hok:ScOk s) :
  Calls Tryz.prog 118 #[.agg #[.slice CA cn cc,.slice KA kn kc]] w fun e w'=>e=.returned (.int .i64 (aca s))/\Below w.heap.size w w':=by
 have H0:=za h;have Hok:=za hok;have hcl:=zU h.cols;have hkl:=ZU h.keys;have hcn63:cn<=9223372036854775807:=by omega
 have hkn63:kn<=9223372036854775807:=by omega
 clear h hok;have HBx:=za (Blk.new w 48 #[.slice CA cn cc,.slice KA kn kc]);have HB0:=za (bal (Below.refl w.heap.size w) (.cells #[.slice CA cn cc,.slice KA kn kc] 48));by_cases q1:cn<1
 ·have e1:decide ((cn:Int)<1)=true:=by simp;omega
  have HN:=za (show z8 s=false by
   cases hb:z8 s with
   | false=>rfl
   | true=>have:=((YV s).1 hb).1;omega)
  go_enter Tryz.func118,Tryz.ntmps118;go_wp2;go_ret;exact ⟨by rw [zL HN.out];rfl,HB0.out⟩
 have e1:decide ((cn:Int)<1)=false:=by simp;omega
 by_cases q2:32<cn
 ·have e2:decide (32<(cn:Int))=true:=by simp;omega
  have HN:=za (show z8 s=false by
   cases hb:z8 s with
   | false=>rfl
   | true=>have:=((YV s).1 hb).1;omega)
  go_enter Tryz.func118,Tryz.ntmps118;go_wp2;go_ret;exact ⟨by rw [zL HN.out];rfl,HB0.out⟩
 have e2:decide (32<(cn:Int))=false:=by simp;omega
 by_cases q3:8<kn
 ·have e3:decide (8<(kn:Int))=true:=by simp;omega
  have HN:=za (show z8 s=false by
   cases hb:z8 s with
   | false=>rfl
   | true=>have:=((YV s).1 hb).2.1;omega)
  go_enter Tryz.func118,Tryz.ntmps118;go_wp2;go_ret;exact ⟨by rw [zL HN.out];rfl,HB0.out⟩
 have e3:decide (8<(kn:Int))=false:=by simp;omega
 have bx0:=HBx.out.cell 0;have bx1:=HBx.out.cell 1;go_enter Tryz.func118,Tryz.ntmps118;go_wp2;clear bx0 bx1 e1 e2 e3;generalize w.alloc (.cells #[.slice CA cn cc,.slice KA kn kc] 48)=W at *;go_loopw [4] (fun kv wr=>∃ k:Nat,k<=cn/\kv=.int .i64 (k:Int)/\Hid (∀ j c,j<k->s.1[j]? = some c->ColGd s.1 j c)/\Hid (Blk wr w.heap.size 48 #[.slice CA cn cc,.slice KA kn kc])/\Hid (Below w.heap.size w wr)) (fun kv _=>cn-(intOf kv).toNat)
 case atStart=>exact ⟨0,Nat.zero_le _,rfl,za (fun j c hj=>by omega),HBx,HB0⟩
 case round=>
  clear HBx HB0;obtain ⟨k,hk,rfl,HG,HX,HB⟩:=hrel;by_cases hlt:k<cn
  ·have d1:decide ((k:Int)<(cn:Int))=true:=(by simp;omega);have hkn1:(k:Int)<(cn:Int):=(by omega);obtain ⟨ad,co,rfl,hbk,hco,hat⟩:=yP (H0.out.cols.below HB.out) hlt;have HK9:=za (Hok.out.num co (List.mem_of_getElem? hco));have Hco:=za hco;obtain ⟨i,nm,kd,nl,u,x,t⟩:=co;simp only at HK9;have LI:=za (show ak1 wr (ad.add (k*7)) (.int .i64 i) from fun w' h=>(h.cell (World.block_lt_of_cell? _ _ hat.c0)).trans hat.c0);have L1:=za (show ak1 wr ⟨(ad.add (k*7)).block,(ad.add (k*7)).off+1,none⟩ (.string nm) from fun w' h=>(h.cell (World.block_lt_of_cell? _ _ hat.c1)).trans hat.c1);have L2:=za (show ak1 wr ⟨(ad.add (k*7)).block,(ad.add (k*7)).off+2,none⟩ (.int .i64 kd) from fun w' h=>(h.cell (World.block_lt_of_cell? _ _ hat.c2)).trans hat.c2);have L3:=za (show ak1 wr ⟨(ad.add (k*7)).block,(ad.add (k*7)).off+3,none⟩ (.bool nl) from fun w' h=>(h.cell (World.block_lt_of_cell? _ _ hat.c3)).trans hat.c3);have L4:=za (show ak1 wr ⟨(ad.add (k*7)).block,(ad.add (k*7)).off+4,none⟩ (.bool u) from fun w' h=>(h.cell (World.block_lt_of_cell? _ _ hat.c4)).trans hat.c4);have L5:=za (show ak1 wr ⟨(ad.add (k*7)).block,(ad.add (k*7)).off+5,none⟩ (.int .i64 x) from fun w' h=>(h.cell (World.block_lt_of_cell? _ _ hat.c5)).trans hat.c5);have L6:=za (show ak1 wr ⟨(ad.add (k*7)).block,(ad.add (k*7)).off+6,none⟩ (.string t) from fun w' h=>(h.cell (World.block_lt_of_cell? _ _ hat.c6)).trans hat.c6);clear hat hco hbk;by_cases r1:i<1
   ·have e1:decide (i<1)=true:=(by simpa using r1);have HN:=za (yy Hco.out (fun h=>by have:=h.id;simp only at this;omega));clear r1;go_wp2;have hS:=ak2 wr;refine hB wr [0,1,2,3,4,5,6,7,8,9,10,11,12,13,14,15,16,17,18,19,20,21,22,23,24,25,26,27,28,29,30,31,32,33,34,35,36,37,38,39,40,41,42,43,44,45,46,47,48,49,50,51,52,53,54] ?_;(iterate 4 refine hP hS ?_);refine hP1 hS LI.out ?_;(iterate 2 refine hP hS ?_);(iterate 6 refine hO hS ?_);(iterate 2 refine hP hS ?_);(iterate 16 refine hO hS ?_);(iterate 2 refine hP hS ?_);(iterate 7 refine hO hS ?_);(iterate 2 refine hP hS ?_);(iterate 12 refine hO hS ?_);refine hP hS ?_;refine zc ?_;go_wp2;go_ret;exact ⟨by rw [zL HN.out];rfl,bon HB.out hS⟩
   have e1:decide (i<1)=false:=(by simpa using r1);by_cases r2:1048576<i
   ·have e2:decide (1048576<i)=true:=(by simpa using r2);have HN:=za (yy Hco.out (fun h=>by have:=h.id;simp only at this;omega));clear r1 r2;go_wp2;have hS:=ak2 wr;refine hB wr [0,1,2,3,4,5,6,7,8,9,10,11,12,13,14,15,16,17,18,19,20,21,22,23,24,25,26,27,28,29,30,31,32,33,34,35,36,37,38,39,40,41,42,43,44,45,46,47,48,49,50,51,52,53,54] ?_;(iterate 4 refine hP hS ?_);refine hP1 hS LI.out ?_;(iterate 6 refine hP hS ?_);refine hP1 hS LI.out ?_;(iterate 3 refine hP hS ?_);(iterate 16 refine hO hS ?_);(iterate 2 refine hP hS ?_);(iterate 7 refine hO hS ?_);(iterate 2 refine hP hS ?_);(iterate 12 refine hO hS ?_);refine hP hS ?_;refine zc ?_;go_wp2;go_ret;exact ⟨by rw [zL HN.out];rfl,bon HB.out hS⟩
   have e2:decide (1048576<i)=false:=(by simpa using r2);obtain ⟨j,hj⟩:∃ j,j=k-1:=⟨_,rfl⟩;have hprev:(k=0)\/∃ p:Co,s.1[j]? = some p/\0<k:=by
    by_cases hk0:k=0
    ·exact .inl hk0
    exact .inr ⟨_,List.getElem?_eq_getElem (by omega),by omega⟩
   rcases hprev with hk0 | ⟨p,hp,hk1⟩
   ·have e3:decide (0<(k:Int))=false:=(by simp;omega);have hk1:¬0<k:=(by omega);have Hr:=za (show ∀ p:Co,0<k->s.1[k-1]? = some p->p.1<i from fun p h=>by omega);clear hk0 hj;cases hq:qa nm with
    | false=>
     have HN:=za (yy Hco.out (fun h=>by have:=h.col;unfold Zt at this;simp only at this;rw [hq] at this;simp at this));have Hq:=za hq;clear hq;go_wp2;have hS:=ak2 wr;refine hB wr [0,1,2,3,4,5,6,7,8,9,10,11,12,13,14,15,16,17,18,19,20,21,22,23,24,25,26,27,28,29,30,31,32,33,34,35,36,37,tt 38,39,40,41,42,43,44,45,46,47,48,49,50,51,52,53,54] ?_;(iterate 4 refine hP hS ?_);refine hP1 hS LI.out ?_;(iterate 6 refine hP hS ?_);refine hP1 hS LI.out ?_;(iterate 3 refine hP hS ?_);(iterate 3 refine hP hS ?_);(iterate 12 refine hO hS ?_);(iterate 3 refine hP hS ?_);(iterate 4 refine hP hS ?_);refine hP1 hS L1.out ?_;refine hE fun K hK=>?_;go_simp;(with_reducible refine (Zf nm _).mono ?_);rintro e w5 ⟨rfl,rfl⟩;rw [Hq.out];refine hG hK hS fun hS=>?_;clear hK K;(iterate 3 refine hP hS ?_);(iterate 12 refine hO hS ?_);refine hP hS ?_;refine zc ?_;go_wp2;go_ret;exact ⟨by rw [zL HN.out];rfl,bon HB.out hS⟩
    | true=>
     have Hq:=za hq;clear hq;obtain ⟨E0,hE⟩:∃ E0,zw kd nl (u,x,t)=E0:=⟨_,rfl⟩;have HE:=za hE;clear hE;go_wp2;have hS:=ak2 wr;refine hB wr [0,1,2,3,4,5,6,7,8,9,10,11,12,13,14,15,16,17,18,19,20,21,22,23,24,25,26,27,28,29,30,31,32,33,34,35,36,37,tt 38,39,40,41,42,43,44,45,46,47,48,49,50,51,tt 52,53,54] ?_;(iterate 4 refine hP hS ?_);refine hP1 hS LI.out ?_;(iterate 6 refine hP hS ?_);refine hP1 hS LI.out ?_;(iterate 3 refine hP hS ?_);(iterate 3 refine hP hS ?_);(iterate 12 refine hO hS ?_);(iterate 3 refine hP hS ?_);(iterate 4 refine hP hS ?_);refine hP1 hS L1.out ?_;refine hE fun K hK=>?_;go_simp;(with_reducible refine (Zf nm _).mono ?_);rintro e w5 ⟨rfl,rfl⟩;rw [Hq.out];refine hG hK hS fun hS=>?_;clear hK K;(iterate 7 refine hP hS ?_);refine hP2 hS L2.out L3.out ?_;(iterate 4 refine hP hS ?_);refine hP3 hS L4.out L5.out L6.out ?_;refine hE fun K hK=>?_;go_simp;(with_reducible refine (YB kd nl u x t _ HK9.out).mono ?_);rintro e w6 ⟨rfl,hb6⟩;rw [HE.out];refine hG hK (by exact bon hS hb6) fun hS=>?_;clear hK K;clear hb6;(iterate 2 refine hP hS ?_);refine zc ?_;have HB7:=za (bon HB.out hS);have HX7:=za (HX.out.on hS);clear hS LI L1 L2 L3 L4 L5 L6 HB HX;by_cases hz:E0=0
     ·have dz:(E0 != 0)=false:=(by simpa using hz);have Hcf:=za (show Zt (i,nm,kd,nl,u,x,t)=true by unfold Zt;rw [Hq.out,HE.out,hz];rfl);clear hz HE;go_wp2;go_loopw [5] (fun qv wr=>∃ q:Nat,q<=k/\qv=.int .i64 (q:Int)/\Hid (∀ a p,a<q->s.1[a]? = some p->p.2.1≠nm)/\Hid (Blk wr w.heap.size 48 #[.slice (some ad) cn cc,.slice KA kn kc])/\Hid (Below w.heap.size w wr)) (fun qv _=>k-(intOf qv).toNat)
      case atStart=>exact ⟨0,Nat.zero_le _,rfl,za (fun a p ha=>by omega),HX7,HB7⟩
      case round=>
       clear HB7 HX7;obtain ⟨q,hq,rfl,HQ,HX,HB⟩:=hrel;by_cases hqk:q<k
       ·have d3:decide ((q:Int)<(k:Int))=true:=(by simp;omega);have hqc:(q:Int)<(cn:Int):=(by omega);obtain ⟨ad1,c1,hA1,-,hc1,hat1⟩:=yP (H0.out.cols.below HB.out) (k:=q) (by omega);obtain ⟨ad2,c2,hA2,-,hc2,hat2⟩:=yP (H0.out.cols.below HB.out) hlt
        injection hA1 with hA1
        injection hA2 with hA2
        subst hA1 hA2;obtain rfl:c2=(i,nm,kd,nl,u,x,t):=Option.some.inj (hc2.symm.trans Hco.out);have n1:=hat1.c1;have n2:=hat2.c1;simp only at n2;have N1:=za (show ak1 wr ⟨(ad.add (q*7)).block,(ad.add (q*7)).off+1,none⟩ (.string c1.2.1) from fun w' h=>(h.cell (World.block_lt_of_cell? _ _ n1)).trans n1);have N2:=za (show ak1 wr ⟨(ad.add (k*7)).block,(ad.add (k*7)).off+1,none⟩ (.string nm) from fun w' h=>(h.cell (World.block_lt_of_cell? _ _ n2)).trans n2);have Hc1:=za hc1;clear hat1 hat2 hc1 hc2 n1 n2;obtain ⟨nm1,hnm1⟩:∃ nm1,c1.2.1=nm1:=⟨_,rfl⟩;rw [hnm1] at N1;have Hnm1:=za hnm1;clear hnm1;go_wp2;have hS:=ak2 wr;by_cases hne:nm1=nm
        ·have d4:(nm1.toList==nm.toList)=true:=(by rw [hne];simp);have HN:=za (yy Hco.out (fun h=>h.name q c1 hqk Hc1.out (by rw [Hnm1.out];exact hne)));clear hne;refine hB wr [0,1,2,3,4,5,6,7,8,9,10] ?_;(iterate 4 refine hP hS ?_);refine hP1 hS N1.out ?_;(iterate 4 refine hP hS ?_);refine hP1 hS N2.out ?_;refine hP hS ?_;refine zc ?_;go_wp2;go_ret;exact ⟨by rw [zL HN.out];rfl,bon HB.out hS⟩
        have d4:(nm1.toList==nm.toList)=false:=by rw [qz,decide_eq_false hne]
        have HQ:=za (show ∀ a p,a<q+1->s.1[a]? = some p->p.2.1≠nm from fun a p ha hp=>by
         rcases Nat.lt_or_ge a q with h | h
         ·exact HQ.out a p h hp
         obtain rfl:a=q:=(by omega);rw [Hc1.out] at hp;cases hp;rw [Hnm1.out];exact hne)
        clear hne;refine hB wr [0,1,2,3,4,5,6,7,8,9,10] ?_;(iterate 4 refine hP hS ?_);refine hP1 hS N1.out ?_;(iterate 4 refine hP hS ?_);refine hP1 hS N2.out ?_;refine hP hS ?_;refine zc ?_;have HX:=za (HX.out.on hS);have HB:=za (bon HB.out hS);clear hS N1 N2;go_wp2;go_roundw;case rel=>exact ⟨q+1,by omega,by go_num,HQ,HX,HB⟩
        case measure=>simp [intOf];omega
       have d3:decide ((q:Int)<(k:Int))=false:=by simp;omega
       have HG:=za (show ∀ j c,j<k+1->s.1[j]? = some c->ColGd s.1 j c from fun a c ha hc=>by
        rcases Nat.lt_or_ge a k with h | h
        ·exact HG.out a c h hc
        obtain rfl:a=k:=(by omega);rw [Hco.out] at hc;cases hc;exact ⟨by simp only;omega,fun p h0 hp=>Hr.out p h0 hp,Hcf.out,fun b p hb hp=>HQ.out b p (by omega) hp⟩)
       go_wp2;go_roundw;case rel=>exact ⟨k+1,by omega,by go_num,HG,HX,HB⟩
       case measure=>simp [intOf];omega
     have dz:(E0 != 0)=true:=(by simpa using hz);have HN:=za (yy Hco.out (fun h=>by have:=h.col;unfold Zt at this;simp only at this;rw [HE.out] at this;simp [hz] at this));clear hz;go_wp2;go_ret;exact ⟨by rw [zL HN.out];rfl,HB7.out⟩
   have e3:decide (0<(k:Int))=true:=(by simp;omega);have Hjw:=za (show IntKind.i64.wrap ((k:Int)-1)=(j:Int) by simp only [IntKind.wrap,IntKind.signed,IntKind.bits];simp;omega);obtain ⟨ad',p',hA',-,hp',hat'⟩:=yP (H0.out.cols.below HB.out) (k:=j) (by omega)
   injection hA' with hA'
   subst hA';obtain rfl:p=p':=Option.some.inj (hp.symm.trans hp');obtain ⟨ip,hip⟩:∃ ip,p.1=ip:=⟨_,rfl⟩;have h0':=hat'.c0;rw [hip] at h0';have LP:=za (show ak1 wr (ad.add (j*7)) (.int .i64 ip) from fun w' h=>(h.cell (World.block_lt_of_cell? _ _ h0')).trans h0');have Hp:=za (show s.1[k-1]? = some p by rw [<-hj];exact hp);have Hip:=za hip;have hjn:(j:Int)<(cn:Int):=(by omega);clear hp hp' hat' h0' hip hj;by_cases r3:i<=ip
   ·have e4:decide (i<=ip)=true:=(by simpa using r3);have HN:=za (yy Hco.out (fun h=>by have:=h.rise p hk1 Hp.out;rw [Hip.out] at this;simp only at this;omega));clear r3;go_wp2;have hS:=ak2 wr;refine hB wr [0,1,2,3,4,5,6,7,8,9,10,11,12,13,14,15,16,17,18,19,20,21,22,23,24,25,26,27,28,29,30,31,32,33,34,35,36,37,38,39,40,41,42,43,44,45,46,47,48,49,50,51,52,53,54] ?_;(iterate 4 refine hP hS ?_);refine hP1 hS LI.out ?_;(iterate 6 refine hP hS ?_);refine hP1 hS LI.out ?_;(iterate 3 refine hP hS ?_);(iterate 7 refine hP hS ?_);refine hP1 hS LI.out ?_;(iterate 3 refine hP hS ?_);rw [Hjw.out];(iterate 2 refine hP hS ?_);refine hP1 hS LP.out ?_;(iterate 4 refine hP hS ?_);(iterate 7 refine hO hS ?_);(iterate 2 refine hP hS ?_);(iterate 12 refine hO hS ?_);refine hP hS ?_;refine zc ?_;go_wp2;go_ret;exact ⟨by rw [zL HN.out];rfl,bon HB.out hS⟩
   have e4:decide (i<=ip)=false:=by simpa using r3
   have Hr:=za (show ∀ p:Co,0<k->s.1[k-1]? = some p->p.1<i from fun p2 _ h=>by
    rw [Hp.out] at h;cases h;rw [Hip.out];omega)
   clear r3;cases hq:qa nm with
   | false=>
    have HN:=za (yy Hco.out (fun h=>by have:=h.col;unfold Zt at this;simp only at this;rw [hq] at this;simp at this));have Hq:=za hq;clear hq;go_wp2;have hS:=ak2 wr;refine hB wr [0,1,2,3,4,5,6,7,8,9,10,11,12,13,14,15,16,17,18,19,20,21,22,23,24,25,26,27,28,29,30,31,32,33,34,35,36,37,tt 38,39,40,41,42,43,44,45,46,47,48,49,50,51,52,53,54] ?_;(iterate 4 refine hP hS ?_);refine hP1 hS LI.out ?_;(iterate 6 refine hP hS ?_);refine hP1 hS LI.out ?_;(iterate 3 refine hP hS ?_);(iterate 7 refine hP hS ?_);refine hP1 hS LI.out ?_;(iterate 3 refine hP hS ?_);rw [Hjw.out];(iterate 2 refine hP hS ?_);refine hP1 hS LP.out ?_;(iterate 4 refine hP hS ?_);(iterate 4 refine hP hS ?_);refine hP1 hS L1.out ?_;refine hE fun K hK=>?_;go_simp;(with_reducible refine (Zf nm _).mono ?_);rintro e w5 ⟨rfl,rfl⟩;rw [Hq.out];refine hG hK hS fun hS=>?_;clear hK K;(iterate 3 refine hP hS ?_);(iterate 12 refine hO hS ?_);refine hP hS ?_;refine zc ?_;go_wp2;go_ret;exact ⟨by rw [zL HN.out];rfl,bon HB.out hS⟩
   | true=>
    have Hq:=za hq;clear hq;obtain ⟨E0,hE⟩:∃ E0,zw kd nl (u,x,t)=E0:=⟨_,rfl⟩;have HE:=za hE;clear hE;go_wp2;have hS:=ak2 wr;refine hB wr [0,1,2,3,4,5,6,7,8,9,10,11,12,13,14,15,16,17,18,19,20,21,22,23,24,25,26,27,28,29,30,31,32,33,34,35,36,37,tt 38,39,40,41,42,43,44,45,46,47,48,49,50,51,tt 52,53,54] ?_;(iterate 4 refine hP hS ?_);refine hP1 hS LI.out ?_;(iterate 6 refine hP hS ?_);refine hP1 hS LI.out ?_;(iterate 3 refine hP hS ?_);(iterate 7 refine hP hS ?_);refine hP1 hS LI.out ?_;(iterate 3 refine hP hS ?_);rw [Hjw.out];(iterate 2 refine hP hS ?_);refine hP1 hS LP.out ?_;(iterate 4 refine hP hS ?_);(iterate 4 refine hP hS ?_);refine hP1 hS L1.out ?_;refine hE fun K hK=>?_;go_simp;(with_reducible refine (Zf nm _).mono ?_);rintro e w5 ⟨rfl,rfl⟩;rw [Hq.out];refine hG hK hS fun hS=>?_;clear hK K;(iterate 7 refine hP hS ?_);refine hP2 hS L2.out L3.out ?_;(iterate 4 refine hP hS ?_);refine hP3 hS L4.out L5.out L6.out ?_;refine hE fun K hK=>?_;go_simp;(with_reducible refine (YB kd nl u x t _ HK9.out).mono ?_);rintro e w6 ⟨rfl,hb6⟩;rw [HE.out];refine hG hK (by exact bon hS hb6) fun hS=>?_;clear hK K;clear hb6;(iterate 2 refine hP hS ?_);refine zc ?_;have HB7:=za (bon HB.out hS);have HX7:=za (HX.out.on hS);clear hS LI L1 L2 L3 L4 L5 L6 HB HX;by_cases hz:E0=0
    ·have dz:(E0 != 0)=false:=(by simpa using hz);have Hcf:=za (show Zt (i,nm,kd,nl,u,x,t)=true by unfold Zt;rw [Hq.out,HE.out,hz];rfl);clear hz HE;go_wp2;go_loopw [5] (fun qv wr=>∃ q:Nat,q<=k/\qv=.int .i64 (q:Int)/\Hid (∀ a p,a<q->s.1[a]? = some p->p.2.1≠nm)/\Hid (Blk wr w.heap.size 48 #[.slice (some ad) cn cc,.slice KA kn kc])/\Hid (Below w.heap.size w wr)) (fun qv _=>k-(intOf qv).toNat)
     case atStart=>exact ⟨0,Nat.zero_le _,rfl,za (fun a p ha=>by omega),HX7,HB7⟩
     case round=>
      clear HB7 HX7;obtain ⟨q,hq,rfl,HQ,HX,HB⟩:=hrel;by_cases hqk:q<k
      ·have d3:decide ((q:Int)<(k:Int))=true:=(by simp;omega);have hqc:(q:Int)<(cn:Int):=(by omega);obtain ⟨ad1,c1,hA1,-,hc1,hat1⟩:=yP (H0.out.cols.below HB.out) (k:=q) (by omega);obtain ⟨ad2,c2,hA2,-,hc2,hat2⟩:=yP (H0.out.cols.below HB.out) hlt
       injection hA1 with hA1
       injection hA2 with hA2
       subst hA1 hA2;obtain rfl:c2=(i,nm,kd,nl,u,x,t):=Option.some.inj (hc2.symm.trans Hco.out);have n1:=hat1.c1;have n2:=hat2.c1;simp only at n2;have N1:=za (show ak1 wr ⟨(ad.add (q*7)).block,(ad.add (q*7)).off+1,none⟩ (.string c1.2.1) from fun w' h=>(h.cell (World.block_lt_of_cell? _ _ n1)).trans n1);have N2:=za (show ak1 wr ⟨(ad.add (k*7)).block,(ad.add (k*7)).off+1,none⟩ (.string nm) from fun w' h=>(h.cell (World.block_lt_of_cell? _ _ n2)).trans n2);have Hc1:=za hc1;clear hat1 hat2 hc1 hc2 n1 n2;obtain ⟨nm1,hnm1⟩:∃ nm1,c1.2.1=nm1:=⟨_,rfl⟩;rw [hnm1] at N1;have Hnm1:=za hnm1;clear hnm1;go_wp2;have hS:=ak2 wr;by_cases hne:nm1=nm
       ·have d4:(nm1.toList==nm.toList)=true:=(by rw [hne];simp);have HN:=za (yy Hco.out (fun h=>h.name q c1 hqk Hc1.out (by rw [Hnm1.out];exact hne)));clear hne;refine hB wr [0,1,2,3,4,5,6,7,8,9,10] ?_;(iterate 4 refine hP hS ?_);refine hP1 hS N1.out ?_;(iterate 4 refine hP hS ?_);refine hP1 hS N2.out ?_;refine hP hS ?_;refine zc ?_;go_wp2;go_ret;exact ⟨by rw [zL HN.out];rfl,bon HB.out hS⟩
       have d4:(nm1.toList==nm.toList)=false:=by rw [qz,decide_eq_false hne]
       have HQ:=za (show ∀ a p,a<q+1->s.1[a]? = some p->p.2.1≠nm from fun a p ha hp=>by
        rcases Nat.lt_or_ge a q with h | h
        ·exact HQ.out a p h hp
        obtain rfl:a=q:=(by omega);rw [Hc1.out] at hp;cases hp;rw [Hnm1.out];exact hne)
       clear hne;refine hB wr [0,1,2,3,4,5,6,7,8,9,10] ?_;(iterate 4 refine hP hS ?_);refine hP1 hS N1.out ?_;(iterate 4 refine hP hS ?_);refine hP1 hS N2.out ?_;refine hP hS ?_;refine zc ?_;have HX:=za (HX.out.on hS);have HB:=za (bon HB.out hS);clear hS N1 N2;go_wp2;go_roundw;case rel=>exact ⟨q+1,by omega,by go_num,HQ,HX,HB⟩
       case measure=>simp [intOf];omega
      have d3:decide ((q:Int)<(k:Int))=false:=by simp;omega
      have HG:=za (show ∀ j c,j<k+1->s.1[j]? = some c->ColGd s.1 j c from fun a c ha hc=>by
       rcases Nat.lt_or_ge a k with h | h
       ·exact HG.out a c h hc
       obtain rfl:a=k:=(by omega);rw [Hco.out] at hc;cases hc;exact ⟨by simp only;omega,fun p h0 hp=>Hr.out p h0 hp,Hcf.out,fun b p hb hp=>HQ.out b p (by omega) hp⟩)
      go_wp2;go_roundw;case rel=>exact ⟨k+1,by omega,by go_num,HG,HX,HB⟩
      case measure=>simp [intOf];omega
    have dz:(E0 != 0)=true:=(by simpa using hz);have HN:=za (yy Hco.out (fun h=>by have:=h.col;unfold Zt at this;simp only at this;rw [HE.out] at this;simp [hz] at this));clear hz;go_wp2;go_ret;exact ⟨by rw [zL HN.out];rfl,HB7.out⟩
  have d1:decide ((k:Int)<(cn:Int))=false:=by simp;omega
  have HG2:=za (show ∀ j c,s.1[j]? = some c->ColGd s.1 j c from fun j c hc=>HG.out j c (by have:=(List.getElem?_eq_some_iff.1 hc).1;omega) hc);clear HG;go_wp2;go_loopw [6] (fun kv wr=>∃ k:Nat,k<=kn/\kv=.int .i64 (k:Int)/\Hid (∀ j x,j<k->s.2[j]? = some x->KeyGd s j x)/\Hid (Blk wr w.heap.size 48 #[.slice CA cn cc,.slice KA kn kc])/\Hid (Below w.heap.size w wr)) (fun kv _=>kn-(intOf kv).toNat)
  case atStart=>exact ⟨0,Nat.zero_le _,rfl,za (fun j c hj=>by omega),HX,HB⟩
  case round=>
   clear HX HB;obtain ⟨q,hq,rfl,HK,HX,HB⟩:=hrel;have c1:=HX.out.cell 1;by_cases hql:q<kn
   ·have d2:decide ((q:Int)<(kn:Int))=true:=(by simp;omega);have hqn:(q:Int)<(kn:Int):=(by omega);obtain ⟨ae,x,hA,hbk,hx,e0⟩:=X8 (H0.out.keys.on HB.out) hql;subst hA;have Hx:=za hx;clear hx hbk;by_cases r1:x<0
    ·have e1:decide (x<0)=true:=(by simpa using r1);have HN:=za (Ze Hx.out (fun h=>by have:=h.range;omega));go_wp2;go_ret;exact ⟨by rw [zL HN.out];rfl,HB.out⟩
    have e1:decide (x<0)=false:=(by simpa using r1);by_cases r2:(cn:Int)<=x
    ·have e2:decide ((cn:Int)<=x)=true:=(by simpa using r2);have HN:=za (Ze Hx.out (fun h=>by have:=h.range;omega));go_wp2;go_ret;exact ⟨by rw [zL HN.out];rfl,HB.out⟩
    have e2:decide ((cn:Int)<=x)=false:=(by simpa using r2);obtain ⟨xk,rfl⟩:∃ xk:Nat,x=(xk:Int):=⟨x.toNat,by omega⟩;have hxk:xk<cn:=(by omega);have hxki:(xk:Int)<(cn:Int):=(by omega);obtain ⟨ad,co,hA2,hbk2,hco,hat⟩:=yP (H0.out.cols.on HB.out) hxk;subst hA2;have f3:=hat.c3;have hkf:ZS s.1 (xk:Int) = !co.2.2.2.1:=(by unfold ZS;rw [Int.toNat_natCast,hco]);have Hkf:=za hkf;clear hkf hco hat hbk2;generalize co.2.2.2.1=nl at *;by_cases hq1:0<q
    ·have e3:decide (0<(q:Int))=true:=(by simp;omega);have hq1i:0<(q:Int):=(by omega);obtain ⟨ap,p,hAp,hbp,hp,e4⟩:=X8 (H0.out.keys.on HB.out) (show q-1<kn by omega);cases hAp;have Hp:=za hp;clear hp hbp;obtain ⟨q',hq'⟩:∃ q',q'=q-1:=⟨_,rfl⟩;rw [<-hq'] at e4;have hqs:(q:Int)-1=(q':Int):=(by omega);have hqk:(q':Int)<(kn:Int):=(by omega);have Hq':=za hq';clear hq';by_cases r3:(xk:Int)<=p
     ·have e5:decide ((xk:Int)<=p)=true:=(by simpa using r3);have HN:=za (Ze Hx.out (fun h=>by have:=h.rise p hq1 Hp.out;omega));go_wp2;go_ret;exact ⟨by rw [zL HN.out];rfl,HB.out⟩
     have e5:decide ((xk:Int)<=p)=false:=by simpa using r3
     have Hasc:=za (show ∀ p:Int,0<q->s.2[q-1]? = some p->p<(xk:Int) from fun p2 _ h=>by
      rw [Hp.out] at h;cases h;omega)
     cases nl with
     | true=>
      have HN:=za (Ze Hx.out (fun h=>by have:=h.null;rw [Hkf.out] at this;cases this));go_wp2;go_ret;exact ⟨by rw [zL HN.out];rfl,HB.out⟩
     | false=>
      have HK:=za (show ∀ j x,j<q+1->s.2[j]? = some x->KeyGd s j x from fun j y hj hy=>by
       rcases Nat.lt_or_ge j q with h | h
       ·exact HK.out j y h hy
       obtain rfl:j=q:=(by omega);rw [Hx.out] at hy;cases hy;exact ⟨by omega,Hasc.out,Hkf.out⟩)
      go_wp2;go_roundw;case rel=>exact ⟨q+1,by omega,by go_num,HK,HX,HB⟩
      case measure=>simp [intOf];omega
    have e3:decide (0<(q:Int))=false:=(by simp;omega);have Hasc:=za (show ∀ p:Int,0<q->s.2[q-1]? = some p->p<(xk:Int) from fun p2 h _=>absurd h hq1);cases nl with
    | true =>
      have HN:=za (Ze Hx.out (fun h=>by have:=h.null;rw [Hkf.out] at this;cases this));go_wp2;go_ret;exact ⟨by rw [zL HN.out];rfl,HB.out⟩
    | false =>
      have HK:=za (show ∀ j x,j<q+1->s.2[j]? = some x->KeyGd s j x from fun j y hj hy=>by
       rcases Nat.lt_or_ge j q with h | h
       ·exact HK.out j y h hy
       obtain rfl:j=q:=(by omega);rw [Hx.out] at hy;cases hy;exact ⟨by omega,Hasc.out,Hkf.out⟩)
      go_wp2;go_roundw;case rel=>exact ⟨q+1,by omega,by go_num,HK,HX,HB⟩
      case measure=>simp [intOf];omega
   have d2:decide ((q:Int)<(kn:Int))=false:=(by simp;omega);have HN:=za (show z8 s=true from (YV s).2 ⟨by omega,by omega,HG2.out,fun j x hx=>HK.out j x (by have:=(List.getElem?_eq_some_iff.1 hx).1;omega) hx⟩);go_wp2;go_ret;exact ⟨by rw [XQ HN.out];rfl,HB.out⟩
end
end Go.Proofs.YtjpjalmilfgckaaGreatDoor
