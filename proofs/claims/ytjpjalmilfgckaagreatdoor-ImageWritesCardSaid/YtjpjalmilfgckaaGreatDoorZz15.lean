/- Part 15 of the walks. Conditions: each lemma states its own. -/
import Derived.Test.YtjpjalmilfgckaaGreatDoorZz14
set_option maxRecDepth 100000
set_option maxHeartbeats 4000000
set_option linter.unusedVariables false
set_option linter.unusedSimpArgs false
namespace Go.Proofs.YtjpjalmilfgckaaGreatDoor
section
open Go.RowKit
theorem qe (e:Int) (w:World):Calls Tryz.prog 83 #[.bool true,.int .i64 e] w fun x w'=>x=.returned .nilIface/\w=w':=US true e w
theorem zN (e:Int) (w:World):Calls Tryz.prog 83 #[.bool false,.int .i64 e] w fun x w'=>x=.returned (.iface 164 (.agg #[.int .i64 e]))/\w=w':=US false e w
structure ChkAt (w:World) (CA:Option Addr) (cn:Nat) (KA:Option Addr) (kn:Nat) (s:Sc) (MA:Option Addr) (mn:Nat) (RA:Option Addr) (rn:Nat) (LA:Option Addr) (ln:Nat) (st:St):Prop where
 sch:ScAt w CA cn KA kn s
 st:StAt w MA mn RA rn LA ln st.2.2.1 st.2.2.2.1 st.2.2.2.2
 tab:Tabs w
structure ChkOk (cn kn mn rn ln:Nat) (s:Sc) (st:St):Prop where
 cn:cn<=1000000
 kn:kn<=1000000
 mn:mn<=maxLen
 rn:rn<=maxLen
 ln:ln<=maxLen
 sch:ScOk s
 mks:UB st.2.2.1
 it:ItOk st.2.2.2.1
section
variable {w w':World} {CA KA MA RA LA:Option Addr} {cn kn mn rn ln:Nat} {s:Sc} {st:St}
theorem ChkAt.on (h:ChkAt w CA cn KA kn s MA mn RA rn LA ln st) (hb:Below w.heap.size w w'):ChkAt w' CA cn KA kn s MA mn RA rn LA ln st:=⟨h.sch.on hb,h.st.on hb,h.tab.on hb⟩
theorem ChkAt.al (h:ChkAt w CA cn KA kn s MA mn RA rn LA ln st) (o:Obj):ChkAt (w.alloc o) CA cn KA kn s MA mn RA rn LA ln st:=h.on (bal (Below.refl _ _) o)
theorem StAt.lastlen {ms:List Mk} {l:List It} {last:List UInt8} (h:StAt w MA mn RA rn LA ln ms l last):last.length=ln:=zh h.last
end
theorem aeq (CA:Option Addr) (cn cc:Nat) (KA:Option Addr) (kn kc:Nat) (s:Sc) (MA:Option Addr) (mn mc:Nat) (RA:Option Addr) (rn rc:Nat) (LA:Option Addr) (ln lc:Nat) (st:St) (w:World) (h:ChkAt w CA cn KA kn s MA mn RA rn LA ln st) (hok:ChkOk cn kn mn rn ln s st) :
  Calls Tryz.prog 66 #[.agg #[.slice CA cn cc,.slice KA kn kc],.agg #[.int .i64 st.1,.int .i64 st.2.1,.slice MA mn mc,.slice RA rn rc,.slice LA ln lc]] w fun e w'=>e=.returned (qG (XB (stB s st) 2))/\Below w.heap.size w w':=by
 have Hok:=za hok;have Hlast:=za h.st.lastlen;obtain ⟨W,hW1⟩:∃ W,(w.alloc (.cells #[.slice CA cn cc,.slice KA kn kc] 48)).alloc (.cells #[.int .i64 st.1,.int .i64 st.2.1,.slice MA mn mc,.slice RA rn rc,.slice LA ln lc] 51)=W:=⟨_,rfl⟩;have H:=za (show ChkAt W CA cn KA kn s MA mn RA rn LA ln st by rw [<-hW1];exact (h.al _).al _);have HB:=za (show Below w.heap.size w W by rw [<-hW1];exact bal (bal (Below.refl _ _) _) _);have BS:=za (show Blk W w.heap.size 48 #[.slice CA cn cc,.slice KA kn kc] by rw [<-hW1];exact (Blk.new w _ _).alloc _);have BT:=za (show Blk W (w.heap.size+1) 51 #[.int .i64 st.1,.int .i64 st.2.1,.slice MA mn mc,.slice RA rn rc,.slice LA ln lc] by rw [<-hW1];exact Blk.new' _ _ _ _ (by simp));have S0:=za (show ak1 W ⟨w.heap.size,0,none⟩ (.slice CA cn cc) from fun w' h=>(BS.out.on h).cell 0);have S1:=za (show ak1 W ⟨w.heap.size,1,none⟩ (.slice KA kn kc) from fun w' h=>(BS.out.on h).cell 1);have T0:=za (show ak1 W ⟨w.heap.size+1,0,none⟩ (.int .i64 st.1) from fun w' h=>(BT.out.on h).cell 0);have T1:=za (show ak1 W ⟨w.heap.size+1,1,none⟩ (.int .i64 st.2.1) from fun w' h=>(BT.out.on h).cell 1);have T2:=za (show ak1 W ⟨w.heap.size+1,2,none⟩ (.slice MA mn mc) from fun w' h=>(BT.out.on h).cell 2);have T3:=za (show ak1 W ⟨w.heap.size+1,3,none⟩ (.slice RA rn rc) from fun w' h=>(BT.out.on h).cell 3);have T4:=za (show ak1 W ⟨w.heap.size+1,4,none⟩ (.slice LA ln lc) from fun w' h=>(BT.out.on h).cell 4);clear h hok BS BT;obtain ⟨v,hv⟩:∃ v,v=st.1:=⟨_,rfl⟩;obtain ⟨q,hq⟩:∃ q,q=st.2.1:=⟨_,rfl⟩;rw [<-hv] at hW1 T0 ⊢;rw [<-hq] at hW1 T1 ⊢;cases hs:z8 s with
 | false=>
  have HN0:=za (show stB s st=false by unfold stB;rw [hs];simp);have Hs:=za (show aca s=2 from zL hs);clear hs hv hq;go_enter Tryz.func66,Tryz.ntmps66;go_wp2;try rw [hW1]
  clear hW1;have hS:=ak2 W;refine hB W [0,25,26,tt 1,2,3,4,5,6,7,8,9,10,11,12,13,14,15,16,17,18,19,20,21,22,23,tt 24,tt 27,28,29,30,31,32,tt 33,34,tt 35,tt 36,tt 37,38] ?_;refine hP2 hS S0.out S1.out ?_;refine hP hS ?_;refine hP1 hS T2.out ?_;refine hE fun K hK=>?_;go_simp;with_reducible refine (qT CA cn cc KA kn kc s _ (H.out.on hS).sch Hok.out.cn Hok.out.kn Hok.out.sch (H.out.on hS).tab).mono ?_
  rintro e w6 ⟨rfl,hb6⟩;have HS:=za (bon hS hb6);clear hb6;refine hG hK (by exact HS.out) fun hS=>?_;clear hK K;clear HS;rw [Hs.out];iterate 2 refine hP hS ?_
  iterate 3 refine hO hS ?_
  iterate 2 refine hP hS ?_
  iterate 3 refine hO hS ?_
  iterate 2 refine hP hS ?_
  iterate 3 refine hO hS ?_
  iterate 2 refine hP hS ?_
  iterate 4 refine hO hS ?_
  refine hP hS ?_;refine hE fun K hK=>?_;go_simp;with_reducible refine (zN 2 _).mono ?_
  rintro e w5 ⟨rfl,rfl⟩;refine hG hK hS fun hS=>?_;clear hK K;refine hE fun K hK=>?_;go_simp;with_reducible refine (Z5 MA mn mc st.2.2.1 _ (H.out.on hS).st.marks Hok.out.mn Hok.out.mks).mono ?_
  rintro e w6 ⟨rfl,hb6⟩;have HS:=za (bon hS hb6);clear hb6;refine hG hK (by exact HS.out) fun hS=>?_;clear hK K;clear HS;cases hm:yb st.2.2.1 with
  | false=>
   have HN:=za (show stB s st=false by unfold stB;rw [hm];simp);clear hm;refine hP hS ?_;(iterate 4 refine hO hS ?_);refine Yo rfl fun K hK=>?_;go_simp;refine hG hK hS fun hS=>?_;clear hK K;refine hP hS ?_;refine hE fun K hK=>?_;go_simp;(with_reducible refine (zN 2 _).mono ?_);rintro e w5 ⟨rfl,rfl⟩;refine hG hK hS fun hS=>?_;clear hK K;refine hE fun K hK=>?_;go_simp;generalize hw5:World.alloc _ _=w7;have HE:=za (show Blk w7 _ 102 (([some 2,some 2]:List (Option Int)).map qG).toArray by rw [<-hw5];exact Blk.new _ _ _);have hS7:Below W.heap.size W w7:=(by rw [<-hw5];exact bal hS _);clear hw5;refine hG hK (by exact hS7) fun hS=>?_;clear hK K;clear hS7;refine hE fun K hK=>?_;go_simp;(with_reducible refine (zF _ 2 2 [some 2,some 2] _ HE.out rfl (by decide)).mono ?_);rintro e w8 ⟨rfl,rfl⟩;clear HE;refine hG hK hS fun hS=>?_;clear hK K;refine hP hS ?_;refine zc ?_;go_wp2;go_ret;exact ⟨by rw [HN.out];rfl,bon HB.out hS⟩
  | true=>
   have Hm:=za hm;clear hm;(iterate 2 refine hP hS ?_);refine hP1 hS S0.out ?_;refine hP hS ?_;refine hP1 hS T3.out ?_;refine hE fun K hK=>?_;go_simp;(with_reducible refine (Z8 CA cn cc s.1 RA rn rc st.2.2.2.1 _ (H.out.on hS).sch.cols (H.out.on hS).st.rows Hok.out.rn (H.out.on hS).tab).mono ?_);rintro e w6 ⟨rfl,hb6⟩;have HS:=za (bon hS hb6);clear hb6;refine hG hK (by exact HS.out) fun hS=>?_;clear hK K;clear HS;cases hr:qN s.1 st.2.2.2.1 with
   | false=>
    have HN:=za (show stB s st=false by unfold stB;rw [hr];simp);clear hr;refine hP hS ?_;refine hE fun K hK=>?_;go_simp;(with_reducible refine (zN 2 _).mono ?_);rintro e w5 ⟨rfl,rfl⟩;refine hG hK hS fun hS=>?_;clear hK K;refine hE fun K hK=>?_;go_simp;generalize hw5:World.alloc _ _=w7;have HE:=za (show Blk w7 _ 102 (([some 2,some 2]:List (Option Int)).map qG).toArray by rw [<-hw5];exact Blk.new _ _ _);have hS7:Below W.heap.size W w7:=(by rw [<-hw5];exact bal hS _);clear hw5;refine hG hK (by exact hS7) fun hS=>?_;clear hK K;clear hS7;refine hE fun K hK=>?_;go_simp;(with_reducible refine (zF _ 2 2 [some 2,some 2] _ HE.out rfl (by decide)).mono ?_);rintro e w8 ⟨rfl,rfl⟩;clear HE;refine hG hK hS fun hS=>?_;clear hK K;refine hP hS ?_;refine zc ?_;go_wp2;go_ret;exact ⟨by rw [HN.out];rfl,bon HB.out hS⟩
   | true=>
    have HN:=za (show stB s st=false by exact HN0.out);clear hr;refine hP hS ?_;refine hE fun K hK=>?_;go_simp;(with_reducible refine (qe 2 _).mono ?_);rintro e w5 ⟨rfl,rfl⟩;refine hG hK hS fun hS=>?_;clear hK K;refine hE fun K hK=>?_;go_simp;generalize hw5:World.alloc _ _=w7;have HE:=za (show Blk w7 _ 102 (([some 2,none]:List (Option Int)).map qG).toArray by rw [<-hw5];exact Blk.new _ _ _);have hS7:Below W.heap.size W w7:=(by rw [<-hw5];exact bal hS _);clear hw5;refine hG hK (by exact hS7) fun hS=>?_;clear hK K;clear hS7;refine hE fun K hK=>?_;go_simp;(with_reducible refine (zF _ 2 2 [some 2,none] _ HE.out rfl (by decide)).mono ?_);rintro e w8 ⟨rfl,rfl⟩;clear HE;refine hG hK hS fun hS=>?_;clear hK K;refine hP hS ?_;refine zc ?_;go_wp2;go_ret;exact ⟨by rw [HN.out];rfl,bon HB.out hS⟩
 | true=>
  have Hs:=za (show aca s=0 from XQ hs);have Hs1:=za hs;clear hs;by_cases r1:1<=v
  case neg=>
   have e1:decide (1<=v)=false:=(by simpa using r1);have HN0:=za (show stB s st=false by unfold stB;rw [decide_eq_false (show ¬(1<=st.1/\st.1<=64/\0<=st.2.1) by omega)];simp);clear hv hq;go_enter Tryz.func66,Tryz.ntmps66;go_wp2;(try rw [hW1]);clear hW1;have hS:=ak2 W;refine hB W [0,25,26,tt 1,2,3,4,5,6,7,8,9,10,11,12,13,14,15,16,17,18,19,20,21,22,23,tt 24,tt 27,28,29,30,31,32,tt 33,34,tt 35,tt 36,tt 37,38] ?_;refine hP2 hS S0.out S1.out ?_;refine hP hS ?_;refine hP1 hS T2.out ?_;refine hE fun K hK=>?_;go_simp;(with_reducible refine (qT CA cn cc KA kn kc s _ (H.out.on hS).sch Hok.out.cn Hok.out.kn Hok.out.sch (H.out.on hS).tab).mono ?_);rintro e w6 ⟨rfl,hb6⟩;have HS:=za (bon hS hb6);clear hb6;refine hG hK (by exact HS.out) fun hS=>?_;clear hK K;clear HS;rw [Hs.out];(iterate 3 refine hP hS ?_);refine hP1 hS T0.out ?_;(iterate 3 refine hP hS ?_);(iterate 3 refine hO hS ?_);(iterate 2 refine hP hS ?_);(iterate 3 refine hO hS ?_);(iterate 2 refine hP hS ?_);(iterate 4 refine hO hS ?_);refine hP hS ?_;refine hE fun K hK=>?_;go_simp;(with_reducible refine (zN 2 _).mono ?_);rintro e w5 ⟨rfl,rfl⟩;refine hG hK hS fun hS=>?_;clear hK K;refine hE fun K hK=>?_;go_simp;(with_reducible refine (Z5 MA mn mc st.2.2.1 _ (H.out.on hS).st.marks Hok.out.mn Hok.out.mks).mono ?_);rintro e w6 ⟨rfl,hb6⟩;have HS:=za (bon hS hb6);clear hb6;refine hG hK (by exact HS.out) fun hS=>?_;clear hK K;clear HS;cases hm:yb st.2.2.1 with
   | false=>
    have HN:=za (show stB s st=false by unfold stB;rw [hm];simp);clear hm;refine hP hS ?_;(iterate 4 refine hO hS ?_);refine Yo rfl fun K hK=>?_;go_simp;refine hG hK hS fun hS=>?_;clear hK K;refine hP hS ?_;refine hE fun K hK=>?_;go_simp;(with_reducible refine (zN 2 _).mono ?_);rintro e w5 ⟨rfl,rfl⟩;refine hG hK hS fun hS=>?_;clear hK K;refine hE fun K hK=>?_;go_simp;generalize hw5:World.alloc _ _=w7;have HE:=za (show Blk w7 _ 102 (([some 2,some 2]:List (Option Int)).map qG).toArray by rw [<-hw5];exact Blk.new _ _ _);have hS7:Below W.heap.size W w7:=(by rw [<-hw5];exact bal hS _);clear hw5;refine hG hK (by exact hS7) fun hS=>?_;clear hK K;clear hS7;refine hE fun K hK=>?_;go_simp;(with_reducible refine (zF _ 2 2 [some 2,some 2] _ HE.out rfl (by decide)).mono ?_);rintro e w8 ⟨rfl,rfl⟩;clear HE;refine hG hK hS fun hS=>?_;clear hK K;refine hP hS ?_;refine zc ?_;go_wp2;go_ret;exact ⟨by rw [HN.out];rfl,bon HB.out hS⟩
   | true=>
    have Hm:=za hm;clear hm;(iterate 2 refine hP hS ?_);refine hP1 hS S0.out ?_;refine hP hS ?_;refine hP1 hS T3.out ?_;refine hE fun K hK=>?_;go_simp;(with_reducible refine (Z8 CA cn cc s.1 RA rn rc st.2.2.2.1 _ (H.out.on hS).sch.cols (H.out.on hS).st.rows Hok.out.rn (H.out.on hS).tab).mono ?_);rintro e w6 ⟨rfl,hb6⟩;have HS:=za (bon hS hb6);clear hb6;refine hG hK (by exact HS.out) fun hS=>?_;clear hK K;clear HS;cases hr:qN s.1 st.2.2.2.1 with
    | false=>
     have HN:=za (show stB s st=false by unfold stB;rw [hr];simp);clear hr;refine hP hS ?_;refine hE fun K hK=>?_;go_simp;(with_reducible refine (zN 2 _).mono ?_);rintro e w5 ⟨rfl,rfl⟩;refine hG hK hS fun hS=>?_;clear hK K;refine hE fun K hK=>?_;go_simp;generalize hw5:World.alloc _ _=w7;have HE:=za (show Blk w7 _ 102 (([some 2,some 2]:List (Option Int)).map qG).toArray by rw [<-hw5];exact Blk.new _ _ _);have hS7:Below W.heap.size W w7:=(by rw [<-hw5];exact bal hS _);clear hw5;refine hG hK (by exact hS7) fun hS=>?_;clear hK K;clear hS7;refine hE fun K hK=>?_;go_simp;(with_reducible refine (zF _ 2 2 [some 2,some 2] _ HE.out rfl (by decide)).mono ?_);rintro e w8 ⟨rfl,rfl⟩;clear HE;refine hG hK hS fun hS=>?_;clear hK K;refine hP hS ?_;refine zc ?_;go_wp2;go_ret;exact ⟨by rw [HN.out];rfl,bon HB.out hS⟩
    | true=>
     have HN:=za (show stB s st=false by exact HN0.out);clear hr;refine hP hS ?_;refine hE fun K hK=>?_;go_simp;(with_reducible refine (qe 2 _).mono ?_);rintro e w5 ⟨rfl,rfl⟩;refine hG hK hS fun hS=>?_;clear hK K;refine hE fun K hK=>?_;go_simp;generalize hw5:World.alloc _ _=w7;have HE:=za (show Blk w7 _ 102 (([some 2,none]:List (Option Int)).map qG).toArray by rw [<-hw5];exact Blk.new _ _ _);have hS7:Below W.heap.size W w7:=(by rw [<-hw5];exact bal hS _);clear hw5;refine hG hK (by exact hS7) fun hS=>?_;clear hK K;clear hS7;refine hE fun K hK=>?_;go_simp;(with_reducible refine (zF _ 2 2 [some 2,none] _ HE.out rfl (by decide)).mono ?_);rintro e w8 ⟨rfl,rfl⟩;clear HE;refine hG hK hS fun hS=>?_;clear hK K;refine hP hS ?_;refine zc ?_;go_wp2;go_ret;exact ⟨by rw [HN.out];rfl,bon HB.out hS⟩
  have e1:decide (1<=v)=true:=by simpa using r1
  by_cases r2:v<=64
  case neg=>
   have e2:decide (v<=64)=false:=(by simpa using r2);have HN0:=za (show stB s st=false by unfold stB;rw [decide_eq_false (show ¬(1<=st.1/\st.1<=64/\0<=st.2.1) by omega)];simp);clear hv hq;go_enter Tryz.func66,Tryz.ntmps66;go_wp2;(try rw [hW1]);clear hW1;have hS:=ak2 W;refine hB W [0,25,26,tt 1,2,3,4,5,6,7,8,9,10,11,12,13,14,15,16,17,18,19,20,21,22,23,tt 24,tt 27,28,29,30,31,32,tt 33,34,tt 35,tt 36,tt 37,38] ?_;refine hP2 hS S0.out S1.out ?_;refine hP hS ?_;refine hP1 hS T2.out ?_;refine hE fun K hK=>?_;go_simp;(with_reducible refine (qT CA cn cc KA kn kc s _ (H.out.on hS).sch Hok.out.cn Hok.out.kn Hok.out.sch (H.out.on hS).tab).mono ?_);rintro e w6 ⟨rfl,hb6⟩;have HS:=za (bon hS hb6);clear hb6;refine hG hK (by exact HS.out) fun hS=>?_;clear hK K;clear HS;rw [Hs.out];(iterate 3 refine hP hS ?_);refine hP1 hS T0.out ?_;(iterate 3 refine hP hS ?_);refine hP hS ?_;refine hP1 hS T0.out ?_;(iterate 3 refine hP hS ?_);(iterate 3 refine hO hS ?_);(iterate 2 refine hP hS ?_);(iterate 4 refine hO hS ?_);refine hP hS ?_;refine hE fun K hK=>?_;go_simp;(with_reducible refine (zN 2 _).mono ?_);rintro e w5 ⟨rfl,rfl⟩;refine hG hK hS fun hS=>?_;clear hK K;refine hE fun K hK=>?_;go_simp;(with_reducible refine (Z5 MA mn mc st.2.2.1 _ (H.out.on hS).st.marks Hok.out.mn Hok.out.mks).mono ?_);rintro e w6 ⟨rfl,hb6⟩;have HS:=za (bon hS hb6);clear hb6;refine hG hK (by exact HS.out) fun hS=>?_;clear hK K;clear HS;cases hm:yb st.2.2.1 with
   | false=>
    have HN:=za (show stB s st=false by unfold stB;rw [hm];simp);clear hm;refine hP hS ?_;(iterate 4 refine hO hS ?_);refine Yo rfl fun K hK=>?_;go_simp;refine hG hK hS fun hS=>?_;clear hK K;refine hP hS ?_;refine hE fun K hK=>?_;go_simp;(with_reducible refine (zN 2 _).mono ?_);rintro e w5 ⟨rfl,rfl⟩;refine hG hK hS fun hS=>?_;clear hK K;refine hE fun K hK=>?_;go_simp;generalize hw5:World.alloc _ _=w7;have HE:=za (show Blk w7 _ 102 (([some 2,some 2]:List (Option Int)).map qG).toArray by rw [<-hw5];exact Blk.new _ _ _);have hS7:Below W.heap.size W w7:=(by rw [<-hw5];exact bal hS _);clear hw5;refine hG hK (by exact hS7) fun hS=>?_;clear hK K;clear hS7;refine hE fun K hK=>?_;go_simp;(with_reducible refine (zF _ 2 2 [some 2,some 2] _ HE.out rfl (by decide)).mono ?_);rintro e w8 ⟨rfl,rfl⟩;clear HE;refine hG hK hS fun hS=>?_;clear hK K;refine hP hS ?_;refine zc ?_;go_wp2;go_ret;exact ⟨by rw [HN.out];rfl,bon HB.out hS⟩
   | true=>
    have Hm:=za hm;clear hm;(iterate 2 refine hP hS ?_);refine hP1 hS S0.out ?_;refine hP hS ?_;refine hP1 hS T3.out ?_;refine hE fun K hK=>?_;go_simp;(with_reducible refine (Z8 CA cn cc s.1 RA rn rc st.2.2.2.1 _ (H.out.on hS).sch.cols (H.out.on hS).st.rows Hok.out.rn (H.out.on hS).tab).mono ?_);rintro e w6 ⟨rfl,hb6⟩;have HS:=za (bon hS hb6);clear hb6;refine hG hK (by exact HS.out) fun hS=>?_;clear hK K;clear HS;cases hr:qN s.1 st.2.2.2.1 with
    | false=>
     have HN:=za (show stB s st=false by unfold stB;rw [hr];simp);clear hr;refine hP hS ?_;refine hE fun K hK=>?_;go_simp;(with_reducible refine (zN 2 _).mono ?_);rintro e w5 ⟨rfl,rfl⟩;refine hG hK hS fun hS=>?_;clear hK K;refine hE fun K hK=>?_;go_simp;generalize hw5:World.alloc _ _=w7;have HE:=za (show Blk w7 _ 102 (([some 2,some 2]:List (Option Int)).map qG).toArray by rw [<-hw5];exact Blk.new _ _ _);have hS7:Below W.heap.size W w7:=(by rw [<-hw5];exact bal hS _);clear hw5;refine hG hK (by exact hS7) fun hS=>?_;clear hK K;clear hS7;refine hE fun K hK=>?_;go_simp;(with_reducible refine (zF _ 2 2 [some 2,some 2] _ HE.out rfl (by decide)).mono ?_);rintro e w8 ⟨rfl,rfl⟩;clear HE;refine hG hK hS fun hS=>?_;clear hK K;refine hP hS ?_;refine zc ?_;go_wp2;go_ret;exact ⟨by rw [HN.out];rfl,bon HB.out hS⟩
    | true=>
     have HN:=za (show stB s st=false by exact HN0.out);clear hr;refine hP hS ?_;refine hE fun K hK=>?_;go_simp;(with_reducible refine (qe 2 _).mono ?_);rintro e w5 ⟨rfl,rfl⟩;refine hG hK hS fun hS=>?_;clear hK K;refine hE fun K hK=>?_;go_simp;generalize hw5:World.alloc _ _=w7;have HE:=za (show Blk w7 _ 102 (([some 2,none]:List (Option Int)).map qG).toArray by rw [<-hw5];exact Blk.new _ _ _);have hS7:Below W.heap.size W w7:=(by rw [<-hw5];exact bal hS _);clear hw5;refine hG hK (by exact hS7) fun hS=>?_;clear hK K;clear hS7;refine hE fun K hK=>?_;go_simp;(with_reducible refine (zF _ 2 2 [some 2,none] _ HE.out rfl (by decide)).mono ?_);rintro e w8 ⟨rfl,rfl⟩;clear HE;refine hG hK hS fun hS=>?_;clear hK K;refine hP hS ?_;refine zc ?_;go_wp2;go_ret;exact ⟨by rw [HN.out];rfl,bon HB.out hS⟩
  have e2:decide (v<=64)=true:=by simpa using r2
  by_cases r3:0<=q
  case neg=>
   have e3:decide (0<=q)=false:=(by simpa using r3);have HN0:=za (show stB s st=false by unfold stB;rw [decide_eq_false (show ¬(1<=st.1/\st.1<=64/\0<=st.2.1) by omega)];simp);clear hv hq;go_enter Tryz.func66,Tryz.ntmps66;go_wp2;(try rw [hW1]);clear hW1;have hS:=ak2 W;refine hB W [0,25,26,tt 1,2,3,4,5,6,7,8,9,10,11,12,13,14,15,16,17,18,19,20,21,22,23,tt 24,tt 27,28,29,30,31,32,tt 33,34,tt 35,tt 36,tt 37,38] ?_;refine hP2 hS S0.out S1.out ?_;refine hP hS ?_;refine hP1 hS T2.out ?_;refine hE fun K hK=>?_;go_simp;(with_reducible refine (qT CA cn cc KA kn kc s _ (H.out.on hS).sch Hok.out.cn Hok.out.kn Hok.out.sch (H.out.on hS).tab).mono ?_);rintro e w6 ⟨rfl,hb6⟩;have HS:=za (bon hS hb6);clear hb6;refine hG hK (by exact HS.out) fun hS=>?_;clear hK K;clear HS;rw [Hs.out];(iterate 3 refine hP hS ?_);refine hP1 hS T0.out ?_;(iterate 3 refine hP hS ?_);refine hP hS ?_;refine hP1 hS T0.out ?_;(iterate 3 refine hP hS ?_);refine hP hS ?_;refine hP1 hS T1.out ?_;(iterate 3 refine hP hS ?_);(iterate 4 refine hO hS ?_);refine hP hS ?_;refine hE fun K hK=>?_;go_simp;(with_reducible refine (zN 2 _).mono ?_);rintro e w5 ⟨rfl,rfl⟩;refine hG hK hS fun hS=>?_;clear hK K;refine hE fun K hK=>?_;go_simp;(with_reducible refine (Z5 MA mn mc st.2.2.1 _ (H.out.on hS).st.marks Hok.out.mn Hok.out.mks).mono ?_);rintro e w6 ⟨rfl,hb6⟩;have HS:=za (bon hS hb6);clear hb6;refine hG hK (by exact HS.out) fun hS=>?_;clear hK K;clear HS;cases hm:yb st.2.2.1 with
   | false=>
    have HN:=za (show stB s st=false by unfold stB;rw [hm];simp);clear hm;refine hP hS ?_;(iterate 4 refine hO hS ?_);refine Yo rfl fun K hK=>?_;go_simp;refine hG hK hS fun hS=>?_;clear hK K;refine hP hS ?_;refine hE fun K hK=>?_;go_simp;(with_reducible refine (zN 2 _).mono ?_);rintro e w5 ⟨rfl,rfl⟩;refine hG hK hS fun hS=>?_;clear hK K;refine hE fun K hK=>?_;go_simp;generalize hw5:World.alloc _ _=w7;have HE:=za (show Blk w7 _ 102 (([some 2,some 2]:List (Option Int)).map qG).toArray by rw [<-hw5];exact Blk.new _ _ _);have hS7:Below W.heap.size W w7:=(by rw [<-hw5];exact bal hS _);clear hw5;refine hG hK (by exact hS7) fun hS=>?_;clear hK K;clear hS7;refine hE fun K hK=>?_;go_simp;(with_reducible refine (zF _ 2 2 [some 2,some 2] _ HE.out rfl (by decide)).mono ?_);rintro e w8 ⟨rfl,rfl⟩;clear HE;refine hG hK hS fun hS=>?_;clear hK K;refine hP hS ?_;refine zc ?_;go_wp2;go_ret;exact ⟨by rw [HN.out];rfl,bon HB.out hS⟩
   | true=>
    have Hm:=za hm;clear hm;(iterate 2 refine hP hS ?_);refine hP1 hS S0.out ?_;refine hP hS ?_;refine hP1 hS T3.out ?_;refine hE fun K hK=>?_;go_simp;(with_reducible refine (Z8 CA cn cc s.1 RA rn rc st.2.2.2.1 _ (H.out.on hS).sch.cols (H.out.on hS).st.rows Hok.out.rn (H.out.on hS).tab).mono ?_);rintro e w6 ⟨rfl,hb6⟩;have HS:=za (bon hS hb6);clear hb6;refine hG hK (by exact HS.out) fun hS=>?_;clear hK K;clear HS;cases hr:qN s.1 st.2.2.2.1 with
    | false=>
     have HN:=za (show stB s st=false by unfold stB;rw [hr];simp);clear hr;refine hP hS ?_;refine hE fun K hK=>?_;go_simp;(with_reducible refine (zN 2 _).mono ?_);rintro e w5 ⟨rfl,rfl⟩;refine hG hK hS fun hS=>?_;clear hK K;refine hE fun K hK=>?_;go_simp;generalize hw5:World.alloc _ _=w7;have HE:=za (show Blk w7 _ 102 (([some 2,some 2]:List (Option Int)).map qG).toArray by rw [<-hw5];exact Blk.new _ _ _);have hS7:Below W.heap.size W w7:=(by rw [<-hw5];exact bal hS _);clear hw5;refine hG hK (by exact hS7) fun hS=>?_;clear hK K;clear hS7;refine hE fun K hK=>?_;go_simp;(with_reducible refine (zF _ 2 2 [some 2,some 2] _ HE.out rfl (by decide)).mono ?_);rintro e w8 ⟨rfl,rfl⟩;clear HE;refine hG hK hS fun hS=>?_;clear hK K;refine hP hS ?_;refine zc ?_;go_wp2;go_ret;exact ⟨by rw [HN.out];rfl,bon HB.out hS⟩
    | true=>
     have HN:=za (show stB s st=false by exact HN0.out);clear hr;refine hP hS ?_;refine hE fun K hK=>?_;go_simp;(with_reducible refine (qe 2 _).mono ?_);rintro e w5 ⟨rfl,rfl⟩;refine hG hK hS fun hS=>?_;clear hK K;refine hE fun K hK=>?_;go_simp;generalize hw5:World.alloc _ _=w7;have HE:=za (show Blk w7 _ 102 (([some 2,none]:List (Option Int)).map qG).toArray by rw [<-hw5];exact Blk.new _ _ _);have hS7:Below W.heap.size W w7:=(by rw [<-hw5];exact bal hS _);clear hw5;refine hG hK (by exact hS7) fun hS=>?_;clear hK K;clear hS7;refine hE fun K hK=>?_;go_simp;(with_reducible refine (zF _ 2 2 [some 2,none] _ HE.out rfl (by decide)).mono ?_);rintro e w8 ⟨rfl,rfl⟩;clear HE;refine hG hK hS fun hS=>?_;clear hK K;refine hP hS ?_;refine zc ?_;go_wp2;go_ret;exact ⟨by rw [HN.out];rfl,bon HB.out hS⟩
  have e3:decide (0<=q)=true:=by simpa using r3
  have HV:=za (show 1<=st.1/\st.1<=64/\0<=st.2.1 by omega);clear hv hq;by_cases r4:ln<=1048576
  case neg=>
   have e4:decide ((ln:Int)<=1048576)=false:=(by simp;omega);have HN0:=za (show stB s st=false by unfold stB;rw [decide_eq_false (show ¬st.2.2.2.2.length<=1048576 by rw [Hlast.out];omega)];simp);go_enter Tryz.func66,Tryz.ntmps66;go_wp2;(try rw [hW1]);clear hW1;have hS:=ak2 W;refine hB W [0,25,26,tt 1,2,3,4,5,6,7,8,9,10,11,12,13,14,15,16,17,18,19,20,21,22,23,tt 24,tt 27,28,29,30,31,32,tt 33,34,tt 35,tt 36,tt 37,38] ?_;refine hP2 hS S0.out S1.out ?_;refine hP hS ?_;refine hP1 hS T2.out ?_;refine hE fun K hK=>?_;go_simp;(with_reducible refine (qT CA cn cc KA kn kc s _ (H.out.on hS).sch Hok.out.cn Hok.out.kn Hok.out.sch (H.out.on hS).tab).mono ?_);rintro e w6 ⟨rfl,hb6⟩;have HS:=za (bon hS hb6);clear hb6;refine hG hK (by exact HS.out) fun hS=>?_;clear hK K;clear HS;rw [Hs.out];(iterate 3 refine hP hS ?_);refine hP1 hS T0.out ?_;(iterate 3 refine hP hS ?_);refine hP hS ?_;refine hP1 hS T0.out ?_;(iterate 3 refine hP hS ?_);refine hP hS ?_;refine hP1 hS T1.out ?_;(iterate 3 refine hP hS ?_);refine hP hS ?_;refine hP1 hS T4.out ?_;(iterate 3 refine hP hS ?_);refine hE fun K hK=>?_;go_simp;(with_reducible refine (zN 2 _).mono ?_);rintro e w5 ⟨rfl,rfl⟩;refine hG hK hS fun hS=>?_;clear hK K;refine hE fun K hK=>?_;go_simp;(with_reducible refine (Z5 MA mn mc st.2.2.1 _ (H.out.on hS).st.marks Hok.out.mn Hok.out.mks).mono ?_);rintro e w6 ⟨rfl,hb6⟩;have HS:=za (bon hS hb6);clear hb6;refine hG hK (by exact HS.out) fun hS=>?_;clear hK K;clear HS;cases hm:yb st.2.2.1 with
   | false=>
    have HN:=za (show stB s st=false by unfold stB;rw [hm];simp);clear hm;refine hP hS ?_;(iterate 4 refine hO hS ?_);refine Yo rfl fun K hK=>?_;go_simp;refine hG hK hS fun hS=>?_;clear hK K;refine hP hS ?_;refine hE fun K hK=>?_;go_simp;(with_reducible refine (zN 2 _).mono ?_);rintro e w5 ⟨rfl,rfl⟩;refine hG hK hS fun hS=>?_;clear hK K;refine hE fun K hK=>?_;go_simp;generalize hw5:World.alloc _ _=w7;have HE:=za (show Blk w7 _ 102 (([some 2,some 2]:List (Option Int)).map qG).toArray by rw [<-hw5];exact Blk.new _ _ _);have hS7:Below W.heap.size W w7:=(by rw [<-hw5];exact bal hS _);clear hw5;refine hG hK (by exact hS7) fun hS=>?_;clear hK K;clear hS7;refine hE fun K hK=>?_;go_simp;(with_reducible refine (zF _ 2 2 [some 2,some 2] _ HE.out rfl (by decide)).mono ?_);rintro e w8 ⟨rfl,rfl⟩;clear HE;refine hG hK hS fun hS=>?_;clear hK K;refine hP hS ?_;refine zc ?_;go_wp2;go_ret;exact ⟨by rw [HN.out];rfl,bon HB.out hS⟩
   | true=>
    have Hm:=za hm;clear hm;(iterate 2 refine hP hS ?_);refine hP1 hS S0.out ?_;refine hP hS ?_;refine hP1 hS T3.out ?_;refine hE fun K hK=>?_;go_simp;(with_reducible refine (Z8 CA cn cc s.1 RA rn rc st.2.2.2.1 _ (H.out.on hS).sch.cols (H.out.on hS).st.rows Hok.out.rn (H.out.on hS).tab).mono ?_);rintro e w6 ⟨rfl,hb6⟩;have HS:=za (bon hS hb6);clear hb6;refine hG hK (by exact HS.out) fun hS=>?_;clear hK K;clear HS;cases hr:qN s.1 st.2.2.2.1 with
    | false=>
     have HN:=za (show stB s st=false by unfold stB;rw [hr];simp);clear hr;refine hP hS ?_;refine hE fun K hK=>?_;go_simp;(with_reducible refine (zN 2 _).mono ?_);rintro e w5 ⟨rfl,rfl⟩;refine hG hK hS fun hS=>?_;clear hK K;refine hE fun K hK=>?_;go_simp;generalize hw5:World.alloc _ _=w7;have HE:=za (show Blk w7 _ 102 (([some 2,some 2]:List (Option Int)).map qG).toArray by rw [<-hw5];exact Blk.new _ _ _);have hS7:Below W.heap.size W w7:=(by rw [<-hw5];exact bal hS _);clear hw5;refine hG hK (by exact hS7) fun hS=>?_;clear hK K;clear hS7;refine hE fun K hK=>?_;go_simp;(with_reducible refine (zF _ 2 2 [some 2,some 2] _ HE.out rfl (by decide)).mono ?_);rintro e w8 ⟨rfl,rfl⟩;clear HE;refine hG hK hS fun hS=>?_;clear hK K;refine hP hS ?_;refine zc ?_;go_wp2;go_ret;exact ⟨by rw [HN.out];rfl,bon HB.out hS⟩
    | true=>
     have HN:=za (show stB s st=false by exact HN0.out);clear hr;refine hP hS ?_;refine hE fun K hK=>?_;go_simp;(with_reducible refine (qe 2 _).mono ?_);rintro e w5 ⟨rfl,rfl⟩;refine hG hK hS fun hS=>?_;clear hK K;refine hE fun K hK=>?_;go_simp;generalize hw5:World.alloc _ _=w7;have HE:=za (show Blk w7 _ 102 (([some 2,none]:List (Option Int)).map qG).toArray by rw [<-hw5];exact Blk.new _ _ _);have hS7:Below W.heap.size W w7:=(by rw [<-hw5];exact bal hS _);clear hw5;refine hG hK (by exact hS7) fun hS=>?_;clear hK K;clear hS7;refine hE fun K hK=>?_;go_simp;(with_reducible refine (zF _ 2 2 [some 2,none] _ HE.out rfl (by decide)).mono ?_);rintro e w8 ⟨rfl,rfl⟩;clear HE;refine hG hK hS fun hS=>?_;clear hK K;refine hP hS ?_;refine zc ?_;go_wp2;go_ret;exact ⟨by rw [HN.out];rfl,bon HB.out hS⟩
  have e4:decide ((ln:Int)<=1048576)=true:=by simp;omega
  have HL:=za (show st.2.2.2.2.length<=1048576 by rw [Hlast.out];omega);go_enter Tryz.func66,Tryz.ntmps66;go_wp2;try rw [hW1]
  clear hW1;have hS:=ak2 W;refine hB W [0,25,26,tt 1,2,3,4,5,6,7,8,9,10,11,12,13,14,15,16,17,18,19,20,21,22,23,tt 24,tt 27,28,29,30,31,32,tt 33,34,tt 35,tt 36,tt 37,38] ?_;refine hP2 hS S0.out S1.out ?_;refine hP hS ?_;refine hP1 hS T2.out ?_;refine hE fun K hK=>?_;go_simp;with_reducible refine (qT CA cn cc KA kn kc s _ (H.out.on hS).sch Hok.out.cn Hok.out.kn Hok.out.sch (H.out.on hS).tab).mono ?_
  rintro e w6 ⟨rfl,hb6⟩;have HS:=za (bon hS hb6);clear hb6;refine hG hK (by exact HS.out) fun hS=>?_;clear hK K;clear HS;rw [Hs.out];iterate 3 refine hP hS ?_
  refine hP1 hS T0.out ?_;iterate 3 refine hP hS ?_
  refine hP hS ?_;refine hP1 hS T0.out ?_;iterate 3 refine hP hS ?_
  refine hP hS ?_;refine hP1 hS T1.out ?_;iterate 3 refine hP hS ?_
  refine hP hS ?_;refine hP1 hS T4.out ?_;iterate 3 refine hP hS ?_
  refine hE fun K hK=>?_;go_simp;with_reducible refine (qe 2 _).mono ?_
  rintro e w5 ⟨rfl,rfl⟩;refine hG hK hS fun hS=>?_;clear hK K;refine hE fun K hK=>?_;go_simp;with_reducible refine (Z5 MA mn mc st.2.2.1 _ (H.out.on hS).st.marks Hok.out.mn Hok.out.mks).mono ?_
  rintro e w6 ⟨rfl,hb6⟩;have HS:=za (bon hS hb6);clear hb6;refine hG hK (by exact HS.out) fun hS=>?_;clear hK K;clear HS;cases hm:yb st.2.2.1 with
  | false=>
   have HN:=za (show stB s st=false by unfold stB;rw [hm];simp);clear hm;refine hP hS ?_;(iterate 4 refine hO hS ?_);refine Yo rfl fun K hK=>?_;go_simp;refine hG hK hS fun hS=>?_;clear hK K;refine hP hS ?_;refine hE fun K hK=>?_;go_simp;(with_reducible refine (zN 2 _).mono ?_);rintro e w5 ⟨rfl,rfl⟩;refine hG hK hS fun hS=>?_;clear hK K;refine hE fun K hK=>?_;go_simp;generalize hw5:World.alloc _ _=w7;have HE:=za (show Blk w7 _ 102 (([none,some 2]:List (Option Int)).map qG).toArray by rw [<-hw5];exact Blk.new _ _ _);have hS7:Below W.heap.size W w7:=(by rw [<-hw5];exact bal hS _);clear hw5;refine hG hK (by exact hS7) fun hS=>?_;clear hK K;clear hS7;refine hE fun K hK=>?_;go_simp;(with_reducible refine (zF _ 2 2 [none,some 2] _ HE.out rfl (by decide)).mono ?_);rintro e w8 ⟨rfl,rfl⟩;clear HE;refine hG hK hS fun hS=>?_;clear hK K;refine hP hS ?_;refine zc ?_;go_wp2;go_ret;exact ⟨by rw [HN.out];rfl,bon HB.out hS⟩
  | true=>
   have Hm:=za hm;clear hm;(iterate 2 refine hP hS ?_);refine hP1 hS S0.out ?_;refine hP hS ?_;refine hP1 hS T3.out ?_;refine hE fun K hK=>?_;go_simp;(with_reducible refine (Z8 CA cn cc s.1 RA rn rc st.2.2.2.1 _ (H.out.on hS).sch.cols (H.out.on hS).st.rows Hok.out.rn (H.out.on hS).tab).mono ?_);rintro e w6 ⟨rfl,hb6⟩;have HS:=za (bon hS hb6);clear hb6;refine hG hK (by exact HS.out) fun hS=>?_;clear hK K;clear HS;cases hr:qN s.1 st.2.2.2.1 with
   | false=>
    have HN:=za (show stB s st=false by unfold stB;rw [hr];simp);clear hr;refine hP hS ?_;refine hE fun K hK=>?_;go_simp;(with_reducible refine (zN 2 _).mono ?_);rintro e w5 ⟨rfl,rfl⟩;refine hG hK hS fun hS=>?_;clear hK K;refine hE fun K hK=>?_;go_simp;generalize hw5:World.alloc _ _=w7;have HE:=za (show Blk w7 _ 102 (([none,some 2]:List (Option Int)).map qG).toArray by rw [<-hw5];exact Blk.new _ _ _);have hS7:Below W.heap.size W w7:=(by rw [<-hw5];exact bal hS _);clear hw5;refine hG hK (by exact hS7) fun hS=>?_;clear hK K;clear hS7;refine hE fun K hK=>?_;go_simp;(with_reducible refine (zF _ 2 2 [none,some 2] _ HE.out rfl (by decide)).mono ?_);rintro e w8 ⟨rfl,rfl⟩;clear HE;refine hG hK hS fun hS=>?_;clear hK K;refine hP hS ?_;refine zc ?_;go_wp2;go_ret;exact ⟨by rw [HN.out];rfl,bon HB.out hS⟩
   | true=>
    have HN:=za (show stB s st=true by unfold stB;rw [Hs1.out,Hm.out,hr,decide_eq_true HV.out,decide_eq_true HL.out];rfl);clear hr;refine hP hS ?_;refine hE fun K hK=>?_;go_simp;(with_reducible refine (qe 2 _).mono ?_);rintro e w5 ⟨rfl,rfl⟩;refine hG hK hS fun hS=>?_;clear hK K;refine hE fun K hK=>?_;go_simp;generalize hw5:World.alloc _ _=w7;have HE:=za (show Blk w7 _ 102 (([none,none]:List (Option Int)).map qG).toArray by rw [<-hw5];exact Blk.new _ _ _);have hS7:Below W.heap.size W w7:=(by rw [<-hw5];exact bal hS _);clear hw5;refine hG hK (by exact hS7) fun hS=>?_;clear hK K;clear hS7;refine hE fun K hK=>?_;go_simp;(with_reducible refine (zF _ 2 2 [none,none] _ HE.out rfl (by decide)).mono ?_);rintro e w8 ⟨rfl,rfl⟩;clear HE;refine hG hK hS fun hS=>?_;clear hK K;refine hP hS ?_;refine zc ?_;go_wp2;go_ret;exact ⟨by rw [HN.out];rfl,bon HB.out hS⟩
theorem VZ (CA:Option Addr) (cn cc:Nat) (KA:Option Addr) (kn kc:Nat) (s:Sc) (MA:Option Addr) (mn mc:Nat) (RA:Option Addr) (rn rc:Nat) (LA:Option Addr) (ln lc:Nat) (st:St) (w:World) (h:ChkAt w CA cn KA kn s MA mn RA rn LA ln st) (hok:ChkOk cn kn mn rn ln s st) (hE:ErrT w) :
  Calls Tryz.prog 23 #[.agg #[.slice CA cn cc,.slice KA kn kc],.agg #[.int .i64 st.1,.int .i64 st.2.1,.slice MA mn mc,.slice RA rn rc,.slice LA ln lc]] w fun e w'=>e=.returned (.int .i64 (Zi s st))/\Below w.heap.size w w':=by
 obtain ⟨W,hW1⟩:∃ W,(w.alloc (.cells #[.slice CA cn cc,.slice KA kn kc] 48)).alloc (.cells #[.int .i64 st.1,.int .i64 st.2.1,.slice MA mn mc,.slice RA rn rc,.slice LA ln lc] 51)=W:=⟨_,rfl⟩;have HB:=za (show Below w.heap.size w W by rw [<-hW1];exact bal (bal (Below.refl _ _) _) _);have HA:=za (aeq CA cn cc KA kn kc s MA mn mc RA rn rc LA ln lc st W (by rw [<-hW1];exact (h.al _).al _) hok);have HE:=za (hE.on HB.out);have BS:=za (show Blk W w.heap.size 48 #[.slice CA cn cc,.slice KA kn kc] by rw [<-hW1];exact (Blk.new w _ _).alloc _);have BT:=za (show Blk W (w.heap.size+1) 51 #[.int .i64 st.1,.int .i64 st.2.1,.slice MA mn mc,.slice RA rn rc,.slice LA ln lc] by rw [<-hW1];exact Blk.new' _ _ _ _ (by simp));have s0:=BS.out.cell 0;have s1:=BS.out.cell 1;have t0:=BT.out.cell 0;have t1:=BT.out.cell 1;have t2:=BT.out.cell 2;have t3:=BT.out.cell 3;have t4:=BT.out.cell 4;clear h hok hE;go_enter Tryz.func23,Tryz.ntmps23;go_wp2_with fail
 clear s0 s1 t0 t1 t2 t3 t4;with_reducible refine HA.out.mono ?_
 rintro e w5 ⟨rfl,hb5⟩;have HE:=za (HE.out.on hb5);have HB:=za (bon HB.out hb5);clear hb5 HA hW1;go_wp2_with fail
 with_reducible refine (Zr _ _ HE.out).mono ?_
 rintro e w6 ⟨rfl,hb6⟩;have HB:=za (bon HB.out hb6);clear hb6;go_wp2;go_ret;exact ⟨by unfold Zi;cases stB s st<;>rfl,HB.out⟩
end
section
open Go.RowKit
theorem UP:(Tryz.prog.info? 26).map (fun i=>(i.zero,i.size,i.bytes))=some (some (.agg #[.slice none 0 0,.int .i64 0]),2,32):=by kernel_rfl
def RowsOwn (w:World) (base:Nat) (hs:List Hd) (l:List It):Prop:=hs.length=l.length/\∀ (j:Nat) h it,hs[j]? = some h->l[j]? = some it->w.ownsRow base 23 3 (.slice h.1 h.2.1 h.2.2) h.2.1 (cls it.1)
def ItemsOwn (w:World) (base:Nat) (A:Option Addr) (n c:Nat) (l:List It):Prop:=∃ hs,w.ownsRow base 26 2 (.slice A n c) n (its hs l)/\RowsOwn w base hs l
section
variable {w w':World} {base n c:Nat} {A:Option Addr} {hs:List Hd} {l:List It}
theorem RowsOwn.nil:RowsOwn w base [] []:=⟨rfl,fun j g it h=>by simp at h⟩
theorem RowsOwn.below (h:RowsOwn w base hs l) (hb:Below w.heap.size w w'):RowsOwn w' base hs l:=⟨h.1,fun j g it h1 h2=>zd (h.2 j g it h1 h2) hb⟩
theorem RowsOwn.apart (h:RowsOwn w base hs l) {base2 n2 size2:Nat} {e2:TypeId} {v2:Value} {ys:List Value} (h2:w.ownsRow base2 e2 size2 v2 n2 ys) (hne:23≠e2) (hg:w.grownBy w' v2.ownBlock):RowsOwn w' base hs l:=
 ⟨h.1,fun j g it h1 h3=>zk (h.2 j g it h1 h3) h2 hne hg⟩
theorem RowsOwn.far (h:RowsOwn w base hs l) {g:Nat} {t:TypeId} {cs:Array Value} (hb:Blk w g t cs) (hne:23≠t) (i:Nat) (u:Value):RowsOwn (w.setCell ⟨g,i,none⟩ u) base hs l:=
 ⟨h.1,fun j k it h1 h3=>zf (h.2 j k it h1 h3) hb hne i u⟩
theorem RowsOwn.snoc {h:Hd} {it:It} (h0:RowsOwn w base hs l) (h1:w.ownsRow base 23 3 (.slice h.1 h.2.1 h.2.2) h.2.1 (cls it.1)):RowsOwn w base (hs++[h]) (l++[it]):=by
 refine ⟨by simp [h0.1],fun j g jt g1 g2=>?_⟩;rcases Nat.lt_or_ge j hs.length with hj | hj
 ·rw [List.getElem?_append_left hj] at g1;rw [List.getElem?_append_left (by rw [<-h0.1];exact hj)] at g2;exact h0.2 j g jt g1 g2
 rw [List.getElem?_append_right hj] at g1;rw [List.getElem?_append_right (by rw [<-h0.1];exact hj),<-h0.1] at g2;have h4:j-hs.length=0:=by have:=(List.getElem?_eq_some_iff.1 g1).1;simp at this;omega
 rw [h4] at g1 g2;simp only [List.getElem?_cons_zero,Option.some.injEq] at g1 g2;subst g1 g2;exact h1
theorem YY {base size:Nat} {e:TypeId} {xs:List Value} (h:w.ownsRow base e size (.slice A n c) n xs):n<=c/\c<=maxLen:=by
 obtain ⟨A',c',e,h1,h2⟩:=zY h;cases e;exact ⟨h1,h2⟩
theorem RowsOwn.at_ (h:RowsOwn w base hs l):RowsAt w w.heap.size hs l:=⟨h.1,fun j g it h1 h2=>⟨Reads.of_own (h.2 j g it h1 h2),YY (h.2 j g it h1 h2)⟩⟩
theorem ItemsOwn.at_ (h:ItemsOwn w base A n c l):ItemsAt w w.heap.size A n l:=by
 obtain ⟨hs,h1,h2⟩:=h;exact ⟨hs,Reads.of_own h1,h2.at_⟩
theorem ItemsOwn.caps (h:ItemsOwn w base A n c l):n<=c/\c<=maxLen:=by
 obtain ⟨hs,h1,-⟩:=h;exact YY h1
theorem ItemsOwn.len (h:ItemsOwn w base A n c l):l.length=n:=h.at_.len
theorem ItemsOwn.nil:ItemsOwn w base none 0 0 []:=⟨[],World.ownsRow_nil _ _ _ _,RowsOwn.nil⟩
theorem ItemsOwn.below (h:ItemsOwn w base A n c l) (hb:Below w.heap.size w w'):ItemsOwn w' base A n c l:=by
 obtain ⟨hs,h1,h2⟩:=h;exact ⟨hs,zd h1 hb,h2.below hb⟩
theorem ItemsOwn.al (h:ItemsOwn w base A n c l) (o:Obj):ItemsOwn (w.alloc o) base A n c l:=h.below ((Below.refl _ _).alloc (Nat.le_refl _) o)
theorem ItemsOwn.drew (h:ItemsOwn w base A n c l):ItemsOwn w.drew base A n c l:=h.below (Below.refl _ _).drew
theorem ItemsOwn.far (h:ItemsOwn w base A n c l) {g:Nat} {t:TypeId} {cs:Array Value} (hb:Blk w g t cs) (h1:23≠t) (h2:26≠t) (i:Nat) (u:Value):ItemsOwn (w.setCell ⟨g,i,none⟩ u) base A n c l:=by
 obtain ⟨hs,g1,g2⟩:=h;exact ⟨hs,zf g1 hb h2 i u,g2.far hb h1 i u⟩
theorem ItemsOwn.app (h:ItemsOwn w base A n c l) {hd:Hd} {it:It} (hr:w.ownsRow base 23 3 (.slice hd.1 hd.2.1 hd.2.2) hd.2.1 (cls it.1)) (hg:w.grownBy w' (Value.slice A n c).ownBlock) {A2:Option Addr} {n2 c2:Nat}
  (ho:∀ hs:List Hd,w.ownsRow base 26 2 (.slice A n c) n (its hs l)->w'.ownsRow base 26 2 (.slice A2 n2 c2) n2 (its hs l++itV hd it)):ItemsOwn w' base A2 n2 c2 (l++[it]):=by
 obtain ⟨hs,h1,h2⟩:=h;have h3:=ho hs h1;rw [<-acM h2.1] at h3;exact ⟨hs++[hd],h3,(h2.apart h1 (by decide) hg).snoc (zk hr h1 (by decide) hg)⟩
theorem Z7 {hd:Hd} {it:It} {A2:Option Addr} {n2 c2:Nat} (h1:w.ownsRow base 26 2 (.slice A n c) n (its hs l)) (h2:RowsOwn w base hs l) (hr:w.ownsRow base 23 3 (.slice hd.1 hd.2.1 hd.2.2) hd.2.1 (cls it.1)) (hg:w.grownBy w' (Value.slice A n c).ownBlock)
  (h3:w'.ownsRow base 26 2 (.slice A2 n2 c2) n2 (its hs l++itV hd it)):ItemsOwn w' base A2 n2 c2 (l++[it]):=by
 rw [<-acM h2.1] at h3;exact ⟨hs++[hd],h3,(h2.apart h1 (by decide) hg).snoc (zk hr h1 (by decide) hg)⟩
theorem ItemsOwn.row (h:ItemsOwn w base A n c l) {B n2:Nat} {v2:Value} {ys:List Value} (hB:∀ hs,w.ownsRow base 26 2 (.slice A n c) n (its hs l)->RowsOwn w base hs l->∀ (j:Nat) (q:Hd),hs[j]? = some q->∀ k,(Value.slice q.1 q.2.1 q.2.2).ownBlock=some k->k<B)
  (h2:w.ownsRow B 23 3 v2 n2 ys) (hg:w.grownBy w' v2.ownBlock):ItemsOwn w' base A n c l:=by
 obtain ⟨hs,g1,g2⟩:=h;refine ⟨hs,zk g1 h2 (by decide) hg,g2.1,fun j q it h3 h4=>abI (g2.2 j q it h3 h4) (hB hs g1 g2 j q h3) h2 hg⟩
end
def ItemsLow (w:World) (base B:Nat) (A:Option Addr) (n c:Nat) (l:List It):Prop:=∃ hs,w.ownsRow base 26 2 (.slice A n c) n (its hs l)/\RowsOwn w base hs l/\∀ (j:Nat) (q:Hd),hs[j]? = some q->∀ k,(Value.slice q.1 q.2.1 q.2.2).ownBlock=some k->k<B
section
variable {w w':World} {base B n c:Nat} {A:Option Addr} {l:List It}
theorem ItemsOwn.low (h:ItemsOwn w base A n c l) (hB:w.heap.size<=B):ItemsLow w base B A n c l:=by
 obtain ⟨hs,g1,g2⟩:=h;refine ⟨hs,g1,g2,fun j q hq k hk=>?_⟩;have hj:j<l.length:=by rw [<-g2.1];exact (List.getElem?_eq_some_iff.1 hq).1
 exact Nat.lt_of_lt_of_le ((g2.2 j q _ hq (List.getElem?_eq_getElem hj)).lt k hk).2 hB
theorem ItemsLow.own (h:ItemsLow w base B A n c l):ItemsOwn w base A n c l:=by
 obtain ⟨hs,g1,g2,-⟩:=h;exact ⟨hs,g1,g2⟩
theorem ItemsLow.below (h:ItemsLow w base B A n c l) (hb:Below w.heap.size w w'):ItemsLow w' base B A n c l:=by
 obtain ⟨hs,g1,g2,g3⟩:=h;exact ⟨hs,zd g1 hb,g2.below hb,g3⟩
theorem ItemsLow.al (h:ItemsLow w base B A n c l) (o:Obj):ItemsLow (w.alloc o) base B A n c l:=h.below ((Below.refl _ _).alloc (Nat.le_refl _) o)
theorem ItemsLow.drew (h:ItemsLow w base B A n c l):ItemsLow w.drew base B A n c l:=h.below (Below.refl _ _).drew
theorem ItemsLow.far (h:ItemsLow w base B A n c l) {g:Nat} {t:TypeId} {cs:Array Value} (hb:Blk w g t cs) (h1:23≠t) (h2:26≠t) (i:Nat) (u:Value):ItemsLow (w.setCell ⟨g,i,none⟩ u) base B A n c l:=by
 obtain ⟨hs,g1,g2,g3⟩:=h;exact ⟨hs,zf g1 hb h2 i u,g2.far hb h1 i u,g3⟩
theorem ItemsLow.row (h:ItemsLow w base B A n c l) {n2:Nat} {v2:Value} {ys:List Value} (h2:w.ownsRow B 23 3 v2 n2 ys) (hg:w.grownBy w' v2.ownBlock):ItemsLow w' base B A n c l:=by
 obtain ⟨hs,g1,g2,g3⟩:=h;exact ⟨hs,zk g1 h2 (by decide) hg,⟨g2.1,fun j q it h3 h4=>abI (g2.2 j q it h3 h4) (g3 j q h3) h2 hg⟩,g3⟩
end
theorem Vt (h:Hd) (it:It):∀ u∈itV h it,u.oneCell'=true:=by
 intro u hu;simp [itV] at hu;rcases hu with rfl | rfl<;>rfl
theorem Zq (w:World) (b:Nat) (hb:b=w.heap.size) (h:Hd) (it:It):Reads (w.alloc (.cells #[.slice h.1 h.2.1 h.2.2,.int .i64 it.2] 26)) (w.alloc (.cells #[.slice h.1 h.2.1 h.2.2,.int .i64 it.2] 26)).heap.size 2 (some ⟨b,0,none⟩) 1 (itV h it):=by
 subst hb;have hB:=Blk.new w 26 #[.slice h.1 h.2.1 h.2.2,.int .i64 it.2];refine ⟨rfl,fun _=>⟨_,rfl,hB.lt,fun j u hu=>?_⟩⟩;have hadd:(⟨w.heap.size,0,none⟩:Addr).add j=⟨w.heap.size,j,none⟩:=by unfold Addr.add;split<;>simp_all
 rw [hadd,hB.cell,<-Array.getElem?_toList];exact hu
end
section
open Go.RowKit
theorem ajs (A B:Option Addr) (n c m d:Nat) (l1 l2:List Cl) (w:World) (h1:Reads w w.heap.size 3 A n (cls l1)) (h2:Reads w w.heap.size 3 B m (cls l2)) (hn:n<=maxLen) :
  Calls Tryz.prog 151 #[.slice A n c,.slice B m d] w fun e w'=>e=.returned (.bool (decide (l1=l2)))/\Below w.heap.size w w':=by
 have H1:=za h1;have H2:=za h2;have Hl1:=za (ye h1);have Hl2:=za (ye h2);have hn63:n<=9223372036854775807:=by simp only [maxLen] at hn;omega
 clear h1 h2 hn;by_cases hnm:n=m
 ·subst hnm;go_enter Tryz.func151,Tryz.ntmps151;go_wp2;go_loopw [13] (fun i wr=>∃ j:Nat,j<=n/\i=.int .i64 (j:Int)/\Hid (l1.take j=l2.take j)/\Hid (Below w.heap.size w wr)) (fun i _=>n-(intOf i).toNat)
  case atStart=>exact ⟨0,Nat.zero_le _,rfl,za rfl,za (Below.refl _ _)⟩
  case round=>
   obtain ⟨j,hj,rfl,Htk,HB⟩:=hrel;by_cases hlt:j<n
   ·obtain ⟨ad,u,x,s,rfl,hbk,hx,a0,a1,a2⟩:=ym (H1.out.below HB.out) hlt;obtain ⟨ad',u',x',s',rfl,hbk',hx',b0,b1,b2⟩:=ym (H2.out.below HB.out) hlt;have Hx:=za hx;have Hx':=za hx';have HA0:=za (show ∀ w',w'=wr.drew->w'.cell? (ad.add (j*3))=some (.bool u) from fun w' h=>by rw [h];exact a0);have HA1:=za (show ∀ w',w'=wr.drew->w'.cell? ⟨(ad.add (j*3)).block,(ad.add (j*3)).off+1,none⟩=some (.int .i64 x) from fun w' h=>by rw [h];exact a1);have HA2:=za (show ∀ w',w'=wr.drew->w'.cell? ⟨(ad.add (j*3)).block,(ad.add (j*3)).off+2,none⟩=some (.string s) from fun w' h=>by rw [h];exact a2);have HB0:=za (show ∀ w',w'=wr.drew->w'.cell? (ad'.add (j*3))=some (.bool u') from fun w' h=>by rw [h];exact b0);have HB1:=za (show ∀ w',w'=wr.drew->w'.cell? ⟨(ad'.add (j*3)).block,(ad'.add (j*3)).off+1,none⟩=some (.int .i64 x') from fun w' h=>by rw [h];exact b1);have HB2:=za (show ∀ w',w'=wr.drew->w'.cell? ⟨(ad'.add (j*3)).block,(ad'.add (j*3)).off+2,none⟩=some (.string s') from fun w' h=>by rw [h];exact b2);clear hx hx' hbk hbk' a0 a1 a2 b0 b1 b2;by_cases hc:(u,x,s)=(u',x',s')
    ·simp only [Prod.mk.injEq] at hc;obtain ⟨rfl,rfl,rfl⟩:=hc;have Htk2:=za (show l1.take (j+1)=l2.take (j+1) by rw [List.take_add_one,List.take_add_one,Hx.out,Hx'.out,Htk.out]);go_wp2;have hji:(j:Int)<(n:Int):=(by omega);have hS:wr.drew=wr.drew:=rfl;refine hR (fun w'=>w'=wr.drew) [0,1,2,3,4,5,6,7,8] ?_;(iterate 3 refine hP hS ?_);refine hP3 hS HA0.out HA1.out HA2.out ?_;(iterate 3 refine hP hS ?_);refine hP3 hS HB0.out HB1.out HB2.out ?_;refine hP hS ?_;refine zc ?_;go_wp2;go_roundw;case rel=>exact ⟨j+1,by omega,by go_num,Htk2,za HB.out.drew⟩
     case measure=>simp [intOf];omega
    have Hne:=za (show decide (l1=l2)=false from decide_eq_false (fun h=>hc (by subst h;exact Option.some.inj (Hx.out.symm.trans Hx'.out))));have Hc:=za hc;clear hc;cases u with
    | false=>
     cases u' with
     | false=>
      by_cases hxx:x=x'
      ·subst hxx;have hss:¬s.toList=s'.toList:=by
        intro h;apply Hc.out;have:(s.toList==s'.toList)=true:=(by rw [h];simp);rw [qz] at this;rw [of_decide_eq_true this]
       go_wp2;have hji:(j:Int)<(n:Int):=(by omega);have hS:wr.drew=wr.drew:=rfl;refine hR (fun w'=>w'=wr.drew) [0,1,2,3,4,5,6,7,8] ?_;(iterate 3 refine hP hS ?_);refine hP3 hS HA0.out HA1.out HA2.out ?_;(iterate 3 refine hP hS ?_);refine hP3 hS HB0.out HB1.out HB2.out ?_;refine hP hS ?_;refine zc ?_;go_wp2;go_ret;rw [Hne.out];exact ⟨rfl,HB.out.drew⟩
      have hxb:(x==x')=false:=(by simpa using hxx);go_wp2;have hji:(j:Int)<(n:Int):=(by omega);have hS:wr.drew=wr.drew:=rfl;refine hR (fun w'=>w'=wr.drew) [0,1,2,3,4,5,6,7,8] ?_;(iterate 3 refine hP hS ?_);refine hP3 hS HA0.out HA1.out HA2.out ?_;(iterate 3 refine hP hS ?_);refine hP3 hS HB0.out HB1.out HB2.out ?_;refine hP hS ?_;refine zc ?_;go_wp2;go_ret;rw [Hne.out];exact ⟨rfl,HB.out.drew⟩
     | true=>
      go_wp2;have hji:(j:Int)<(n:Int):=(by omega);have hS:wr.drew=wr.drew:=rfl;refine hR (fun w'=>w'=wr.drew) [0,1,2,3,4,5,6,7,8] ?_;(iterate 3 refine hP hS ?_);refine hP3 hS HA0.out HA1.out HA2.out ?_;(iterate 3 refine hP hS ?_);refine hP3 hS HB0.out HB1.out HB2.out ?_;refine hP hS ?_;refine zc ?_;go_wp2;go_ret;rw [Hne.out];exact ⟨rfl,HB.out.drew⟩
    | true=>
     cases u' with
     | false=>
      go_wp2;have hji:(j:Int)<(n:Int):=(by omega);have hS:wr.drew=wr.drew:=rfl;refine hR (fun w'=>w'=wr.drew) [0,1,2,3,4,5,6,7,8] ?_;(iterate 3 refine hP hS ?_);refine hP3 hS HA0.out HA1.out HA2.out ?_;(iterate 3 refine hP hS ?_);refine hP3 hS HB0.out HB1.out HB2.out ?_;refine hP hS ?_;refine zc ?_;go_wp2;go_ret;rw [Hne.out];exact ⟨rfl,HB.out.drew⟩
     | true=>
      by_cases hxx:x=x'
      ·subst hxx;have hss:¬s.toList=s'.toList:=by
        intro h;apply Hc.out;have:(s.toList==s'.toList)=true:=(by rw [h];simp);rw [qz] at this;rw [of_decide_eq_true this]
       go_wp2;have hji:(j:Int)<(n:Int):=(by omega);have hS:wr.drew=wr.drew:=rfl;refine hR (fun w'=>w'=wr.drew) [0,1,2,3,4,5,6,7,8] ?_;(iterate 3 refine hP hS ?_);refine hP3 hS HA0.out HA1.out HA2.out ?_;(iterate 3 refine hP hS ?_);refine hP3 hS HB0.out HB1.out HB2.out ?_;refine hP hS ?_;refine zc ?_;go_wp2;go_ret;rw [Hne.out];exact ⟨rfl,HB.out.drew⟩
      have hxb:(x==x')=false:=(by simpa using hxx);go_wp2;have hji:(j:Int)<(n:Int):=(by omega);have hS:wr.drew=wr.drew:=rfl;refine hR (fun w'=>w'=wr.drew) [0,1,2,3,4,5,6,7,8] ?_;(iterate 3 refine hP hS ?_);refine hP3 hS HA0.out HA1.out HA2.out ?_;(iterate 3 refine hP hS ?_);refine hP3 hS HB0.out HB1.out HB2.out ?_;refine hP hS ?_;refine zc ?_;go_wp2;go_ret;rw [Hne.out];exact ⟨rfl,HB.out.drew⟩
   obtain rfl:j=n:=by omega
   have He:=za (show decide (l1=l2)=true by
    have:=Htk.out;rw [List.take_of_length_le (by rw [Hl1.out];exact Nat.le_refl _),List.take_of_length_le (by rw [Hl2.out];exact Nat.le_refl _)] at this;exact decide_eq_true this)
   go_wp2;go_ret;rw [He.out];exact ⟨rfl,HB.out⟩
 have hne:(n==m)=false:=by simpa using hnm
 have hne2:((n:Int)==(m:Int))=false:=by simp;omega
 have Hne:=za (show decide (l1=l2)=false from decide_eq_false (fun h=>hnm (by rw [<-Hl1.out,<-Hl2.out,h])));go_enter Tryz.func151,Tryz.ntmps151;go_wp2;go_ret;rw [Hne.out];exact ⟨rfl,Below.refl _ _⟩
theorem afI (A B:Option Addr) (n c m d:Nat) (l1 l2:List Cl) (w:World) (h1:Reads w w.heap.size 3 A n (cls l1)) (h2:Reads w w.heap.size 3 B m (cls l2)) (hn:n<=maxLen) :
  Calls Tryz.prog 92 #[.slice A n c,.slice B m d] w fun e w'=>e=.returned (.bool (decide (l1=l2)))/\Below w.heap.size w w':=by
 have HK:=za (ajs A B n c m d l1 l2 w h1 h2 hn);clear h1 h2 hn;go_enter Tryz.func92,Tryz.ntmps92;go_wp2_with fail
 with_reducible refine HK.out.mono ?_
 rintro e w1 ⟨rfl,hb⟩;have HB:=za hb;clear hb;go_wp2;go_ret;exact ⟨rfl,HB.out⟩
end
section
open Go.RowKit
theorem ace (A:Option Addr) (n c:Nat) (xs:List UInt8) (w:World) (hr:Reads w w.heap.size 1 A n (u8s xs)) (hn:n<=maxLen) :
  Calls Tryz.prog 64 #[.slice A n c] w fun e w'=>e=.returned (.int .u32 ((zZ xs:Nat):Int))/\w=w':=by
 have cU:Calls Tryz.prog 123 #[.int .u32 0,.slice A n c] w _:=acd 0 (by decide) A n c xs w hr hn;have CU:=za cU;clear hr cU;go_enter Tryz.func64,Tryz.ntmps64;go_wp2_with fail
 with_reducible refine CU.out.mono ?_
 rintro e w1 ⟨rfl,rfl⟩;go_wp2;go_ret;exact ⟨rfl,rfl⟩
theorem aid:(Tryz.prog.info? 45).map (fun i=>(i.zero,i.size,i.bytes))=some (some (.agg #[.int .i64 0,.string ⟨#[]⟩,.int .i64 0,.bool false,.bool false,.int .i64 0,.string ⟨#[]⟩]),7,72):=by kernel_rfl
theorem abR (A:Option Addr) (n c:Nat) (l:List Co) (w:World) (hr:Reads w w.heap.size 7 A n (cos l)) (hn:n<=1048576) :
  Calls Tryz.prog 85 #[.slice A n c] w fun e w'=>∃ A' c',e=.returned (.slice A' n c')/\n<=c'/\c'<=maxLen/\w'.ownsRow w.heap.size 45 7 (.slice A' n c') n (cos l)/\Below w.heap.size w w':=by
 obtain ⟨i0,hi0,hz0,hz1,hz2⟩:=info_parts aid;go_enter Tryz.func85,Tryz.ntmps85
 go_wp2_with (at_builtin
              refine zb _ rfl (.tmp 4) (.tmp 5) 32 rfl w.heap.size 45 i0 (.agg #[.int .i64 0,.string ⟨#[]⟩,.int .i64 0,.bool false,.bool false,.int .i64 0,.string ⟨#[]⟩]) 7 72 Tryz.underlying32 hi0 hz0 hz1 hz2 rfl (by decide) none 0 0 [] rfl (World.ownsRow_nil _ _ _ _) A n c (cos l) rfl hr (ajo l) (by simp only [maxLen];omega) (by omega) (Nat.le_refl _) ?_;intro A2 c2 w2 hown2 hb2 hg2 hc2 hm2;simp only [Nat.zero_add,List.nil_append] at hown2 hc2)
 go_ret;exact ⟨A2,c2,by simp,hc2,hm2,hown2,hb2⟩
theorem afM (A:Option Addr) (n c:Nat) (cs:List Co) (w:World) (hr:Reads w w.heap.size 7 A n (cos cs)) (hn:n<=maxLen) :
  Calls Tryz.prog 111 #[.slice A n c] w fun e w'=>e=.returned (.bool (yD cs))/\Below w.heap.size w w':=by
 have Hr:=za hr;have Hl:=za (zU hr);have hn63:n<=9223372036854775807:=by simp only [maxLen] at hn;omega
 clear hr hn;go_enter Tryz.func111,Tryz.ntmps111;go_wp2;go_loopw [3] (fun i wr=>∃ k:Nat,k<=n/\i=.int .i64 (k:Int)/\Hid (∀ j c,j<k->cs[j]? = some c->Xj c=false)/\Hid (Below w.heap.size w wr)) (fun i _=>n-(intOf i).toNat)
 case atStart=>exact ⟨0,Nat.zero_le _,rfl,za (fun j c h=>by omega),za (Below.refl _ _)⟩
 case round=>
  obtain ⟨k,hk,rfl,HN,HB⟩:=hrel;by_cases hlt:k<n
  ·obtain ⟨ad,co,rfl,hbk,hco,hat⟩:=yP (Hr.out.below HB.out) hlt;have h2:=hat.c2;have h3:=hat.c3;have Hco:=za hco;have hki:(k:Int)<(n:Int):=(by omega);clear hco hat;(go_wp2_with fail);(with_reducible refine (JN co.2.2.1 co.2.2.2.1 _).mono ?_);rintro e w1 ⟨rfl,hb1⟩;have HB2:=za (bon HB.out hb1);clear hb1 h2 h3 hbk;cases hm:yZ co.2.2.1 with
   | true=>
    have HN2:=za (show ∀ j c,j<k+1->cs[j]? = some c->Xj c=false from fun j c hj hc=>by
     rcases Nat.lt_or_ge j k with h | h
     ·exact HN.out j c h hc
     obtain rfl:j=k:=(by omega);rw [Hco.out] at hc;cases hc;simp [Xj,hm])
    clear hm;go_wp2;go_roundw;case rel=>exact ⟨k+1,by omega,by go_num,HN2,HB2⟩
    case measure=>simp [intOf];omega
   | false=>
    have HE:=za (show yD cs=false by
     have h1:cs.any Xj=true:=List.any_eq_true.2 ⟨co,List.mem_of_getElem? Hco.out,by simp [Xj,hm]⟩;rw [aac,h1];simp)
    clear hm;go_wp2;go_ret;exact ⟨by rw [HE.out];rfl,HB2.out⟩
  obtain rfl:n=k:=by omega
  have HE:=za (show yD cs=decide (1<=n/\n<=32) by
   have h1:cs.any Xj=false:=by
    rw [List.any_eq_false];intro c hc;obtain ⟨j,hj⟩:=List.getElem?_of_mem hc;have:=HN.out j c (by have:=(List.getElem?_eq_some_iff.1 hj).1;rw [Hl.out] at this;exact this) hj;simp [this]
   rw [aac,h1,Hl.out];simp)
  by_cases h1:1<=n
  ·by_cases h2:n<=32
   ·have d1:decide ((1:Int)<=(n:Int))=true:=(by simp;omega);have d2:decide ((n:Int)<=32)=true:=(by simp;omega);have HE:=za (show yD cs=true by rw [HE.out];simp [h1,h2]);go_wp2;go_ret;exact ⟨by rw [HE.out];rfl,HB.out⟩
   have d1:decide ((1:Int)<=(n:Int))=true:=(by simp;omega);have d2:decide ((n:Int)<=32)=false:=(by simp;omega);have HE:=za (show yD cs=false by rw [HE.out];simp [h2]);go_wp2;go_ret;exact ⟨by rw [HE.out];rfl,HB.out⟩
  have d1:decide ((1:Int)<=(n:Int))=false:=by simp;omega
  have HE:=za (show yD cs=false by rw [HE.out];simp [h1]);go_wp2;go_ret;exact ⟨by rw [HE.out];rfl,HB.out⟩
theorem acg (A:Option Addr) (n c:Nat) (cs:List Co) (B:Option Addr) (m d:Nat) (r:List Cl) (w:World) (hr:Reads w w.heap.size 7 A n (cos cs)) (hr2:Reads w w.heap.size 3 B m (cls r)) (hm:m<=maxLen) (hok:VE r) :
  Calls Tryz.prog 120 #[.slice A n c,.slice B m d] w fun e w'=>e=.returned (.int .i64 (qm cs r))/\Below w.heap.size w w':=by
 have Hr:=za hr;have Hr2:=za hr2;have Hok:=za hok;have Hlc:=za (zU hr);have Hlr:=za (ye hr2);have hm63:m<=9223372036854775807:=by simp only [maxLen] at hm;omega
 clear hr hr2 hok hm;by_cases hmn:n=m
 ·have HEr:=za (show qm cs r=yA cs r by unfold qm;rw [if_pos (by rw [Hlr.out,Hlc.out,hmn])]);subst hmn;go_enter Tryz.func120,Tryz.ntmps120;go_wp2;go_loopw [5] (fun i wr=>∃ k:Nat,k<=n/\i=.int .i64 (k:Int)/\Hid (yA cs r=yA (cs.drop k) (r.drop k))/\Hid (Below w.heap.size w wr)) (fun i _=>n-(intOf i).toNat)
  case atStart=>exact ⟨0,Nat.zero_le _,rfl,za rfl,za (Below.refl _ _)⟩
  case round=>
   obtain ⟨k,hk,rfl,HE,HB⟩:=hrel;by_cases hlt:k<n
   ·obtain ⟨ad,co,rfl,hbk,hco,hat⟩:=yP (Hr.out.below HB.out) hlt;obtain ⟨ad2,u,x,s,rfl,hbk2,hx,g0,g1,g2⟩:=ym (Hr2.out.below HB.out) hlt;have h2:=hat.c2;have h3:=hat.c3;have HD:=za (Je cs r k co (u,x,s) hco hx);have Hx9:=Hok.out (u,x,s) (List.mem_of_getElem? hx);have Hx9:=za (show K9 x from ⟨Hx9.1,Hx9.2.1⟩);have hki:(k:Int)<(n:Int):=(by omega);have HL2:=za (show ak1 wr ⟨(ad.add (k*7)).block,(ad.add (k*7)).off+2,none⟩ (.int .i64 co.2.2.1) from fun w' h=>(h.cell (p:=⟨(ad.add (k*7)).block,(ad.add (k*7)).off+2,none⟩) (World.block_lt_of_cell? _ _ h2)).trans h2);have HL3:=za (show ak1 wr ⟨(ad.add (k*7)).block,(ad.add (k*7)).off+2+1,none⟩ (.bool co.2.2.2.1) from fun w' h=>(h.cell (p:=⟨(ad.add (k*7)).block,(ad.add (k*7)).off+3,none⟩) (World.block_lt_of_cell? _ _ h3)).trans h3);have HV0:=za (show ak1 wr (ad2.add (k*3)) (.bool u) from fun w' h=>(h.cell (World.block_lt_of_cell? _ _ g0)).trans g0);have HV1:=za (show ak1 wr ⟨(ad2.add (k*3)).block,(ad2.add (k*3)).off+1,none⟩ (.int .i64 x) from fun w' h=>(h.cell (World.block_lt_of_cell? _ _ g1)).trans g1);have HV2:=za (show ak1 wr ⟨(ad2.add (k*3)).block,(ad2.add (k*3)).off+2,none⟩ (.string s) from fun w' h=>(h.cell (World.block_lt_of_cell? _ _ g2)).trans g2);clear hco hat hx h2 h3 g0 g1 g2 hbk hbk2;go_wp2;have hS:=ak2 wr;generalize hk7:ad.add (k*7)=ak at *;refine hB wr [0,1,2,3,4,5,6,7,8,tt 9,10] ?_;(iterate 4 refine hP hS ?_);refine hP2 hS HL2.out HL3.out ?_;(iterate 3 refine hP hS ?_);refine hP3 hS HV0.out HV1.out HV2.out ?_;refine hE fun K hK=>?_;go_simp;(with_reducible refine (YB co.2.2.1 co.2.2.2.1 u x s _ Hx9.out).mono ?_);rintro e w5 ⟨rfl,hb5⟩;have HB5:=za (bon HB.out (bon hS hb5));refine hG hK (by exact bon hS hb5) fun hS=>?_;clear hK K;clear hb5;refine hP hS ?_;refine zc ?_;clear hS;by_cases hz:zw co.2.2.1 co.2.2.2.1 (u,x,s)=0
    ·have HE2:=za (show yA cs r=yA (cs.drop (k+1)) (r.drop (k+1)) by rw [HE.out,HD.out,if_pos hz]);generalize zw co.2.2.1 co.2.2.2.1 (u,x,s)=E0 at hz ⊢;subst hz;go_wp2;go_roundw;case rel=>exact ⟨k+1,by omega,by go_num,HE2,HB5⟩
     case measure=>simp [intOf];omega
    have HE2:=za (show zw co.2.2.1 co.2.2.2.1 (u,x,s)=qm cs r by rw [HEr.out,HE.out,HD.out,if_neg hz]);rw [HE2.out] at hz ⊢;have hzb:(qm cs r != 0)=true:=(by simpa using hz);clear hz;go_wp2;go_ret;exact ⟨rfl,HB5.out⟩
   obtain rfl:n=k:=(by omega);have HE2:=za (show qm cs r=0 by rw [HEr.out,HE.out];have:=aaz cs r;rw [Hlr.out] at this;exact this);go_wp2;go_ret;exact ⟨by rw [HE2.out];rfl,HB.out⟩
 have HE:=za (show qm cs r=100 by unfold qm;rw [if_neg (by rw [Hlr.out,Hlc.out];omega)]);have db:((m:Int) != (n:Int))=true:=by simp;omega
 have db2:(m != n)=true:=by simp;omega
 go_enter Tryz.func120,Tryz.ntmps120;go_wp2;go_ret;exact ⟨by rw [HE.out];rfl,Below.refl _ _⟩
end
section
open Go.RowKit
theorem abF (A:Option Addr) (n c:Nat) (cs:List Co) (v s:Int) (I:Option Addr) (m d:Nat) (l:List It) (w:World) (hr:Reads w w.heap.size 7 A n (cos cs)) (hn:n<=maxLen) (hi:ItemsAt w w.heap.size I m l) (hm:m<=maxLen) (hok:ItOk l) :
  Calls Tryz.prog 86 #[.slice A n c,.agg #[.int .i64 v,.int .i64 s,.slice I m d]] w fun e w'=>e=.returned (.int .i64 (yT cs (v,s,l)))/\Below w.heap.size w w':=by
 have Hr:=za hr;have Hi:=za hi;have Hok:=za hok;have Hl:=za hi.len;have Hn:=za hn;have Hm:=za hm;have hm63:m<=9223372036854775807:=by simp only [maxLen] at hm;omega
 have B1:=za (Blk.new w 30 #[.int .i64 v,.int .i64 s,.slice I m d]);have HB:=za ((Below.refl _ w).alloc (Nat.le_refl _) (.cells #[.int .i64 v,.int .i64 s,.slice I m d] 30));clear hr hi hok hn hm;go_enter Tryz.func86,Tryz.ntmps86;go_wp2_with fail
 with_reducible refine (afM A n c cs _ (Hr.out.on HB.out) Hn.out).mono ?_
 rintro e w1 ⟨rfl,hb1⟩;have B1:=za (B1.out.on hb1);have HB:=za (bon HB.out hb1);clear hb1;have c0:=B1.out.cell 0;have c1:=B1.out.cell 1;have c2:=B1.out.cell 2;by_cases hb:baB cs (v,s,l)=true
 ·have hbb:=hb;unfold baB at hbb;simp only [Bool.and_eq_true,decide_eq_true_eq] at hbb;obtain ⟨hmay,hv0,hv1,hs0⟩:=hbb;have HE0:=za (show yT cs (v,s,l)=if 1048576<l.length then 5 else yz cs l by unfold yT;rw [if_pos hb]);rw [hmay];have d1:decide (v<0)=false:=by simpa using hv0
  have d2:decide (2147483647<v)=false:=by simpa using hv1
  have d3:decide (s<0)=false:=by simpa using hs0
  clear hmay hb;by_cases hM:m<=1048576
  ·have d4:decide ((1048576:Int)<(m:Int))=false:=(by simp;omega);have d5:decide (1048576<m)=false:=(by simp;omega);have HE0:=za (show yT cs (v,s,l)=yz cs l by rw [HE0.out,if_neg (by rw [Hl.out];omega)]);go_wp2;clear c0 c1 c2 d1 d2 d3 hv0 hv1 hs0;go_loopw [5] (fun i wr=>∃ k:Nat,k<=m/\i=.int .i64 (k:Int)/\Hid (yz cs l=yz cs (l.drop k))/\Hid (Blk wr w.heap.size 30 #[.int .i64 v,.int .i64 s,.slice I m d])/\Hid (Below w.heap.size w wr)) (fun i _=>m-(intOf i).toNat)
   case atStart=>exact ⟨0,Nat.zero_le _,rfl,za rfl,B1,HB⟩
   case round=>
    obtain ⟨k,hk,rfl,HE,BL,HL⟩:=hrel;have c2:=BL.out.cell 2;by_cases hlt:k<m
    ·obtain ⟨ad,A',c',it,rfl,hbk,hit,h0,h1,hrow,hc1,hc2⟩:=(Hi.out.below HL.out).at_ hlt;have HD:=za (U7 cs l k it hit);have Hrow:=za (hrow.more HL.out.size);have Hc:=za (Nat.le_trans hc1 hc2);have HitK:=za (Hok.out it (List.mem_of_getElem? hit)).1;have hki:(k:Int)<(m:Int):=(by omega);have hlt1:=World.block_lt_of_cell? _ _ h1;clear hit hrow hc1 hc2;generalize hrl:it.1.length=rl at *;clear hrl;(go_wp2_with fail);(with_reducible refine (acg A n c cs A' rl c' it.1 _ (Hr.out.on HL.out) Hrow.out Hc.out HitK.out).mono ?_);rintro e w3 ⟨rfl,hb3⟩;have HB3:=za (bon HL.out hb3);have B3:=za (BL.out.on hb3);have h1':=(hb3.cell (p:=⟨(ad.add (k*2)).block,(ad.add (k*2)).off+1,none⟩) hlt1).trans h1;clear hb3 h0 h1 hbk c2;by_cases hz:qm cs it.1=0
     ·have HD:=za (show yz cs (l.drop k)=if it.2=0 then 172 else yz cs (l.drop (k+1)) by rw [HD.out,if_pos hz]);generalize qm cs it.1=E0 at hz ⊢;subst hz;have c2:=B3.out.cell 2;by_cases hw0:it.2=0
      ·have HX:=za (show yT cs (v,s,l)=172 by rw [HE0.out,HE.out,HD.out,if_pos hw0]);generalize it.2=W0 at *;subst hw0;go_wp2;go_ret;exact ⟨by rw [HX.out];rfl,HB3.out⟩
      have HX:=za (show yz cs l=yz cs (l.drop (k+1)) by rw [HE.out,HD.out,if_neg hw0]);have dw:(it.2==0)=false:=(by simpa using hw0);generalize it.2=W0 at *;clear hw0;go_wp2;go_roundw;case rel=>exact ⟨k+1,by omega,by go_num,HX,B3,HB3⟩
      case measure=>simp [intOf];omega
     have HX:=za (show qm cs it.1=yT cs (v,s,l) by rw [HE0.out,HE.out,HD.out,if_neg hz]);rw [HX.out] at hz ⊢;have hzb:(yT cs (v,s,l) != 0)=true:=(by simpa using hz);clear hz;go_wp2;go_ret;exact ⟨rfl,HB3.out⟩
    obtain rfl:m=k:=(by omega);have HE1:=za (show yT cs (v,s,l)=0 by rw [HE0.out,HE.out,List.drop_of_length_le (by rw [Hl.out];exact Nat.le_refl _)];rfl);go_wp2;go_ret;exact ⟨by rw [HE1.out];rfl,HL.out⟩
  have d4:decide ((1048576:Int)<(m:Int))=true:=by simp;omega
  have d5:decide (1048576<m)=true:=by simp;omega
  have HE1:=za (show yT cs (v,s,l)=5 by rw [HE0.out,if_pos (by rw [Hl.out];omega)]);go_wp2;go_ret;exact ⟨by rw [HE1.out];rfl,HB.out⟩
 have HE1:=za (show yT cs (v,s,l)=2 by unfold yT;rw [if_neg hb]);unfold baB at hb;simp only [Bool.and_eq_true,decide_eq_true_eq] at hb;cases hmay:yD cs with
 | false=>
  clear hb hmay;go_wp2;go_ret;exact ⟨by rw [HE1.out];rfl,HB.out⟩
 | true=>
  by_cases hv0:0<=v
  ·have d1:decide (v<0)=false:=(by simpa using hv0);by_cases hv1:v<=2147483647
   ·have d2:decide (2147483647<v)=false:=(by simpa using hv1);have hs0:¬0<=s:=fun h=>hb ⟨hmay,hv0,hv1,h⟩;have d3:decide (s<0)=true:=(by simpa using hs0);clear hb hmay hv0 hv1 hs0;go_wp2;go_ret;exact ⟨by rw [HE1.out];rfl,HB.out⟩
   have d2:decide (2147483647<v)=true:=(by simpa using hv1);clear hb hmay hv0 hv1;go_wp2;go_ret;exact ⟨by rw [HE1.out];rfl,HB.out⟩
  have d1:decide (v<0)=true:=by simpa using hv0
  clear hb hmay hv0;go_wp2;go_ret;exact ⟨by rw [HE1.out];rfl,HB.out⟩
theorem ac2 (A B:Option Addr) (n c m d:Nat) (l1 l2:List It) (w:World) (h1:ItemsAt w w.heap.size A n l1) (h2:ItemsAt w w.heap.size B m l2) (hn:n<=maxLen) :
  Calls Tryz.prog 70 #[.slice A n c,.slice B m d] w fun e w'=>e=.returned (.bool (decide (l1=l2)))/\Below w.heap.size w w':=by
 have H1:=za h1;have H2:=za h2;have Hl1:=za h1.len;have Hl2:=za h2.len;have hn63:n<=9223372036854775807:=by simp only [maxLen] at hn;omega
 clear h1 h2 hn;by_cases hnm:m=n
 ·subst hnm;go_enter Tryz.func70,Tryz.ntmps70;go_wp2;go_loopw [5] (fun i wr=>∃ j:Nat,j<=m/\i=.int .i64 (j:Int)/\Hid (l1.take j=l2.take j)/\Hid (Below w.heap.size w wr)) (fun i _=>m-(intOf i).toNat)
  case atStart=>exact ⟨0,Nat.zero_le _,rfl,za rfl,za (Below.refl _ _)⟩
  case round=>
   obtain ⟨j,hj,rfl,Htk,HB⟩:=hrel;by_cases hlt:j<m
   ·obtain ⟨ad,A',c',it,rfl,hbk,hx,a0,a1,r1,rc1,rc2⟩:=(H1.out.below HB.out).at_ hlt;obtain ⟨ad',A'',c'',it',rfl,hbk',hx',b0,b1,r2,-,-⟩:=(H2.out.below HB.out).at_ hlt;have HA0:=za (show ak1 wr (ad.add (j*2)) (.slice A' it.1.length c') from fun w' h=>(h.cell (World.block_lt_of_cell? _ _ a0)).trans a0);have HA1:=za (show ak1 wr ⟨(ad.add (j*2)).block,(ad.add (j*2)).off+1,none⟩ (.int .i64 it.2) from fun w' h=>(h.cell (World.block_lt_of_cell? _ _ a1)).trans a1);have HB0:=za (show ak1 wr (ad'.add (j*2)) (.slice A'' it'.1.length c'') from fun w' h=>(h.cell (World.block_lt_of_cell? _ _ b0)).trans b0);have HB1:=za (show ak1 wr ⟨(ad'.add (j*2)).block,(ad'.add (j*2)).off+1,none⟩ (.int .i64 it'.2) from fun w' h=>(h.cell (World.block_lt_of_cell? _ _ b1)).trans b1);have R1:=za (r1.more HB.out.size);have R2:=za (r2.more HB.out.size);have Hrc:=za (Nat.le_trans rc1 rc2);have Hx:=za hx;have Hx':=za hx';have hji:(j:Int)<(m:Int):=(by omega);have hS:=ak2 wr;clear hx hx' hbk hbk' r1 r2 rc1 rc2 a0 a1 b0 b1;obtain ⟨r,v⟩:=it;obtain ⟨r',v'⟩:=it';simp only at HA0 HA1 HB0 HB1 R1 R2 Hrc;generalize r.length=rl at *;generalize r'.length=rl' at *;go_wp2;by_cases hv:v=v'
    ·subst hv;have dv:(v != v)=false:=(by simp);refine hB wr [0,1,2,3,4,5,6,7,8,9,10,11,12,13,14,15,16,17,18,19,20,21,tt 22,23,24] ?_;(iterate 4 refine hP hS ?_);refine hP1 hS HA1.out ?_;(iterate 4 refine hP hS ?_);refine hP1 hS HB1.out ?_;(iterate 6 refine hP hS ?_);refine hP1 hS HA0.out ?_;(iterate 4 refine hP hS ?_);refine hP1 hS HB0.out ?_;refine hE fun K hK=>?_;go_simp;(with_reducible refine (agr A' A'' rl c' rl' c'' r r' _ (R1.out.on hS) (R2.out.on hS) Hrc.out).mono ?_);rintro e w5 ⟨rfl,hb5⟩;have HB5:=za (bon HB.out (bon hS hb5));refine hG hK (by exact bon hS hb5) fun hS=>?_;clear hK K;clear hb5;(iterate 2 refine hP hS ?_);refine zc ?_;clear hS;by_cases hc:r=r'
     ·have Htk2:=za (show l1.take (j+1)=l2.take (j+1) by rw [List.take_add_one,List.take_add_one,Hx.out,Hx'.out,Htk.out,hc]);rw [decide_eq_true hc];clear hc;go_wp2;go_roundw;case rel=>exact ⟨j+1,by omega,by go_num,Htk2,HB5⟩
      case measure=>simp [intOf];omega
     have Hne:=za (show decide (l1=l2)=false from decide_eq_false (fun h=>hc (by subst h;have:=Option.some.inj (Hx.out.symm.trans Hx'.out);cases this;rfl)));rw [decide_eq_false hc];clear hc;go_wp2;go_ret;exact ⟨by rw [Hne.out];rfl,HB5.out⟩
    have dv:(v != v')=true:=(by simpa using hv);have Hne:=za (show decide (l1=l2)=false from decide_eq_false (fun h=>hv (by subst h;have:=Option.some.inj (Hx.out.symm.trans Hx'.out);cases this;rfl)));clear hv;refine hB wr [0,1,2,3,4,5,6,7,8,9,10,11,12,13,14,15,16,17,18,19,20,21,22,23,24] ?_;(iterate 4 refine hP hS ?_);refine hP1 hS HA1.out ?_;(iterate 4 refine hP hS ?_);refine hP1 hS HB1.out ?_;(iterate 2 refine hP hS ?_);(iterate 12 refine hO hS ?_);refine hP hS ?_;refine zc ?_;have HB5:=za (bon HB.out hS);clear hS;go_wp2;go_ret;exact ⟨by rw [Hne.out];rfl,HB5.out⟩
   obtain rfl:m=j:=by omega
   have He:=za (show decide (l1=l2)=true by
    have:=Htk.out;rw [List.take_of_length_le (by rw [Hl1.out];exact Nat.le_refl _),List.take_of_length_le (by rw [Hl2.out];exact Nat.le_refl _)] at this;exact decide_eq_true this)
   go_wp2;go_ret;exact ⟨by rw [He.out];rfl,HB.out⟩
 have hne2:((n:Int) != (m:Int))=true:=by simp;omega
 have hne3:(n != m)=true:=by simp;omega
 have Hne:=za (show decide (l1=l2)=false from decide_eq_false (fun h=>hnm (by rw [<-Hl1.out,<-Hl2.out,h])));go_enter Tryz.func70,Tryz.ntmps70;go_wp2;go_ret;exact ⟨by rw [Hne.out];rfl,Below.refl _ _⟩
end
end Go.Proofs.YtjpjalmilfgckaaGreatDoor
