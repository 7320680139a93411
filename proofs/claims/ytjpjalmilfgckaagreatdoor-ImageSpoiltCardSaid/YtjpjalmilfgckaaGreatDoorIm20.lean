/- Part 20 of the walks, merged: each text under its own heading. Conditions: none of its own; each lemma states what it asks. -/
import Derived.Test.YtjpjalmilfgckaaGreatDoorIm7
import Derived.Test.YtjpjalmilfgckaaGreatDoorIm14
import Derived.Test.YtjpjalmilfgckaaGreatDoorIm18
import Derived.Test.YtjpjalmilfgckaaGreatDoorIm19
set_option maxRecDepth 100000
set_option linter.unusedVariables false
set_option linter.unusedSimpArgs false
namespace Go.Proofs.YtjpjalmilfgckaaGreatDoor
open Go.RowKit
theorem ineed_yes (e:Int) (w:World):Calls Tryz.prog 83 #[.bool true,.int .i64 e] w fun x w'=>x=.returned .nilIface/\w=w':=ineed_any true e w
theorem ineed_no (e:Int) (w:World):Calls Tryz.prog 83 #[.bool false,.int .i64 e] w fun x w'=>x=.returned (.iface 164 (.agg #[.int .i64 e]))/\w=w':=ineed_any false e w
structure ChkAt (w:World) (CA:Option Addr) (cn:Nat) (KA:Option Addr) (kn:Nat) (s:Sc) (MA:Option Addr) (mn:Nat) (RA:Option Addr) (rn:Nat) (LA:Option Addr) (ln:Nat) (st:St):Prop where
 sch:ScAt w CA cn KA kn s
 st:StAt w MA mn RA rn LA ln st.2.2.1 st.2.2.2.1 st.2.2.2.2
 tab:Tabs w
structure ChkOk (cn kn mn rn ln:Nat) (s:Sc) (st:St):Prop where
 cn:cn<=1000000
 kn:kn<=1000000
 mn:mn<=maxLen
 rn:rn<=maxLen
 ln:ln<=maxLen
 sch:ScOk s
 mks:MkOk st.2.2.1
 it:ItOk st.2.2.2.1
section
variable {w w':World} {CA KA MA RA LA:Option Addr} {cn kn mn rn ln:Nat} {s:Sc} {st:St}
theorem ChkAt.on (h:ChkAt w CA cn KA kn s MA mn RA rn LA ln st) (hb:Below w.heap.size w w'):ChkAt w' CA cn KA kn s MA mn RA rn LA ln st:=⟨h.sch.on hb,h.st.on hb,h.tab.on hb⟩
theorem ChkAt.al (h:ChkAt w CA cn KA kn s MA mn RA rn LA ln st) (o:Obj):ChkAt (w.alloc o) CA cn KA kn s MA mn RA rn LA ln st:=h.on (bal (Below.refl _ _) o)
theorem StAt.lastlen {ms:List Mk} {l:List It} {last:List UInt8} (h:StAt w MA mn RA rn LA ln ms l last):last.length=ln:=reads_len h.last
end
set_option maxHeartbeats 4000000 in
theorem icheck_any (CA:Option Addr) (cn cc:Nat) (KA:Option Addr) (kn kc:Nat) (s:Sc) (MA:Option Addr) (mn mc:Nat) (RA:Option Addr) (rn rc:Nat) (LA:Option Addr) (ln lc:Nat) (st:St) (w:World) (h:ChkAt w CA cn KA kn s MA mn RA rn LA ln st) (hok:ChkOk cn kn mn rn ln s st) :
  Calls Tryz.prog 66 #[.agg #[.slice CA cn cc,.slice KA kn kc],.agg #[.int .i64 st.1,.int .i64 st.2.1,.slice MA mn mc,.slice RA rn rc,.slice LA ln lc]] w fun e w'=>e=.returned (errV (needO (stB s st) 2))/\Below w.heap.size w w':=by
 have Hok:=Lib.hid hok
 have Hlast:=Lib.hid h.st.lastlen
 obtain ⟨W,hW1⟩:∃ W,(w.alloc (.cells #[.slice CA cn cc,.slice KA kn kc] 48)).alloc (.cells #[.int .i64 st.1,.int .i64 st.2.1,.slice MA mn mc,.slice RA rn rc,.slice LA ln lc] 51)=W:=⟨_,rfl⟩
 have H:=Lib.hid (show ChkAt W CA cn KA kn s MA mn RA rn LA ln st by rw [<-hW1];exact (h.al _).al _)
 have HB:=Lib.hid (show Below w.heap.size w W by rw [<-hW1];exact bal (bal (Below.refl _ _) _) _)
 have BS:=Lib.hid (show Blk W w.heap.size 48 #[.slice CA cn cc,.slice KA kn kc] by rw [<-hW1];exact (Blk.new w _ _).alloc _)
 have BT:=Lib.hid (show Blk W (w.heap.size+1) 51 #[.int .i64 st.1,.int .i64 st.2.1,.slice MA mn mc,.slice RA rn rc,.slice LA ln lc] by rw [<-hW1];exact Blk.new' _ _ _ _ (by simp))
 have S0:=Lib.hid (show ∀ w',Below W.heap.size W w'->w'.cell? ⟨w.heap.size,0,none⟩=some (.slice CA cn cc) from fun w' h=>(BS.out.on h).cell 0)
 have S1:=Lib.hid (show ∀ w',Below W.heap.size W w'->w'.cell? ⟨w.heap.size,1,none⟩=some (.slice KA kn kc) from fun w' h=>(BS.out.on h).cell 1)
 have T0:=Lib.hid (show ∀ w',Below W.heap.size W w'->w'.cell? ⟨w.heap.size+1,0,none⟩=some (.int .i64 st.1) from fun w' h=>(BT.out.on h).cell 0)
 have T1:=Lib.hid (show ∀ w',Below W.heap.size W w'->w'.cell? ⟨w.heap.size+1,1,none⟩=some (.int .i64 st.2.1) from fun w' h=>(BT.out.on h).cell 1)
 have T2:=Lib.hid (show ∀ w',Below W.heap.size W w'->w'.cell? ⟨w.heap.size+1,2,none⟩=some (.slice MA mn mc) from fun w' h=>(BT.out.on h).cell 2)
 have T3:=Lib.hid (show ∀ w',Below W.heap.size W w'->w'.cell? ⟨w.heap.size+1,3,none⟩=some (.slice RA rn rc) from fun w' h=>(BT.out.on h).cell 3)
 have T4:=Lib.hid (show ∀ w',Below W.heap.size W w'->w'.cell? ⟨w.heap.size+1,4,none⟩=some (.slice LA ln lc) from fun w' h=>(BT.out.on h).cell 4)
 clear h hok BS BT
 obtain ⟨v,hv⟩:∃ v,v=st.1:=⟨_,rfl⟩
 obtain ⟨q,hq⟩:∃ q,q=st.2.1:=⟨_,rfl⟩
 rw [<-hv] at hW1 T0 ⊢
 rw [<-hq] at hW1 T1 ⊢
 cases hs:schB s with
 | false=>
  have HN0:=Lib.hid (show stB s st=false by unfold stB;rw [hs];simp)
  have Hs:=Lib.hid (show schE s=2 from schE_no hs)
  clear hs hv hq
  go_enter Tryz.func66,Tryz.ntmps66
  go_wp2
  try rw [hW1]
  clear hW1
  have hS:Below W.heap.size W W.drew:=(Below.refl _ _).drew
  refine hR (fun w'=>Below W.heap.size W w') [ff 0,ff 25,ff 26,tt 1,ff 2,ff 3,ff 4,ff 5,ff 6,ff 7,ff 8,ff 9,ff 10,ff 11,ff 12,ff 13,ff 14,ff 15,ff 16,ff 17,ff 18,ff 19,ff 20,ff 21,ff 22,ff 23,tt 24,tt 27,ff 28,ff 29,ff 30,ff 31,ff 32,tt 33,ff 34,tt 35,tt 36,tt 37,ff 38] ?_
  refine hP2 hS S0.out S1.out ?_
  refine hP hS ?_
  refine hP1 hS T2.out ?_
  refine hE fun K hK=>?_
  go_simp
  with_reducible refine (scheck_any CA cn cc KA kn kc s _ (H.out.on hS).sch Hok.out.cn Hok.out.kn Hok.out.sch (H.out.on hS).tab).mono ?_
  rintro e w6 ⟨rfl,hb6⟩
  have HS:=Lib.hid (bon hS hb6)
  clear hb6
  refine held_go hK (by exact HS.out) fun hS=>?_
  clear hK K
  try simp only [zp]
  clear HS
  rw [Hs.out]
  refine hP hS ?_
  refine hP hS ?_
  refine hO hS ?_
  refine hO hS ?_
  refine hO hS ?_
  refine hP hS ?_
  refine hP hS ?_
  refine hO hS ?_
  refine hO hS ?_
  refine hO hS ?_
  refine hP hS ?_
  refine hP hS ?_
  refine hO hS ?_
  refine hO hS ?_
  refine hO hS ?_
  refine hP hS ?_
  refine hP hS ?_
  refine hO hS ?_
  refine hO hS ?_
  refine hO hS ?_
  refine hO hS ?_
  refine hP hS ?_
  refine hE fun K hK=>?_
  go_simp
  with_reducible refine (ineed_no 2 _).mono ?_
  rintro e w5 ⟨rfl,rfl⟩
  refine held_go hK hS fun hS=>?_
  clear hK K
  try simp only [zp]
  refine hE fun K hK=>?_
  go_simp
  with_reducible refine (marks_any MA mn mc st.2.2.1 _ (H.out.on hS).st.marks Hok.out.mn Hok.out.mks).mono ?_
  rintro e w6 ⟨rfl,hb6⟩
  have HS:=Lib.hid (bon hS hb6)
  clear hb6
  refine held_go hK (by exact HS.out) fun hS=>?_
  clear hK K
  try simp only [zp]
  clear HS
  cases hm:marksB st.2.2.1 with
  | false=>
   have HN:=Lib.hid (show stB s st=false by unfold stB;rw [hm];simp)
   clear hm
   refine hP hS ?_
   refine hO hS ?_
   refine hO hS ?_
   refine hO hS ?_
   refine hO hS ?_
   refine held_eff rfl fun K hK=>?_
   go_simp
   refine held_go hK hS fun hS=>?_
   clear hK K
   try simp only [zp]
   refine hP hS ?_
   refine hE fun K hK=>?_
   go_simp
   with_reducible refine (ineed_no 2 _).mono ?_
   rintro e w5 ⟨rfl,rfl⟩
   refine held_go hK hS fun hS=>?_
   clear hK K
   try simp only [zp]
   refine hE fun K hK=>?_
   go_simp
   generalize hw5:World.alloc _ _=w7
   have HE:=Lib.hid (show Blk w7 _ 102 (([some 2,some 2]:List (Option Int)).map errV).toArray by rw [<-hw5];exact Blk.new _ _ _)
   have hS7:Below W.heap.size W w7:=by rw [<-hw5];exact bal hS _
   clear hw5
   refine held_go hK (by exact hS7) fun hS=>?_
   clear hK K
   try simp only [zp]
   clear hS7
   refine hE fun K hK=>?_
   go_simp
   with_reducible refine (ifirst_any _ 2 2 [some 2,some 2] _ HE.out rfl (by decide)).mono ?_
   rintro e w8 ⟨rfl,rfl⟩
   clear HE
   refine held_go hK hS fun hS=>?_
   clear hK K
   try simp only [zp]
   refine hP hS ?_
   refine held_end ?_
   go_wp2
   go_ret
   exact ⟨by rw [HN.out];rfl,bon HB.out hS⟩
  | true=>
   have Hm:=Lib.hid hm
   clear hm
   refine hP hS ?_
   refine hP hS ?_
   refine hP1 hS S0.out ?_
   refine hP hS ?_
   refine hP1 hS T3.out ?_
   refine hE fun K hK=>?_
   go_simp
   with_reducible refine (irows_any CA cn cc s.1 RA rn rc st.2.2.2.1 _ (H.out.on hS).sch.cols (H.out.on hS).st.rows Hok.out.rn (H.out.on hS).tab).mono ?_
   rintro e w6 ⟨rfl,hb6⟩
   have HS:=Lib.hid (bon hS hb6)
   clear hb6
   refine held_go hK (by exact HS.out) fun hS=>?_
   clear hK K
   try simp only [zp]
   clear HS
   cases hr:rowsB s.1 st.2.2.2.1 with
   | false=>
    have HN:=Lib.hid (show stB s st=false by unfold stB;rw [hr];simp)
    clear hr
    refine hP hS ?_
    refine hE fun K hK=>?_
    go_simp
    with_reducible refine (ineed_no 2 _).mono ?_
    rintro e w5 ⟨rfl,rfl⟩
    refine held_go hK hS fun hS=>?_
    clear hK K
    try simp only [zp]
    refine hE fun K hK=>?_
    go_simp
    generalize hw5:World.alloc _ _=w7
    have HE:=Lib.hid (show Blk w7 _ 102 (([some 2,some 2]:List (Option Int)).map errV).toArray by rw [<-hw5];exact Blk.new _ _ _)
    have hS7:Below W.heap.size W w7:=by rw [<-hw5];exact bal hS _
    clear hw5
    refine held_go hK (by exact hS7) fun hS=>?_
    clear hK K
    try simp only [zp]
    clear hS7
    refine hE fun K hK=>?_
    go_simp
    with_reducible refine (ifirst_any _ 2 2 [some 2,some 2] _ HE.out rfl (by decide)).mono ?_
    rintro e w8 ⟨rfl,rfl⟩
    clear HE
    refine held_go hK hS fun hS=>?_
    clear hK K
    try simp only [zp]
    refine hP hS ?_
    refine held_end ?_
    go_wp2
    go_ret
    exact ⟨by rw [HN.out];rfl,bon HB.out hS⟩
   | true=>
    have HN:=Lib.hid (show stB s st=false by exact HN0.out)
    clear hr
    refine hP hS ?_
    refine hE fun K hK=>?_
    go_simp
    with_reducible refine (ineed_yes 2 _).mono ?_
    rintro e w5 ⟨rfl,rfl⟩
    refine held_go hK hS fun hS=>?_
    clear hK K
    try simp only [zp]
    refine hE fun K hK=>?_
    go_simp
    generalize hw5:World.alloc _ _=w7
    have HE:=Lib.hid (show Blk w7 _ 102 (([some 2,none]:List (Option Int)).map errV).toArray by rw [<-hw5];exact Blk.new _ _ _)
    have hS7:Below W.heap.size W w7:=by rw [<-hw5];exact bal hS _
    clear hw5
    refine held_go hK (by exact hS7) fun hS=>?_
    clear hK K
    try simp only [zp]
    clear hS7
    refine hE fun K hK=>?_
    go_simp
    with_reducible refine (ifirst_any _ 2 2 [some 2,none] _ HE.out rfl (by decide)).mono ?_
    rintro e w8 ⟨rfl,rfl⟩
    clear HE
    refine held_go hK hS fun hS=>?_
    clear hK K
    try simp only [zp]
    refine hP hS ?_
    refine held_end ?_
    go_wp2
    go_ret
    exact ⟨by rw [HN.out];rfl,bon HB.out hS⟩
 | true=>
  have Hs:=Lib.hid (show schE s=0 from schE_yes hs)
  have Hs1:=Lib.hid hs
  clear hs
  by_cases r1:1<=v
  case neg=>
   have e1:decide (1<=v)=false:=by simpa using r1
   have HN0:=Lib.hid (show stB s st=false by unfold stB;rw [decide_eq_false (show ¬(1<=st.1/\st.1<=64/\0<=st.2.1) by omega)];simp)
   clear hv hq
   go_enter Tryz.func66,Tryz.ntmps66
   go_wp2
   try rw [hW1]
   clear hW1
   have hS:Below W.heap.size W W.drew:=(Below.refl _ _).drew
   refine hR (fun w'=>Below W.heap.size W w') [ff 0,ff 25,ff 26,tt 1,ff 2,ff 3,ff 4,ff 5,ff 6,ff 7,ff 8,ff 9,ff 10,ff 11,ff 12,ff 13,ff 14,ff 15,ff 16,ff 17,ff 18,ff 19,ff 20,ff 21,ff 22,ff 23,tt 24,tt 27,ff 28,ff 29,ff 30,ff 31,ff 32,tt 33,ff 34,tt 35,tt 36,tt 37,ff 38] ?_
   refine hP2 hS S0.out S1.out ?_
   refine hP hS ?_
   refine hP1 hS T2.out ?_
   refine hE fun K hK=>?_
   go_simp
   with_reducible refine (scheck_any CA cn cc KA kn kc s _ (H.out.on hS).sch Hok.out.cn Hok.out.kn Hok.out.sch (H.out.on hS).tab).mono ?_
   rintro e w6 ⟨rfl,hb6⟩
   have HS:=Lib.hid (bon hS hb6)
   clear hb6
   refine held_go hK (by exact HS.out) fun hS=>?_
   clear hK K
   try simp only [zp]
   clear HS
   rw [Hs.out]
   refine hP hS ?_
   refine hP hS ?_
   refine hP hS ?_
   refine hP1 hS T0.out ?_
   iterate 3
    refine hP hS ?_
   refine hO hS ?_
   refine hO hS ?_
   refine hO hS ?_
   refine hP hS ?_
   refine hP hS ?_
   refine hO hS ?_
   refine hO hS ?_
   refine hO hS ?_
   refine hP hS ?_
   refine hP hS ?_
   refine hO hS ?_
   refine hO hS ?_
   refine hO hS ?_
   refine hO hS ?_
   refine hP hS ?_
   refine hE fun K hK=>?_
   go_simp
   with_reducible refine (ineed_no 2 _).mono ?_
   rintro e w5 ⟨rfl,rfl⟩
   refine held_go hK hS fun hS=>?_
   clear hK K
   try simp only [zp]
   refine hE fun K hK=>?_
   go_simp
   with_reducible refine (marks_any MA mn mc st.2.2.1 _ (H.out.on hS).st.marks Hok.out.mn Hok.out.mks).mono ?_
   rintro e w6 ⟨rfl,hb6⟩
   have HS:=Lib.hid (bon hS hb6)
   clear hb6
   refine held_go hK (by exact HS.out) fun hS=>?_
   clear hK K
   try simp only [zp]
   clear HS
   cases hm:marksB st.2.2.1 with
   | false=>
    have HN:=Lib.hid (show stB s st=false by unfold stB;rw [hm];simp)
    clear hm
    refine hP hS ?_
    refine hO hS ?_
    refine hO hS ?_
    refine hO hS ?_
    refine hO hS ?_
    refine held_eff rfl fun K hK=>?_
    go_simp
    refine held_go hK hS fun hS=>?_
    clear hK K
    try simp only [zp]
    refine hP hS ?_
    refine hE fun K hK=>?_
    go_simp
    with_reducible refine (ineed_no 2 _).mono ?_
    rintro e w5 ⟨rfl,rfl⟩
    refine held_go hK hS fun hS=>?_
    clear hK K
    try simp only [zp]
    refine hE fun K hK=>?_
    go_simp
    generalize hw5:World.alloc _ _=w7
    have HE:=Lib.hid (show Blk w7 _ 102 (([some 2,some 2]:List (Option Int)).map errV).toArray by rw [<-hw5];exact Blk.new _ _ _)
    have hS7:Below W.heap.size W w7:=by rw [<-hw5];exact bal hS _
    clear hw5
    refine held_go hK (by exact hS7) fun hS=>?_
    clear hK K
    try simp only [zp]
    clear hS7
    refine hE fun K hK=>?_
    go_simp
    with_reducible refine (ifirst_any _ 2 2 [some 2,some 2] _ HE.out rfl (by decide)).mono ?_
    rintro e w8 ⟨rfl,rfl⟩
    clear HE
    refine held_go hK hS fun hS=>?_
    clear hK K
    try simp only [zp]
    refine hP hS ?_
    refine held_end ?_
    go_wp2
    go_ret
    exact ⟨by rw [HN.out];rfl,bon HB.out hS⟩
   | true=>
    have Hm:=Lib.hid hm
    clear hm
    refine hP hS ?_
    refine hP hS ?_
    refine hP1 hS S0.out ?_
    refine hP hS ?_
    refine hP1 hS T3.out ?_
    refine hE fun K hK=>?_
    go_simp
    with_reducible refine (irows_any CA cn cc s.1 RA rn rc st.2.2.2.1 _ (H.out.on hS).sch.cols (H.out.on hS).st.rows Hok.out.rn (H.out.on hS).tab).mono ?_
    rintro e w6 ⟨rfl,hb6⟩
    have HS:=Lib.hid (bon hS hb6)
    clear hb6
    refine held_go hK (by exact HS.out) fun hS=>?_
    clear hK K
    try simp only [zp]
    clear HS
    cases hr:rowsB s.1 st.2.2.2.1 with
    | false=>
     have HN:=Lib.hid (show stB s st=false by unfold stB;rw [hr];simp)
     clear hr
     refine hP hS ?_
     refine hE fun K hK=>?_
     go_simp
     with_reducible refine (ineed_no 2 _).mono ?_
     rintro e w5 ⟨rfl,rfl⟩
     refine held_go hK hS fun hS=>?_
     clear hK K
     try simp only [zp]
     refine hE fun K hK=>?_
     go_simp
     generalize hw5:World.alloc _ _=w7
     have HE:=Lib.hid (show Blk w7 _ 102 (([some 2,some 2]:List (Option Int)).map errV).toArray by rw [<-hw5];exact Blk.new _ _ _)
     have hS7:Below W.heap.size W w7:=by rw [<-hw5];exact bal hS _
     clear hw5
     refine held_go hK (by exact hS7) fun hS=>?_
     clear hK K
     try simp only [zp]
     clear hS7
     refine hE fun K hK=>?_
     go_simp
     with_reducible refine (ifirst_any _ 2 2 [some 2,some 2] _ HE.out rfl (by decide)).mono ?_
     rintro e w8 ⟨rfl,rfl⟩
     clear HE
     refine held_go hK hS fun hS=>?_
     clear hK K
     try simp only [zp]
     refine hP hS ?_
     refine held_end ?_
     go_wp2
     go_ret
     exact ⟨by rw [HN.out];rfl,bon HB.out hS⟩
    | true=>
     have HN:=Lib.hid (show stB s st=false by exact HN0.out)
     clear hr
     refine hP hS ?_
     refine hE fun K hK=>?_
     go_simp
     with_reducible refine (ineed_yes 2 _).mono ?_
     rintro e w5 ⟨rfl,rfl⟩
     refine held_go hK hS fun hS=>?_
     clear hK K
     try simp only [zp]
     refine hE fun K hK=>?_
     go_simp
     generalize hw5:World.alloc _ _=w7
     have HE:=Lib.hid (show Blk w7 _ 102 (([some 2,none]:List (Option Int)).map errV).toArray by rw [<-hw5];exact Blk.new _ _ _)
     have hS7:Below W.heap.size W w7:=by rw [<-hw5];exact bal hS _
     clear hw5
     refine held_go hK (by exact hS7) fun hS=>?_
     clear hK K
     try simp only [zp]
     clear hS7
     refine hE fun K hK=>?_
     go_simp
     with_reducible refine (ifirst_any _ 2 2 [some 2,none] _ HE.out rfl (by decide)).mono ?_
     rintro e w8 ⟨rfl,rfl⟩
     clear HE
     refine held_go hK hS fun hS=>?_
     clear hK K
     try simp only [zp]
     refine hP hS ?_
     refine held_end ?_
     go_wp2
     go_ret
     exact ⟨by rw [HN.out];rfl,bon HB.out hS⟩
  have e1:decide (1<=v)=true:=by simpa using r1
  by_cases r2:v<=64
  case neg=>
   have e2:decide (v<=64)=false:=by simpa using r2
   have HN0:=Lib.hid (show stB s st=false by unfold stB;rw [decide_eq_false (show ¬(1<=st.1/\st.1<=64/\0<=st.2.1) by omega)];simp)
   clear hv hq
   go_enter Tryz.func66,Tryz.ntmps66
   go_wp2
   try rw [hW1]
   clear hW1
   have hS:Below W.heap.size W W.drew:=(Below.refl _ _).drew
   refine hR (fun w'=>Below W.heap.size W w') [ff 0,ff 25,ff 26,tt 1,ff 2,ff 3,ff 4,ff 5,ff 6,ff 7,ff 8,ff 9,ff 10,ff 11,ff 12,ff 13,ff 14,ff 15,ff 16,ff 17,ff 18,ff 19,ff 20,ff 21,ff 22,ff 23,tt 24,tt 27,ff 28,ff 29,ff 30,ff 31,ff 32,tt 33,ff 34,tt 35,tt 36,tt 37,ff 38] ?_
   refine hP2 hS S0.out S1.out ?_
   refine hP hS ?_
   refine hP1 hS T2.out ?_
   refine hE fun K hK=>?_
   go_simp
   with_reducible refine (scheck_any CA cn cc KA kn kc s _ (H.out.on hS).sch Hok.out.cn Hok.out.kn Hok.out.sch (H.out.on hS).tab).mono ?_
   rintro e w6 ⟨rfl,hb6⟩
   have HS:=Lib.hid (bon hS hb6)
   clear hb6
   refine held_go hK (by exact HS.out) fun hS=>?_
   clear hK K
   try simp only [zp]
   clear HS
   rw [Hs.out]
   refine hP hS ?_
   refine hP hS ?_
   refine hP hS ?_
   refine hP1 hS T0.out ?_
   iterate 3
    refine hP hS ?_
   refine hP hS ?_
   refine hP1 hS T0.out ?_
   iterate 3
    refine hP hS ?_
   refine hO hS ?_
   refine hO hS ?_
   refine hO hS ?_
   refine hP hS ?_
   refine hP hS ?_
   refine hO hS ?_
   refine hO hS ?_
   refine hO hS ?_
   refine hO hS ?_
   refine hP hS ?_
   refine hE fun K hK=>?_
   go_simp
   with_reducible refine (ineed_no 2 _).mono ?_
   rintro e w5 ⟨rfl,rfl⟩
   refine held_go hK hS fun hS=>?_
   clear hK K
   try simp only [zp]
   refine hE fun K hK=>?_
   go_simp
   with_reducible refine (marks_any MA mn mc st.2.2.1 _ (H.out.on hS).st.marks Hok.out.mn Hok.out.mks).mono ?_
   rintro e w6 ⟨rfl,hb6⟩
   have HS:=Lib.hid (bon hS hb6)
   clear hb6
   refine held_go hK (by exact HS.out) fun hS=>?_
   clear hK K
   try simp only [zp]
   clear HS
   cases hm:marksB st.2.2.1 with
   | false=>
    have HN:=Lib.hid (show stB s st=false by unfold stB;rw [hm];simp)
    clear hm
    refine hP hS ?_
    refine hO hS ?_
    refine hO hS ?_
    refine hO hS ?_
    refine hO hS ?_
    refine held_eff rfl fun K hK=>?_
    go_simp
    refine held_go hK hS fun hS=>?_
    clear hK K
    try simp only [zp]
    refine hP hS ?_
    refine hE fun K hK=>?_
    go_simp
    with_reducible refine (ineed_no 2 _).mono ?_
    rintro e w5 ⟨rfl,rfl⟩
    refine held_go hK hS fun hS=>?_
    clear hK K
    try simp only [zp]
    refine hE fun K hK=>?_
    go_simp
    generalize hw5:World.alloc _ _=w7
    have HE:=Lib.hid (show Blk w7 _ 102 (([some 2,some 2]:List (Option Int)).map errV).toArray by rw [<-hw5];exact Blk.new _ _ _)
    have hS7:Below W.heap.size W w7:=by rw [<-hw5];exact bal hS _
    clear hw5
    refine held_go hK (by exact hS7) fun hS=>?_
    clear hK K
    try simp only [zp]
    clear hS7
    refine hE fun K hK=>?_
    go_simp
    with_reducible refine (ifirst_any _ 2 2 [some 2,some 2] _ HE.out rfl (by decide)).mono ?_
    rintro e w8 ⟨rfl,rfl⟩
    clear HE
    refine held_go hK hS fun hS=>?_
    clear hK K
    try simp only [zp]
    refine hP hS ?_
    refine held_end ?_
    go_wp2
    go_ret
    exact ⟨by rw [HN.out];rfl,bon HB.out hS⟩
   | true=>
    have Hm:=Lib.hid hm
    clear hm
    refine hP hS ?_
    refine hP hS ?_
    refine hP1 hS S0.out ?_
    refine hP hS ?_
    refine hP1 hS T3.out ?_
    refine hE fun K hK=>?_
    go_simp
    with_reducible refine (irows_any CA cn cc s.1 RA rn rc st.2.2.2.1 _ (H.out.on hS).sch.cols (H.out.on hS).st.rows Hok.out.rn (H.out.on hS).tab).mono ?_
    rintro e w6 ⟨rfl,hb6⟩
    have HS:=Lib.hid (bon hS hb6)
    clear hb6
    refine held_go hK (by exact HS.out) fun hS=>?_
    clear hK K
    try simp only [zp]
    clear HS
    cases hr:rowsB s.1 st.2.2.2.1 with
    | false=>
     have HN:=Lib.hid (show stB s st=false by unfold stB;rw [hr];simp)
     clear hr
     refine hP hS ?_
     refine hE fun K hK=>?_
     go_simp
     with_reducible refine (ineed_no 2 _).mono ?_
     rintro e w5 ⟨rfl,rfl⟩
     refine held_go hK hS fun hS=>?_
     clear hK K
     try simp only [zp]
     refine hE fun K hK=>?_
     go_simp
     generalize hw5:World.alloc _ _=w7
     have HE:=Lib.hid (show Blk w7 _ 102 (([some 2,some 2]:List (Option Int)).map errV).toArray by rw [<-hw5];exact Blk.new _ _ _)
     have hS7:Below W.heap.size W w7:=by rw [<-hw5];exact bal hS _
     clear hw5
     refine held_go hK (by exact hS7) fun hS=>?_
     clear hK K
     try simp only [zp]
     clear hS7
     refine hE fun K hK=>?_
     go_simp
     with_reducible refine (ifirst_any _ 2 2 [some 2,some 2] _ HE.out rfl (by decide)).mono ?_
     rintro e w8 ⟨rfl,rfl⟩
     clear HE
     refine held_go hK hS fun hS=>?_
     clear hK K
     try simp only [zp]
     refine hP hS ?_
     refine held_end ?_
     go_wp2
     go_ret
     exact ⟨by rw [HN.out];rfl,bon HB.out hS⟩
    | true=>
     have HN:=Lib.hid (show stB s st=false by exact HN0.out)
     clear hr
     refine hP hS ?_
     refine hE fun K hK=>?_
     go_simp
     with_reducible refine (ineed_yes 2 _).mono ?_
     rintro e w5 ⟨rfl,rfl⟩
     refine held_go hK hS fun hS=>?_
     clear hK K
     try simp only [zp]
     refine hE fun K hK=>?_
     go_simp
     generalize hw5:World.alloc _ _=w7
     have HE:=Lib.hid (show Blk w7 _ 102 (([some 2,none]:List (Option Int)).map errV).toArray by rw [<-hw5];exact Blk.new _ _ _)
     have hS7:Below W.heap.size W w7:=by rw [<-hw5];exact bal hS _
     clear hw5
     refine held_go hK (by exact hS7) fun hS=>?_
     clear hK K
     try simp only [zp]
     clear hS7
     refine hE fun K hK=>?_
     go_simp
     with_reducible refine (ifirst_any _ 2 2 [some 2,none] _ HE.out rfl (by decide)).mono ?_
     rintro e w8 ⟨rfl,rfl⟩
     clear HE
     refine held_go hK hS fun hS=>?_
     clear hK K
     try simp only [zp]
     refine hP hS ?_
     refine held_end ?_
     go_wp2
     go_ret
     exact ⟨by rw [HN.out];rfl,bon HB.out hS⟩
  have e2:decide (v<=64)=true:=by simpa using r2
  by_cases r3:0<=q
  case neg=>
   have e3:decide (0<=q)=false:=by simpa using r3
   have HN0:=Lib.hid (show stB s st=false by unfold stB;rw [decide_eq_false (show ¬(1<=st.1/\st.1<=64/\0<=st.2.1) by omega)];simp)
   clear hv hq
   go_enter Tryz.func66,Tryz.ntmps66
   go_wp2
   try rw [hW1]
   clear hW1
   have hS:Below W.heap.size W W.drew:=(Below.refl _ _).drew
   refine hR (fun w'=>Below W.heap.size W w') [ff 0,ff 25,ff 26,tt 1,ff 2,ff 3,ff 4,ff 5,ff 6,ff 7,ff 8,ff 9,ff 10,ff 11,ff 12,ff 13,ff 14,ff 15,ff 16,ff 17,ff 18,ff 19,ff 20,ff 21,ff 22,ff 23,tt 24,tt 27,ff 28,ff 29,ff 30,ff 31,ff 32,tt 33,ff 34,tt 35,tt 36,tt 37,ff 38] ?_
   refine hP2 hS S0.out S1.out ?_
   refine hP hS ?_
   refine hP1 hS T2.out ?_
   refine hE fun K hK=>?_
   go_simp
   with_reducible refine (scheck_any CA cn cc KA kn kc s _ (H.out.on hS).sch Hok.out.cn Hok.out.kn Hok.out.sch (H.out.on hS).tab).mono ?_
   rintro e w6 ⟨rfl,hb6⟩
   have HS:=Lib.hid (bon hS hb6)
   clear hb6
   refine held_go hK (by exact HS.out) fun hS=>?_
   clear hK K
   try simp only [zp]
   clear HS
   rw [Hs.out]
   refine hP hS ?_
   refine hP hS ?_
   refine hP hS ?_
   refine hP1 hS T0.out ?_
   iterate 3
    refine hP hS ?_
   refine hP hS ?_
   refine hP1 hS T0.out ?_
   iterate 3
    refine hP hS ?_
   refine hP hS ?_
   refine hP1 hS T1.out ?_
   iterate 3
    refine hP hS ?_
   refine hO hS ?_
   refine hO hS ?_
   refine hO hS ?_
   refine hO hS ?_
   refine hP hS ?_
   refine hE fun K hK=>?_
   go_simp
   with_reducible refine (ineed_no 2 _).mono ?_
   rintro e w5 ⟨rfl,rfl⟩
   refine held_go hK hS fun hS=>?_
   clear hK K
   try simp only [zp]
   refine hE fun K hK=>?_
   go_simp
   with_reducible refine (marks_any MA mn mc st.2.2.1 _ (H.out.on hS).st.marks Hok.out.mn Hok.out.mks).mono ?_
   rintro e w6 ⟨rfl,hb6⟩
   have HS:=Lib.hid (bon hS hb6)
   clear hb6
   refine held_go hK (by exact HS.out) fun hS=>?_
   clear hK K
   try simp only [zp]
   clear HS
   cases hm:marksB st.2.2.1 with
   | false=>
    have HN:=Lib.hid (show stB s st=false by unfold stB;rw [hm];simp)
    clear hm
    refine hP hS ?_
    refine hO hS ?_
    refine hO hS ?_
    refine hO hS ?_
    refine hO hS ?_
    refine held_eff rfl fun K hK=>?_
    go_simp
    refine held_go hK hS fun hS=>?_
    clear hK K
    try simp only [zp]
    refine hP hS ?_
    refine hE fun K hK=>?_
    go_simp
    with_reducible refine (ineed_no 2 _).mono ?_
    rintro e w5 ⟨rfl,rfl⟩
    refine held_go hK hS fun hS=>?_
    clear hK K
    try simp only [zp]
    refine hE fun K hK=>?_
    go_simp
    generalize hw5:World.alloc _ _=w7
    have HE:=Lib.hid (show Blk w7 _ 102 (([some 2,some 2]:List (Option Int)).map errV).toArray by rw [<-hw5];exact Blk.new _ _ _)
    have hS7:Below W.heap.size W w7:=by rw [<-hw5];exact bal hS _
    clear hw5
    refine held_go hK (by exact hS7) fun hS=>?_
    clear hK K
    try simp only [zp]
    clear hS7
    refine hE fun K hK=>?_
    go_simp
    with_reducible refine (ifirst_any _ 2 2 [some 2,some 2] _ HE.out rfl (by decide)).mono ?_
    rintro e w8 ⟨rfl,rfl⟩
    clear HE
    refine held_go hK hS fun hS=>?_
    clear hK K
    try simp only [zp]
    refine hP hS ?_
    refine held_end ?_
    go_wp2
    go_ret
    exact ⟨by rw [HN.out];rfl,bon HB.out hS⟩
   | true=>
    have Hm:=Lib.hid hm
    clear hm
    refine hP hS ?_
    refine hP hS ?_
    refine hP1 hS S0.out ?_
    refine hP hS ?_
    refine hP1 hS T3.out ?_
    refine hE fun K hK=>?_
    go_simp
    with_reducible refine (irows_any CA cn cc s.1 RA rn rc st.2.2.2.1 _ (H.out.on hS).sch.cols (H.out.on hS).st.rows Hok.out.rn (H.out.on hS).tab).mono ?_
    rintro e w6 ⟨rfl,hb6⟩
    have HS:=Lib.hid (bon hS hb6)
    clear hb6
    refine held_go hK (by exact HS.out) fun hS=>?_
    clear hK K
    try simp only [zp]
    clear HS
    cases hr:rowsB s.1 st.2.2.2.1 with
    | false=>
     have HN:=Lib.hid (show stB s st=false by unfold stB;rw [hr];simp)
     clear hr
     refine hP hS ?_
     refine hE fun K hK=>?_
     go_simp
     with_reducible refine (ineed_no 2 _).mono ?_
     rintro e w5 ⟨rfl,rfl⟩
     refine held_go hK hS fun hS=>?_
     clear hK K
     try simp only [zp]
     refine hE fun K hK=>?_
     go_simp
     generalize hw5:World.alloc _ _=w7
     have HE:=Lib.hid (show Blk w7 _ 102 (([some 2,some 2]:List (Option Int)).map errV).toArray by rw [<-hw5];exact Blk.new _ _ _)
     have hS7:Below W.heap.size W w7:=by rw [<-hw5];exact bal hS _
     clear hw5
     refine held_go hK (by exact hS7) fun hS=>?_
     clear hK K
     try simp only [zp]
     clear hS7
     refine hE fun K hK=>?_
     go_simp
     with_reducible refine (ifirst_any _ 2 2 [some 2,some 2] _ HE.out rfl (by decide)).mono ?_
     rintro e w8 ⟨rfl,rfl⟩
     clear HE
     refine held_go hK hS fun hS=>?_
     clear hK K
     try simp only [zp]
     refine hP hS ?_
     refine held_end ?_
     go_wp2
     go_ret
     exact ⟨by rw [HN.out];rfl,bon HB.out hS⟩
    | true=>
     have HN:=Lib.hid (show stB s st=false by exact HN0.out)
     clear hr
     refine hP hS ?_
     refine hE fun K hK=>?_
     go_simp
     with_reducible refine (ineed_yes 2 _).mono ?_
     rintro e w5 ⟨rfl,rfl⟩
     refine held_go hK hS fun hS=>?_
     clear hK K
     try simp only [zp]
     refine hE fun K hK=>?_
     go_simp
     generalize hw5:World.alloc _ _=w7
     have HE:=Lib.hid (show Blk w7 _ 102 (([some 2,none]:List (Option Int)).map errV).toArray by rw [<-hw5];exact Blk.new _ _ _)
     have hS7:Below W.heap.size W w7:=by rw [<-hw5];exact bal hS _
     clear hw5
     refine held_go hK (by exact hS7) fun hS=>?_
     clear hK K
     try simp only [zp]
     clear hS7
     refine hE fun K hK=>?_
     go_simp
     with_reducible refine (ifirst_any _ 2 2 [some 2,none] _ HE.out rfl (by decide)).mono ?_
     rintro e w8 ⟨rfl,rfl⟩
     clear HE
     refine held_go hK hS fun hS=>?_
     clear hK K
     try simp only [zp]
     refine hP hS ?_
     refine held_end ?_
     go_wp2
     go_ret
     exact ⟨by rw [HN.out];rfl,bon HB.out hS⟩
  have e3:decide (0<=q)=true:=by simpa using r3
  have HV:=Lib.hid (show 1<=st.1/\st.1<=64/\0<=st.2.1 by omega)
  clear hv hq
  by_cases r4:ln<=1048576
  case neg=>
   have e4:decide ((ln:Int)<=1048576)=false:=by simp;omega
   have HN0:=Lib.hid (show stB s st=false by unfold stB;rw [decide_eq_false (show ¬st.2.2.2.2.length<=1048576 by rw [Hlast.out];omega)];simp)
   go_enter Tryz.func66,Tryz.ntmps66
   go_wp2
   try rw [hW1]
   clear hW1
   have hS:Below W.heap.size W W.drew:=(Below.refl _ _).drew
   refine hR (fun w'=>Below W.heap.size W w') [ff 0,ff 25,ff 26,tt 1,ff 2,ff 3,ff 4,ff 5,ff 6,ff 7,ff 8,ff 9,ff 10,ff 11,ff 12,ff 13,ff 14,ff 15,ff 16,ff 17,ff 18,ff 19,ff 20,ff 21,ff 22,ff 23,tt 24,tt 27,ff 28,ff 29,ff 30,ff 31,ff 32,tt 33,ff 34,tt 35,tt 36,tt 37,ff 38] ?_
   refine hP2 hS S0.out S1.out ?_
   refine hP hS ?_
   refine hP1 hS T2.out ?_
   refine hE fun K hK=>?_
   go_simp
   with_reducible refine (scheck_any CA cn cc KA kn kc s _ (H.out.on hS).sch Hok.out.cn Hok.out.kn Hok.out.sch (H.out.on hS).tab).mono ?_
   rintro e w6 ⟨rfl,hb6⟩
   have HS:=Lib.hid (bon hS hb6)
   clear hb6
   refine held_go hK (by exact HS.out) fun hS=>?_
   clear hK K
   try simp only [zp]
   clear HS
   rw [Hs.out]
   refine hP hS ?_
   refine hP hS ?_
   refine hP hS ?_
   refine hP1 hS T0.out ?_
   iterate 3
    refine hP hS ?_
   refine hP hS ?_
   refine hP1 hS T0.out ?_
   iterate 3
    refine hP hS ?_
   refine hP hS ?_
   refine hP1 hS T1.out ?_
   iterate 3
    refine hP hS ?_
   refine hP hS ?_
   refine hP1 hS T4.out ?_
   iterate 3
    refine hP hS ?_
   refine hE fun K hK=>?_
   go_simp
   with_reducible refine (ineed_no 2 _).mono ?_
   rintro e w5 ⟨rfl,rfl⟩
   refine held_go hK hS fun hS=>?_
   clear hK K
   try simp only [zp]
   refine hE fun K hK=>?_
   go_simp
   with_reducible refine (marks_any MA mn mc st.2.2.1 _ (H.out.on hS).st.marks Hok.out.mn Hok.out.mks).mono ?_
   rintro e w6 ⟨rfl,hb6⟩
   have HS:=Lib.hid (bon hS hb6)
   clear hb6
   refine held_go hK (by exact HS.out) fun hS=>?_
   clear hK K
   try simp only [zp]
   clear HS
   cases hm:marksB st.2.2.1 with
   | false=>
    have HN:=Lib.hid (show stB s st=false by unfold stB;rw [hm];simp)
    clear hm
    refine hP hS ?_
    refine hO hS ?_
    refine hO hS ?_
    refine hO hS ?_
    refine hO hS ?_
    refine held_eff rfl fun K hK=>?_
    go_simp
    refine held_go hK hS fun hS=>?_
    clear hK K
    try simp only [zp]
    refine hP hS ?_
    refine hE fun K hK=>?_
    go_simp
    with_reducible refine (ineed_no 2 _).mono ?_
    rintro e w5 ⟨rfl,rfl⟩
    refine held_go hK hS fun hS=>?_
    clear hK K
    try simp only [zp]
    refine hE fun K hK=>?_
    go_simp
    generalize hw5:World.alloc _ _=w7
    have HE:=Lib.hid (show Blk w7 _ 102 (([some 2,some 2]:List (Option Int)).map errV).toArray by rw [<-hw5];exact Blk.new _ _ _)
    have hS7:Below W.heap.size W w7:=by rw [<-hw5];exact bal hS _
    clear hw5
    refine held_go hK (by exact hS7) fun hS=>?_
    clear hK K
    try simp only [zp]
    clear hS7
    refine hE fun K hK=>?_
    go_simp
    with_reducible refine (ifirst_any _ 2 2 [some 2,some 2] _ HE.out rfl (by decide)).mono ?_
    rintro e w8 ⟨rfl,rfl⟩
    clear HE
    refine held_go hK hS fun hS=>?_
    clear hK K
    try simp only [zp]
    refine hP hS ?_
    refine held_end ?_
    go_wp2
    go_ret
    exact ⟨by rw [HN.out];rfl,bon HB.out hS⟩
   | true=>
    have Hm:=Lib.hid hm
    clear hm
    refine hP hS ?_
    refine hP hS ?_
    refine hP1 hS S0.out ?_
    refine hP hS ?_
    refine hP1 hS T3.out ?_
    refine hE fun K hK=>?_
    go_simp
    with_reducible refine (irows_any CA cn cc s.1 RA rn rc st.2.2.2.1 _ (H.out.on hS).sch.cols (H.out.on hS).st.rows Hok.out.rn (H.out.on hS).tab).mono ?_
    rintro e w6 ⟨rfl,hb6⟩
    have HS:=Lib.hid (bon hS hb6)
    clear hb6
    refine held_go hK (by exact HS.out) fun hS=>?_
    clear hK K
    try simp only [zp]
    clear HS
    cases hr:rowsB s.1 st.2.2.2.1 with
    | false=>
     have HN:=Lib.hid (show stB s st=false by unfold stB;rw [hr];simp)
     clear hr
     refine hP hS ?_
     refine hE fun K hK=>?_
     go_simp
     with_reducible refine (ineed_no 2 _).mono ?_
     rintro e w5 ⟨rfl,rfl⟩
     refine held_go hK hS fun hS=>?_
     clear hK K
     try simp only [zp]
     refine hE fun K hK=>?_
     go_simp
     generalize hw5:World.alloc _ _=w7
     have HE:=Lib.hid (show Blk w7 _ 102 (([some 2,some 2]:List (Option Int)).map errV).toArray by rw [<-hw5];exact Blk.new _ _ _)
     have hS7:Below W.heap.size W w7:=by rw [<-hw5];exact bal hS _
     clear hw5
     refine held_go hK (by exact hS7) fun hS=>?_
     clear hK K
     try simp only [zp]
     clear hS7
     refine hE fun K hK=>?_
     go_simp
     with_reducible refine (ifirst_any _ 2 2 [some 2,some 2] _ HE.out rfl (by decide)).mono ?_
     rintro e w8 ⟨rfl,rfl⟩
     clear HE
     refine held_go hK hS fun hS=>?_
     clear hK K
     try simp only [zp]
     refine hP hS ?_
     refine held_end ?_
     go_wp2
     go_ret
     exact ⟨by rw [HN.out];rfl,bon HB.out hS⟩
    | true=>
     have HN:=Lib.hid (show stB s st=false by exact HN0.out)
     clear hr
     refine hP hS ?_
     refine hE fun K hK=>?_
     go_simp
     with_reducible refine (ineed_yes 2 _).mono ?_
     rintro e w5 ⟨rfl,rfl⟩
     refine held_go hK hS fun hS=>?_
     clear hK K
     try simp only [zp]
     refine hE fun K hK=>?_
     go_simp
     generalize hw5:World.alloc _ _=w7
     have HE:=Lib.hid (show Blk w7 _ 102 (([some 2,none]:List (Option Int)).map errV).toArray by rw [<-hw5];exact Blk.new _ _ _)
     have hS7:Below W.heap.size W w7:=by rw [<-hw5];exact bal hS _
     clear hw5
     refine held_go hK (by exact hS7) fun hS=>?_
     clear hK K
     try simp only [zp]
     clear hS7
     refine hE fun K hK=>?_
     go_simp
     with_reducible refine (ifirst_any _ 2 2 [some 2,none] _ HE.out rfl (by decide)).mono ?_
     rintro e w8 ⟨rfl,rfl⟩
     clear HE
     refine held_go hK hS fun hS=>?_
     clear hK K
     try simp only [zp]
     refine hP hS ?_
     refine held_end ?_
     go_wp2
     go_ret
     exact ⟨by rw [HN.out];rfl,bon HB.out hS⟩
  have e4:decide ((ln:Int)<=1048576)=true:=by simp;omega
  have HL:=Lib.hid (show st.2.2.2.2.length<=1048576 by rw [Hlast.out];omega)
  go_enter Tryz.func66,Tryz.ntmps66
  go_wp2
  try rw [hW1]
  clear hW1
  have hS:Below W.heap.size W W.drew:=(Below.refl _ _).drew
  refine hR (fun w'=>Below W.heap.size W w') [ff 0,ff 25,ff 26,tt 1,ff 2,ff 3,ff 4,ff 5,ff 6,ff 7,ff 8,ff 9,ff 10,ff 11,ff 12,ff 13,ff 14,ff 15,ff 16,ff 17,ff 18,ff 19,ff 20,ff 21,ff 22,ff 23,tt 24,tt 27,ff 28,ff 29,ff 30,ff 31,ff 32,tt 33,ff 34,tt 35,tt 36,tt 37,ff 38] ?_
  refine hP2 hS S0.out S1.out ?_
  refine hP hS ?_
  refine hP1 hS T2.out ?_
  refine hE fun K hK=>?_
  go_simp
  with_reducible refine (scheck_any CA cn cc KA kn kc s _ (H.out.on hS).sch Hok.out.cn Hok.out.kn Hok.out.sch (H.out.on hS).tab).mono ?_
  rintro e w6 ⟨rfl,hb6⟩
  have HS:=Lib.hid (bon hS hb6)
  clear hb6
  refine held_go hK (by exact HS.out) fun hS=>?_
  clear hK K
  try simp only [zp]
  clear HS
  rw [Hs.out]
  refine hP hS ?_
  refine hP hS ?_
  refine hP hS ?_
  refine hP1 hS T0.out ?_
  iterate 3
   refine hP hS ?_
  refine hP hS ?_
  refine hP1 hS T0.out ?_
  iterate 3
   refine hP hS ?_
  refine hP hS ?_
  refine hP1 hS T1.out ?_
  iterate 3
   refine hP hS ?_
  refine hP hS ?_
  refine hP1 hS T4.out ?_
  iterate 3
   refine hP hS ?_
  refine hE fun K hK=>?_
  go_simp
  with_reducible refine (ineed_yes 2 _).mono ?_
  rintro e w5 ⟨rfl,rfl⟩
  refine held_go hK hS fun hS=>?_
  clear hK K
  try simp only [zp]
  refine hE fun K hK=>?_
  go_simp
  with_reducible refine (marks_any MA mn mc st.2.2.1 _ (H.out.on hS).st.marks Hok.out.mn Hok.out.mks).mono ?_
  rintro e w6 ⟨rfl,hb6⟩
  have HS:=Lib.hid (bon hS hb6)
  clear hb6
  refine held_go hK (by exact HS.out) fun hS=>?_
  clear hK K
  try simp only [zp]
  clear HS
  cases hm:marksB st.2.2.1 with
  | false=>
   have HN:=Lib.hid (show stB s st=false by unfold stB;rw [hm];simp)
   clear hm
   refine hP hS ?_
   refine hO hS ?_
   refine hO hS ?_
   refine hO hS ?_
   refine hO hS ?_
   refine held_eff rfl fun K hK=>?_
   go_simp
   refine held_go hK hS fun hS=>?_
   clear hK K
   try simp only [zp]
   refine hP hS ?_
   refine hE fun K hK=>?_
   go_simp
   with_reducible refine (ineed_no 2 _).mono ?_
   rintro e w5 ⟨rfl,rfl⟩
   refine held_go hK hS fun hS=>?_
   clear hK K
   try simp only [zp]
   refine hE fun K hK=>?_
   go_simp
   generalize hw5:World.alloc _ _=w7
   have HE:=Lib.hid (show Blk w7 _ 102 (([none,some 2]:List (Option Int)).map errV).toArray by rw [<-hw5];exact Blk.new _ _ _)
   have hS7:Below W.heap.size W w7:=by rw [<-hw5];exact bal hS _
   clear hw5
   refine held_go hK (by exact hS7) fun hS=>?_
   clear hK K
   try simp only [zp]
   clear hS7
   refine hE fun K hK=>?_
   go_simp
   with_reducible refine (ifirst_any _ 2 2 [none,some 2] _ HE.out rfl (by decide)).mono ?_
   rintro e w8 ⟨rfl,rfl⟩
   clear HE
   refine held_go hK hS fun hS=>?_
   clear hK K
   try simp only [zp]
   refine hP hS ?_
   refine held_end ?_
   go_wp2
   go_ret
   exact ⟨by rw [HN.out];rfl,bon HB.out hS⟩
  | true=>
   have Hm:=Lib.hid hm
   clear hm
   refine hP hS ?_
   refine hP hS ?_
   refine hP1 hS S0.out ?_
   refine hP hS ?_
   refine hP1 hS T3.out ?_
   refine hE fun K hK=>?_
   go_simp
   with_reducible refine (irows_any CA cn cc s.1 RA rn rc st.2.2.2.1 _ (H.out.on hS).sch.cols (H.out.on hS).st.rows Hok.out.rn (H.out.on hS).tab).mono ?_
   rintro e w6 ⟨rfl,hb6⟩
   have HS:=Lib.hid (bon hS hb6)
   clear hb6
   refine held_go hK (by exact HS.out) fun hS=>?_
   clear hK K
   try simp only [zp]
   clear HS
   cases hr:rowsB s.1 st.2.2.2.1 with
   | false=>
    have HN:=Lib.hid (show stB s st=false by unfold stB;rw [hr];simp)
    clear hr
    refine hP hS ?_
    refine hE fun K hK=>?_
    go_simp
    with_reducible refine (ineed_no 2 _).mono ?_
    rintro e w5 ⟨rfl,rfl⟩
    refine held_go hK hS fun hS=>?_
    clear hK K
    try simp only [zp]
    refine hE fun K hK=>?_
    go_simp
    generalize hw5:World.alloc _ _=w7
    have HE:=Lib.hid (show Blk w7 _ 102 (([none,some 2]:List (Option Int)).map errV).toArray by rw [<-hw5];exact Blk.new _ _ _)
    have hS7:Below W.heap.size W w7:=by rw [<-hw5];exact bal hS _
    clear hw5
    refine held_go hK (by exact hS7) fun hS=>?_
    clear hK K
    try simp only [zp]
    clear hS7
    refine hE fun K hK=>?_
    go_simp
    with_reducible refine (ifirst_any _ 2 2 [none,some 2] _ HE.out rfl (by decide)).mono ?_
    rintro e w8 ⟨rfl,rfl⟩
    clear HE
    refine held_go hK hS fun hS=>?_
    clear hK K
    try simp only [zp]
    refine hP hS ?_
    refine held_end ?_
    go_wp2
    go_ret
    exact ⟨by rw [HN.out];rfl,bon HB.out hS⟩
   | true=>
    have HN:=Lib.hid (show stB s st=true by unfold stB;rw [Hs1.out,Hm.out,hr,decide_eq_true HV.out,decide_eq_true HL.out];rfl)
    clear hr
    refine hP hS ?_
    refine hE fun K hK=>?_
    go_simp
    with_reducible refine (ineed_yes 2 _).mono ?_
    rintro e w5 ⟨rfl,rfl⟩
    refine held_go hK hS fun hS=>?_
    clear hK K
    try simp only [zp]
    refine hE fun K hK=>?_
    go_simp
    generalize hw5:World.alloc _ _=w7
    have HE:=Lib.hid (show Blk w7 _ 102 (([none,none]:List (Option Int)).map errV).toArray by rw [<-hw5];exact Blk.new _ _ _)
    have hS7:Below W.heap.size W w7:=by rw [<-hw5];exact bal hS _
    clear hw5
    refine held_go hK (by exact hS7) fun hS=>?_
    clear hK K
    try simp only [zp]
    clear hS7
    refine hE fun K hK=>?_
    go_simp
    with_reducible refine (ifirst_any _ 2 2 [none,none] _ HE.out rfl (by decide)).mono ?_
    rintro e w8 ⟨rfl,rfl⟩
    clear HE
    refine held_go hK hS fun hS=>?_
    clear hK K
    try simp only [zp]
    refine hP hS ?_
    refine held_end ?_
    go_wp2
    go_ret
    exact ⟨by rw [HN.out];rfl,bon HB.out hS⟩
theorem iCheck_any (CA:Option Addr) (cn cc:Nat) (KA:Option Addr) (kn kc:Nat) (s:Sc) (MA:Option Addr) (mn mc:Nat) (RA:Option Addr) (rn rc:Nat) (LA:Option Addr) (ln lc:Nat) (st:St) (w:World) (h:ChkAt w CA cn KA kn s MA mn RA rn LA ln st) (hok:ChkOk cn kn mn rn ln s st) (hE:ErrT w) :
  Calls Tryz.prog 23 #[.agg #[.slice CA cn cc,.slice KA kn kc],.agg #[.int .i64 st.1,.int .i64 st.2.1,.slice MA mn mc,.slice RA rn rc,.slice LA ln lc]] w fun e w'=>e=.returned (.int .i64 (imgE s st))/\Below w.heap.size w w':=by
 obtain ⟨W,hW1⟩:∃ W,(w.alloc (.cells #[.slice CA cn cc,.slice KA kn kc] 48)).alloc (.cells #[.int .i64 st.1,.int .i64 st.2.1,.slice MA mn mc,.slice RA rn rc,.slice LA ln lc] 51)=W:=⟨_,rfl⟩
 have HB:=Lib.hid (show Below w.heap.size w W by rw [<-hW1];exact bal (bal (Below.refl _ _) _) _)
 have HA:=Lib.hid (icheck_any CA cn cc KA kn kc s MA mn mc RA rn rc LA ln lc st W (by rw [<-hW1];exact (h.al _).al _) hok)
 have HE:=Lib.hid (hE.on HB.out)
 have BS:=Lib.hid (show Blk W w.heap.size 48 #[.slice CA cn cc,.slice KA kn kc] by rw [<-hW1];exact (Blk.new w _ _).alloc _)
 have BT:=Lib.hid (show Blk W (w.heap.size+1) 51 #[.int .i64 st.1,.int .i64 st.2.1,.slice MA mn mc,.slice RA rn rc,.slice LA ln lc] by rw [<-hW1];exact Blk.new' _ _ _ _ (by simp))
 have s0:=BS.out.cell 0
 have s1:=BS.out.cell 1
 have t0:=BT.out.cell 0
 have t1:=BT.out.cell 1
 have t2:=BT.out.cell 2
 have t3:=BT.out.cell 3
 have t4:=BT.out.cell 4
 clear h hok hE
 go_enter Tryz.func23,Tryz.ntmps23
 go_wp2_with fail
 clear s0 s1 t0 t1 t2 t3 t4
 with_reducible refine HA.out.mono ?_
 rintro e w5 ⟨rfl,hb5⟩
 have HE:=Lib.hid (HE.out.on hb5)
 have HB:=Lib.hid (bon HB.out hb5)
 clear hb5 HA hW1
 go_wp2_with fail
 with_reducible refine (icode_any _ _ HE.out).mono ?_
 rintro e w6 ⟨rfl,hb6⟩
 have HB:=Lib.hid (bon HB.out hb6)
 clear hb6
 go_wp2
 go_ret
 exact ⟨by unfold imgE;cases stB s st<;>rfl,HB.out⟩
end Go.Proofs.YtjpjalmilfgckaaGreatDoor
namespace Go.Proofs.YtjpjalmilfgckaaGreatDoor
open Go.RowKit
theorem item_info:(Tryz.prog.info? 26).map (fun i=>(i.zero,i.size,i.bytes))=some (some (.agg #[.slice none 0 0,.int .i64 0]),2,32):=by kernel_rfl
def RowsOwn (w:World) (base:Nat) (hs:List Hd) (l:List It):Prop:=hs.length=l.length/\∀ (j:Nat) h it,hs[j]? = some h->l[j]? = some it->w.ownsRow base 23 3 (.slice h.1 h.2.1 h.2.2) h.2.1 (cls it.1)
def ItemsOwn (w:World) (base:Nat) (A:Option Addr) (n c:Nat) (l:List It):Prop:=∃ hs,w.ownsRow base 26 2 (.slice A n c) n (its hs l)/\RowsOwn w base hs l
section
variable {w w':World} {base n c:Nat} {A:Option Addr} {hs:List Hd} {l:List It}
theorem RowsOwn.nil:RowsOwn w base [] []:=⟨rfl,fun j g it h=>by simp at h⟩
theorem RowsOwn.below (h:RowsOwn w base hs l) (hb:Below w.heap.size w w'):RowsOwn w' base hs l:=⟨h.1,fun j g it h1 h2=>own_below (h.2 j g it h1 h2) hb⟩
theorem RowsOwn.apart (h:RowsOwn w base hs l) {base2 n2 size2:Nat} {e2:TypeId} {v2:Value} {ys:List Value} (h2:w.ownsRow base2 e2 size2 v2 n2 ys) (hne:23≠e2) (hg:w.grownBy w' v2.ownBlock):RowsOwn w' base hs l:=
 ⟨h.1,fun j g it h1 h3=>own_apart (h.2 j g it h1 h3) h2 hne hg⟩
theorem RowsOwn.far (h:RowsOwn w base hs l) {g:Nat} {t:TypeId} {cs:Array Value} (hb:Blk w g t cs) (hne:23≠t) (i:Nat) (u:Value):RowsOwn (w.setCell ⟨g,i,none⟩ u) base hs l:=
 ⟨h.1,fun j k it h1 h3=>own_far (h.2 j k it h1 h3) hb hne i u⟩
theorem RowsOwn.snoc {h:Hd} {it:It} (h0:RowsOwn w base hs l) (h1:w.ownsRow base 23 3 (.slice h.1 h.2.1 h.2.2) h.2.1 (cls it.1)):RowsOwn w base (hs++[h]) (l++[it]):=by
 refine ⟨by simp [h0.1],fun j g jt g1 g2=>?_⟩
 rcases Nat.lt_or_ge j hs.length with hj | hj
 ·rw [List.getElem?_append_left hj] at g1
  rw [List.getElem?_append_left (by rw [<-h0.1];exact hj)] at g2
  exact h0.2 j g jt g1 g2
 rw [List.getElem?_append_right hj] at g1
 rw [List.getElem?_append_right (by rw [<-h0.1];exact hj),<-h0.1] at g2
 have h4:j-hs.length=0:=by have:=(List.getElem?_eq_some_iff.1 g1).1;simp at this;omega
 rw [h4] at g1 g2
 simp only [List.getElem?_cons_zero,Option.some.injEq] at g1 g2
 subst g1 g2
 exact h1
theorem own_caps2 {base size:Nat} {e:TypeId} {xs:List Value} (h:w.ownsRow base e size (.slice A n c) n xs):n<=c/\c<=maxLen:=by
 obtain ⟨A',c',e,h1,h2⟩:=own_shape h
 cases e
 exact ⟨h1,h2⟩
theorem RowsOwn.at_ (h:RowsOwn w base hs l):RowsAt w w.heap.size hs l:=⟨h.1,fun j g it h1 h2=>⟨Reads.of_own (h.2 j g it h1 h2),own_caps2 (h.2 j g it h1 h2)⟩⟩
theorem ItemsOwn.at_ (h:ItemsOwn w base A n c l):ItemsAt w w.heap.size A n l:=by
 obtain ⟨hs,h1,h2⟩:=h
 exact ⟨hs,Reads.of_own h1,h2.at_⟩
theorem ItemsOwn.caps (h:ItemsOwn w base A n c l):n<=c/\c<=maxLen:=by
 obtain ⟨hs,h1,-⟩:=h
 exact own_caps2 h1
theorem ItemsOwn.len (h:ItemsOwn w base A n c l):l.length=n:=h.at_.len
theorem ItemsOwn.nil:ItemsOwn w base none 0 0 []:=⟨[],World.ownsRow_nil _ _ _ _,RowsOwn.nil⟩
theorem ItemsOwn.below (h:ItemsOwn w base A n c l) (hb:Below w.heap.size w w'):ItemsOwn w' base A n c l:=by
 obtain ⟨hs,h1,h2⟩:=h
 exact ⟨hs,own_below h1 hb,h2.below hb⟩
theorem ItemsOwn.al (h:ItemsOwn w base A n c l) (o:Obj):ItemsOwn (w.alloc o) base A n c l:=h.below ((Below.refl _ _).alloc (Nat.le_refl _) o)
theorem ItemsOwn.drew (h:ItemsOwn w base A n c l):ItemsOwn w.drew base A n c l:=h.below (Below.refl _ _).drew
theorem ItemsOwn.far (h:ItemsOwn w base A n c l) {g:Nat} {t:TypeId} {cs:Array Value} (hb:Blk w g t cs) (h1:23≠t) (h2:26≠t) (i:Nat) (u:Value):ItemsOwn (w.setCell ⟨g,i,none⟩ u) base A n c l:=by
 obtain ⟨hs,g1,g2⟩:=h
 exact ⟨hs,own_far g1 hb h2 i u,g2.far hb h1 i u⟩
theorem ItemsOwn.app (h:ItemsOwn w base A n c l) {hd:Hd} {it:It} (hr:w.ownsRow base 23 3 (.slice hd.1 hd.2.1 hd.2.2) hd.2.1 (cls it.1)) (hg:w.grownBy w' (Value.slice A n c).ownBlock) {A2:Option Addr} {n2 c2:Nat}
  (ho:∀ hs:List Hd,w.ownsRow base 26 2 (.slice A n c) n (its hs l)->w'.ownsRow base 26 2 (.slice A2 n2 c2) n2 (its hs l++itV hd it)):ItemsOwn w' base A2 n2 c2 (l++[it]):=by
 obtain ⟨hs,h1,h2⟩:=h
 have h3:=ho hs h1
 rw [<-its_snoc h2.1] at h3
 exact ⟨hs++[hd],h3,(h2.apart h1 (by decide) hg).snoc (own_apart hr h1 (by decide) hg)⟩
theorem items_app {hd:Hd} {it:It} {A2:Option Addr} {n2 c2:Nat} (h1:w.ownsRow base 26 2 (.slice A n c) n (its hs l)) (h2:RowsOwn w base hs l) (hr:w.ownsRow base 23 3 (.slice hd.1 hd.2.1 hd.2.2) hd.2.1 (cls it.1)) (hg:w.grownBy w' (Value.slice A n c).ownBlock)
  (h3:w'.ownsRow base 26 2 (.slice A2 n2 c2) n2 (its hs l++itV hd it)):ItemsOwn w' base A2 n2 c2 (l++[it]):=by
 rw [<-its_snoc h2.1] at h3
 exact ⟨hs++[hd],h3,(h2.apart h1 (by decide) hg).snoc (own_apart hr h1 (by decide) hg)⟩
theorem ItemsOwn.row (h:ItemsOwn w base A n c l) {B n2:Nat} {v2:Value} {ys:List Value} (hB:∀ hs,w.ownsRow base 26 2 (.slice A n c) n (its hs l)->RowsOwn w base hs l->∀ (j:Nat) (q:Hd),hs[j]? = some q->∀ k,(Value.slice q.1 q.2.1 q.2.2).ownBlock=some k->k<B)
  (h2:w.ownsRow B 23 3 v2 n2 ys) (hg:w.grownBy w' v2.ownBlock):ItemsOwn w' base A n c l:=by
 obtain ⟨hs,g1,g2⟩:=h
 refine ⟨hs,own_apart g1 h2 (by decide) hg,g2.1,fun j q it h3 h4=>own_sep (g2.2 j q it h3 h4) (hB hs g1 g2 j q h3) h2 hg⟩
end
def ItemsLow (w:World) (base B:Nat) (A:Option Addr) (n c:Nat) (l:List It):Prop:=∃ hs,w.ownsRow base 26 2 (.slice A n c) n (its hs l)/\RowsOwn w base hs l/\∀ (j:Nat) (q:Hd),hs[j]? = some q->∀ k,(Value.slice q.1 q.2.1 q.2.2).ownBlock=some k->k<B
section
variable {w w':World} {base B n c:Nat} {A:Option Addr} {l:List It}
theorem ItemsOwn.low (h:ItemsOwn w base A n c l) (hB:w.heap.size<=B):ItemsLow w base B A n c l:=by
 obtain ⟨hs,g1,g2⟩:=h
 refine ⟨hs,g1,g2,fun j q hq k hk=>?_⟩
 have hj:j<l.length:=by rw [<-g2.1];exact (List.getElem?_eq_some_iff.1 hq).1
 exact Nat.lt_of_lt_of_le ((g2.2 j q _ hq (List.getElem?_eq_getElem hj)).lt k hk).2 hB
theorem ItemsLow.own (h:ItemsLow w base B A n c l):ItemsOwn w base A n c l:=by
 obtain ⟨hs,g1,g2,-⟩:=h
 exact ⟨hs,g1,g2⟩
theorem ItemsLow.below (h:ItemsLow w base B A n c l) (hb:Below w.heap.size w w'):ItemsLow w' base B A n c l:=by
 obtain ⟨hs,g1,g2,g3⟩:=h
 exact ⟨hs,own_below g1 hb,g2.below hb,g3⟩
theorem ItemsLow.al (h:ItemsLow w base B A n c l) (o:Obj):ItemsLow (w.alloc o) base B A n c l:=h.below ((Below.refl _ _).alloc (Nat.le_refl _) o)
theorem ItemsLow.drew (h:ItemsLow w base B A n c l):ItemsLow w.drew base B A n c l:=h.below (Below.refl _ _).drew
theorem ItemsLow.far (h:ItemsLow w base B A n c l) {g:Nat} {t:TypeId} {cs:Array Value} (hb:Blk w g t cs) (h1:23≠t) (h2:26≠t) (i:Nat) (u:Value):ItemsLow (w.setCell ⟨g,i,none⟩ u) base B A n c l:=by
 obtain ⟨hs,g1,g2,g3⟩:=h
 exact ⟨hs,own_far g1 hb h2 i u,g2.far hb h1 i u,g3⟩
theorem ItemsLow.row (h:ItemsLow w base B A n c l) {n2:Nat} {v2:Value} {ys:List Value} (h2:w.ownsRow B 23 3 v2 n2 ys) (hg:w.grownBy w' v2.ownBlock):ItemsLow w' base B A n c l:=by
 obtain ⟨hs,g1,g2,g3⟩:=h
 exact ⟨hs,own_apart g1 h2 (by decide) hg,⟨g2.1,fun j q it h3 h4=>own_sep (g2.2 j q it h3 h4) (g3 j q h3) h2 hg⟩,g3⟩
end
theorem itV_one (h:Hd) (it:It):∀ u∈itV h it,u.oneCell'=true:=by
 intro u hu
 simp [itV] at hu
 rcases hu with rfl | rfl<;>rfl
theorem reads_item (w:World) (b:Nat) (hb:b=w.heap.size) (h:Hd) (it:It):Reads (w.alloc (.cells #[.slice h.1 h.2.1 h.2.2,.int .i64 it.2] 26)) (w.alloc (.cells #[.slice h.1 h.2.1 h.2.2,.int .i64 it.2] 26)).heap.size 2 (some ⟨b,0,none⟩) 1 (itV h it):=by
 subst hb
 have hB:=Blk.new w 26 #[.slice h.1 h.2.1 h.2.2,.int .i64 it.2]
 refine ⟨rfl,fun _=>⟨_,rfl,hB.lt,fun j u hu=>?_⟩⟩
 have hadd:(⟨w.heap.size,0,none⟩:Addr).add j=⟨w.heap.size,j,none⟩:=by unfold Addr.add;split<;>simp_all
 rw [hadd,hB.cell,<-Array.getElem?_toList]
 exact hu
end Go.Proofs.YtjpjalmilfgckaaGreatDoor
