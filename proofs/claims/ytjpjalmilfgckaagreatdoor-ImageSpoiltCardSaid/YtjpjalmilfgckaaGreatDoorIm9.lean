/- Part 9 of the walks, merged: each text under its own heading. Conditions: none of its own; each lemma states what it asks. -/
import Derived.Test.YtjpjalmilfgckaaGreatDoorIm7
import Derived.Test.YtjpjalmilfgckaaGreatDoorIm8
import Derived.Lib.Slices
set_option maxRecDepth 100000
set_option linter.unusedVariables false
set_option linter.unusedSimpArgs false
namespace Go.Proofs.YtjpjalmilfgckaaGreatDoor
open Go.RowKit
structure ColW (w:World) (base g:Nat) (k at_:Int) (A:Option Addr) (n c:Nat) (l:List Cl) (B:Option Addr) (m cb:Nat) (xs:List UInt8):Prop where
 blk:Blk w g 142 #[.int .i64 k,.slice A n c,.slice B m cb,.int .i64 at_]
 far:base<=g
 cells:w.ownsRow base 23 3 (.slice A n c) n (cls l)
 bytes:w.ownsRow base 5 1 (.slice B m cb) m (u8s xs)
 le:m<=cb
 max:cb<=maxLen
theorem ColW.below {w w':World} {base g:Nat} {k at_:Int} {A:Option Addr} {n c:Nat} {l:List Cl} {B:Option Addr} {m cb:Nat} {xs:List UInt8} (h:ColW w base g k at_ A n c l B m cb xs) (hb:Below w.heap.size w w'):ColW w' base g k at_ A n c l B m cb xs:=
 ⟨h.blk.on hb,h.far,own_below h.cells hb,own_below h.bytes hb,h.le,h.max⟩
theorem ColW.store {w:World} {base g:Nat} {k at_:Int} {A:Option Addr} {n c:Nat} {l:List Cl} {B:Option Addr} {m cb:Nat} {xs:List UInt8} (h:ColW w base g k at_ A n c l B m cb xs) {B2:Option Addr} {m2 c2:Nat} {ys:List UInt8}
  (ho:w.ownsRow base 5 1 (.slice B2 m2 c2) m2 (u8s ys)) (h1:m2<=c2) (h2:c2<=maxLen):ColW (w.setCell ⟨g,2,none⟩ (.slice B2 m2 c2)) base g k at_ A n c l B2 m2 c2 ys:=
 ⟨h.blk.set_ 2 _,h.far,own_far h.cells h.blk (by decide) 2 _,own_far ho h.blk (by decide) 2 _,h1,h2⟩
set_option maxHeartbeats 1000000 in
theorem putInts_any (base g:Nat) (k at_:Int) (A:Option Addr) (n c:Nat) (l:List Cl) (B:Option Addr) (m cb:Nat) (xs:List UInt8) (w:World) (h:ColW w base g k at_ A n c l B m cb xs) (hok:ClOk l) (hm:m+10*n<=1099511627776) (hs:base<=w.heap.size) :
  Calls Tryz.prog 164 #[.pointer (some ⟨g,0,none⟩)] w fun e w'=>e=.returned (.tuple #[])/\∃ B2 m2 c2,ColW w' base g k at_ A n c l B2 m2 c2 (xs++intsB l)/\Below base w w':=by
 have Hok:=Lib.hid hok
 have Hln:=Lib.hid (cls_len (Reads.of_own h.cells))
 have c0:=h.blk.cell 0
 have c1:=h.blk.cell 1
 have H:=Lib.hid h
 have hgs:=h.blk.lt
 clear h hok
 go_enter Tryz.func164,Tryz.ntmps164
 go_wp2
 clear c0 c1
 go_loopw [9] (fun i wr=>∃ (j m1:Nat) (B1:Option Addr) (c1:Nat),j<=n/\i=.int .i64 (j:Int)/\m1<=m+10*j/\ColW wr base g k at_ A n c l B1 m1 c1 (xs++intsB (l.take j))/\Below base w wr) (fun i _=>n-(intOf i).toNat)
 case atStart=>exact ⟨0,m,B,cb,Nat.zero_le _,rfl,by omega,by simpa [intsB] using H.out,Below.refl _ _⟩
 case round=>
  obtain ⟨j,m1,B1,c1,hj,rfl,hm1,hC,hB⟩:=hrel
  have HC:=Lib.hid hC
  have HB:=Lib.hid hB
  clear hC hB
  by_cases hlt:j<n
  ·obtain ⟨ad,u,x,s,rfl,hbk,hx,h0,h1,h2⟩:=cls_at (Reads.of_own HC.out.cells) hlt
   have Hx:=Lib.hid hx
   clear hx hbk
   go_wp2
   have HC2:=Lib.hid (HC.out.below ((Below.refl _ wr).alloc (Nat.le_refl _) (.cells #[.bool u,.int .i64 x,.string s] 23)))
   obtain ⟨W0,hW0⟩:∃ W0,W0=(wr.alloc (.cells #[.bool u,.int .i64 x,.string s] 23)).drew:=⟨_,rfl⟩
   have hB2:=Lib.hid (show Below base w W0 by rw [hW0];exact (HB.out.alloc (Nat.le_trans hs HB.out.size) (.cells #[.bool u,.int .i64 x,.string s] 23)).drew)
   have hsz:=Lib.hid (show W0.heap.size=wr.heap.size+1 by rw [hW0];simp)
   have HC3:=Lib.hid (show ColW W0 base g k at_ (some ad) n c l B1 m1 c1 (xs++intsB (l.take j)) by rw [hW0];exact ⟨HC2.out.blk,HC2.out.far,HC2.out.cells,HC2.out.bytes,HC2.out.le,HC2.out.max⟩)
   have H3:=Lib.hid (show W0.cell? ⟨wr.heap.size,1,none⟩=some (.int .i64 x) by rw [hW0];exact (Blk.new wr 23 #[.bool u,.int .i64 x,.string s]).cell 1)
   have hbs:=Lib.hid (Nat.le_trans hs (Nat.le_trans HB.out.size (by omega:wr.heap.size<=wr.heap.size+1)))
   have hS:Below base W0 (wr.alloc (.cells #[.bool u,.int .i64 x,.string s] 23)).drew/\(wr.alloc (.cells #[.bool u,.int .i64 x,.string s] 23)).drew.cell? ⟨wr.heap.size,1,none⟩=some (.int .i64 x):=by rw [<-hW0];exact ⟨Below.refl _ _,H3.out⟩
   have Hv:=Lib.hid (show ∀ w',Below base W0 w'/\w'.cell? ⟨wr.heap.size,1,none⟩=some (.int .i64 x)->w'.cell? ⟨wr.heap.size,1,none⟩=some (.int .i64 x) from fun w' h=>h.2)
   refine nR (fun w'=>Below base W0 w'/\w'.cell? ⟨wr.heap.size,1,none⟩=some (.int .i64 x)) (.pure 0 (.pure 1 (.pure 2 (.pure 3 (.pure 5 (.pure 6 (.eff 4 (.eff 7 (.pure 8 (.pure 9 (.eff 10 .done))))))))))) ?_
   rw [<-hW0] at hS ⊢
   clear hW0
   iterate 5
    refine nP hS ?_
   refine nP1 hS Hv.out ?_
   have c2:=HC3.out.blk.cell 2
   refine nE fun K hK=>?_
   go_simp
   refine held_go hK hS fun hS=>?_
   clear hK K
   try simp only [zp]
   clear c2
   refine nE fun K hK=>?_
   go_simp
   have Hxb:=Hok.out (u,x,s) (List.mem_of_getElem? Hx.out)
   with_reducible refine (putInt_any B1 m1 c1 x _ _ (Reads.of_own HC3.out.bytes) HC3.out.le HC3.out.max (by omega) Hxb.1 Hxb.2.1).mono ?_
   rintro e w3 ⟨A9,c9,rfl,q1,q2,q3,q4⟩
   have HC4:=Lib.hid (HC3.out.below q4)
   have hbw:=Lib.hid (Nat.le_of_lt (Nat.lt_of_le_of_lt HC3.out.far HC3.out.blk.lt))
   have q5:=Lib.hid (own_mono q3 hbw.out)
   have hw4:w3.cell? ⟨wr.heap.size,1,none⟩=some (.int .i64 x):=(q4.cell (p:=⟨wr.heap.size,1,none⟩) (by have:=hsz.out;simp;omega)).trans hS.2
   have Hw4:=Lib.hid hw4
   have Q4:=Lib.hid (q4.mono hbw.out)
   clear q3 q4 hw4 Hxb
   refine held_go hK (by exact ⟨Q4.out,Hw4.out⟩) fun hS=>?_
   clear hK K
   try simp only [zp]
   refine nP hS ?_
   refine nP hS ?_
   have c2:=HC4.out.blk.cell 2
   have f2:=HC4.out.blk.frozen 2
   have HC5:=Lib.hid (HC4.out.store q5.out q1 q2)
   have Q6:=Lib.hid (Q4.out.setCell (p:=⟨g,2,none⟩) HC4.out.far (.slice A9 (m1+(leb (zig x)).length) c9))
   have Q7:=Lib.hid (show (w3.setCell ⟨g,2,none⟩ (.slice A9 (m1+(leb (zig x)).length) c9)).cell? ⟨wr.heap.size,1,none⟩=some (.int .i64 x) from (World.cell?_setCell_other w3 _ _ _ (by intro h;injection h with h1 h2 h3;cases h2)).trans Hw4.out)
   refine nE fun K hK=>?_
   go_simp
   clear c2 f2
   refine held_go hK (by exact ⟨Q6.out,Q7.out⟩) fun hS=>?_
   clear hK K
   try simp only [zp]
   refine plan_end ?_
   have hle:=leb_le (zig x)
   rw [show (xs++intsB (l.take j))++leb (zig x)=xs++intsB (l.take (j+1)) by rw [List.take_add_one,Hx.out];simp [intsB]] at HC5
   go_wp2
   go_roundw
   case rel=>exact ⟨j+1,_,A9,c9,by omega,by go_num,by omega,HC5.out,hB2.out.trans Q6.out⟩
   case measure=>simp [intOf];omega
  obtain rfl:j=n:=by omega
  have hmap:l.take j=l:=List.take_of_length_le (by rw [Hln.out];exact Nat.le_refl _)
  have HCe:=Lib.hid (show ColW wr base g k at_ A j c l B1 m1 c1 (xs++intsB l) by have:=HC.out;rwa [hmap] at this)
  clear hmap
  go_wp2
  go_end0
  exact ⟨rfl,B1,m1,c1,HCe.out,HB.out⟩
set_option maxHeartbeats 1000000 in
theorem putRaws_any (base g:Nat) (k at_:Int) (A:Option Addr) (n c:Nat) (l:List Cl) (B:Option Addr) (m cb:Nat) (xs:List UInt8) (w:World) (h:ColW w base g k at_ A n c l B m cb xs) (hok:ClOk l) (hsz:∀ c∈l,c.2.2.size<=1024) (hm:m+2048*n<=1099511627776) (hs:base<=w.heap.size) :
  Calls Tryz.prog 166 #[.pointer (some ⟨g,0,none⟩)] w fun e w'=>e=.returned (.tuple #[])/\∃ B2 m2 c2,ColW w' base g k at_ A n c l B2 m2 c2 (xs++rawsB l)/\Below base w w':=by
 have Hok:=Lib.hid hok
 have Hsz:=Lib.hid hsz
 obtain ⟨i0,hi0,hz0,hz1,hz2⟩:=info_parts u8_info
 have Hln:=Lib.hid (cls_len (Reads.of_own h.cells))
 have c0:=h.blk.cell 0
 have c1:=h.blk.cell 1
 have H:=Lib.hid h
 have hgs:=h.blk.lt
 clear h hok hsz
 go_enter Tryz.func166,Tryz.ntmps166
 go_wp2
 clear c0 c1
 go_loopw [9] (fun i wr=>∃ (j m1:Nat) (B1:Option Addr) (c1:Nat),j<=n/\i=.int .i64 (j:Int)/\m1<=m+2048*j/\ColW wr base g k at_ A n c l B1 m1 c1 (xs++rawsB (l.take j))/\Below base w wr) (fun i _=>n-(intOf i).toNat)
 case atStart=>exact ⟨0,m,B,cb,Nat.zero_le _,rfl,by omega,by simpa [rawsB] using H.out,Below.refl _ _⟩
 case round=>
  obtain ⟨j,m1,B1,c1,hj,rfl,hm1,hC,hB⟩:=hrel
  have HC:=Lib.hid hC
  have HB:=Lib.hid hB
  clear hC hB
  by_cases hlt:j<n
  ·obtain ⟨ad,u,x,s,rfl,hbk,hx,h0,h1,h2⟩:=cls_at (Reads.of_own HC.out.cells) hlt
   have Hx:=Lib.hid hx
   clear hx hbk
   go_wp2
   have HC2:=Lib.hid (HC.out.below ((Below.refl _ wr).alloc (Nat.le_refl _) (.cells #[.bool u,.int .i64 x,.string s] 23)))
   obtain ⟨W0,hW0⟩:∃ W0,W0=(wr.alloc (.cells #[.bool u,.int .i64 x,.string s] 23)).drew:=⟨_,rfl⟩
   have hB2:=Lib.hid (show Below base w W0 by rw [hW0];exact (HB.out.alloc (Nat.le_trans hs HB.out.size) (.cells #[.bool u,.int .i64 x,.string s] 23)).drew)
   have hsz:=Lib.hid (show W0.heap.size=wr.heap.size+1 by rw [hW0];simp)
   have HC3:=Lib.hid (show ColW W0 base g k at_ (some ad) n c l B1 m1 c1 (xs++rawsB (l.take j)) by rw [hW0];exact ⟨HC2.out.blk,HC2.out.far,HC2.out.cells,HC2.out.bytes,HC2.out.le,HC2.out.max⟩)
   have H3:=Lib.hid (show W0.cell? ⟨wr.heap.size,2,none⟩=some (.string s) by rw [hW0];exact (Blk.new wr 23 #[.bool u,.int .i64 x,.string s]).cell 2)
   have hbs:=Lib.hid (Nat.le_trans hs (Nat.le_trans HB.out.size (by omega:wr.heap.size<=wr.heap.size+1)))
   have Hs:=Lib.hid (Hsz.out (u,x,s) (List.mem_of_getElem? Hx.out))
   have hgw:=Lib.hid HC.out.blk.lt
   have Hwr:=Lib.hid (show IntKind.u64.wrap (s.size:Int)=(s.size:Int) by have:=Hs.out;simp [IntKind.wrap,IntKind.signed,IntKind.bits] at *;omega)
   have hS:Below base W0 (wr.alloc (.cells #[.bool u,.int .i64 x,.string s] 23)).drew/\(wr.alloc (.cells #[.bool u,.int .i64 x,.string s] 23)).drew.cell? ⟨wr.heap.size,2,none⟩=some (.string s):=by rw [<-hW0];exact ⟨Below.refl _ _,H3.out⟩
   have Hv:=Lib.hid (show ∀ w',Below base W0 w'/\w'.cell? ⟨wr.heap.size,2,none⟩=some (.string s)->w'.cell? ⟨wr.heap.size,2,none⟩=some (.string s) from fun w' h=>h.2)
   refine nR (fun w'=>Below base W0 w'/\w'.cell? ⟨wr.heap.size,2,none⟩=some (.string s)) (.pure 0 (.pure 1 (.pure 2 (.pure 3 (.pure 5 (.pure 6 (.pure 7 (.pure 8 (.pure 10 (.pure 11 (.eff 4 (.eff 9 (.eff 12 (.pure 13 (.pure 14 (.eff 15 .done)))))))))))))))) ?_
   rw [<-hW0] at hS ⊢
   clear hW0
   iterate 5
    refine nP hS ?_
   refine nP1 hS Hv.out ?_
   refine nP hS ?_
   refine nP hS ?_
   rw [Hwr.out]
   refine nP hS ?_
   refine nP1 hS Hv.out ?_
   have c2:=HC3.out.blk.cell 2
   refine nE fun K hK=>?_
   go_simp
   refine held_go hK hS fun hS=>?_
   clear hK K
   try simp only [zp]
   clear c2
   refine nE fun K hK=>?_
   go_simp
   with_reducible refine (put_any B1 m1 c1 s.size _ _ (Reads.of_own HC3.out.bytes) HC3.out.le HC3.out.max (by omega) (by have:=Hs.out;simp only at this;omega)).mono ?_
   rintro e w3 ⟨A8,c8,rfl,p1,p2,p3,p4⟩
   have hbw:=Lib.hid (Nat.le_of_lt (Nat.lt_of_le_of_lt HC3.out.far HC3.out.blk.lt))
   have P1:=Lib.hid p1
   have P2:=Lib.hid p2
   have P3:=Lib.hid p3
   have P4:=Lib.hid p4
   have Hw3:=Lib.hid (show w3.cell? ⟨wr.heap.size,2,none⟩=some (.string s) from (p4.cell (p:=⟨wr.heap.size,2,none⟩) (by have:=hsz.out;simp;omega)).trans hS.2)
   clear p1 p2 p3 p4
   refine held_go hK (by exact ⟨P4.out.mono hbw.out,Hw3.out⟩) fun hS=>?_
   clear hK K
   try simp only [zp]
   have hln:=Array.length_toList (xs:=s.data)
   refine nE fun K hK=>?_
   refine wp_append_str (.tmp 22) (.tmp 24) 35 9 rfl W0.heap.size 5 i0 Tryz.underlying35 Tryz.underlying9 hi0 hz0 hz1 hz2 A8 _ c8 _ rfl P3.out s rfl (by have:=leb_le s.size;have h2:=Hs.out;have h3:s.data.toList.length=s.size:=hln;simp only at h2;omega) P4.out.size ?_
   intro A9 c9 w4 q3 q4 qg q1 q2
   have q4:=P4.out.trans q4
   have HC4:=Lib.hid (HC3.out.below q4)
   have q5:=Lib.hid (own_mono q3 hbw.out)
   have hw4:w4.cell? ⟨wr.heap.size,2,none⟩=some (.string s):=(q4.cell (p:=⟨wr.heap.size,2,none⟩) (by have:=hsz.out;simp;omega)).trans H3.out
   have Hw4:=Lib.hid hw4
   have Q4:=Lib.hid (q4.mono hbw.out)
   clear q3 q4 hw4 qg
   refine held_go hK (by exact ⟨Q4.out,Hw4.out⟩) fun hS=>?_
   clear hK K
   try simp only [zp]
   refine nP hS ?_
   refine nP hS ?_
   have c2:=HC4.out.blk.cell 2
   have f2:=HC4.out.blk.frozen 2
   have HC5:=Lib.hid (HC4.out.store q5.out q1 q2)
   have Q6:=Lib.hid (Q4.out.setCell (p:=⟨g,2,none⟩) HC4.out.far (.slice A9 (m1+(leb s.size).length+s.data.toList.length) c9))
   have Q7:=Lib.hid (show (w4.setCell ⟨g,2,none⟩ (.slice A9 (m1+(leb s.size).length+s.data.toList.length) c9)).cell? ⟨wr.heap.size,2,none⟩=some (.string s) from (World.cell?_setCell_other w4 _ _ _ (by intro h;injection h with h1 h2 h3;have:=hgw.out;omega)).trans Hw4.out)
   refine nE fun K hK=>?_
   go_simp
   clear c2 f2
   refine held_go hK (by exact ⟨Q6.out,Q7.out⟩) fun hS=>?_
   clear hK K
   try simp only [zp]
   refine plan_end ?_
   have hle:=leb_le s.size
   have h2:=Hs.out
   have h3:s.data.toList.length=s.size:=hln
   simp only at h2
   rw [show ((xs++rawsB (l.take j))++leb s.size)++s.data.toList=xs++rawsB (l.take (j+1)) by rw [List.take_add_one,Hx.out];simp [rawsB]] at HC5
   go_wp2
   go_roundw
   case rel=>exact ⟨j+1,_,A9,c9,by omega,by go_num,by omega,HC5.out,hB2.out.trans Q6.out⟩
   case measure=>simp [intOf];omega
  obtain rfl:j=n:=by omega
  have hmap:l.take j=l:=List.take_of_length_le (by rw [Hln.out];exact Nat.le_refl _)
  have HCe:=Lib.hid (show ColW wr base g k at_ A j c l B1 m1 c1 (xs++rawsB l) by have:=HC.out;rwa [hmap] at this)
  clear hmap
  go_wp2
  go_end0
  exact ⟨rfl,B1,m1,c1,HCe.out,HB.out⟩
theorem ColW.grow {w w':World} {base g:Nat} {k at_:Int} {A:Option Addr} {n c:Nat} {l:List Cl} {B:Option Addr} {m cb:Nat} {xs:List UInt8} (h:ColW w base g k at_ A n c l B m cb xs) (hg:w.grownBy w' (Value.slice B m cb).ownBlock) :
  Blk w' g 142 #[.int .i64 k,.slice A n c,.slice B m cb,.int .i64 at_]/\w'.ownsRow base 23 3 (.slice A n c) n (cls l):=
 ⟨h.blk.apart h.bytes (by decide) hg,own_apart h.cells h.bytes (by decide) hg⟩
set_option maxHeartbeats 2000000 in
theorem putBools_any (base g:Nat) (k at_:Int) (A:Option Addr) (n c:Nat) (l:List Cl) (B:Option Addr) (m cb:Nat) (xs:List UInt8) (w:World) (h:ColW w base g k at_ A n c l B m cb xs) (hm:m+n<=1099511627776) :
  Calls Tryz.prog 163 #[.pointer (some ⟨g,0,none⟩)] w fun e w'=>e=.returned (.tuple #[])/\∃ B2 m2 c2,ColW w' base g k at_ A n c l B2 m2 c2 (xs++packL (l.map fun c=>c.2.1==1))/\Below base w w':=by
 obtain ⟨i0,hi0,hz0,hz1,hz2⟩:=info_parts u8_info
 have Hln:=Lib.hid (cls_len (Reads.of_own h.cells))
 have hpl:(packL (l.map fun c=>c.2.1==1)).length<=n:=by rw [packL_length,List.length_map,Hln.out];simp only [need];omega
 have Hn:=Lib.hid (show n<=1099511627776 by omega)
 have H:=Lib.hid h
 have HC:=Lib.hid (show ColW w.drew base g k at_ A n c l B m cb xs from ⟨h.blk,h.far,h.cells,h.bytes,h.le,h.max⟩)
 have hS:Below base w w.drew/\w.drew.cell? ⟨g,1,none⟩=some (.slice A n c):=⟨(Below.refl _ _).drew,h.blk.cell 1⟩
 have Hv:=Lib.hid (show ∀ w',Below base w w'/\w'.cell? ⟨g,1,none⟩=some (.slice A n c)->w'.cell? ⟨g,1,none⟩=some (.slice A n c) from fun w' h=>h.2)
 clear h
 go_enter Tryz.func163,Tryz.ntmps163
 go_wp2
 refine nR (fun w'=>Below base w w'/\w'.cell? ⟨g,1,none⟩=some (.slice A n c)) (.pure 0 (.pure 1 (.pure 2 (.pure 3 (.pure 5 (.pure 6 (.pure 7 (.pure 8 (.fork 4 9 (.eff 9 (.eff 10 (.eff 11 (.pure 12 (.pure 13 (.eff 14 .done)))))) (.fork 4 10 (.eff 10 (.eff 11 (.pure 12 (.pure 13 (.eff 14 .done))))) (.eff 4 (.eff 11 (.pure 12 (.pure 13 (.eff 14 .done))))))))))))))) ?_
 iterate 7
  refine nP hS ?_
 refine nP1 hS Hv.out ?_
 refine plan_fork ?_ ?_
 ·have c2:=HC.out.blk.cell 2
  refine nE fun K hK=>?_
  go_simp
  refine held_go hK hS fun hS=>?_
  clear hK K
  try simp only [zp]
  clear c2
  refine nE fun K hK=>?_
  go_simp
  with_reducible refine (mapOnes A n c l _ (Reads.of_own HC.out.cells) Hn.out).mono ?_
  rintro e w1 ⟨A1,c1,rfl,q1,q2,q3,q4⟩
  have M1:=Lib.hid q1
  have M2:=Lib.hid q2
  have M3:=Lib.hid q3
  have HC:=Lib.hid (HC.out.below q4)
  have hT:=Lib.hid (hS.1.trans (q4.mono (Nat.le_trans (Nat.le_of_lt (Nat.lt_of_le_of_lt H.out.far H.out.blk.lt)) hS.1.size)))
  clear q1 q2 q3 q4
  refine held_go hK (by exact ⟨hT.out,HC.out.blk.cell 1⟩) fun hS=>?_
  clear hK K
  try simp only [zp]
  clear hT
  refine nE fun K hK=>?_
  go_simp
  with_reducible refine (mpack_any A1 n c1 _ _ (Reads.of_own M3.out) M1.out M2.out Hn.out).mono ?_
  rintro e w2 ⟨A2,c2,rfl,q1,q2,q3,q4⟩
  have N1:=Lib.hid q1
  have N3:=Lib.hid q3
  have HC:=Lib.hid (HC.out.below q4)
  have hT:=Lib.hid (hS.1.trans (q4.mono (Nat.le_trans (Nat.le_of_lt (Nat.lt_of_le_of_lt H.out.far H.out.blk.lt)) hS.1.size)))
  clear q1 q3 q4 q2
  refine held_go hK (by exact ⟨hT.out,HC.out.blk.cell 1⟩) fun hS=>?_
  clear hK K
  try simp only [zp]
  clear hT
  refine nE fun K hK=>?_
  refine wp_append_any _ (.tmp 6) (.tmp 12) 35 rfl base 5 i0 (.int .u8 0) 1 1 Tryz.underlying35 hi0 hz0 hz1 hz2 rfl (by decide) B m cb _ rfl HC.out.bytes A2 _ c2 _ rfl (Reads.of_own N3.out) (u8s_one _) (by simp only [maxLen];omega) (by omega) (Nat.le_trans (Nat.le_of_lt (Nat.lt_of_le_of_lt H.out.far H.out.blk.lt)) hS.1.size) ?_
  intro A9 c9 w9 r1 r2 r3 r4 r5
  obtain ⟨b1,b2⟩:=HC.out.grow r3
  have B1:=Lib.hid b1
  have B2:=Lib.hid b2
  have R1:=Lib.hid r1
  have hT:=Lib.hid (hS.1.trans r2)
  clear b1 b2 r1 r2 r3
  refine held_go hK (by exact ⟨hT.out,B1.out.cell 1⟩) fun hS=>?_
  clear hK K
  try simp only [zp]
  refine nP hS ?_
  refine nP hS ?_
  have c2:=B1.out.cell 2
  have f2:=B1.out.frozen 2
  refine nE fun K hK=>?_
  go_simp
  clear c2 f2
  refine held_go hK (by exact ⟨hT.out.setCell (p:=⟨g,2,none⟩) H.out.far _,(B1.out.set_ 2 _).cell 1⟩) fun hS=>?_
  clear hK K
  try simp only [zp]
  refine plan_end ?_
  rw [<-u8s_append] at R1
  go_wp2
  go_end0
  exact ⟨rfl,A9,_,c9,⟨B1.out.set_ 2 _,H.out.far,own_far B2.out B1.out (by decide) 2 _,own_far R1.out B1.out (by decide) 2 _,r4,r5⟩,hS.1⟩
 refine nE fun K hK=>?_
 go_simp
 with_reducible refine (mapOnes A n c l _ (Reads.of_own HC.out.cells) Hn.out).mono ?_
 rintro e w1 ⟨A1,c1,rfl,q1,q2,q3,q4⟩
 have M1:=Lib.hid q1
 have M2:=Lib.hid q2
 have M3:=Lib.hid q3
 have HC:=Lib.hid (HC.out.below q4)
 have hT:=Lib.hid (hS.1.trans (q4.mono (Nat.le_trans (Nat.le_of_lt (Nat.lt_of_le_of_lt H.out.far H.out.blk.lt)) hS.1.size)))
 clear q1 q2 q3 q4
 refine held_go hK (by exact ⟨hT.out,HC.out.blk.cell 1⟩) fun hS=>?_
 clear hK K
 try simp only [zp]
 clear hT
 refine plan_fork ?_ ?_
 ·have c2:=HC.out.blk.cell 2
  refine nE fun K hK=>?_
  go_simp
  refine held_go hK hS fun hS=>?_
  clear hK K
  try simp only [zp]
  clear c2
  refine nE fun K hK=>?_
  go_simp
  with_reducible refine (mpack_any A1 n c1 _ _ (Reads.of_own M3.out) M1.out M2.out Hn.out).mono ?_
  rintro e w2 ⟨A2,c2,rfl,q1,q2,q3,q4⟩
  have N1:=Lib.hid q1
  have N3:=Lib.hid q3
  have HC:=Lib.hid (HC.out.below q4)
  have hT:=Lib.hid (hS.1.trans (q4.mono (Nat.le_trans (Nat.le_of_lt (Nat.lt_of_le_of_lt H.out.far H.out.blk.lt)) hS.1.size)))
  clear q1 q3 q4 q2
  refine held_go hK (by exact ⟨hT.out,HC.out.blk.cell 1⟩) fun hS=>?_
  clear hK K
  try simp only [zp]
  clear hT
  refine nE fun K hK=>?_
  refine wp_append_any _ (.tmp 6) (.tmp 12) 35 rfl base 5 i0 (.int .u8 0) 1 1 Tryz.underlying35 hi0 hz0 hz1 hz2 rfl (by decide) B m cb _ rfl HC.out.bytes A2 _ c2 _ rfl (Reads.of_own N3.out) (u8s_one _) (by simp only [maxLen];omega) (by omega) (Nat.le_trans (Nat.le_of_lt (Nat.lt_of_le_of_lt H.out.far H.out.blk.lt)) hS.1.size) ?_
  intro A9 c9 w9 r1 r2 r3 r4 r5
  obtain ⟨b1,b2⟩:=HC.out.grow r3
  have B1:=Lib.hid b1
  have B2:=Lib.hid b2
  have R1:=Lib.hid r1
  have hT:=Lib.hid (hS.1.trans r2)
  clear b1 b2 r1 r2 r3
  refine held_go hK (by exact ⟨hT.out,B1.out.cell 1⟩) fun hS=>?_
  clear hK K
  try simp only [zp]
  refine nP hS ?_
  refine nP hS ?_
  have c2:=B1.out.cell 2
  have f2:=B1.out.frozen 2
  refine nE fun K hK=>?_
  go_simp
  clear c2 f2
  refine held_go hK (by exact ⟨hT.out.setCell (p:=⟨g,2,none⟩) H.out.far _,(B1.out.set_ 2 _).cell 1⟩) fun hS=>?_
  clear hK K
  try simp only [zp]
  refine plan_end ?_
  rw [<-u8s_append] at R1
  go_wp2
  go_end0
  exact ⟨rfl,A9,_,c9,⟨B1.out.set_ 2 _,H.out.far,own_far B2.out B1.out (by decide) 2 _,own_far R1.out B1.out (by decide) 2 _,r4,r5⟩,hS.1⟩
 refine nE fun K hK=>?_
 go_simp
 with_reducible refine (mpack_any A1 n c1 _ _ (Reads.of_own M3.out) M1.out M2.out Hn.out).mono ?_
 rintro e w2 ⟨A2,c2,rfl,q1,q2,q3,q4⟩
 have N1:=Lib.hid q1
 have N3:=Lib.hid q3
 have HC:=Lib.hid (HC.out.below q4)
 have hT:=Lib.hid (hS.1.trans (q4.mono (Nat.le_trans (Nat.le_of_lt (Nat.lt_of_le_of_lt H.out.far H.out.blk.lt)) hS.1.size)))
 clear q1 q3 q4 q2
 refine held_go hK (by exact ⟨hT.out,HC.out.blk.cell 1⟩) fun hS=>?_
 clear hK K
 try simp only [zp]
 clear hT
 have c2:=HC.out.blk.cell 2
 refine nE fun K hK=>?_
 go_simp
 refine held_go hK hS fun hS=>?_
 clear hK K
 try simp only [zp]
 clear c2
 refine nE fun K hK=>?_
 refine wp_append_any _ (.tmp 6) (.tmp 12) 35 rfl base 5 i0 (.int .u8 0) 1 1 Tryz.underlying35 hi0 hz0 hz1 hz2 rfl (by decide) B m cb _ rfl HC.out.bytes A2 _ c2 _ rfl (Reads.of_own N3.out) (u8s_one _) (by simp only [maxLen];omega) (by omega) (Nat.le_trans (Nat.le_of_lt (Nat.lt_of_le_of_lt H.out.far H.out.blk.lt)) hS.1.size) ?_
 intro A9 c9 w9 r1 r2 r3 r4 r5
 obtain ⟨b1,b2⟩:=HC.out.grow r3
 have B1:=Lib.hid b1
 have B2:=Lib.hid b2
 have R1:=Lib.hid r1
 have hT:=Lib.hid (hS.1.trans r2)
 clear b1 b2 r1 r2 r3
 refine held_go hK (by exact ⟨hT.out,B1.out.cell 1⟩) fun hS=>?_
 clear hK K
 try simp only [zp]
 refine nP hS ?_
 refine nP hS ?_
 have c2:=B1.out.cell 2
 have f2:=B1.out.frozen 2
 refine nE fun K hK=>?_
 go_simp
 clear c2 f2
 refine held_go hK (by exact ⟨hT.out.setCell (p:=⟨g,2,none⟩) H.out.far _,(B1.out.set_ 2 _).cell 1⟩) fun hS=>?_
 clear hK K
 try simp only [zp]
 refine plan_end ?_
 rw [<-u8s_append] at R1
 go_wp2
 go_end0
 exact ⟨rfl,A9,_,c9,⟨B1.out.set_ 2 _,H.out.far,own_far B2.out B1.out (by decide) 2 _,own_far R1.out B1.out (by decide) 2 _,r4,r5⟩,hS.1⟩
set_option maxHeartbeats 2000000 in
theorem putTexts_any (base g:Nat) (k at_:Int) (A:Option Addr) (n c:Nat) (l:List Cl) (B:Option Addr) (m cb:Nat) (xs:List UInt8) (w:World) (h:ColW w base g k at_ A n c l B m cb xs) (hn:n<=1099511627776) (hok:ClOk l)
  (htot:(xs++putD (l.map fun c=>c.2.2)).length<=1099511627776) :
  Calls Tryz.prog 165 #[.pointer (some ⟨g,0,none⟩)] w fun e w'=>e=.returned (.tuple #[])/\∃ B2 m2 c2,ColW w' base g k at_ A n c l B2 m2 c2 (xs++putD (l.map fun c=>c.2.2))/\Below base w w':=by
 have Hn:=Lib.hid hn
 have Hsz2:=Lib.hid (show ∀ s∈l.map (fun c=>c.2.2),s.size<=maxLen by
  intro s hs
  obtain ⟨c,hc,rfl⟩:=List.mem_map.1 hs
  exact (hok c hc).2.2)
 have H:=Lib.hid h
 have HC:=Lib.hid (show ColW w.drew base g k at_ A n c l B m cb xs from ⟨h.blk,h.far,h.cells,h.bytes,h.le,h.max⟩)
 have hS:Below base w w.drew/\w.drew.cell? ⟨g,1,none⟩=some (.slice A n c):=⟨(Below.refl _ _).drew,h.blk.cell 1⟩
 have Hv:=Lib.hid (show ∀ w',Below base w w'/\w'.cell? ⟨g,1,none⟩=some (.slice A n c)->w'.cell? ⟨g,1,none⟩=some (.slice A n c) from fun w' h=>h.2)
 clear h hn hok
 go_enter Tryz.func165,Tryz.ntmps165
 go_wp2
 refine nR (fun w'=>Below base w w'/\w'.cell? ⟨g,1,none⟩=some (.slice A n c)) (.pure 0 (.pure 1 (.pure 2 (.pure 3 (.pure 5 (.pure 6 (.pure 7 (.pure 8 (.fork 4 9 (.eff 9 (.eff 10 (.pure 11 (.pure 12 (.eff 13 .done))))) (.eff 4 (.eff 10 (.pure 11 (.pure 12 (.eff 13 .done)))))))))))))) ?_
 iterate 7
  refine nP hS ?_
 refine nP1 hS Hv.out ?_
 refine plan_fork ?_ ?_
 ·have c2:=HC.out.blk.cell 2
  refine nE fun K hK=>?_
  go_simp
  refine held_go hK hS fun hS=>?_
  clear hK K
  try simp only [zp]
  clear c2
  refine nE fun K hK=>?_
  go_simp
  with_reducible refine (mapTexts A n c l _ (Reads.of_own HC.out.cells) Hn.out).mono ?_
  rintro e w1 ⟨A1,c1,rfl,q1,q2,q3,q4⟩
  have M1:=Lib.hid q1
  have M2:=Lib.hid q2
  have M3:=Lib.hid q3
  have HC:=Lib.hid (HC.out.below q4)
  have hT:=Lib.hid (hS.1.trans (q4.mono (Nat.le_trans (Nat.le_of_lt (Nat.lt_of_le_of_lt H.out.far H.out.blk.lt)) hS.1.size)))
  clear q1 q2 q3 q4
  refine held_go hK (by exact ⟨hT.out,HC.out.blk.cell 1⟩) fun hS=>?_
  clear hK K
  try simp only [zp]
  clear hT
  refine nE fun K hK=>?_
  go_simp
  with_reducible refine (dput_any B m cb xs A1 n c1 _ _ (Reads.of_own HC.out.bytes) HC.out.le HC.out.max (Reads.of_own M3.out) Hn.out Hsz2.out htot).mono ?_
  rintro e w9 ⟨A9,c9,rfl,r1,r2,r3,r4⟩
  generalize (xs++putD (l.map fun c=>c.2.2)).length=N at r1 r3 ⊢
  have HC:=Lib.hid (HC.out.below r4)
  have hlow:=Nat.le_trans (Nat.le_of_lt (Nat.lt_of_le_of_lt H.out.far H.out.blk.lt)) hS.1.size
  have R1:=Lib.hid (own_mono r3 hlow)
  have hT:=Lib.hid (hS.1.trans (r4.mono hlow))
  clear r3 r4 hlow
  refine held_go hK (by exact ⟨hT.out,HC.out.blk.cell 1⟩) fun hS=>?_
  clear hK K
  try simp only [zp]
  refine nP hS ?_
  refine nP hS ?_
  have c2:=HC.out.blk.cell 2
  have f2:=HC.out.blk.frozen 2
  refine nE fun K hK=>?_
  go_simp
  clear c2 f2
  refine held_go hK (by exact ⟨hT.out.setCell (p:=⟨g,2,none⟩) H.out.far _,(HC.out.blk.set_ 2 _).cell 1⟩) fun hS=>?_
  clear hK K
  try simp only [zp]
  refine plan_end ?_
  go_wp2
  go_end0
  exact ⟨rfl,A9,_,c9,HC.out.store R1.out r1 r2,hS.1⟩
 refine nE fun K hK=>?_
 go_simp
 with_reducible refine (mapTexts A n c l _ (Reads.of_own HC.out.cells) Hn.out).mono ?_
 rintro e w1 ⟨A1,c1,rfl,q1,q2,q3,q4⟩
 have M1:=Lib.hid q1
 have M2:=Lib.hid q2
 have M3:=Lib.hid q3
 have HC:=Lib.hid (HC.out.below q4)
 have hT:=Lib.hid (hS.1.trans (q4.mono (Nat.le_trans (Nat.le_of_lt (Nat.lt_of_le_of_lt H.out.far H.out.blk.lt)) hS.1.size)))
 clear q1 q2 q3 q4
 refine held_go hK (by exact ⟨hT.out,HC.out.blk.cell 1⟩) fun hS=>?_
 clear hK K
 try simp only [zp]
 clear hT
 have c2:=HC.out.blk.cell 2
 refine nE fun K hK=>?_
 go_simp
 refine held_go hK hS fun hS=>?_
 clear hK K
 try simp only [zp]
 clear c2
 refine nE fun K hK=>?_
 go_simp
 with_reducible refine (dput_any B m cb xs A1 n c1 _ _ (Reads.of_own HC.out.bytes) HC.out.le HC.out.max (Reads.of_own M3.out) Hn.out Hsz2.out htot).mono ?_
 rintro e w9 ⟨A9,c9,rfl,r1,r2,r3,r4⟩
 generalize (xs++putD (l.map fun c=>c.2.2)).length=N at r1 r3 ⊢
 have HC:=Lib.hid (HC.out.below r4)
 have hlow:=Nat.le_trans (Nat.le_of_lt (Nat.lt_of_le_of_lt H.out.far H.out.blk.lt)) hS.1.size
 have R1:=Lib.hid (own_mono r3 hlow)
 have hT:=Lib.hid (hS.1.trans (r4.mono hlow))
 clear r3 r4 hlow
 refine held_go hK (by exact ⟨hT.out,HC.out.blk.cell 1⟩) fun hS=>?_
 clear hK K
 try simp only [zp]
 refine nP hS ?_
 refine nP hS ?_
 have c2:=HC.out.blk.cell 2
 have f2:=HC.out.blk.frozen 2
 refine nE fun K hK=>?_
 go_simp
 clear c2 f2
 refine held_go hK (by exact ⟨hT.out.setCell (p:=⟨g,2,none⟩) H.out.far _,(HC.out.blk.set_ 2 _).cell 1⟩) fun hS=>?_
 clear hK K
 try simp only [zp]
 refine plan_end ?_
 go_wp2
 go_end0
 exact ⟨rfl,A9,_,c9,HC.out.store R1.out r1 r2,hS.1⟩
end Go.Proofs.YtjpjalmilfgckaaGreatDoor
namespace Go.Proofs.YtjpjalmilfgckaaGreatDoor
open Go.RowKit
theorem clone_any (A:Option Addr) (n c:Nat) (l:List UInt8) (w:World) (hr:Reads w w.heap.size 1 A n (u8s l)) (hn:n<=35184372088832) :
  Calls Tryz.prog 104 #[.slice A n c] w fun e w'=>∃ A' c',e=.returned (.slice A' n c')/\n<=c'/\c'<=maxLen/\w'.ownsRow w.heap.size 5 1 (.slice A' n c') n (u8s l)/\Below w.heap.size w w':=by
 obtain ⟨i0,hi0,hz0,hz1,hz2⟩:=info_parts u8_info
 have hnil:∀ W,(binOp .eql 35 (.slice A n c) (.slice none 0 0)).run Tryz.prog W=.ok (.bool A.isNone) W:=fun W=>Lib.run_eql_slice_nil W _ _ _ _ _ _ _ Tryz.underlying35
 cases A with
 | none=>
  have hn0:n=0:=by
   rcases Nat.eq_zero_or_pos n with h | h
   ·exact h
   obtain ⟨ad,h2,_⟩:=hr.2 h
   cases h2
  subst hn0
  have hl0:l=[]:=by
   have:=hr.1
   cases l with
   | nil=>rfl
   | cons a l=>simp at this
  subst hl0
  go_enter Tryz.func104,Tryz.ntmps104
  go_wp2
  go_ret
  exact ⟨none,0,rfl,Nat.le_refl _,by decide,World.ownsRow_nil _ _ _ _,Below.refl _ _⟩
 | some ad=>
  have hown:(w.alloc (.cells #[] 5)).ownsRow w.heap.size 5 1 (.slice (some ⟨w.heap.size,0,none⟩) 0 0) 0 []:=(Blk.new w 5 #[]).own (Nat.le_refl _) rfl rfl (by decide)
  have hs2:(0+n)*1<=70368744177664:=by omega
  have hs1:0+n<=maxLen:=by simp only [maxLen];omega
  go_enter Tryz.func104,Tryz.ntmps104
  go_wp2_with (at_builtin
               refine wpList_append_any _ rfl (.tmp 5) (.tmp 6) 35 rfl w.heap.size 5 i0 (.int .u8 0) 1 1 Tryz.underlying35 hi0 hz0 hz1 hz2 rfl (by decide) (some ⟨w.heap.size,0,none⟩) 0 0 [] rfl hown (some ad) n c (u8s l) rfl (hr.al _) (u8s_one l) hs1 hs2 (by simp) ?_
               intro A3 c3 w3 hown3 hb3 hg3 hc3 hm3)
  go_ret
  rw [Nat.zero_add] at hown3 hc3
  rw [List.nil_append] at hown3
  exact ⟨A3,c3,by first | rfl | (rw [Nat.zero_add];rfl),hc3,hm3,hown3,((Below.refl _ _).alloc (Nat.le_refl _) _).trans hb3⟩
def putF (k:Int):Nat:=if k=1 then 163 else if k=4 then 165 else if k=5 then 166 else 164
theorem writes_any (k:Int) (w:World) (h1:1<=k) (h5:k<=5):Calls Tryz.prog 109 #[.int .i64 k] w fun e w'=>e=.returned (.func (.func (putF k)) #[] #[])/\w=w':=by
 have hix:(Instr.index 208 (.agg #[.nilFunc,.func (.func 163) #[] #[],.func (.func 164) #[] #[],.func (.func 164) #[] #[],.func (.func 165) #[] #[],.func (.func 166) #[] #[]]) (.int .i64 k)).run Tryz.prog w=.ok (.func (.func (putF k)) #[] #[]) w:=by
  rcases (show k=1\/k=2\/k=3\/k=4\/k=5 by omega) with rfl | rfl | rfl | rfl | rfl
  all_goals kernel_rfl
 go_enter Tryz.func109,Tryz.ntmps109
 go_wp2
 go_ret
 exact ⟨rfl,rfl⟩
end Go.Proofs.YtjpjalmilfgckaaGreatDoor
namespace Go.Proofs.YtjpjalmilfgckaaGreatDoor
open Go.RowKit
theorem cell_info:(Tryz.prog.info? 23).map (fun i=>(i.zero,i.size,i.bytes))=some (some (.agg #[.bool false,.int .i64 0,.string ⟨#[]⟩]),3,32):=by kernel_rfl
theorem cls_one (l:List Cl):∀ u∈cls l,u.oneCell'=true:=by
 intro u hu
 unfold cls at hu
 obtain ⟨c,-,hc⟩:=List.mem_flatMap.1 hu
 simp at hc
 rcases hc with rfl | rfl | rfl<;>rfl
theorem cls_append (l r:List Cl):cls (l++r)=cls l++cls r:=by simp [cls]
theorem reads_cell (w:World) (u:Bool) (x:Int) (s:ByteArray):Reads (w.alloc (.cells #[.bool u,.int .i64 x,.string s] 23)) (w.alloc (.cells #[.bool u,.int .i64 x,.string s] 23)).heap.size 3 (some ⟨w.heap.size,0,none⟩) 1 (cls [(u,x,s)]):=by
 refine ⟨rfl,fun _=>⟨_,rfl,by simp,fun j v hv=>?_⟩⟩
 have h:=(Blk.new w 23 #[.bool u,.int .i64 x,.string s]).cell j
 rw [show (⟨w.heap.size,0,none⟩:Addr).add j=⟨w.heap.size,j,none⟩ by unfold Addr.add;split<;>simp_all,h]
 simpa [cls] using hv
theorem blk_row {w w':World} {p:Nat} {t:TypeId} {cs:Array Value} {v:Value} (h:Blk w p t cs) (hg:w.grownBy w' v.ownBlock) (hr:∀ q,v.ownBlock=some q->q<p):Blk w' p t cs:=
 (hg.block p h.lt (fun e=>by have:=hr _ e.symm;omega)).trans h
theorem ColW.onDrew {w:World} {base g:Nat} {k at_:Int} {A:Option Addr} {n c:Nat} {l:List Cl} {B:Option Addr} {m cb:Nat} {xs:List UInt8} (h:ColW w base g k at_ A n c l B m cb xs):ColW w.drew base g k at_ A n c l B m cb xs:=
 ⟨h.blk,h.far,h.cells,h.bytes,h.le,h.max⟩
theorem ColW.app {w w':World} {base g:Nat} {k at_:Int} {A:Option Addr} {n c:Nat} {l:List Cl} {B:Option Addr} {m cb:Nat} {xs:List UInt8} (h:ColW w base g k at_ A n c l B m cb xs)
  (hg:w.grownBy w' (Value.slice A n c).ownBlock) (hb:Below base w w') {A2:Option Addr} {n2 c2:Nat} {l2:List Cl} (ho:w'.ownsRow base 23 3 (.slice A2 n2 c2) n2 (cls l2)) :
  ColW (w'.setCell ⟨g,1,none⟩ (.slice A2 n2 c2)) base g k at_ A2 n2 c2 l2 B m cb xs/\Blk w' g 142 #[.int .i64 k,.slice A n c,.slice B m cb,.int .i64 at_]:=by
 have hb2:=h.blk.apart h.cells (by decide) hg
 exact ⟨⟨hb2.set_ 1 _,h.far,own_far ho hb2 (by decide) 1 _,own_far (own_apart h.bytes h.cells (by decide) hg) hb2 (by decide) 1 _,h.le,h.max⟩,hb2⟩
structure ColG (w:World) (base bc g:Nat) (k at_:Int) (A:Option Addr) (n c:Nat) (l:List Cl) (B:Option Addr) (m cb:Nat) (xs:List UInt8):Prop where
 blk:Blk w g 142 #[.int .i64 k,.slice A n c,.slice B m cb,.int .i64 at_]
 far:base<=g
 cells:w.ownsRow bc 23 3 (.slice A n c) n (cls l)
 low0:base<=bc
 bytes:Reads w base 1 B m (u8s xs)
 le:m<=cb
 max:cb<=maxLen
section
variable {w w':World} {base bc g:Nat} {k at_:Int} {A:Option Addr} {n c:Nat} {l:List Cl} {B:Option Addr} {m cb:Nat} {xs:List UInt8}
theorem ColG.below (h:ColG w base bc g k at_ A n c l B m cb xs) (hb:Below w.heap.size w w'):ColG w' base bc g k at_ A n c l B m cb xs:=
 ⟨h.blk.on hb,h.far,own_below h.cells hb,h.low0,h.bytes.below (hb.mono (Nat.le_of_lt (Nat.lt_of_le_of_lt h.far h.blk.lt))),h.le,h.max⟩
theorem ColG.base_le (h:ColG w base bc g k at_ A n c l B m cb xs):base<=w.heap.size:=Nat.le_of_lt (Nat.lt_of_le_of_lt h.far h.blk.lt)
theorem ColG.onDrew (h:ColG w base bc g k at_ A n c l B m cb xs):ColG w.drew base bc g k at_ A n c l B m cb xs:=⟨h.blk,h.far,h.cells,h.low0,h.bytes,h.le,h.max⟩
theorem ColG.reads (h:ColG w base bc g k at_ A n c l B m cb xs):Reads w w.heap.size 1 B m (u8s xs):=h.bytes.more h.base_le
theorem ColG.app (h:ColG w base bc g k at_ A n c l B m cb xs)
  (hg:w.grownBy w' (Value.slice A n c).ownBlock) (hb:Below bc w w') {A2:Option Addr} {n2 c2:Nat} {l2:List Cl} (ho:w'.ownsRow bc 23 3 (.slice A2 n2 c2) n2 (cls l2)) :
  ColG (w'.setCell ⟨g,1,none⟩ (.slice A2 n2 c2)) base bc g k at_ A2 n2 c2 l2 B m cb xs/\Blk w' g 142 #[.int .i64 k,.slice A n c,.slice B m cb,.int .i64 at_]:=by
 have hb2:=h.blk.apart h.cells (by decide) hg
 exact ⟨⟨hb2.set_ 1 _,h.far,own_far ho hb2 (by decide) 1 _,h.low0,(h.bytes.below (hb.mono h.low0)).setCell (p:=⟨g,1,none⟩) h.far _,h.le,h.max⟩,hb2⟩
theorem ColG.seek (h:ColG w base bc g k at_ A n c l B m cb xs) (i:Int):ColG (w.setCell ⟨g,3,none⟩ (.int .i64 i)) base bc g k i A n c l B m cb xs:=
 ⟨h.blk.set_ 3 _,h.far,own_far h.cells h.blk (by decide) 3 _,h.low0,h.bytes.setCell (p:=⟨g,3,none⟩) h.far _,h.le,h.max⟩
theorem ColG.low (h:ColG w base bc g k at_ A n c l B m cb xs) {p:Nat} (hp:w.heap.size<=p):(∀ q,(Value.slice A n c).ownBlock=some q->q<p)/\g≠p:=
 ⟨fun q hq=>Nat.lt_of_lt_of_le (h.cells.lt q hq).2 hp,Nat.ne_of_lt (Nat.lt_of_lt_of_le h.blk.lt hp)⟩
theorem ColG.fresh (h:ColG w base bc g k at_ none 0 0 [] B m cb xs) {b2:Nat} (hb:base<=b2):ColG w base b2 g k at_ none 0 0 [] B m cb xs:=
 ⟨h.blk,h.far,World.ownsRow_nil _ _ _ _,hb,h.bytes,h.le,h.max⟩
theorem ColG.floor (h:ColG w base bc g k at_ A n c l B m cb xs):ColG w base base g k at_ A n c l B m cb xs:=
 ⟨h.blk,h.far,own_mono h.cells h.low0,Nat.le_refl _,h.bytes,h.le,h.max⟩
end
theorem ColW.low0 {w:World} {base g:Nat} {k at_:Int} {A:Option Addr} {n c:Nat} {l:List Cl} {B:Option Addr} {m cb:Nat} {xs:List UInt8} (h:ColW w base g k at_ A n c l B m cb xs):base<=base:=Nat.le_refl _
theorem Reads.notin {w:World} {B n g i:Nat} {A:Option Addr} {xs:List Value} {t:TypeId} {cs:Array Value} {v:Value} (h:Reads w B 1 A n xs) (hb:Blk w g t cs) (hx:∀ u∈xs,u ∉ cs):Reads (w.setCell ⟨g,i,none⟩ v) B 1 A n xs:=by
 refine ⟨h.1,fun hn=>?_⟩
 obtain ⟨ad,e,h1,h2⟩:=h.2 hn
 refine ⟨ad,e,h1,fun j u hu=>?_⟩
 have hne:(ad.add j).block≠g:=by
  intro hg
  have hc:=h2 j u hu
  unfold Blk at hb
  simp only [World.cell?,hg,hb] at hc
  split at hc
  ·cases hc
  exact hx u (List.mem_of_getElem? hu) (Array.mem_of_getElem? hc)
 exact (World.cell?_setCell_other w _ _ _ (fun e2=>hne (by rw [<-e2]))).trans (h2 j u hu)
theorem ColW.low {w:World} {base g:Nat} {k at_:Int} {A:Option Addr} {n c:Nat} {l:List Cl} {B:Option Addr} {m cb:Nat} {xs:List UInt8} (h:ColW w base g k at_ A n c l B m cb xs) {p:Nat} (hp:w.heap.size<=p):(∀ q,(Value.slice A n c).ownBlock=some q->q<p)/\g≠p:=
 ⟨fun q hq=>Nat.lt_of_lt_of_le (h.cells.lt q hq).2 hp,Nat.ne_of_lt (Nat.lt_of_lt_of_le h.blk.lt hp)⟩
def Apart (B g:Nat) (w w':World):Prop:=∀ k,k<B->k≠g->w'.heap[k]? = w.heap[k]?
section
variable {w w' w2:World} {B g:Nat}
theorem Apart.refl (B g:Nat) (w:World):Apart B g w w:=fun _ _ _=>rfl
theorem Apart.trans (h:Apart B g w w') (h2:Apart B g w' w2):Apart B g w w2:=fun k hk hg=>(h2 k hk hg).trans (h k hk hg)
theorem Apart.below {B2:Nat} (h:Apart B g w w') (hb:Below B2 w' w2) (hB:B<=B2):Apart B g w w2:=fun k hk hg=>(hb.block k (Nat.lt_of_lt_of_le hk hB)).trans (h k hk hg)
theorem Apart.alloc (h:Apart B g w w') (hB:B<=w'.heap.size) (o:Obj):Apart B g w (w'.alloc o):=fun k hk hg=>(Below.heap_alloc w' o k (Nat.lt_of_lt_of_le hk hB)).trans (h k hk hg)
theorem Apart.set (h:Apart B g w w') (i:Nat) (u:Value):Apart B g w (w'.setCell ⟨g,i,none⟩ u):=fun k hk hg=>(Below.heap_setCell w' ⟨g,i,none⟩ u k hg).trans (h k hk hg)
theorem Apart.drew (h:Apart B g w w'):Apart B g w w'.drew:=h
theorem Apart.reads {n:Nat} {A:Option Addr} {xs:List Value} {t:TypeId} {cs:Array Value} (h:Apart B g w w') (hr:Reads w B 1 A n xs) (hb:Blk w g t cs) (hx:∀ u∈xs,u ∉ cs):Reads w' B 1 A n xs:=by
 refine ⟨hr.1,fun hn=>?_⟩
 obtain ⟨ad,e,h1,h2⟩:=hr.2 hn
 refine ⟨ad,e,h1,fun j u hu=>?_⟩
 have hne:(ad.add j).block≠g:=by
  intro hg
  have hc:=h2 j u hu
  unfold Blk at hb
  simp only [World.cell?,hg,hb] at hc
  split at hc
  ·cases hc
  exact hx u (List.mem_of_getElem? hu) (Array.mem_of_getElem? hc)
 exact (World.cell?_of_block (h _ (by rw [block_of_add];exact h1) hne)).trans (h2 j u hu)
end
theorem putD_le (l:List ByteArray) (h:∀ s∈l,s.size<=1024):(putD l).length<=10+1044*l.length:=by
 have hlen:=splitL_len l
 have h1:((splitL l).1.flatMap putText).length<=1034*(splitL l).1.length:=by
  have:∀ t:List ByteArray,(∀ s∈t,s.size<=1024)->(t.flatMap putText).length<=1034*t.length:=by
   intro t
   induction t with
   | nil=>intro _;simp
   | cons s t ih=>
    intro ht
    have h2:=ih (fun x hx=>ht x (by simp [hx]))
    have h3:=ht s (by simp)
    have h4:=leb_le (bts s).length
    simp only [List.flatMap_cons,List.length_append,List.length_cons,putText,bts_len] at *
    omega
  exact this _ (fun s hs=>h s ((split_mem l s).1 hs))
 have h2:((splitL l).2.flatMap leb).length<=10*(splitL l).2.length:=by
  have:∀ t:List Nat,(t.flatMap leb).length<=10*t.length:=by
   intro t
   induction t with
   | nil=>simp
   | cons s t ih=>
    have h4:=leb_le s
    simp only [List.flatMap_cons,List.length_append,List.length_cons] at *
    omega
  exact this _
 have h3:=leb_le (splitL l).1.length
 unfold putD
 simp only [List.length_append]
 omega
end Go.Proofs.YtjpjalmilfgckaaGreatDoor
