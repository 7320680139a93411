/- Part 7 of the walks. Conditions: each lemma states its own. -/
import Derived.Test.YtjpjalmilfgckaaGreatDoorZz6
import Derived.Lib.Slices
set_option maxRecDepth 100000
set_option maxHeartbeats 4000000
set_option linter.unusedVariables false
set_option linter.unusedSimpArgs false
namespace Go.Proofs.YtjpjalmilfgckaaGreatDoor
section
open Go.RowKit
structure ColW (w:World) (base g:Nat) (k at_:Int) (A:Option Addr) (n c:Nat) (l:List Cl) (B:Option Addr) (m cb:Nat) (xs:List UInt8):Prop where
 blk:Blk w g 142 #[.int .i64 k,.slice A n c,.slice B m cb,.int .i64 at_]
 far:base<=g
 cells:w.ownsRow base 23 3 (.slice A n c) n (cls l)
 bytes:w.ownsRow base 5 1 (.slice B m cb) m (u8s xs)
 le:m<=cb
 max:cb<=maxLen
theorem ColW.below {w w':World} {base g:Nat} {k at_:Int} {A:Option Addr} {n c:Nat} {l:List Cl} {B:Option Addr} {m cb:Nat} {xs:List UInt8} (h:ColW w base g k at_ A n c l B m cb xs) (hb:Below w.heap.size w w'):ColW w' base g k at_ A n c l B m cb xs:=
 ⟨h.blk.on hb,h.far,zd h.cells hb,zd h.bytes hb,h.le,h.max⟩
theorem ColW.store {w:World} {base g:Nat} {k at_:Int} {A:Option Addr} {n c:Nat} {l:List Cl} {B:Option Addr} {m cb:Nat} {xs:List UInt8} (h:ColW w base g k at_ A n c l B m cb xs) {B2:Option Addr} {m2 c2:Nat} {ys:List UInt8}
  (ho:w.ownsRow base 5 1 (.slice B2 m2 c2) m2 (u8s ys)) (h1:m2<=c2) (h2:c2<=maxLen):ColW (w.setCell ⟨g,2,none⟩ (.slice B2 m2 c2)) base g k at_ A n c l B2 m2 c2 ys:=
 ⟨h.blk.set_ 2 _,h.far,zf h.cells h.blk (by decide) 2 _,zf ho h.blk (by decide) 2 _,h1,h2⟩
theorem U2 (base g:Nat) (k at_:Int) (A:Option Addr) (n c:Nat) (l:List Cl) (B:Option Addr) (m cb:Nat) (xs:List UInt8) (w:World) (h:ColW w base g k at_ A n c l B m cb xs) (hok:VE l) (hm:m+10*n<=1099511627776) (hs:base<=w.heap.size) :
  Calls Tryz.prog 164 #[.pointer (some ⟨g,0,none⟩)] w fun e w'=>e=.returned (.tuple #[])/\∃ B2 m2 c2,ColW w' base g k at_ A n c l B2 m2 c2 (xs++yW l)/\Below base w w':=by
 have Hok:=za hok;have Hln:=za (ye (Reads.of_own h.cells));have c0:=h.blk.cell 0;have c1:=h.blk.cell 1;have H:=za h;have hgs:=h.blk.lt;clear h hok;go_enter Tryz.func164,Tryz.ntmps164;go_wp2;clear c0 c1;go_loopw [9] (fun i wr=>∃ (j m1:Nat) (B1:Option Addr) (c1:Nat),j<=n/\i=.int .i64 (j:Int)/\m1<=m+10*j/\ColW wr base g k at_ A n c l B1 m1 c1 (xs++yW (l.take j))/\Below base w wr) (fun i _=>n-(intOf i).toNat)
 case atStart=>exact ⟨0,m,B,cb,Nat.zero_le _,rfl,by omega,by simpa [yW] using H.out,Below.refl _ _⟩
 case round=>
  obtain ⟨j,m1,B1,c1,hj,rfl,hm1,hC,hB⟩:=hrel;have HC:=za hC;have HB:=za hB;clear hC hB;by_cases hlt:j<n
  ·obtain ⟨ad,u,x,s,rfl,hbk,hx,h0,h1,h2⟩:=ym (Reads.of_own HC.out.cells) hlt;have Hx:=za hx;clear hx hbk;go_wp2;have HC2:=za (HC.out.below ((Below.refl _ wr).alloc (Nat.le_refl _) (.cells #[.bool u,.int .i64 x,.string s] 23)));obtain ⟨W0,hW0⟩:∃ W0,W0=(wr.alloc (.cells #[.bool u,.int .i64 x,.string s] 23)).drew:=⟨_,rfl⟩;have hB2:=za (show Below base w W0 by rw [hW0];exact (HB.out.alloc (Nat.le_trans hs HB.out.size) (.cells #[.bool u,.int .i64 x,.string s] 23)).drew);have hsz:=za (show W0.heap.size=wr.heap.size+1 by rw [hW0];simp);have HC3:=za (show ColW W0 base g k at_ (some ad) n c l B1 m1 c1 (xs++yW (l.take j)) by rw [hW0];exact ⟨HC2.out.blk,HC2.out.far,HC2.out.cells,HC2.out.bytes,HC2.out.le,HC2.out.max⟩);have H3:=za (show W0.cell? ⟨wr.heap.size,1,none⟩=some (.int .i64 x) by rw [hW0];exact (Blk.new wr 23 #[.bool u,.int .i64 x,.string s]).cell 1);have hbs:=za (Nat.le_trans hs (Nat.le_trans HB.out.size (by omega:wr.heap.size<=wr.heap.size+1)));have hS:Below base W0 (wr.alloc (.cells #[.bool u,.int .i64 x,.string s] 23)).drew/\(wr.alloc (.cells #[.bool u,.int .i64 x,.string s] 23)).drew.cell? ⟨wr.heap.size,1,none⟩=some (.int .i64 x):=(by rw [<-hW0];exact ⟨Below.refl _ _,H3.out⟩);have Hv:=za (show ∀ w',Below base W0 w'/\w'.cell? ⟨wr.heap.size,1,none⟩=some (.int .i64 x)->w'.cell? ⟨wr.heap.size,1,none⟩=some (.int .i64 x) from fun w' h=>h.2);refine nR (fun w'=>Below base W0 w'/\w'.cell? ⟨wr.heap.size,1,none⟩=some (.int .i64 x)) (.pure 0 (.pure 1 (.pure 2 (.pure 3 (.pure 5 (.pure 6 (.eff 4 (.eff 7 (.pure 8 (.pure 9 (.eff 10 .done))))))))))) ?_;rw [<-hW0] at hS ⊢;clear hW0;(iterate 5 refine nP hS ?_);refine nP1 hS Hv.out ?_;have c2:=HC3.out.blk.cell 2;refine nE fun K hK=>?_;go_simp;refine hG hK hS fun hS=>?_;clear hK K;clear c2;refine nE fun K hK=>?_;go_simp;have Hxb:=Hok.out (u,x,s) (List.mem_of_getElem? Hx.out);(with_reducible refine (JT B1 m1 c1 x _ _ (Reads.of_own HC3.out.bytes) HC3.out.le HC3.out.max (by omega) Hxb.1 Hxb.2.1).mono ?_);rintro e w3 ⟨A9,c9,rfl,q1,q2,q3,q4⟩;have HC4:=za (HC3.out.below q4);have hbw:=za (Nat.le_of_lt (Nat.lt_of_le_of_lt HC3.out.far HC3.out.blk.lt));have q5:=za (zi q3 hbw.out);have hw4:w3.cell? ⟨wr.heap.size,1,none⟩=some (.int .i64 x):=(q4.cell (p:=⟨wr.heap.size,1,none⟩) (by have:=hsz.out;simp;omega)).trans hS.2;have Hw4:=za hw4;have Q4:=za (q4.mono hbw.out);clear q3 q4 hw4 Hxb;refine hG hK (by exact ⟨Q4.out,Hw4.out⟩) fun hS=>?_;clear hK K;(iterate 2 refine nP hS ?_);have c2:=HC4.out.blk.cell 2;have f2:=HC4.out.blk.frozen 2;have HC5:=za (HC4.out.store q5.out q1 q2);have Q6:=za (Q4.out.setCell (p:=⟨g,2,none⟩) HC4.out.far (.slice A9 (m1+(leb (zig x)).length) c9));have Q7:=za (show (w3.setCell ⟨g,2,none⟩ (.slice A9 (m1+(leb (zig x)).length) c9)).cell? ⟨wr.heap.size,1,none⟩=some (.int .i64 x) from (World.cell?_setCell_other w3 _ _ _ (by intro h;injection h with h1 h2 h3;cases h2)).trans Hw4.out);refine nE fun K hK=>?_;go_simp;clear c2 f2;refine hG hK (by exact ⟨Q6.out,Q7.out⟩) fun hS=>?_;clear hK K;refine zv ?_
   have hle:=zE (zig x);rw [show (xs++yW (l.take j))++leb (zig x)=xs++yW (l.take (j+1)) by rw [List.take_add_one,Hx.out];simp [yW]] at HC5;go_wp2;go_roundw;case rel=>exact ⟨j+1,_,A9,c9,by omega,by go_num,by omega,HC5.out,hB2.out.trans Q6.out⟩
   case measure=>simp [intOf];omega
  obtain rfl:j=n:=by omega
  have hmap:l.take j=l:=List.take_of_length_le (by rw [Hln.out];exact Nat.le_refl _);have HCe:=za (show ColW wr base g k at_ A j c l B1 m1 c1 (xs++yW l) by have:=HC.out;rwa [hmap] at this);clear hmap;go_wp2
  go_end0
  exact ⟨rfl,B1,m1,c1,HCe.out,HB.out⟩
theorem acn (base g:Nat) (k at_:Int) (A:Option Addr) (n c:Nat) (l:List Cl) (B:Option Addr) (m cb:Nat) (xs:List UInt8) (w:World) (h:ColW w base g k at_ A n c l B m cb xs) (hok:VE l) (hsz:∀ c∈l,c.2.2.size<=1024) (hm:m+2048*n<=1099511627776) (hs:base<=w.heap.size) :
  Calls Tryz.prog 166 #[.pointer (some ⟨g,0,none⟩)] w fun e w'=>e=.returned (.tuple #[])/\∃ B2 m2 c2,ColW w' base g k at_ A n c l B2 m2 c2 (xs++y9 l)/\Below base w w':=by
 have Hok:=za hok;have Hsz:=za hsz;obtain ⟨i0,hi0,hz0,hz1,hz2⟩:=info_parts z7;have Hln:=za (ye (Reads.of_own h.cells));have c0:=h.blk.cell 0;have c1:=h.blk.cell 1;have H:=za h;have hgs:=h.blk.lt;clear h hok hsz;go_enter Tryz.func166,Tryz.ntmps166;go_wp2;clear c0 c1;go_loopw [9] (fun i wr=>∃ (j m1:Nat) (B1:Option Addr) (c1:Nat),j<=n/\i=.int .i64 (j:Int)/\m1<=m+2048*j/\ColW wr base g k at_ A n c l B1 m1 c1 (xs++y9 (l.take j))/\Below base w wr) (fun i _=>n-(intOf i).toNat)
 case atStart=>exact ⟨0,m,B,cb,Nat.zero_le _,rfl,by omega,by simpa [y9] using H.out,Below.refl _ _⟩
 case round=>
  obtain ⟨j,m1,B1,c1,hj,rfl,hm1,hC,hB⟩:=hrel;have HC:=za hC;have HB:=za hB;clear hC hB;by_cases hlt:j<n
  ·obtain ⟨ad,u,x,s,rfl,hbk,hx,h0,h1,h2⟩:=ym (Reads.of_own HC.out.cells) hlt;have Hx:=za hx;clear hx hbk;go_wp2;have HC2:=za (HC.out.below ((Below.refl _ wr).alloc (Nat.le_refl _) (.cells #[.bool u,.int .i64 x,.string s] 23)));obtain ⟨W0,hW0⟩:∃ W0,W0=(wr.alloc (.cells #[.bool u,.int .i64 x,.string s] 23)).drew:=⟨_,rfl⟩;have hB2:=za (show Below base w W0 by rw [hW0];exact (HB.out.alloc (Nat.le_trans hs HB.out.size) (.cells #[.bool u,.int .i64 x,.string s] 23)).drew);have hsz:=za (show W0.heap.size=wr.heap.size+1 by rw [hW0];simp);have HC3:=za (show ColW W0 base g k at_ (some ad) n c l B1 m1 c1 (xs++y9 (l.take j)) by rw [hW0];exact ⟨HC2.out.blk,HC2.out.far,HC2.out.cells,HC2.out.bytes,HC2.out.le,HC2.out.max⟩);have H3:=za (show W0.cell? ⟨wr.heap.size,2,none⟩=some (.string s) by rw [hW0];exact (Blk.new wr 23 #[.bool u,.int .i64 x,.string s]).cell 2);have hbs:=za (Nat.le_trans hs (Nat.le_trans HB.out.size (by omega:wr.heap.size<=wr.heap.size+1)));have Hs:=za (Hsz.out (u,x,s) (List.mem_of_getElem? Hx.out));have hgw:=za HC.out.blk.lt;have Hwr:=za (show IntKind.u64.wrap (s.size:Int)=(s.size:Int) by have:=Hs.out;simp [IntKind.wrap,IntKind.signed,IntKind.bits] at *;omega);have hS:Below base W0 (wr.alloc (.cells #[.bool u,.int .i64 x,.string s] 23)).drew/\(wr.alloc (.cells #[.bool u,.int .i64 x,.string s] 23)).drew.cell? ⟨wr.heap.size,2,none⟩=some (.string s):=(by rw [<-hW0];exact ⟨Below.refl _ _,H3.out⟩);have Hv:=za (show ∀ w',Below base W0 w'/\w'.cell? ⟨wr.heap.size,2,none⟩=some (.string s)->w'.cell? ⟨wr.heap.size,2,none⟩=some (.string s) from fun w' h=>h.2);refine nR (fun w'=>Below base W0 w'/\w'.cell? ⟨wr.heap.size,2,none⟩=some (.string s)) (.pure 0 (.pure 1 (.pure 2 (.pure 3 (.pure 5 (.pure 6 (.pure 7 (.pure 8 (.pure 10 (.pure 11 (.eff 4 (.eff 9 (.eff 12 (.pure 13 (.pure 14 (.eff 15 .done)))))))))))))))) ?_;rw [<-hW0] at hS ⊢;clear hW0;(iterate 5 refine nP hS ?_);refine nP1 hS Hv.out ?_;(iterate 2 refine nP hS ?_);rw [Hwr.out];refine nP hS ?_;refine nP1 hS Hv.out ?_;have c2:=HC3.out.blk.cell 2;refine nE fun K hK=>?_;go_simp;refine hG hK hS fun hS=>?_;clear hK K;clear c2;refine nE fun K hK=>?_;go_simp;(with_reducible refine (YC B1 m1 c1 s.size _ _ (Reads.of_own HC3.out.bytes) HC3.out.le HC3.out.max (by omega) (by have:=Hs.out;simp only at this;omega)).mono ?_);rintro e w3 ⟨A8,c8,rfl,p1,p2,p3,p4⟩;have hbw:=za (Nat.le_of_lt (Nat.lt_of_le_of_lt HC3.out.far HC3.out.blk.lt));have P1:=za p1;have P2:=za p2;have P3:=za p3;have P4:=za p4;have Hw3:=za (show w3.cell? ⟨wr.heap.size,2,none⟩=some (.string s) from (p4.cell (p:=⟨wr.heap.size,2,none⟩) (by have:=hsz.out;simp;omega)).trans hS.2);clear p1 p2 p3 p4;refine hG hK (by exact ⟨P4.out.mono hbw.out,Hw3.out⟩) fun hS=>?_;clear hK K;have hln:=Array.length_toList (xs:=s.data);refine nE fun K hK=>?_
   refine YG (.tmp 22) (.tmp 24) 35 9 rfl W0.heap.size 5 i0 Tryz.underlying35 Tryz.underlying9 hi0 hz0 hz1 hz2 A8 _ c8 _ rfl P3.out s rfl (by have:=zE s.size;have h2:=Hs.out;have h3:s.data.toList.length=s.size:=hln;simp only at h2;omega) P4.out.size ?_;intro A9 c9 w4 q3 q4 qg q1 q2;have q4:=P4.out.trans q4;have HC4:=za (HC3.out.below q4);have q5:=za (zi q3 hbw.out);have hw4:w4.cell? ⟨wr.heap.size,2,none⟩=some (.string s):=(q4.cell (p:=⟨wr.heap.size,2,none⟩) (by have:=hsz.out;simp;omega)).trans H3.out;have Hw4:=za hw4;have Q4:=za (q4.mono hbw.out);clear q3 q4 hw4 qg;refine hG hK (by exact ⟨Q4.out,Hw4.out⟩) fun hS=>?_;clear hK K;(iterate 2 refine nP hS ?_);have c2:=HC4.out.blk.cell 2;have f2:=HC4.out.blk.frozen 2;have HC5:=za (HC4.out.store q5.out q1 q2);have Q6:=za (Q4.out.setCell (p:=⟨g,2,none⟩) HC4.out.far (.slice A9 (m1+(leb s.size).length+s.data.toList.length) c9));have Q7:=za (show (w4.setCell ⟨g,2,none⟩ (.slice A9 (m1+(leb s.size).length+s.data.toList.length) c9)).cell? ⟨wr.heap.size,2,none⟩=some (.string s) from (World.cell?_setCell_other w4 _ _ _ (by intro h;injection h with h1 h2 h3;have:=hgw.out;omega)).trans Hw4.out);refine nE fun K hK=>?_;go_simp;clear c2 f2;refine hG hK (by exact ⟨Q6.out,Q7.out⟩) fun hS=>?_;clear hK K;refine zv ?_;have hle:=zE s.size;have h2:=Hs.out;have h3:s.data.toList.length=s.size:=hln;simp only at h2;rw [show ((xs++y9 (l.take j))++leb s.size)++s.data.toList=xs++y9 (l.take (j+1)) by rw [List.take_add_one,Hx.out];simp [y9]] at HC5;go_wp2;go_roundw;case rel=>exact ⟨j+1,_,A9,c9,by omega,by go_num,by omega,HC5.out,hB2.out.trans Q6.out⟩
   case measure=>simp [intOf];omega
  obtain rfl:j=n:=by omega
  have hmap:l.take j=l:=List.take_of_length_le (by rw [Hln.out];exact Nat.le_refl _);have HCe:=za (show ColW wr base g k at_ A j c l B1 m1 c1 (xs++y9 l) by have:=HC.out;rwa [hmap] at this);clear hmap;go_wp2
  go_end0
  exact ⟨rfl,B1,m1,c1,HCe.out,HB.out⟩
theorem ColW.grow {w w':World} {base g:Nat} {k at_:Int} {A:Option Addr} {n c:Nat} {l:List Cl} {B:Option Addr} {m cb:Nat} {xs:List UInt8} (h:ColW w base g k at_ A n c l B m cb xs) (hg:w.grownBy w' (Value.slice B m cb).ownBlock) :
  Blk w' g 142 #[.int .i64 k,.slice A n c,.slice B m cb,.int .i64 at_]/\w'.ownsRow base 23 3 (.slice A n c) n (cls l):=
 ⟨h.blk.apart h.bytes (by decide) hg,zk h.cells h.bytes (by decide) hg⟩
theorem abH (base g:Nat) (k at_:Int) (A:Option Addr) (n c:Nat) (l:List Cl) (B:Option Addr) (m cb:Nat) (xs:List UInt8) (w:World) (h:ColW w base g k at_ A n c l B m cb xs) (hm:m+n<=1099511627776) :
  Calls Tryz.prog 163 #[.pointer (some ⟨g,0,none⟩)] w fun e w'=>e=.returned (.tuple #[])/\∃ B2 m2 c2,ColW w' base g k at_ A n c l B2 m2 c2 (xs++zB (l.map fun c=>c.2.1==1))/\Below base w w':=by
 obtain ⟨i0,hi0,hz0,hz1,hz2⟩:=info_parts z7;have Hln:=za (ye (Reads.of_own h.cells));have hpl:(zB (l.map fun c=>c.2.1==1)).length<=n:=by rw [yY,List.length_map,Hln.out];simp only [zD];omega
 have Hn:=za (show n<=1099511627776 by omega);have H:=za h;have HC:=za (show ColW w.drew base g k at_ A n c l B m cb xs from ⟨h.blk,h.far,h.cells,h.bytes,h.le,h.max⟩);have hS:Below base w w.drew/\w.drew.cell? ⟨g,1,none⟩=some (.slice A n c):=⟨(Below.refl _ _).drew,h.blk.cell 1⟩;have Hv:=za (show ∀ w',Below base w w'/\w'.cell? ⟨g,1,none⟩=some (.slice A n c)->w'.cell? ⟨g,1,none⟩=some (.slice A n c) from fun w' h=>h.2);clear h;go_enter Tryz.func163,Tryz.ntmps163;go_wp2;refine nR (fun w'=>Below base w w'/\w'.cell? ⟨g,1,none⟩=some (.slice A n c)) (.pure 0 (.pure 1 (.pure 2 (.pure 3 (.pure 5 (.pure 6 (.pure 7 (.pure 8 (.fork 4 9 (.eff 9 (.eff 10 (.eff 11 (.pure 12 (.pure 13 (.eff 14 .done)))))) (.fork 4 10 (.eff 10 (.eff 11 (.pure 12 (.pure 13 (.eff 14 .done))))) (.eff 4 (.eff 11 (.pure 12 (.pure 13 (.eff 14 .done))))))))))))))) ?_;iterate 7 refine nP hS ?_
 refine nP1 hS Hv.out ?_;refine zS ?_ ?_
 ·have c2:=HC.out.blk.cell 2;refine nE fun K hK=>?_;go_simp;refine hG hK hS fun hS=>?_;clear hK K;clear c2;refine nE fun K hK=>?_;go_simp;with_reducible refine (ae7 A n c l _ (Reads.of_own HC.out.cells) Hn.out).mono ?_
  rintro e w1 ⟨A1,c1,rfl,q1,q2,q3,q4⟩;have M1:=za q1;have M2:=za q2;have M3:=za q3;have HC:=za (HC.out.below q4);have hT:=za (hS.1.trans (q4.mono (Nat.le_trans (Nat.le_of_lt (Nat.lt_of_le_of_lt H.out.far H.out.blk.lt)) hS.1.size)));clear q1 q2 q3 q4;refine hG hK (by exact ⟨hT.out,HC.out.blk.cell 1⟩) fun hS=>?_;clear hK K;clear hT;refine nE fun K hK=>?_;go_simp;with_reducible refine (ZZ A1 n c1 _ _ (Reads.of_own M3.out) M1.out M2.out Hn.out).mono ?_
  rintro e w2 ⟨A2,c2,rfl,q1,q2,q3,q4⟩;have N1:=za q1;have N3:=za q3;have HC:=za (HC.out.below q4);have hT:=za (hS.1.trans (q4.mono (Nat.le_trans (Nat.le_of_lt (Nat.lt_of_le_of_lt H.out.far H.out.blk.lt)) hS.1.size)));clear q1 q3 q4 q2;refine hG hK (by exact ⟨hT.out,HC.out.blk.cell 1⟩) fun hS=>?_;clear hK K;clear hT;refine nE fun K hK=>?_;refine zl _ (.tmp 6) (.tmp 12) 35 rfl base 5 i0 (.int .u8 0) 1 1 Tryz.underlying35 hi0 hz0 hz1 hz2 rfl (by decide) B m cb _ rfl HC.out.bytes A2 _ c2 _ rfl (Reads.of_own N3.out) (z6 _) (by simp only [maxLen];omega) (by omega) (Nat.le_trans (Nat.le_of_lt (Nat.lt_of_le_of_lt H.out.far H.out.blk.lt)) hS.1.size) ?_;intro A9 c9 w9 r1 r2 r3 r4 r5;obtain ⟨b1,b2⟩:=HC.out.grow r3;have B1:=za b1;have B2:=za b2;have R1:=za r1;have hT:=za (hS.1.trans r2);clear b1 b2 r1 r2 r3;refine hG hK (by exact ⟨hT.out,B1.out.cell 1⟩) fun hS=>?_;clear hK K;iterate 2 refine nP hS ?_
  have c2:=B1.out.cell 2;have f2:=B1.out.frozen 2;refine nE fun K hK=>?_;go_simp;clear c2 f2;refine hG hK (by exact ⟨hT.out.setCell (p:=⟨g,2,none⟩) H.out.far _,(B1.out.set_ 2 _).cell 1⟩) fun hS=>?_;clear hK K;refine zv ?_;rw [<-zt] at R1;go_wp2
  go_end0
  exact ⟨rfl,A9,_,c9,⟨B1.out.set_ 2 _,H.out.far,zf B2.out B1.out (by decide) 2 _,zf R1.out B1.out (by decide) 2 _,r4,r5⟩,hS.1⟩
 refine nE fun K hK=>?_;go_simp;with_reducible refine (ae7 A n c l _ (Reads.of_own HC.out.cells) Hn.out).mono ?_
 rintro e w1 ⟨A1,c1,rfl,q1,q2,q3,q4⟩;have M1:=za q1;have M2:=za q2;have M3:=za q3;have HC:=za (HC.out.below q4);have hT:=za (hS.1.trans (q4.mono (Nat.le_trans (Nat.le_of_lt (Nat.lt_of_le_of_lt H.out.far H.out.blk.lt)) hS.1.size)));clear q1 q2 q3 q4;refine hG hK (by exact ⟨hT.out,HC.out.blk.cell 1⟩) fun hS=>?_;clear hK K;clear hT;refine zS ?_ ?_
 ·have c2:=HC.out.blk.cell 2;refine nE fun K hK=>?_;go_simp;refine hG hK hS fun hS=>?_;clear hK K;clear c2;refine nE fun K hK=>?_;go_simp;with_reducible refine (ZZ A1 n c1 _ _ (Reads.of_own M3.out) M1.out M2.out Hn.out).mono ?_
  rintro e w2 ⟨A2,c2,rfl,q1,q2,q3,q4⟩;have N1:=za q1;have N3:=za q3;have HC:=za (HC.out.below q4);have hT:=za (hS.1.trans (q4.mono (Nat.le_trans (Nat.le_of_lt (Nat.lt_of_le_of_lt H.out.far H.out.blk.lt)) hS.1.size)));clear q1 q3 q4 q2;refine hG hK (by exact ⟨hT.out,HC.out.blk.cell 1⟩) fun hS=>?_;clear hK K;clear hT;refine nE fun K hK=>?_;refine zl _ (.tmp 6) (.tmp 12) 35 rfl base 5 i0 (.int .u8 0) 1 1 Tryz.underlying35 hi0 hz0 hz1 hz2 rfl (by decide) B m cb _ rfl HC.out.bytes A2 _ c2 _ rfl (Reads.of_own N3.out) (z6 _) (by simp only [maxLen];omega) (by omega) (Nat.le_trans (Nat.le_of_lt (Nat.lt_of_le_of_lt H.out.far H.out.blk.lt)) hS.1.size) ?_;intro A9 c9 w9 r1 r2 r3 r4 r5;obtain ⟨b1,b2⟩:=HC.out.grow r3;have B1:=za b1;have B2:=za b2;have R1:=za r1;have hT:=za (hS.1.trans r2);clear b1 b2 r1 r2 r3;refine hG hK (by exact ⟨hT.out,B1.out.cell 1⟩) fun hS=>?_;clear hK K;iterate 2 refine nP hS ?_
  have c2:=B1.out.cell 2;have f2:=B1.out.frozen 2;refine nE fun K hK=>?_;go_simp;clear c2 f2;refine hG hK (by exact ⟨hT.out.setCell (p:=⟨g,2,none⟩) H.out.far _,(B1.out.set_ 2 _).cell 1⟩) fun hS=>?_;clear hK K;refine zv ?_;rw [<-zt] at R1;go_wp2
  go_end0
  exact ⟨rfl,A9,_,c9,⟨B1.out.set_ 2 _,H.out.far,zf B2.out B1.out (by decide) 2 _,zf R1.out B1.out (by decide) 2 _,r4,r5⟩,hS.1⟩
 refine nE fun K hK=>?_;go_simp;with_reducible refine (ZZ A1 n c1 _ _ (Reads.of_own M3.out) M1.out M2.out Hn.out).mono ?_
 rintro e w2 ⟨A2,c2,rfl,q1,q2,q3,q4⟩;have N1:=za q1;have N3:=za q3;have HC:=za (HC.out.below q4);have hT:=za (hS.1.trans (q4.mono (Nat.le_trans (Nat.le_of_lt (Nat.lt_of_le_of_lt H.out.far H.out.blk.lt)) hS.1.size)));clear q1 q3 q4 q2;refine hG hK (by exact ⟨hT.out,HC.out.blk.cell 1⟩) fun hS=>?_;clear hK K;clear hT;have c2:=HC.out.blk.cell 2;refine nE fun K hK=>?_;go_simp;refine hG hK hS fun hS=>?_;clear hK K;clear c2;refine nE fun K hK=>?_;refine zl _ (.tmp 6) (.tmp 12) 35 rfl base 5 i0 (.int .u8 0) 1 1 Tryz.underlying35 hi0 hz0 hz1 hz2 rfl (by decide) B m cb _ rfl HC.out.bytes A2 _ c2 _ rfl (Reads.of_own N3.out) (z6 _) (by simp only [maxLen];omega) (by omega) (Nat.le_trans (Nat.le_of_lt (Nat.lt_of_le_of_lt H.out.far H.out.blk.lt)) hS.1.size) ?_;intro A9 c9 w9 r1 r2 r3 r4 r5;obtain ⟨b1,b2⟩:=HC.out.grow r3;have B1:=za b1;have B2:=za b2;have R1:=za r1;have hT:=za (hS.1.trans r2);clear b1 b2 r1 r2 r3;refine hG hK (by exact ⟨hT.out,B1.out.cell 1⟩) fun hS=>?_;clear hK K;iterate 2 refine nP hS ?_
 have c2:=B1.out.cell 2;have f2:=B1.out.frozen 2;refine nE fun K hK=>?_;go_simp;clear c2 f2;refine hG hK (by exact ⟨hT.out.setCell (p:=⟨g,2,none⟩) H.out.far _,(B1.out.set_ 2 _).cell 1⟩) fun hS=>?_;clear hK K;refine zv ?_;rw [<-zt] at R1;go_wp2
 go_end0
 exact ⟨rfl,A9,_,c9,⟨B1.out.set_ 2 _,H.out.far,zf B2.out B1.out (by decide) 2 _,zf R1.out B1.out (by decide) 2 _,r4,r5⟩,hS.1⟩
theorem abG (base g:Nat) (k at_:Int) (A:Option Addr) (n c:Nat) (l:List Cl) (B:Option Addr) (m cb:Nat) (xs:List UInt8) (w:World) (h:ColW w base g k at_ A n c l B m cb xs) (hn:n<=1099511627776) (hok:VE l)
  (htot:(xs++qK (l.map fun c=>c.2.2)).length<=1099511627776) :
  Calls Tryz.prog 165 #[.pointer (some ⟨g,0,none⟩)] w fun e w'=>e=.returned (.tuple #[])/\∃ B2 m2 c2,ColW w' base g k at_ A n c l B2 m2 c2 (xs++qK (l.map fun c=>c.2.2))/\Below base w w':=by
 have Hn:=za hn
 have Hsz2:=za (show ∀ s∈l.map (fun c=>c.2.2),s.size<=maxLen by
  intro s hs;obtain ⟨c,hc,rfl⟩:=List.mem_map.1 hs;exact (hok c hc).2.2)
 have H:=za h;have HC:=za (show ColW w.drew base g k at_ A n c l B m cb xs from ⟨h.blk,h.far,h.cells,h.bytes,h.le,h.max⟩);have hS:Below base w w.drew/\w.drew.cell? ⟨g,1,none⟩=some (.slice A n c):=⟨(Below.refl _ _).drew,h.blk.cell 1⟩;have Hv:=za (show ∀ w',Below base w w'/\w'.cell? ⟨g,1,none⟩=some (.slice A n c)->w'.cell? ⟨g,1,none⟩=some (.slice A n c) from fun w' h=>h.2);clear h hn hok;go_enter Tryz.func165,Tryz.ntmps165;go_wp2;refine nR (fun w'=>Below base w w'/\w'.cell? ⟨g,1,none⟩=some (.slice A n c)) (.pure 0 (.pure 1 (.pure 2 (.pure 3 (.pure 5 (.pure 6 (.pure 7 (.pure 8 (.fork 4 9 (.eff 9 (.eff 10 (.pure 11 (.pure 12 (.eff 13 .done))))) (.eff 4 (.eff 10 (.pure 11 (.pure 12 (.eff 13 .done)))))))))))))) ?_;iterate 7 refine nP hS ?_
 refine nP1 hS Hv.out ?_;refine zS ?_ ?_
 ·have c2:=HC.out.blk.cell 2;refine nE fun K hK=>?_;go_simp;refine hG hK hS fun hS=>?_;clear hK K;clear c2;refine nE fun K hK=>?_;go_simp;with_reducible refine (acI A n c l _ (Reads.of_own HC.out.cells) Hn.out).mono ?_
  rintro e w1 ⟨A1,c1,rfl,q1,q2,q3,q4⟩;have M1:=za q1;have M2:=za q2;have M3:=za q3;have HC:=za (HC.out.below q4);have hT:=za (hS.1.trans (q4.mono (Nat.le_trans (Nat.le_of_lt (Nat.lt_of_le_of_lt H.out.far H.out.blk.lt)) hS.1.size)));clear q1 q2 q3 q4;refine hG hK (by exact ⟨hT.out,HC.out.blk.cell 1⟩) fun hS=>?_;clear hK K;clear hT;refine nE fun K hK=>?_;go_simp;with_reducible refine (ac3 B m cb xs A1 n c1 _ _ (Reads.of_own HC.out.bytes) HC.out.le HC.out.max (Reads.of_own M3.out) Hn.out Hsz2.out htot).mono ?_
  rintro e w9 ⟨A9,c9,rfl,r1,r2,r3,r4⟩;generalize (xs++qK (l.map fun c=>c.2.2)).length=N at r1 r3 ⊢;have HC:=za (HC.out.below r4);have hlow:=Nat.le_trans (Nat.le_of_lt (Nat.lt_of_le_of_lt H.out.far H.out.blk.lt)) hS.1.size;have R1:=za (zi r3 hlow);have hT:=za (hS.1.trans (r4.mono hlow));clear r3 r4 hlow;refine hG hK (by exact ⟨hT.out,HC.out.blk.cell 1⟩) fun hS=>?_;clear hK K;iterate 2 refine nP hS ?_
  have c2:=HC.out.blk.cell 2;have f2:=HC.out.blk.frozen 2;refine nE fun K hK=>?_;go_simp;clear c2 f2;refine hG hK (by exact ⟨hT.out.setCell (p:=⟨g,2,none⟩) H.out.far _,(HC.out.blk.set_ 2 _).cell 1⟩) fun hS=>?_;clear hK K;refine zv ?_;go_wp2
  go_end0
  exact ⟨rfl,A9,_,c9,HC.out.store R1.out r1 r2,hS.1⟩
 refine nE fun K hK=>?_;go_simp;with_reducible refine (acI A n c l _ (Reads.of_own HC.out.cells) Hn.out).mono ?_
 rintro e w1 ⟨A1,c1,rfl,q1,q2,q3,q4⟩;have M1:=za q1;have M2:=za q2;have M3:=za q3;have HC:=za (HC.out.below q4);have hT:=za (hS.1.trans (q4.mono (Nat.le_trans (Nat.le_of_lt (Nat.lt_of_le_of_lt H.out.far H.out.blk.lt)) hS.1.size)));clear q1 q2 q3 q4;refine hG hK (by exact ⟨hT.out,HC.out.blk.cell 1⟩) fun hS=>?_;clear hK K;clear hT;have c2:=HC.out.blk.cell 2;refine nE fun K hK=>?_;go_simp;refine hG hK hS fun hS=>?_;clear hK K;clear c2;refine nE fun K hK=>?_;go_simp;with_reducible refine (ac3 B m cb xs A1 n c1 _ _ (Reads.of_own HC.out.bytes) HC.out.le HC.out.max (Reads.of_own M3.out) Hn.out Hsz2.out htot).mono ?_
 rintro e w9 ⟨A9,c9,rfl,r1,r2,r3,r4⟩;generalize (xs++qK (l.map fun c=>c.2.2)).length=N at r1 r3 ⊢;have HC:=za (HC.out.below r4);have hlow:=Nat.le_trans (Nat.le_of_lt (Nat.lt_of_le_of_lt H.out.far H.out.blk.lt)) hS.1.size;have R1:=za (zi r3 hlow);have hT:=za (hS.1.trans (r4.mono hlow));clear r3 r4 hlow;refine hG hK (by exact ⟨hT.out,HC.out.blk.cell 1⟩) fun hS=>?_;clear hK K;iterate 2 refine nP hS ?_
 have c2:=HC.out.blk.cell 2;have f2:=HC.out.blk.frozen 2;refine nE fun K hK=>?_;go_simp;clear c2 f2;refine hG hK (by exact ⟨hT.out.setCell (p:=⟨g,2,none⟩) H.out.far _,(HC.out.blk.set_ 2 _).cell 1⟩) fun hS=>?_;clear hK K;refine zv ?_;go_wp2
 go_end0
 exact ⟨rfl,A9,_,c9,HC.out.store R1.out r1 r2,hS.1⟩
end
section
open Go.RowKit
theorem agA (A:Option Addr) (n c:Nat) (l:List UInt8) (w:World) (hr:Reads w w.heap.size 1 A n (u8s l)) (hn:n<=35184372088832) :
  Calls Tryz.prog 104 #[.slice A n c] w fun e w'=>∃ A' c',e=.returned (.slice A' n c')/\n<=c'/\c'<=maxLen/\w'.ownsRow w.heap.size 5 1 (.slice A' n c') n (u8s l)/\Below w.heap.size w w':=by
 obtain ⟨i0,hi0,hz0,hz1,hz2⟩:=info_parts z7;have hnil:∀ W,(binOp .eql 35 (.slice A n c) (.slice none 0 0)).run Tryz.prog W=.ok (.bool A.isNone) W:=fun W=>Lib.run_eql_slice_nil W _ _ _ _ _ _ _ Tryz.underlying35;cases A with
 | none=>
  have hn0:n=0:=by
   rcases Nat.eq_zero_or_pos n with h | h
   ·exact h
   obtain ⟨ad,h2,_⟩:=hr.2 h;cases h2
  subst hn0;have hl0:l=[]:=by
   have:=hr.1;cases l with
   | nil=>rfl
   | cons a l=>simp at this
  subst hl0;go_enter Tryz.func104,Tryz.ntmps104;go_wp2;go_ret;exact ⟨none,0,rfl,Nat.le_refl _,by decide,World.ownsRow_nil _ _ _ _,Below.refl _ _⟩
 | some ad=>
  have hown:(w.alloc (.cells #[] 5)).ownsRow w.heap.size 5 1 (.slice (some ⟨w.heap.size,0,none⟩) 0 0) 0 []:=(Blk.new w 5 #[]).own (Nat.le_refl _) rfl rfl (by decide);have hs2:(0+n)*1<=70368744177664:=by omega
  have hs1:0+n<=maxLen:=by simp only [maxLen];omega
  go_enter Tryz.func104,Tryz.ntmps104
  go_wp2_with (at_builtin
               refine zb _ rfl (.tmp 5) (.tmp 6) 35 rfl w.heap.size 5 i0 (.int .u8 0) 1 1 Tryz.underlying35 hi0 hz0 hz1 hz2 rfl (by decide) (some ⟨w.heap.size,0,none⟩) 0 0 [] rfl hown (some ad) n c (u8s l) rfl (hr.al _) (z6 l) hs1 hs2 (by simp) ?_;intro A3 c3 w3 hown3 hb3 hg3 hc3 hm3)
  go_ret;rw [Nat.zero_add] at hown3 hc3;rw [List.nil_append] at hown3;exact ⟨A3,c3,by first | rfl | (rw [Nat.zero_add];rfl),hc3,hm3,hown3,((Below.refl _ _).alloc (Nat.le_refl _) _).trans hb3⟩
def ahh (k:Int):Nat:=if k=1 then 163 else if k=4 then 165 else if k=5 then 166 else 164
theorem Xc (k:Int) (w:World) (h1:1<=k) (h5:k<=5):Calls Tryz.prog 109 #[.int .i64 k] w fun e w'=>e=.returned (.func (.func (ahh k)) #[] #[])/\w=w':=by
 have hix:(Instr.index 208 (.agg #[.nilFunc,.func (.func 163) #[] #[],.func (.func 164) #[] #[],.func (.func 164) #[] #[],.func (.func 165) #[] #[],.func (.func 166) #[] #[]]) (.int .i64 k)).run Tryz.prog w=.ok (.func (.func (ahh k)) #[] #[]) w:=by
  rcases (show k=1\/k=2\/k=3\/k=4\/k=5 by omega) with rfl | rfl | rfl | rfl | rfl;all_goals kernel_rfl
 go_enter Tryz.func109,Tryz.ntmps109;go_wp2;go_ret;exact ⟨rfl,rfl⟩
end
section
open Go.RowKit
theorem yG:(Tryz.prog.info? 23).map (fun i=>(i.zero,i.size,i.bytes))=some (some (.agg #[.bool false,.int .i64 0,.string ⟨#[]⟩]),3,32):=by kernel_rfl
theorem yd (l:List Cl):∀ u∈cls l,u.oneCell'=true:=by
 intro u hu;unfold cls at hu;obtain ⟨c,-,hc⟩:=List.mem_flatMap.1 hu;simp at hc;rcases hc with rfl | rfl | rfl<;>rfl
theorem zG (l r:List Cl):cls (l++r)=cls l++cls r:=by simp [cls]
theorem ya (w:World) (u:Bool) (x:Int) (s:ByteArray):Reads (w.alloc (.cells #[.bool u,.int .i64 x,.string s] 23)) (w.alloc (.cells #[.bool u,.int .i64 x,.string s] 23)).heap.size 3 (some ⟨w.heap.size,0,none⟩) 1 (cls [(u,x,s)]):=by
 refine ⟨rfl,fun _=>⟨_,rfl,by simp,fun j v hv=>?_⟩⟩;have h:=(Blk.new w 23 #[.bool u,.int .i64 x,.string s]).cell j;rw [show (⟨w.heap.size,0,none⟩:Addr).add j=⟨w.heap.size,j,none⟩ by unfold Addr.add;split<;>simp_all,h];simpa [cls] using hv
theorem YF {w w':World} {p:Nat} {t:TypeId} {cs:Array Value} {v:Value} (h:Blk w p t cs) (hg:w.grownBy w' v.ownBlock) (hr:∀ q,v.ownBlock=some q->q<p):Blk w' p t cs:=
 (hg.block p h.lt (fun e=>by have:=hr _ e.symm;omega)).trans h
theorem ColW.onDrew {w:World} {base g:Nat} {k at_:Int} {A:Option Addr} {n c:Nat} {l:List Cl} {B:Option Addr} {m cb:Nat} {xs:List UInt8} (h:ColW w base g k at_ A n c l B m cb xs):ColW w.drew base g k at_ A n c l B m cb xs:=
 ⟨h.blk,h.far,h.cells,h.bytes,h.le,h.max⟩
theorem ColW.app {w w':World} {base g:Nat} {k at_:Int} {A:Option Addr} {n c:Nat} {l:List Cl} {B:Option Addr} {m cb:Nat} {xs:List UInt8} (h:ColW w base g k at_ A n c l B m cb xs)
  (hg:w.grownBy w' (Value.slice A n c).ownBlock) (hb:Below base w w') {A2:Option Addr} {n2 c2:Nat} {l2:List Cl} (ho:w'.ownsRow base 23 3 (.slice A2 n2 c2) n2 (cls l2)) :
  ColW (w'.setCell ⟨g,1,none⟩ (.slice A2 n2 c2)) base g k at_ A2 n2 c2 l2 B m cb xs/\Blk w' g 142 #[.int .i64 k,.slice A n c,.slice B m cb,.int .i64 at_]:=by
 have hb2:=h.blk.apart h.cells (by decide) hg;exact ⟨⟨hb2.set_ 1 _,h.far,zf ho hb2 (by decide) 1 _,zf (zk h.bytes h.cells (by decide) hg) hb2 (by decide) 1 _,h.le,h.max⟩,hb2⟩
structure ColG (w:World) (base bc g:Nat) (k at_:Int) (A:Option Addr) (n c:Nat) (l:List Cl) (B:Option Addr) (m cb:Nat) (xs:List UInt8):Prop where
 blk:Blk w g 142 #[.int .i64 k,.slice A n c,.slice B m cb,.int .i64 at_]
 far:base<=g
 cells:w.ownsRow bc 23 3 (.slice A n c) n (cls l)
 low0:base<=bc
 bytes:Reads w base 1 B m (u8s xs)
 le:m<=cb
 max:cb<=maxLen
section
variable {w w':World} {base bc g:Nat} {k at_:Int} {A:Option Addr} {n c:Nat} {l:List Cl} {B:Option Addr} {m cb:Nat} {xs:List UInt8}
theorem ColG.below (h:ColG w base bc g k at_ A n c l B m cb xs) (hb:Below w.heap.size w w'):ColG w' base bc g k at_ A n c l B m cb xs:=
 ⟨h.blk.on hb,h.far,zd h.cells hb,h.low0,h.bytes.below (hb.mono (Nat.le_of_lt (Nat.lt_of_le_of_lt h.far h.blk.lt))),h.le,h.max⟩
theorem ColG.base_le (h:ColG w base bc g k at_ A n c l B m cb xs):base<=w.heap.size:=Nat.le_of_lt (Nat.lt_of_le_of_lt h.far h.blk.lt)
theorem ColG.onDrew (h:ColG w base bc g k at_ A n c l B m cb xs):ColG w.drew base bc g k at_ A n c l B m cb xs:=⟨h.blk,h.far,h.cells,h.low0,h.bytes,h.le,h.max⟩
theorem ColG.reads (h:ColG w base bc g k at_ A n c l B m cb xs):Reads w w.heap.size 1 B m (u8s xs):=h.bytes.more h.base_le
theorem ColG.app (h:ColG w base bc g k at_ A n c l B m cb xs)
  (hg:w.grownBy w' (Value.slice A n c).ownBlock) (hb:Below bc w w') {A2:Option Addr} {n2 c2:Nat} {l2:List Cl} (ho:w'.ownsRow bc 23 3 (.slice A2 n2 c2) n2 (cls l2)) :
  ColG (w'.setCell ⟨g,1,none⟩ (.slice A2 n2 c2)) base bc g k at_ A2 n2 c2 l2 B m cb xs/\Blk w' g 142 #[.int .i64 k,.slice A n c,.slice B m cb,.int .i64 at_]:=by
 have hb2:=h.blk.apart h.cells (by decide) hg;exact ⟨⟨hb2.set_ 1 _,h.far,zf ho hb2 (by decide) 1 _,h.low0,(h.bytes.below (hb.mono h.low0)).setCell (p:=⟨g,1,none⟩) h.far _,h.le,h.max⟩,hb2⟩
theorem ColG.seek (h:ColG w base bc g k at_ A n c l B m cb xs) (i:Int):ColG (w.setCell ⟨g,3,none⟩ (.int .i64 i)) base bc g k i A n c l B m cb xs:=
 ⟨h.blk.set_ 3 _,h.far,zf h.cells h.blk (by decide) 3 _,h.low0,h.bytes.setCell (p:=⟨g,3,none⟩) h.far _,h.le,h.max⟩
theorem ColG.low (h:ColG w base bc g k at_ A n c l B m cb xs) {p:Nat} (hp:w.heap.size<=p):(∀ q,(Value.slice A n c).ownBlock=some q->q<p)/\g≠p:=
 ⟨fun q hq=>Nat.lt_of_lt_of_le (h.cells.lt q hq).2 hp,Nat.ne_of_lt (Nat.lt_of_lt_of_le h.blk.lt hp)⟩
theorem ColG.fresh (h:ColG w base bc g k at_ none 0 0 [] B m cb xs) {b2:Nat} (hb:base<=b2):ColG w base b2 g k at_ none 0 0 [] B m cb xs:=
 ⟨h.blk,h.far,World.ownsRow_nil _ _ _ _,hb,h.bytes,h.le,h.max⟩
theorem ColG.floor (h:ColG w base bc g k at_ A n c l B m cb xs):ColG w base base g k at_ A n c l B m cb xs:=
 ⟨h.blk,h.far,zi h.cells h.low0,Nat.le_refl _,h.bytes,h.le,h.max⟩
end
theorem ColW.low0 {w:World} {base g:Nat} {k at_:Int} {A:Option Addr} {n c:Nat} {l:List Cl} {B:Option Addr} {m cb:Nat} {xs:List UInt8} (h:ColW w base g k at_ A n c l B m cb xs):base<=base:=Nat.le_refl _
theorem Reads.notin {w:World} {B n g i:Nat} {A:Option Addr} {xs:List Value} {t:TypeId} {cs:Array Value} {v:Value} (h:Reads w B 1 A n xs) (hb:Blk w g t cs) (hx:∀ u∈xs,u ∉ cs):Reads (w.setCell ⟨g,i,none⟩ v) B 1 A n xs:=by
 refine ⟨h.1,fun hn=>?_⟩;obtain ⟨ad,e,h1,h2⟩:=h.2 hn;refine ⟨ad,e,h1,fun j u hu=>?_⟩;have hne:(ad.add j).block≠g:=by
  intro hg;have hc:=h2 j u hu;unfold Blk at hb;simp only [World.cell?,hg,hb] at hc
  split at hc
  ·cases hc
  exact hx u (List.mem_of_getElem? hu) (Array.mem_of_getElem? hc)
 exact (World.cell?_setCell_other w _ _ _ (fun e2=>hne (by rw [<-e2]))).trans (h2 j u hu)
theorem ColW.low {w:World} {base g:Nat} {k at_:Int} {A:Option Addr} {n c:Nat} {l:List Cl} {B:Option Addr} {m cb:Nat} {xs:List UInt8} (h:ColW w base g k at_ A n c l B m cb xs) {p:Nat} (hp:w.heap.size<=p):(∀ q,(Value.slice A n c).ownBlock=some q->q<p)/\g≠p:=
 ⟨fun q hq=>Nat.lt_of_lt_of_le (h.cells.lt q hq).2 hp,Nat.ne_of_lt (Nat.lt_of_lt_of_le h.blk.lt hp)⟩
def Apart (B g:Nat) (w w':World):Prop:=∀ k,k<B->k≠g->w'.heap[k]? = w.heap[k]?
section
variable {w w' w2:World} {B g:Nat}
theorem Apart.refl (B g:Nat) (w:World):Apart B g w w:=fun _ _ _=>rfl
theorem Apart.trans (h:Apart B g w w') (h2:Apart B g w' w2):Apart B g w w2:=fun k hk hg=>(h2 k hk hg).trans (h k hk hg)
theorem Apart.below {B2:Nat} (h:Apart B g w w') (hb:Below B2 w' w2) (hB:B<=B2):Apart B g w w2:=fun k hk hg=>(hb.block k (Nat.lt_of_lt_of_le hk hB)).trans (h k hk hg)
theorem Apart.alloc (h:Apart B g w w') (hB:B<=w'.heap.size) (o:Obj):Apart B g w (w'.alloc o):=fun k hk hg=>(Below.heap_alloc w' o k (Nat.lt_of_lt_of_le hk hB)).trans (h k hk hg)
theorem Apart.set (h:Apart B g w w') (i:Nat) (u:Value):Apart B g w (w'.setCell ⟨g,i,none⟩ u):=fun k hk hg=>(Below.heap_setCell w' ⟨g,i,none⟩ u k hg).trans (h k hk hg)
theorem Apart.drew (h:Apart B g w w'):Apart B g w w'.drew:=h
theorem Apart.reads {n:Nat} {A:Option Addr} {xs:List Value} {t:TypeId} {cs:Array Value} (h:Apart B g w w') (hr:Reads w B 1 A n xs) (hb:Blk w g t cs) (hx:∀ u∈xs,u ∉ cs):Reads w' B 1 A n xs:=by
 refine ⟨hr.1,fun hn=>?_⟩;obtain ⟨ad,e,h1,h2⟩:=hr.2 hn;refine ⟨ad,e,h1,fun j u hu=>?_⟩;have hne:(ad.add j).block≠g:=by
  intro hg;have hc:=h2 j u hu;unfold Blk at hb;simp only [World.cell?,hg,hb] at hc
  split at hc
  ·cases hc
  exact hx u (List.mem_of_getElem? hu) (Array.mem_of_getElem? hc)
 exact (World.cell?_of_block (h _ (by rw [zg];exact h1) hne)).trans (h2 j u hu)
end
theorem YD (l:List ByteArray) (h:∀ s∈l,s.size<=1024):(qK l).length<=10+1044*l.length:=by
 have hlen:=qS l;have h1:((zj l).1.flatMap yp).length<=1034*(zj l).1.length:=by
  have:∀ t:List ByteArray,(∀ s∈t,s.size<=1024)->(t.flatMap yp).length<=1034*t.length:=by
   intro t
   induction t with
   | nil=>intro _;simp
   | cons s t ih=>
    intro ht;have h2:=ih (fun x hx=>ht x (by simp [hx]));have h3:=ht s (by simp);have h4:=zE (bts s).length;simp only [List.flatMap_cons,List.length_append,List.length_cons,yp,Zx] at *;omega
  exact this _ (fun s hs=>h s ((UI l s).1 hs))
 have h2:((zj l).2.flatMap leb).length<=10*(zj l).2.length:=by
  have:∀ t:List Nat,(t.flatMap leb).length<=10*t.length:=by
   intro t
   induction t with
   | nil=>simp
   | cons s t ih=>
    have h4:=zE s;simp only [List.flatMap_cons,List.length_append,List.length_cons] at *;omega
  exact this _
 have h3:=zE (zj l).1.length;unfold qK;simp only [List.length_append];omega
end
section
open Go.RowKit
theorem Ue (base g:Nat) (k at_:Int) (A:Option Addr) (n c:Nat) (l:List Cl) (B:Option Addr) (m cb:Nat) (xs:List UInt8) (w:World) (h1:1<=k) (h5:k<=5) (h:ColW w base g k at_ A n c l B m cb xs) (hok:VE l) (hsz:∀ c∈l,c.2.2.size<=1024) (hm:m+2048*n<=1099511627776) (hs:base<=w.heap.size)
  (htot:(xs++qK (l.map fun c=>c.2.2)).length<=1099511627776) :
  Calls Tryz.prog (ahh k) #[.pointer (some ⟨g,0,none⟩)] w fun e w'=>e=.returned (.tuple #[])/\∃ B2 m2 c2,ColW w' base g k at_ A n c l B2 m2 c2 (xs++yh k l)/\Below base w w':=by
 rcases (show k=1\/k=2\/k=3\/k=4\/k=5 by omega) with rfl | rfl | rfl | rfl | rfl
 ·exact abH base g 1 at_ A n c l B m cb xs w h (by omega)
 ·exact U2 base g 2 at_ A n c l B m cb xs w h hok (by omega) hs
 ·exact U2 base g 3 at_ A n c l B m cb xs w h hok (by omega) hs
 ·exact abG base g 4 at_ A n c l B m cb xs w h (by omega) hok htot
 exact acn base g 5 at_ A n c l B m cb xs w h hok hsz hm hs
theorem Jq (k:Int) (h1:1<=k) (h5:k<=5) (args:Array Value) (w:World):(callFunc (ahh k) args).run Tryz.prog w=.ok (.enter (ahh k) args) w:=by
 rcases (show k=1\/k=2\/k=3\/k=4\/k=5 by omega) with rfl | rfl | rfl | rfl | rfl
 ·exact zm Tryz.func163 (by kernel_rfl) (by kernel_rfl) args w
 ·exact zm Tryz.func164 (by kernel_rfl) (by kernel_rfl) args w
 ·exact zm Tryz.func164 (by kernel_rfl) (by kernel_rfl) args w
 ·exact zm Tryz.func165 (by kernel_rfl) (by kernel_rfl) args w
 exact zm Tryz.func166 (by kernel_rfl) (by kernel_rfl) args w
theorem Xv (k:Int) (nl u:Bool) (x:Int) (s:ByteArray) (w:World) (hT:Tabs w):Calls Tryz.prog 105 #[.agg #[.int .i64 k,.bool nl],.agg #[.bool u,.int .i64 x,.string s]] w fun e w'=>e=.returned (.int .i64 (zw k nl (u,x,s)))/\Below w.heap.size w w':=agC k nl (u,x,s) w hT
theorem aay (k:Int) (nl:Bool) (c:Cl) (hk:yZ k=true):zw k nl c=0\/zw k nl c=90:=by
 unfold zw;rw [if_pos hk];generalize (if c.1=true then nl&&decide (c.2.1=0/\c.2.2=⟨#[]⟩) else isC k c)=I;cases I
 ·exact .inr rfl
 exact .inl rfl
theorem abq {k:Int} {nl:Bool} {l:List Cl} {j:Nat} {c:Cl} (h:Yr k nl (l.take j)=true) (hc:l[j]? = some c) (h0:zw k nl c=0):Yr k nl (l.take (j+1))=true:=by
 unfold Yr at *;rw [List.take_add_one,hc];simp [h0] at *;exact h
theorem adm {k:Int} {nl:Bool} {l:List Cl} {j:Nat} {c:Cl} (hc:l[j]? = some c) (h0:zw k nl c=90):Yr k nl l=false:=by
 unfold Yr;rw [List.all_eq_false];exact ⟨c,List.mem_of_getElem? hc,by simp [h0]⟩
theorem JF {l:List Cl} {j:Nat} {c:Cl} (hc:l[j]? = some c):zy (l.take (j+1))=if c.1=true then zy (l.take j) else zy (l.take j)++[c]:=by
 unfold zy;rw [List.take_add_one,hc];cases h:c.1<;>simp [h]
theorem JH {k:Int} {c:Cl} (h1:1<=k) (h5:k<=5) (h:isC k c=true):c.2.2.size<=1024:=by
 rcases (show k=1\/k=2\/k=3\/k=4\/k=5 by omega) with rfl | rfl | rfl | rfl | rfl
 ·simp [isC] at h;rw [h.1];decide
 ·simp [isC] at h;rw [h.1];decide
 ·simp [isC] at h;rw [h.1];decide
 ·simp [isC,Zd] at h;exact h.1.2
 simp [isC,Zd] at h;exact h.2
theorem VQ {k:Int} {nl:Bool} {l:List Cl} (hk:yZ k=true) (h:Yr k nl l=true):∀ c∈zy l,c.2.2.size<=1024:=by
 obtain ⟨h1,h5⟩:1<=k/\k<=5:=by simpa [yZ] using hk
 intro c hc;obtain ⟨hm,hu⟩:=List.mem_filter.1 hc;have hu:c.1=false:=by simpa using hu
 unfold Yr at h;have:=List.all_eq_true.1 h c hm;simp only [zw,hk,if_true,hu,Bool.false_eq_true,if_false,beq_iff_eq] at this;by_cases hi:isC k c=true
 ·exact JH h1 h5 hi
 simp [hi] at this
theorem XV (l:List Bool):(zB l).length<=l.length:=by rw [yY];unfold zD;omega
theorem aib (A:Option Addr) (n c:Nat) (xs:List UInt8) (k:Int) (nl:Bool) (B:Option Addr) (m cB:Nat) (l:List Cl) (w:World) (hr:Reads w w.heap.size 1 A n (u8s xs)) (hn:n<=274877906944)
  (hr2:Reads w w.heap.size 3 B m (cls l)) (hm:m<=1048576) (hok:VE l) (hT:Tabs w) :
  Calls Tryz.prog 42 #[.slice A n c,.agg #[.int .i64 k,.bool nl],.slice B m cB] w fun e w'=>∃ A' n' c',e=.returned (.tuple #[.slice A' n' c',.int .i64 (XD k nl l)])/\n'<=c'/\c'<=maxLen /\
   w'.ownsRow w.heap.size 5 1 (.slice A' n' c') n' (u8s (YX k nl l xs))/\Below w.heap.size w w':=by
 have HT:=za hT;have Hr:=za hr;have Hr2:=za hr2;have Hok:=za hok;have Hln:=za (ye hr2);have B4:=za (Blk.new w 43 #[.int .i64 k,.bool nl]);clear hr hr2 hok hT;go_enter Tryz.func42,Tryz.ntmps42;go_wp2_with fail
 with_reducible refine (Js k nl _).mono ?_
 rintro e w1 ⟨rfl,hb1⟩;have hb2:=za (bon ((Below.refl _ w).alloc (Nat.le_refl _) (.cells #[.int .i64 k,.bool nl] 43)) hb1);replace B4:=za (B4.out.on hb1);clear hb1;have c40:=B4.out.cell 0;have c41:=B4.out.cell 1;cases hmk:yZ k with
 | false=>
  go_wp2;go_ret2;exact ⟨none,0,0,by simp [XD,hmk],Nat.le_refl _,by decide,by rw [show YX k nl l xs=[] by simp [YX,XD,hmk]];exact World.ownsRow_nil _ _ _ _,hb2.out⟩
 | true=>
  have Hm:=za hm;have Hn:=za hn;obtain ⟨hk1,hk5⟩:1<=k/\k<=5:=by simpa [yZ] using hmk
  have H40:=za (show ak1 w1 ⟨w.heap.size,0,none⟩ (.int .i64 k) from fun w' h=>(h.cell (p:=⟨w.heap.size,0,none⟩) B4.out.lt).trans c40);go_wp2;have hS:=ak2 w1;refine nR (fun w'=>Below w1.heap.size w1 w') (.pure 0 (.pure 1 (.pure 2 (.eff 3 (.pure 4 (.eff 5 (.pure 6 .done))))))) ?_;refine nP hS ?_;refine nP1 hS H40.out ?_;refine nP hS ?_;refine nE fun K hK=>?_;go_simp;with_reducible refine (agA A n c xs _ ((Hr.out.on hb2.out).on hS) (by omega)).mono ?_
  rintro e w2 ⟨A3,c3,rfl,q1,q2,q3,q4⟩;have hb3:=za (hb2.out.trans ((bon hS q4).mono hb2.out.size));have Q3:=za (zi q3 (show w.heap.size<=w1.drew.heap.size from hb2.out.size));have Q1:=za (And.intro q1 q2);have B5:=za ((B4.out.on hS).on q4);refine hG hK (by exact bon hS q4) fun hS=>?_;clear hK K;clear q1 q2 q3 q4;refine nP hS ?_;refine nE fun K hK=>?_;go_simp;refine hG hK (by exact bal hS _) fun hS=>?_;clear hK K;refine nP hS ?_;refine zv ?_;clear hS
  have HC:=za (show ColW (w2.alloc (.cells #[.int .i64 k,.slice none 0 0,.slice A3 n c3,.int .i64 0] 142)) w.heap.size w2.heap.size k 0 none 0 0 [] A3 n c3 xs from
   ⟨Blk.new w2 _ _,hb3.out.size,World.ownsRow_nil _ _ _ _,Q3.out.alloc _,Q1.out.1,Q1.out.2⟩)
  have B6:=za (B5.out.alloc (.cells #[.int .i64 k,.slice none 0 0,.slice A3 n c3,.int .i64 0] 142));have hb4:=za (hb3.out.alloc hb3.out.size (.cells #[.int .i64 k,.slice none 0 0,.slice A3 n c3,.int .i64 0] 142));have hgw:=za hb3.out.size;clear c40 c41 H40;have Hg0:=za B5.out.lt;generalize w2.heap.size=g at *;obtain ⟨i0,hi0,hz0,hz1,hz2⟩:=info_parts z7;obtain ⟨j0,hj0,hk0,hj1,hk2⟩:=info_parts yG;go_wp2;go_loopw [22] (fun i wr=>∃ (j nA:Nat) (A1:Option Addr) (cA:Nat),j<=m/\i=.int .i64 (j:Int)/\nA<=j/\Hid (Yr k nl (l.take j)=true)/\Hid (ColW wr w.heap.size g k 0 A1 nA cA (zy (l.take j)) A3 n c3 xs)/\Hid (Blk wr w.heap.size 43 #[.int .i64 k,.bool nl])/\Hid (Below w.heap.size w wr)) (fun i _=>m-(intOf i).toNat)
  case atStart=>exact ⟨0,0,none,0,Nat.zero_le _,rfl,Nat.le_refl _,za rfl,HC,B6,hb4⟩
  case round=>
   obtain ⟨j,nA,A1,cA,hj,rfl,hnA,hall,HC,B6,HB⟩:=hrel;by_cases hlt:j<m
   ·obtain ⟨ad,u,x,s,rfl,hbk,hx,h0,h1,h2⟩:=ym (Hr2.out.below HB.out) hlt;have Hx:=za hx;have hbs:=za HB.out.size;have c40:=(B6.out.alloc (.cells #[.bool u,.int .i64 x,.string s] 23)).cell 0;have c41:=(B6.out.alloc (.cells #[.bool u,.int .i64 x,.string s] 23)).cell 1;have hbA:=za ((Below.refl wr.heap.size wr).alloc (Nat.le_refl _) (.cells #[.bool u,.int .i64 x,.string s] 23));have BX:=za (Blk.new wr 23 #[.bool u,.int .i64 x,.string s]);have HT2:=za (HT.out.on (HB.out.alloc HB.out.size (.cells #[.bool u,.int .i64 x,.string s] 23)));clear hx hbk;(go_wp2_with fail);(with_reducible refine (Xv k nl u x s _ HT2.out).mono ?_);rintro e w5 ⟨rfl,hb5⟩;have HCr:=HC;have HC:=za ((HC.out.below hbA.out).below hb5);have HX:=za (BX.out.on hb5);have B6:=za ((B6.out.alloc (.cells #[.bool u,.int .i64 x,.string s] 23)).on hb5);have HB:=za (bon (HB.out.alloc HB.out.size (.cells #[.bool u,.int .i64 x,.string s] 23)) hb5);rcases aay k nl (u,x,s) hmk with h0 | h0
    ·have hall2:=za (abq hall.out Hx.out h0);have Hstep:=za (JF Hx.out);have hlow:=(ColW.low (HCr.out) (Nat.le_refl _):(∀ q,(Value.slice A1 nA cA).ownBlock=some q->q<wr.heap.size)/\g≠wr.heap.size);have Hrow:=za hlow.1;have Hgp:=za hlow.2;have Hbs:=za HB.out.size;have Hnx:=za (show nA<=2097152 by have:=Hm.out;omega);clear hlow c40 c41 h1 h2 hb5;generalize zw k nl (u,x,s)=E0 at h0;subst h0;have hx0:=HX.out.cell 0;cases u with
     | true=>
      have Hstep:=za (show zy (l.take (j+1))=zy (l.take j) by rw [Hstep.out];rfl);have HC:=za (show ColW w5 w.heap.size g k 0 A1 nA cA (zy (l.take (j+1))) A3 n c3 xs by rw [Hstep.out];exact HC.out);go_wp2;go_roundw;case rel=>exact ⟨j+1,nA,A1,cA,by omega,by go_num,by omega,hall2,HC,B6,HB⟩
      case measure=>simp [intOf];omega
     | false=>
      have Hstep:=za (show zy (l.take (j+1))=zy (l.take j)++[(false,x,s)] by rw [Hstep.out];rfl);go_wp2;clear hx0;have hS:Below w.heap.size w5 w5.drew/\Blk w5.drew wr.heap.size 23 #[.bool false,.int .i64 x,.string s]:=⟨(Below.refl _ _).drew,HX.out⟩;have HV0:=za (show ∀ w',Below w.heap.size w5 w'/\Blk w' wr.heap.size 23 #[.bool false,.int .i64 x,.string s]->w'.cell? ⟨wr.heap.size,0,none⟩=some (.bool false) from fun w' h=>h.2.cell 0);have HV1:=za (show ∀ w',Below w.heap.size w5 w'/\Blk w' wr.heap.size 23 #[.bool false,.int .i64 x,.string s]->w'.cell? ⟨wr.heap.size,1,none⟩=some (.int .i64 x) from fun w' h=>h.2.cell 1);have HV2:=za (show ∀ w',Below w.heap.size w5 w'/\Blk w' wr.heap.size 23 #[.bool false,.int .i64 x,.string s]->w'.cell? ⟨wr.heap.size,2,none⟩=some (.string s) from fun w' h=>h.2.cell 2);have HCW:=HC;have HC:=za (HC.out.onDrew);refine nR (fun w'=>Below w.heap.size w5 w'/\Blk w' wr.heap.size 23 #[.bool false,.int .i64 x,.string s]) (.pure 0 (.pure 1 (.pure 2 (.pure 3 (.pure 5 (.fork 4 6 (.eff 6 (.eff 7 (.pure 8 (.pure 9 (.eff 10 .done))))) (.eff 4 (.eff 7 (.pure 8 (.pure 9 (.eff 10 .done))))))))))) ?_;(iterate 4 refine nP hS ?_);refine nP3 hS HV0.out HV1.out HV2.out ?_;refine zS ?_ ?_
      ·have c1:=HC.out.blk.cell 1;refine nE fun K hK=>?_;go_simp;refine hG hK hS fun hS=>?_;clear hK K;clear c1;refine nE fun K hK=>?_;go_simp;have HR:=za ((ya w5 false x s).drew);have HC:=za ((HCW.out.below ((Below.refl _ w5).alloc (Nat.le_refl _) (.cells #[.bool false,.int .i64 x,.string s] 23))).onDrew);refine hG hK (by exact ⟨hS.1.alloc (Nat.le_trans (Nat.le_trans HC.out.low0 Hbs.out) hS.1.size) _,hS.2.alloc _⟩) fun hS=>?_;clear hK K;refine nE fun K hK=>?_;refine zl _ (.tmp 37) (.tmp 39) 24 rfl w.heap.size 23 j0 (.agg #[.bool false,.int .i64 0,.string ⟨#[]⟩]) 3 32 Tryz.underlying24 hj0 hk0 hj1 hk2 rfl (by decide) A1 nA cA _ rfl HC.out.cells (some ⟨_,0,none⟩) 1 1 (cls [(false,x,s)]) rfl HR.out (yd _) (by have:=Hnx.out;simp only [maxLen];omega) (by have:=Hnx.out;omega) (Nat.le_trans Hbs.out hS.1.size) ?_;intro A9 c9 w9 r1 r2 r3 r4 r5;rw [<-zG] at r1;have HA:=za (HC.out.app r3 r2 r1);have R2:=za r2;have r2:=r2.mono HC.out.low0;have HX9:=za (YF hS.2 r3 Hrow.out);have hT:=za (hS.1.trans r2);have G9:=za r3;clear r1 r2 r3 r4 r5;refine hG hK (by exact ⟨hT.out,HX9.out⟩) fun hS=>?_;clear hK K;(iterate 2 refine nP hS ?_);have c2:=HA.out.2.cell 1;have f2:=HA.out.2.frozen 1;refine nE fun K hK=>?_;go_simp;clear c2 f2;refine hG hK (by exact ⟨hT.out.setCell (p:=⟨g,1,none⟩) HC.out.far _,HX9.out.far (p:=⟨g,1,none⟩) Hgp.out.symm _⟩) fun hS=>?_;clear hK K;refine zv ?_;have hT:=za (hT.out.setCell (p:=⟨g,1,none⟩) HC.out.far (.slice A9 (nA+1) c9));clear HX9 HR;clear HV0 HV1 HV2;have HC0:=HC;have HC:=za (show ColW _ w.heap.size g k 0 A9 (nA+1) c9 (zy (l.take (j+1))) A3 n c3 xs by rw [Hstep.out];exact HA.out.1);have B6:=za (((B6.out.alloc (.cells #[.bool false,.int .i64 x,.string s] 23)).drew.apart HC0.out.cells (by decide) G9.out).far (p:=⟨g,1,none⟩) (Nat.ne_of_lt Hg0.out) (.slice A9 (nA+1) c9));have HB:=za (HB.out.trans hT.out);go_wp2;go_roundw;case rel=>exact ⟨j+1,_,A9,c9,by omega,by go_num,by omega,hall2,HC,B6,HB⟩
       case measure=>simp [intOf];omega
      refine nE fun K hK=>?_;go_simp;have HR:=za ((ya w5 false x s).drew);have HC:=za ((HCW.out.below ((Below.refl _ w5).alloc (Nat.le_refl _) (.cells #[.bool false,.int .i64 x,.string s] 23))).onDrew);refine hG hK (by exact ⟨hS.1.alloc (Nat.le_trans (Nat.le_trans HC.out.low0 Hbs.out) hS.1.size) _,hS.2.alloc _⟩) fun hS=>?_;clear hK K;have c1:=HC.out.blk.cell 1;refine nE fun K hK=>?_;go_simp;refine hG hK hS fun hS=>?_;clear hK K;clear c1;refine nE fun K hK=>?_;refine zl _ (.tmp 37) (.tmp 39) 24 rfl w.heap.size 23 j0 (.agg #[.bool false,.int .i64 0,.string ⟨#[]⟩]) 3 32 Tryz.underlying24 hj0 hk0 hj1 hk2 rfl (by decide) A1 nA cA _ rfl HC.out.cells (some ⟨_,0,none⟩) 1 1 (cls [(false,x,s)]) rfl HR.out (yd _) (by have:=Hnx.out;simp only [maxLen];omega) (by have:=Hnx.out;omega) (Nat.le_trans Hbs.out hS.1.size) ?_;intro A9 c9 w9 r1 r2 r3 r4 r5;rw [<-zG] at r1;have HA:=za (HC.out.app r3 r2 r1);have R2:=za r2;have r2:=r2.mono HC.out.low0;have HX9:=za (YF hS.2 r3 Hrow.out);have hT:=za (hS.1.trans r2);have G9:=za r3;clear r1 r2 r3 r4 r5;refine hG hK (by exact ⟨hT.out,HX9.out⟩) fun hS=>?_;clear hK K;(iterate 2 refine nP hS ?_);have c2:=HA.out.2.cell 1;have f2:=HA.out.2.frozen 1;refine nE fun K hK=>?_;go_simp;clear c2 f2;refine hG hK (by exact ⟨hT.out.setCell (p:=⟨g,1,none⟩) HC.out.far _,HX9.out.far (p:=⟨g,1,none⟩) Hgp.out.symm _⟩) fun hS=>?_;clear hK K;refine zv ?_;have hT:=za (hT.out.setCell (p:=⟨g,1,none⟩) HC.out.far (.slice A9 (nA+1) c9));clear HX9 HR;clear HV0 HV1 HV2;have HC0:=HC;have HC:=za (show ColW _ w.heap.size g k 0 A9 (nA+1) c9 (zy (l.take (j+1))) A3 n c3 xs by rw [Hstep.out];exact HA.out.1);have B6:=za (((B6.out.alloc (.cells #[.bool false,.int .i64 x,.string s] 23)).drew.apart HC0.out.cells (by decide) G9.out).far (p:=⟨g,1,none⟩) (Nat.ne_of_lt Hg0.out) (.slice A9 (nA+1) c9));have HB:=za (HB.out.trans hT.out);go_wp2;go_roundw;case rel=>exact ⟨j+1,_,A9,c9,by omega,by go_num,by omega,hall2,HC,B6,HB⟩
      case measure=>simp [intOf];omega
    have hall2:=za (adm Hx.out h0);generalize zw k nl (u,x,s)=E0 at h0;subst h0;go_wp2;go_ret2;exact ⟨none,0,0,by simp [XD,hmk,hall2.out],Nat.le_refl _,by decide,by rw [show YX k nl l xs=[] by simp [YX,XD,hmk,hall2.out]];exact World.ownsRow_nil _ _ _ _,HB.out⟩
   obtain rfl:j=m:=(by omega);have hmap:l.take j=l:=List.take_of_length_le (by rw [Hln.out];exact Nat.le_refl _);rw [hmap] at hall HC;have HE:=za (show XD k nl l=0 by simp [XD,hmk,hall.out]);have hsl:=JG l;rw [Hln.out] at hsl;have HsZ:=za (VQ hmk hall.out);have HsO:=za (show VE (zy l) from fun c hc=>Hok.out c (List.mem_filter.1 hc).1);have hpd:=YD ((zy l).map fun c=>c.2.2) (by intro s hs;obtain ⟨c,hc,rfl⟩:=List.mem_map.1 hs;exact HsZ.out c hc);rw [List.length_map] at hpd;have Hxl:=za (show xs.length=n from zh Hr.out);have Hnl:=za (show nA=(zy l).length from (ye (Reads.of_own HC.out.cells)).symm);have Hpl:=za (show (zB (l.map fun c => !c.1)).length+n<=274877906944+1048576 by have:=XV (l.map fun c => !c.1);rw [List.length_map,Hln.out] at this;have:=Hn.out;have:=Hm.out;omega);have H5:=za (Nat.le_of_lt Hg0.out);have c41:=B6.out.cell 1;clear hmap hlt;cases nl with
   | false=>
    have HO:=za (show YX k false l xs=xs++yh k (zy l) by simp [YX,HE.out,YO])
    have Htot:=za (show n+2048*nA<=1099511627776/\(xs++qK ((zy l).map fun c=>c.2.2)).length<=1099511627776 by
     have:=Hn.out;have:=Hm.out;have:=Hxl.out;have:=Hnl.out;rw [List.length_append];constructor<;>omega)
    clear hpd hsl;have c40:=B6.out.cell 0;have hin:=fun args w'=>Jq k hk1 hk5 args w';(go_wp2_with fail);(with_reducible refine (Xc k _ hk1 hk5).mono ?_);rintro e w6 ⟨rfl,rfl⟩;(go_wp2_with fail);(with_reducible refine (Ue w.heap.size g k 0 A1 nA cA (zy l) A3 n c3 (xs) _ hk1 hk5 HC.out HsO.out HsZ.out Htot.out.1 HB.out.size Htot.out.2).mono ?_);rintro e w7 ⟨rfl,B2,m2,c9,hC9,hB9⟩;have HC9:=za hC9;have HB9:=za (HB.out.trans hB9);have c2:=hC9.blk.cell 2;clear hC9 hB9;go_wp2;go_ret2;exact ⟨B2,m2,c9,by rw [HE.out];rfl,HC9.out.le,HC9.out.max,by rw [HO.out];exact HC9.out.bytes,HB9.out⟩
   | true=>
    have HO:=za (show YX k true l xs=(xs++zB (l.map fun c => !c.1))++yh k (zy l) by simp [YX,HE.out,YO])
    have Htot:=za (show n+(zB (l.map fun c => !c.1)).length+2048*nA<=1099511627776/\((xs++zB (l.map fun c => !c.1))++qK ((zy l).map fun c=>c.2.2)).length<=1099511627776 by
     have:=Hn.out;have:=Hm.out;have:=Hxl.out;have:=Hnl.out;have:=Hpl.out;simp only [List.length_append];constructor<;>omega)
    clear hpd hsl;go_wp2;clear c41;have hS:Below w.heap.size wr wr.drew:=(Below.refl _ _).drew;have HC:=za HC.out.onDrew;have B6:=za B6.out.drew;refine nR (fun w'=>Below w.heap.size wr w') (.pure 0 (.pure 1 (.pure 2 (.pure 3 (.pure 5 (.fork 4 6 (.eff 6 (.eff 7 (.eff 8 (.pure 9 (.pure 10 (.eff 11 .done)))))) (.fork 4 7 (.eff 7 (.eff 8 (.pure 9 (.pure 10 (.eff 11 .done))))) (.eff 4 (.eff 8 (.pure 9 (.pure 10 (.eff 11 .done)))))))))))) ?_;(iterate 5 refine nP hS ?_);refine zS ?_ ?_
    ·have c2:=HC.out.blk.cell 2;refine nE fun K hK=>?_;go_simp;refine hG hK hS fun hS=>?_;clear hK K;clear c2;refine nE fun K hK=>?_;go_simp;(with_reducible refine (acH B j cB l _ (((Hr2.out.below HB.out).below hS).more (Nat.le_trans HB.out.size hS.size)) (Nat.le_trans Hm.out (by decide))).mono ?_);rintro e w5 ⟨AM,cM,rfl,q1,q2,q3,q4⟩;have M1:=za q1;have M2:=za q2;have M3:=za q3;have HC:=za (HC.out.below q4);have B6:=za (B6.out.on q4);have hT:=za (hS.trans (q4.mono (Nat.le_trans HB.out.size hS.size)));clear q1 q2 q3 q4;refine hG hK (by exact hT.out) fun hS=>?_;clear hK K;clear hT;refine nE fun K hK=>?_;go_simp;(with_reducible refine (ZZ AM j cM _ _ (Reads.of_own M3.out) M1.out M2.out (Nat.le_trans Hm.out (by decide))).mono ?_);rintro e w5 ⟨AP,cP,rfl,q1,q2,q3,q4⟩;have N1:=za q1;have N3:=za q3;have HC:=za (HC.out.below q4);have B6:=za (B6.out.on q4);have hT:=za (hS.trans (q4.mono (Nat.le_trans HB.out.size hS.size)));clear q1 q3 q4 q2;refine hG hK (by exact hT.out) fun hS=>?_;clear hK K;clear hT;refine nE fun K hK=>?_;refine zl _ (.tmp 50) (.tmp 53) 35 rfl w.heap.size 5 i0 (.int .u8 0) 1 1 Tryz.underlying35 hi0 hz0 hz1 hz2 rfl (by decide) A3 n c3 _ rfl HC.out.bytes AP _ cP _ rfl (Reads.of_own N3.out) (z6 _) (by have:=Hpl.out;simp only [maxLen];omega) (by have:=Hpl.out;omega) (Nat.le_trans HB.out.size hS.size) ?_;intro A8 c8 w8 r1 r2 r3 r4 r5;obtain ⟨b1,b2⟩:=HC.out.grow r3;have B1:=za b1;have B2:=za b2;have R1:=za r1;have R4:=za (And.intro r4 r5);have B6:=za (B6.out.apart HC.out.bytes (by decide) r3);have hT:=za (hS.trans r2);clear b1 b2 r1 r2 r3 r4 r5;refine hG hK (by exact hT.out) fun hS=>?_;clear hK K;(iterate 2 refine nP hS ?_);have c2:=B1.out.cell 2;have f2:=B1.out.frozen 2;refine nE fun K hK=>?_;go_simp;clear c2 f2;refine hG hK (by exact hT.out.setCell (p:=⟨g,2,none⟩) H5.out _) fun hS=>?_;clear hK K;refine zv ?_;have HC:=za (show ColW _ w.heap.size g k 0 A1 nA cA (zy l) A8 (n+(zB (l.map fun c => !c.1)).length) c8 (xs++zB (l.map fun c => !c.1)) from ⟨B1.out.set_ 2 _,H5.out,zf B2.out B1.out (by decide) 2 _,zf (by rw [zt];exact R1.out) B1.out (by decide) 2 _,R4.out.1,R4.out.2⟩);have B6:=za (B6.out.far (Nat.ne_of_lt Hg0.out) (Value.slice A8 (n+(zB (l.map fun c => !c.1)).length) c8):Blk (w8.setCell ⟨g,2,none⟩ _) w.heap.size 43 #[.int .i64 k,.bool true]);have HB:=za (HB.out.trans hS);clear hS hT M1 M2 M3 N1 N3 B1 B2 R1 R4;have c40:=B6.out.cell 0;have hin:=fun args w'=>Jq k hk1 hk5 args w';(go_wp2_with fail);(with_reducible refine (Xc k _ hk1 hk5).mono ?_);rintro e w6 ⟨rfl,rfl⟩;(go_wp2_with fail);(with_reducible refine (Ue w.heap.size g k 0 A1 nA cA (zy l) A8 (n+(zB (l.map fun c => !c.1)).length) c8 (xs++zB (l.map fun c => !c.1)) _ hk1 hk5 HC.out HsO.out HsZ.out Htot.out.1 HB.out.size Htot.out.2).mono ?_);rintro e w7 ⟨rfl,B2,m2,c9,hC9,hB9⟩;have HC9:=za hC9;have HB9:=za (HB.out.trans hB9);have c2:=hC9.blk.cell 2;clear hC9 hB9;go_wp2;go_ret2;exact ⟨B2,m2,c9,by rw [HE.out];rfl,HC9.out.le,HC9.out.max,by rw [HO.out];exact HC9.out.bytes,HB9.out⟩
    refine nE fun K hK=>?_;go_simp;(with_reducible refine (acH B j cB l _ (((Hr2.out.below HB.out).below hS).more (Nat.le_trans HB.out.size hS.size)) (Nat.le_trans Hm.out (by decide))).mono ?_);rintro e w5 ⟨AM,cM,rfl,q1,q2,q3,q4⟩;have M1:=za q1;have M2:=za q2;have M3:=za q3;have HC:=za (HC.out.below q4);have B6:=za (B6.out.on q4);have hT:=za (hS.trans (q4.mono (Nat.le_trans HB.out.size hS.size)));clear q1 q2 q3 q4;refine hG hK (by exact hT.out) fun hS=>?_;clear hK K;clear hT;refine zS ?_ ?_
    ·have c2:=HC.out.blk.cell 2;refine nE fun K hK=>?_;go_simp;refine hG hK hS fun hS=>?_;clear hK K;clear c2;refine nE fun K hK=>?_;go_simp;(with_reducible refine (ZZ AM j cM _ _ (Reads.of_own M3.out) M1.out M2.out (Nat.le_trans Hm.out (by decide))).mono ?_);rintro e w5 ⟨AP,cP,rfl,q1,q2,q3,q4⟩;have N1:=za q1;have N3:=za q3;have HC:=za (HC.out.below q4);have B6:=za (B6.out.on q4);have hT:=za (hS.trans (q4.mono (Nat.le_trans HB.out.size hS.size)));clear q1 q3 q4 q2;refine hG hK (by exact hT.out) fun hS=>?_;clear hK K;clear hT;refine nE fun K hK=>?_;refine zl _ (.tmp 50) (.tmp 53) 35 rfl w.heap.size 5 i0 (.int .u8 0) 1 1 Tryz.underlying35 hi0 hz0 hz1 hz2 rfl (by decide) A3 n c3 _ rfl HC.out.bytes AP _ cP _ rfl (Reads.of_own N3.out) (z6 _) (by have:=Hpl.out;simp only [maxLen];omega) (by have:=Hpl.out;omega) (Nat.le_trans HB.out.size hS.size) ?_;intro A8 c8 w8 r1 r2 r3 r4 r5;obtain ⟨b1,b2⟩:=HC.out.grow r3;have B1:=za b1;have B2:=za b2;have R1:=za r1;have R4:=za (And.intro r4 r5);have B6:=za (B6.out.apart HC.out.bytes (by decide) r3);have hT:=za (hS.trans r2);clear b1 b2 r1 r2 r3 r4 r5;refine hG hK (by exact hT.out) fun hS=>?_;clear hK K;(iterate 2 refine nP hS ?_);have c2:=B1.out.cell 2;have f2:=B1.out.frozen 2;refine nE fun K hK=>?_;go_simp;clear c2 f2;refine hG hK (by exact hT.out.setCell (p:=⟨g,2,none⟩) H5.out _) fun hS=>?_;clear hK K;refine zv ?_;have HC:=za (show ColW _ w.heap.size g k 0 A1 nA cA (zy l) A8 (n+(zB (l.map fun c => !c.1)).length) c8 (xs++zB (l.map fun c => !c.1)) from ⟨B1.out.set_ 2 _,H5.out,zf B2.out B1.out (by decide) 2 _,zf (by rw [zt];exact R1.out) B1.out (by decide) 2 _,R4.out.1,R4.out.2⟩);have B6:=za (B6.out.far (Nat.ne_of_lt Hg0.out) (Value.slice A8 (n+(zB (l.map fun c => !c.1)).length) c8):Blk (w8.setCell ⟨g,2,none⟩ _) w.heap.size 43 #[.int .i64 k,.bool true]);have HB:=za (HB.out.trans hS);clear hS hT M1 M2 M3 N1 N3 B1 B2 R1 R4;have c40:=B6.out.cell 0;have hin:=fun args w'=>Jq k hk1 hk5 args w';(go_wp2_with fail);(with_reducible refine (Xc k _ hk1 hk5).mono ?_);rintro e w6 ⟨rfl,rfl⟩;(go_wp2_with fail);(with_reducible refine (Ue w.heap.size g k 0 A1 nA cA (zy l) A8 (n+(zB (l.map fun c => !c.1)).length) c8 (xs++zB (l.map fun c => !c.1)) _ hk1 hk5 HC.out HsO.out HsZ.out Htot.out.1 HB.out.size Htot.out.2).mono ?_);rintro e w7 ⟨rfl,B2,m2,c9,hC9,hB9⟩;have HC9:=za hC9;have HB9:=za (HB.out.trans hB9);have c2:=hC9.blk.cell 2;clear hC9 hB9;go_wp2;go_ret2;exact ⟨B2,m2,c9,by rw [HE.out];rfl,HC9.out.le,HC9.out.max,by rw [HO.out];exact HC9.out.bytes,HB9.out⟩
    refine nE fun K hK=>?_;go_simp;(with_reducible refine (ZZ AM j cM _ _ (Reads.of_own M3.out) M1.out M2.out (Nat.le_trans Hm.out (by decide))).mono ?_);rintro e w5 ⟨AP,cP,rfl,q1,q2,q3,q4⟩;have N1:=za q1;have N3:=za q3;have HC:=za (HC.out.below q4);have B6:=za (B6.out.on q4);have hT:=za (hS.trans (q4.mono (Nat.le_trans HB.out.size hS.size)));clear q1 q3 q4 q2;refine hG hK (by exact hT.out) fun hS=>?_;clear hK K;clear hT;have c2:=HC.out.blk.cell 2;refine nE fun K hK=>?_;go_simp;refine hG hK hS fun hS=>?_;clear hK K;clear c2;refine nE fun K hK=>?_;refine zl _ (.tmp 50) (.tmp 53) 35 rfl w.heap.size 5 i0 (.int .u8 0) 1 1 Tryz.underlying35 hi0 hz0 hz1 hz2 rfl (by decide) A3 n c3 _ rfl HC.out.bytes AP _ cP _ rfl (Reads.of_own N3.out) (z6 _) (by have:=Hpl.out;simp only [maxLen];omega) (by have:=Hpl.out;omega) (Nat.le_trans HB.out.size hS.size) ?_;intro A8 c8 w8 r1 r2 r3 r4 r5;obtain ⟨b1,b2⟩:=HC.out.grow r3;have B1:=za b1;have B2:=za b2;have R1:=za r1;have R4:=za (And.intro r4 r5);have B6:=za (B6.out.apart HC.out.bytes (by decide) r3);have hT:=za (hS.trans r2);clear b1 b2 r1 r2 r3 r4 r5;refine hG hK (by exact hT.out) fun hS=>?_;clear hK K;(iterate 2 refine nP hS ?_);have c2:=B1.out.cell 2;have f2:=B1.out.frozen 2;refine nE fun K hK=>?_;go_simp;clear c2 f2;refine hG hK (by exact hT.out.setCell (p:=⟨g,2,none⟩) H5.out _) fun hS=>?_;clear hK K;refine zv ?_;have HC:=za (show ColW _ w.heap.size g k 0 A1 nA cA (zy l) A8 (n+(zB (l.map fun c => !c.1)).length) c8 (xs++zB (l.map fun c => !c.1)) from ⟨B1.out.set_ 2 _,H5.out,zf B2.out B1.out (by decide) 2 _,zf (by rw [zt];exact R1.out) B1.out (by decide) 2 _,R4.out.1,R4.out.2⟩);have B6:=za (B6.out.far (Nat.ne_of_lt Hg0.out) (Value.slice A8 (n+(zB (l.map fun c => !c.1)).length) c8):Blk (w8.setCell ⟨g,2,none⟩ _) w.heap.size 43 #[.int .i64 k,.bool true]);have HB:=za (HB.out.trans hS);clear hS hT M1 M2 M3 N1 N3 B1 B2 R1 R4;have c40:=B6.out.cell 0;have hin:=fun args w'=>Jq k hk1 hk5 args w';(go_wp2_with fail);(with_reducible refine (Xc k _ hk1 hk5).mono ?_);rintro e w6 ⟨rfl,rfl⟩;(go_wp2_with fail);(with_reducible refine (Ue w.heap.size g k 0 A1 nA cA (zy l) A8 (n+(zB (l.map fun c => !c.1)).length) c8 (xs++zB (l.map fun c => !c.1)) _ hk1 hk5 HC.out HsO.out HsZ.out Htot.out.1 HB.out.size Htot.out.2).mono ?_);rintro e w7 ⟨rfl,B2,m2,c9,hC9,hB9⟩;have HC9:=za hC9;have HB9:=za (HB.out.trans hB9);have c2:=hC9.blk.cell 2;clear hC9 hB9;go_wp2;go_ret2;exact ⟨B2,m2,c9,by rw [HE.out];rfl,HC9.out.le,HC9.out.max,by rw [HO.out];exact HC9.out.bytes,HB9.out⟩
end
section
open Go.RowKit
theorem ahJ (l:List Cl):(yW l).length<=10*l.length:=by
 induction l with
 | nil=>simp [yW]
 | cons c l ih=>
  have:=zE (zig c.2.1);simp only [yW,List.flatMap_cons,List.length_append,List.length_cons] at *;omega
theorem ahf (l:List Cl) (h:∀ c∈l,c.2.2.size<=1024):(y9 l).length<=1034*l.length:=by
 induction l with
 | nil=>simp [y9]
 | cons c l ih=>
  have h1:=zE c.2.2.size;have h2:=h c (by simp);have h3:=ih (fun x hx=>h x (by simp [hx]));have h4:c.2.2.data.toList.length=c.2.2.size:=by rw [Array.length_toList];rfl
  simp only [y9,List.flatMap_cons,List.length_append,List.length_cons] at *;omega
theorem ahi (k:Int) (nl:Bool) (l:List Cl) (hk:yZ k=true) (ha:Yr k nl l=true):(YO k nl l []).length<=10+1046*l.length:=by
 have hs:=VQ hk ha;have hl:(zy l).length<=l.length:=List.length_filter_le _ _;have h1:((if nl then zB (l.map fun c => !c.1) else []:List UInt8)).length<=l.length:=by
  split
  ·have:=XV (l.map fun c => !c.1);simpa using this
  simp
 have h2:(yh k (zy l)).length<=10+1044*l.length:=by
  unfold yh
  split
  ·have:=XV ((zy l).map fun c=>c.2.1==1);simp only [List.length_map] at this;omega
  split
  ·have:=YD ((zy l).map fun c=>c.2.2) (fun s hs2=>by
    obtain ⟨c,hc,rfl⟩:=List.mem_map.1 hs2;exact hs c hc)
   simp only [List.length_map] at this;omega
  split
  ·have:=ahf (zy l) hs;omega
  have:=ahJ (zy l);omega
 unfold YO;simp only [List.nil_append,List.length_append];omega
theorem Fits.colB_le {cs:List Co} {b:Ba} (h:Fits cs b) (k:Nat):(ada cs b.2.2 k).length<=10+1046*b.2.2.length:=by
 unfold ada
 split
 ·rename_i c hc
  have:=ahi c.2.2.1 c.2.2.2.1 (Zk b.2.2 k) (X3 h.may hc) (h.col hc);simpa [Zk] using this
 simp
theorem Fits.colsB_le {cs:List Co} {b:Ba} (h:Fits cs b) (j:Nat):(Yq cs b.2.2 j).length<=j*(10+1046*b.2.2.length):=by
 induction j with
 | zero=>simp [Yq]
 | succ j ih=>
  have:=h.colB_le j;rw [aav,List.length_append,Nat.succ_mul];omega
theorem acU (v s:Int) (n:Nat):(VL v s n).length<=33:=by
 have h1:=zE v.toNat;have h2:=zE s.toNat;have h3:=zE n;simp only [VL,List.length_append,List.length_cons,List.length_nil];omega
theorem agM (l:List It):(wsB l).length<=10*l.length:=by
 induction l with
 | nil=>simp [wsB]
 | cons c l ih=>
  have:=zE (zig c.2);simp only [wsB,List.flatMap_cons,List.length_append,List.length_cons] at *;omega
theorem Vp {cs:List Co} (h:yD cs=true):1<=cs.length/\cs.length<=32:=by
 unfold yD at h;simp only [Bool.and_eq_true,decide_eq_true_eq] at h;exact h.1
def XE (cs:List Co) (b:Ba) (j:Nat):List UInt8:=VL b.1 b.2.1 b.2.2.length++Yq cs b.2.2 j
theorem aa3 (cs:List Co) (b:Ba):XE cs b 0=VL b.1 b.2.1 b.2.2.length:=by simp [XE,Yq]
theorem aa4 (cs:List Co) (b:Ba) (j:Nat) (c:Co) (h:cs[j]? = some c):XE cs b (j+1)=YO c.2.2.1 c.2.2.2.1 (Zk b.2.2 j) (XE cs b j):=by
 unfold XE;rw [aav,<-List.append_assoc];unfold ada;rw [h];unfold YO;simp
theorem Fits.preB_le {cs:List Co} {b:Ba} (h:Fits cs b) (j:Nat) (hj:j<=cs.length):(XE cs b j).length<=40000000000:=by
 have h1:=h.colsB_le j;have h2:=acU b.1 b.2.1 b.2.2.length;have h3:=(Vp h.may).2;have h4:=h.rows;have h5:j*(10+1046*b.2.2.length)<=32*(10+1046*1048576):=Nat.mul_le_mul (by omega) (by omega);unfold XE;rw [List.length_append];omega
def XT (cs:List Co) (b:Ba) (i:Nat):List UInt8:=XE cs b cs.length++wsB (b.2.2.take i)
theorem aa1 (cs:List Co) (b:Ba):XT cs b 0=XE cs b cs.length:=by simp [XT,wsB]
theorem aa2 (cs:List Co) (b:Ba) (i:Nat) (it:It) (h:b.2.2[i]? = some it):XT cs b (i+1)=XT cs b i++leb (zig it.2):=by
 unfold XT wsB;rw [List.take_add_one,h];simp
theorem JW (cs:List Co) (b:Ba):XT cs b b.2.2.length=yf cs b:=by
 unfold XT XE yf;rw [List.take_length,List.append_assoc]
theorem Fits.preW_le {cs:List Co} {b:Ba} (h:Fits cs b) (i:Nat):(XT cs b i).length<=50000000000:=by
 have h1:=h.preB_le cs.length (Nat.le_refl _);have h2:=agM (b.2.2.take i);have h3:=h.rows;have h4:(b.2.2.take i).length<=b.2.2.length:=List.length_take_le' _ _;unfold XT;rw [List.length_append];omega
theorem Fits.body_le {cs:List Co} {b:Ba} (h:Fits cs b):(yf cs b).length<=50000000000:=by
 rw [<-JW];exact h.preW_le _
theorem Fits.enc_le {cs:List Co} {b:Ba} (h:Fits cs b):(yN cs b).length<=60000000000:=by
 have:=h.body_le;rw [Ut];omega
def ajl (c:Cl):Cl:=(c.1,c.2.1,c.2.2.extract 0 (min c.2.2.size 300))
def Yt (r:List Cl):List Cl:=(r.take 40).map ajl
def aev (it:It):It:=(Yt it.1,it.2)
theorem akA (r:List Cl):(Yt r).length=min 40 r.length:=by simp [Yt]
theorem ajk {r:List Cl} (h:VE r):VE (Yt r):=by
 intro c hc;obtain ⟨d,hd,rfl⟩:=List.mem_map.1 hc;obtain ⟨h1,h2,h3⟩:=h d (List.mem_of_mem_take hd);refine ⟨h1,h2,?_⟩;simp only [ajl,ByteArray.size_extract];omega
end
section
open Go.RowKit
structure Touch (w w':World) (g:Nat) (r:Option Nat):Prop where
 os:w'.os=w.os
 tape:w'.tape=w.tape
 output:w'.output=w.output
 size:w.heap.size<=w'.heap.size
 block:∀ k,k<w.heap.size->k≠g->some k≠r->w'.heap[k]? = w.heap[k]?
def Next (w:World) (r r':Option Nat):Prop:=r'=r\/∃ k,r'=some k/\w.heap.size<=k
section
variable {w w1 w2:World} {g:Nat} {r r1 r2:Option Nat}
theorem Touch.refl:Touch w w g r:=⟨rfl,rfl,rfl,Nat.le_refl _,fun _ _ _ _=>rfl⟩
theorem Next.refl:Next w r r:=.inl rfl
theorem Touch.trans (h:Touch w w1 g r) (hn:Next w r r1) (h2:Touch w1 w2 g r1):Touch w w2 g r:=
 ⟨h2.os.trans h.os, h2.tape.trans h.tape, h2.output.trans h.output, Nat.le_trans h.size h2.size, fun k hk h3 h4 => by
  refine (h2.block k (Nat.lt_of_lt_of_le hk h.size) h3 ?_).trans (h.block k hk h3 h4);rcases hn with rfl | ⟨q,rfl,hq⟩
  ·exact h4
  intro e
  injection e with e
  omega⟩
theorem Next.trans (h:Next w r r1) (hs:w.heap.size<=w1.heap.size) (h2:Next w1 r1 r2):Next w r r2:=by
 rcases h2 with rfl | ⟨k,rfl,hk⟩
 ·exact h
 exact .inr ⟨k,rfl,Nat.le_trans hs hk⟩
theorem Touch.of_below (h:Below w.heap.size w w1):Touch w w1 g r:=⟨h.os,h.tape,h.output,h.size,fun k hk _ _=>h.block k hk⟩
theorem Touch.of_grown (h:w.grownBy w1 r):Touch w w1 g r:=⟨h.os,h.tape,h.output,h.size,fun k hk _ h4=>h.block k hk h4⟩
theorem Touch.set (w:World) (i:Nat) (u:Value):Touch w (w.setCell ⟨g,i,none⟩ u) g r:=by
 have h:=grown_set' w g i u;exact ⟨h.os,h.tape,h.output,h.size,fun k hk h3 _=>h.block k hk (by simpa using h3)⟩
 where grown_set' (w:World) (g i:Nat) (u:Value):w.grownBy (w.setCell ⟨g,i,none⟩ u) (some g):=
 ⟨rfl,rfl,rfl,by simp [World.setCell],fun k hk hne=>Below.heap_setCell w ⟨g,i,none⟩ u k (by intro e;exact hne (by rw [e]))⟩
theorem Touch.below {B:Nat} (h:Touch w w1 g r) (hB:B<=w.heap.size) (hg:B<=g) (hr:∀ k,r=some k->B<=k):Below B w w1:=
 ⟨h.os,h.tape,h.output,h.size,fun k hk=>h.block k (by omega) (by omega) (fun e=>by have:=hr k e.symm;omega)⟩
end
theorem afZ {w w':World} {base size n g2:Nat} {e:TypeId} {v:Value} {xs:List Value} {r:Option Nat} (h:w.ownsRow base e size v n xs) (ht:Touch w w' g2 r) (h1:v.ownBlock≠some g2) (h2:v.ownBlock=none\/v.ownBlock≠r):w'.ownsRow base e size v n xs:=by
 rcases h.2 with ⟨rfl,h0⟩ | ⟨g,cap,cur,rfl,h3,h4,h5⟩
 ·exact ⟨h.1,.inl ⟨rfl,h0⟩⟩
 refine ⟨h.1,.inr ⟨g,cap,cur,rfl,h3,?_,h5⟩⟩;have hlt:g<w.heap.size:=by
  rcases Nat.lt_or_ge g w.heap.size with hlt | hge
  ·exact hlt
  rw [Array.getElem?_eq_none hge] at h4;cases h4
 refine (ht.block g hlt (by simpa [Value.ownBlock] using h1) ?_).trans h4;rcases h2 with h2 | h2
 ·simp [Value.ownBlock] at h2
 exact h2
theorem abK {w:World} {base size n g:Nat} {e t:TypeId} {v:Value} {xs:List Value} {cs:Array Value} (h:w.ownsRow base e size v n xs) (hb:Blk w g t cs) (hne:e≠t):v.ownBlock≠some g:=by
 rcases h.2 with ⟨rfl,h0⟩ | ⟨g2,cap,cur,rfl,h1,h2,h3⟩
 ·simp [Value.ownBlock]
 simp only [Value.ownBlock,ne_eq,Option.some.injEq];rintro rfl;unfold Blk at hb;rw [h2] at hb
 injection hb with hb
 injection hb with _ h4
 exact hne h4
section
variable {P:Program} {w:World}
theorem V4 {ops:Array Oper} {rest:List Oper} {o:Oper} {a:Act} {Q:Exit->Act->World->Prop} (hgd:o.guard=none) (s x:Operand) (t:TypeId)
  (ho:o.op=.call { callee:=.builtin .append,args:=#[s,x],argTypes:=#[t,t] })
  (base:Nat) (e:TypeId) (i:TypeInfo) (z:Value) (size bytes:Nat) (ht:P.underlying t=some (.slice e)) (hi:P.info? e=some i) (hz:i.zero=some z)
  (hsize:i.size=size) (hby:i.bytes=bytes) (hzs:z.cells.size=size) (hsz:0<size)
  (A0:Option Addr) (n c0:Nat) (xs:List Value) (hs:a.eval s=.slice A0 n c0) (hown:w.ownsRow base e size (.slice A0 n c0) n xs)
  (A:Option Addr) (m c:Nat) (news:List Value) (hx:a.eval x=.slice A m c) (hr:Reads w w.heap.size size A m news) (h1:∀ u∈news,u.oneCell'=true)
  (h63:n+m<=maxLen) (hbytes:(n+m)*bytes<=70368744177664) (hbase:base<=w.heap.size)
  (h:∀ A' c' w',w'.ownsRow base e size (.slice A' (n+m) c') (n+m) (xs++news)->w.grownBy w' (Value.slice A0 n c0).ownBlock->((Value.slice A' (n+m) c').ownBlock=(Value.slice A0 n c0).ownBlock\/(Value.slice A' (n+m) c').ownBlock=some w.heap.size)->wpList P ops Q rest (a.put o.dst (.slice A' (n+m) c')) w'):wpList P ops Q (o::rest) a w:=
 wpList_plain hgd fun K hK=>by
  obtain ⟨v',w',hrun,h2,h3,h5⟩:=qp (P:=P) w base t o.type e i z size bytes ht hi hz hsize hby hzs hsz _ n xs hown _ A m c news hr h1 h63 (by omega) hbase;obtain ⟨A',c',rfl,hl1,hl2⟩:=zY h2;unfold Oper.wp execOp;simp only [ho,resolve,invoke,builtin,Sem.run_bind,Sem.run_pure,Result.andThen_ok,List.map_toArray,List.map_cons,List.map_nil,hs,hx,hrun];exact hK _ _ (h A' c' w' h2 h3 h5)
end
def aaK (B:List UInt8) (most:Int) (full:Bool) (b:List UInt8):List UInt8×Bool:=
 if full=true\/most-(B.length:Int)<(b.length:Int) then (B,true) else (B++b,false)
def PWr (w:World) (base g:Nat) (r:Option Nat) (B:List UInt8) (most:Int) (full:Bool):Prop:=
 base<=g/\∃ (A:Option Addr) (c:Nat),Blk w g 159 #[.slice A B.length c,.bool true,.int .i64 most,.bool full]/\w.ownsRow base 5 1 (.slice A B.length c) B.length (u8s B)/\(Value.slice A B.length c).ownBlock=r
section
variable {w w':World} {base g g2:Nat} {r r2:Option Nat} {B B2:List UInt8} {most most2:Int} {full full2:Bool}
theorem PWr.lt (h:PWr w base g r B most full):g<w.heap.size/\base<=g/\∀ k,r=some k->base<=k/\k<w.heap.size:=by
 obtain ⟨h0,A,c,h1,h2,rfl⟩:=h;exact ⟨h1.lt,h0,fun k hk=>h2.lt k hk⟩
theorem PWr.on (h:PWr w base g r B most full) (hb:Below w.heap.size w w'):PWr w' base g r B most full:=by
 obtain ⟨h0,A,c,h1,h2,h3⟩:=h;exact ⟨h0,A,c,h1.on hb,zd h2 hb,h3⟩
end
def Wr (base g:Nat) (r:Option Nat) (B:List UInt8) (most:Int) (full:Bool) (b:List UInt8) (w:World) (e:Ending) (w':World):Prop:=
 e=.returned (.tuple #[])/\Touch w w' g r/\∃ r',Next w r r'/\PWr w' base g r' (aaK B most full b).1 most (aaK B most full b).2
theorem Wr.from_ {base g:Nat} {r:Option Nat} {B:List UInt8} {most:Int} {full:Bool} {b:List UInt8} {w w1:World} {e:Ending} {w':World} (h:Wr base g r B most full b w1 e w') (hb:Below w.heap.size w w1):Wr base g r B most full b w e w':=by
 obtain ⟨h1,h2,r',h3,h4⟩:=h;refine ⟨h1,(Touch.of_below hb).trans Next.refl h2,r',?_,h4⟩;exact Next.refl.trans hb.size h3
end
end Go.Proofs.YtjpjalmilfgckaaGreatDoor
