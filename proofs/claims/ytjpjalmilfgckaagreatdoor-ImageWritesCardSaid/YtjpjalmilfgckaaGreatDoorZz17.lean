/- Part 17 of the walks. Conditions: each lemma states its own. -/
import Derived.Test.YtjpjalmilfgckaaGreatDoorZz16
import Derived.Lib.LaidU8T
import Derived.OpenShut
set_option maxRecDepth 100000
set_option maxHeartbeats 4000000
set_option linter.unusedVariables false
set_option linter.unusedSimpArgs false
namespace Go.Proofs.YtjpjalmilfgckaaGreatDoor
section
open Go.RowKit Go.Deep Go.ChangeShapes Go.WideShapes Go.Shelf Go.Lib
def ajn:DataW Unit:=tabData .u32 (crcTab.map Int.ofNat)
theorem akQ {w : World} (h : VarReads Tryz.prog w "millstream/crc.table" ajn) : CTab w := by
 intro i hi;obtain ⟨g,t,cs,fuel,p,hg,hty,hvar,hd⟩:=h;obtain rfl:g=0:=Option.some.inj (hg.symm.trans (by kernel_rfl));obtain rfl:t=212:=Option.some.inj (hty.symm.trans (by kernel_rfl));have hcs:=cells_of_tab Tryz.underlying212 Tryz.underlying67 (by kernel_rfl) (by kernel_rfl) hd;rw [World.var?_cell hg hvar i,<-Array.getElem?_toList,hcs];have:=afA i hi;simp [this]
theorem ajG {H:Type} {enc:TypeId×Value->H} {w:World} {held:Bool} {m:Nat} {a:Option Addr} {len cap:Nat} {y:DataW H×List MemPlace} (hf:DataW.trod enc Tryz.prog w 0 (fun _=>true) held m 35 [.slice a len cap]=some y) :
  ∃ xs:List UInt8,Reads w w.heap.size 1 a len (u8s xs)/\len<=cap/\cap<=maxLen:=by
 rcases open_ints Tryz.underlying35 Tryz.underlying5 (by kernel_rfl) hf with ⟨hcs,_⟩ | ⟨x,l,c,zs,hcs,_,hl,hm,hz,_,hcell,hwz⟩
 ·simp at hcs;obtain ⟨rfl,rfl,rfl⟩:=hcs;exact Uw (zs:=[]) (.inl ⟨rfl,rfl,rfl,rfl⟩)
 simp at hcs;obtain ⟨rfl,rfl,rfl⟩:=hcs;exact Uw (zs:=zs) (.inr ⟨_,rfl,hl,hm,by simpa using hz,hcell,hwz⟩)
end
section
open Go.RowKit
theorem aio {k:Int} {nl:Bool} {c:Cl} (hk:yZ k=true) (h:zw k nl c=0) : -9223372036854775808<=c.2.1/\c.2.1<=9223372036854775807/\c.2.2.size<=maxLen:=by
 obtain ⟨h1,h5⟩:1<=k/\k<=5:=by simpa [yZ] using hk
 have ha:Yr k nl [c]=true:=by simp [Yr,h]
 obtain ⟨ho,hn⟩:=(UA k nl [c] hk).1 ha;cases hu:c.1 with
 | true=>
  obtain ⟨-,rfl⟩:=hn c (by simp) hu;exact ⟨by decide,by decide,by decide⟩
 | false=>
  have hi:=(ho c (List.mem_filter.2 ⟨by simp,by simp [hu]⟩)).2;have hs:=JH h1 h5 hi;refine ⟨?_,?_,Nat.le_trans hs (by decide)⟩;all_goals
   rcases (show k=1\/k=2\/k=3\/k=4\/k=5 by omega) with rfl | rfl | rfl | rfl | rfl;all_goals simp [isC,Zd] at hi;omega
theorem Fits.itOk {cs:List Co} {b:Ba} (h:Fits cs b) (hb:Jm b):ItOk b.2.2:=by
 intro it hit;obtain ⟨hl,hc⟩:=Vj (h.items it hit).1;refine ⟨fun c hm=>?_,hb.2 it hit⟩;obtain ⟨j,hj⟩:=List.getElem?_of_mem hm;have hlt:=(List.getElem?_eq_some_iff.1 hj).1;have hco:=List.getElem?_eq_getElem (l:=cs) (i:=j) (by omega);exact aio (X3 h.may hco) (hc j _ _ hco hj)
structure LawB (w:World) (A1:Option Addr) (k1:Nat) (lc:List Co) (v s:Int) (A:Option Addr) (k c:Nat) (l:List It) (wc:World):Prop where
 below:Below w.heap.size w wc
 box:Blk wc w.heap.size 30 #[.int .i64 v,.int .i64 s,.slice A k c]
 cols:Reads wc wc.heap.size 7 A1 k1 (cos lc)
 items:ItemsAt wc wc.heap.size A k l
 tab:Tab2 wc.heap.size wc
 le1:k1<=40
 le2:k<=30
 ok:ItOk l
 sok:s<=9223372036854775807
section
variable {w wc w':World} {A1 A:Option Addr} {k1 k c:Nat} {lc:List Co} {v s:Int} {l:List It}
theorem LawB.on (h:LawB w A1 k1 lc v s A k c l wc) (hb:Below wc.heap.size wc w'):LawB w A1 k1 lc v s A k c l w':=
 ⟨bon h.below hb,h.box.on hb,h.cols.on hb,h.items.on hb,h.tab.on hb,h.le1,h.le2,h.ok,h.sok⟩
theorem LawB.al (h:LawB w A1 k1 lc v s A k c l wc) (o:Obj):LawB w A1 k1 lc v s A k c l (wc.alloc o):=h.on (bal (Below.refl _ _) o)
theorem LawB.baok (h:LawB w A1 k1 lc v s A k c l wc):Jm (v,s,l):=ajv h.sok h.ok
end
end
section
open Go.RowKit
def akC (m:Mk):Mk:=(m.1.extract 0 (min m.1.size 40),m.2)
def abj (l:List Mk):List Mk:=(l.take 20).map akC
def afi (l:List It):List It:=(l.take 20).map aev
def abk (c:Co):Co:=(c.1,c.2.1,c.2.2.1,c.2.2.2.1,c.2.2.2.2.1,c.2.2.2.2.2.1,c.2.2.2.2.2.2.extract 0 (min c.2.2.2.2.2.2.size 300))
def afh (s:Sc):Sc:=((s.1.take 40).map abk,s.2.take 12)
theorem aar (s:ByteArray) (k:Nat):(s.extract 0 (min s.size k)).size<=s.size:=by
 rw [ByteArray.size_extract];omega
theorem akB {l:List Mk} (h:UB l):UB (abj l):=by
 intro m hm;obtain ⟨x,hx,rfl⟩:=List.mem_map.1 hm;obtain ⟨h1,h2⟩:=h x (List.mem_of_mem_take hx);exact ⟨Nat.le_trans (aar _ _) h1,h2⟩
theorem akD {l:List It} (h:ItOk l):ItOk (afi l):=by
 intro it hit;obtain ⟨x,hx,rfl⟩:=List.mem_map.1 hit;obtain ⟨h1,h2⟩:=h x (List.mem_of_mem_take hx);exact ⟨ajk h1,h2⟩
theorem akz {s:Sc} (h:ScOk s):ScOk (afh s):=by
 have key:∀ c∈(afh s).1,∃ x∈s.1,c=abk x:=fun c hc=>by
  obtain ⟨x,hx,rfl⟩:=List.mem_map.1 hc;exact ⟨x,List.mem_of_mem_take hx,rfl⟩
 refine ⟨fun c hc=>?_,fun c hc=>?_,fun c hc=>?_,fun c hc=>?_⟩<;>obtain ⟨x,hx,rfl⟩:=key c hc
 ·exact h.kind x hx
 ·exact h.num x hx
 ·exact h.name x hx
 exact Nat.le_trans (aar _ _) (h.str x hx)
end
section
open Go.RowKit
theorem ac9 (A:Option Addr) (n c:Nat) (l:List Cl) (w:World) (hr:Reads w w.heap.size 3 A n (cls l)) (hn:n<=1048576) :
  Calls Tryz.prog 117 #[.slice A n c] w fun e w'=>∃ A' c',e=.returned (.slice A' n c')/\n<=c'/\c'<=maxLen/\w'.ownsRow w.heap.size 23 3 (.slice A' n c') n (cls l)/\Below w.heap.size w w':=by
 obtain ⟨i0,hi0,hz0,hz1,hz2⟩:=info_parts yG;go_enter Tryz.func117,Tryz.ntmps117
 go_wp2_with (at_builtin
              refine zb _ rfl (.tmp 4) (.tmp 5) 24 rfl w.heap.size 23 i0 (.agg #[.bool false,.int .i64 0,.string ⟨#[]⟩]) 3 32 Tryz.underlying24 hi0 hz0 hz1 hz2 rfl (by decide) none 0 0 [] rfl (World.ownsRow_nil _ _ _ _) A n c (cls l) rfl hr (yd l) (by simp only [maxLen];omega) (by omega) (Nat.le_refl _) ?_;intro A2 c2 w2 hown2 hb2 hg2 hc2 hm2;simp only [Nat.zero_add,List.nil_append] at hown2 hc2)
 go_ret;exact ⟨A2,c2,by simp,hc2,hm2,hown2,hb2⟩
theorem aaN (A:Option Addr) (n c:Nat) (l:List It) (w:World) (hi:ItemsAt w w.heap.size A n l) (hn:n<=1048576) (hl:∀ it∈l,it.1.length<=1048576) :
  Calls Tryz.prog 53 #[.slice A n c] w fun e w'=>∃ A' c',e=.returned (.slice A' n c')/\n<=c'/\c'<=maxLen/\ItemsOwn w' w.heap.size A' n c' l/\Below w.heap.size w w':=by
 obtain ⟨i0,hi0,hz0,hz1,hz2⟩:=info_parts UP;have Hi:=za hi;have Hl:=za hl;have hlen:=hi.len;clear hi hl;go_enter Tryz.func53,Tryz.ntmps53;go_wp2;go_loopw [3,4] (fun sv kv wr=>∃ (i:Nat) (A4:Option Addr) (c4:Nat),i<=n/\sv=.slice A4 i c4/\kv=.int .i64 (i:Int)/\Hid (ItemsOwn wr w.heap.size A4 i c4 (l.take i))/\Hid (Below w.heap.size w wr)) (fun _ kv _=>n-(intOf kv).toNat)
 case atStart=>exact ⟨0,none,0,Nat.zero_le _,rfl,rfl,za (by rw [List.take_zero];exact ItemsOwn.nil),za (Below.refl _ _)⟩
 case round=>
  obtain ⟨i,A4,c4,hin,rfl,rfl,HIt,HB⟩:=hrel;by_cases hlt:i<n
  ·have d1:decide ((i:Int)<(n:Int))=true:=(by simp;omega);have hii:(i:Int)<(n:Int):=(by omega);obtain ⟨ad,A',c',it,rfl,hbk,hit,a0,a1,r1,rc1,rc2⟩:=Hi.out.at_ hlt;have Hit:=za hit;have Hrl:=za (Hl.out it (List.mem_of_getElem? hit));have LR:=za (show ak1 w (ad.add (i*2)) (.slice A' it.1.length c') from fun w' h=>(h.cell (World.block_lt_of_cell? _ _ a0)).trans a0);have LW:=za (show ak1 w ⟨(ad.add (i*2)).block,(ad.add (i*2)).off+1,none⟩ (.int .i64 it.2) from fun w' h=>(h.cell (World.block_lt_of_cell? _ _ a1)).trans a1);have RR:=za (show ∀ w',Below w.heap.size w w'->Reads w' w'.heap.size 3 A' it.1.length (cls it.1) from fun w' h=>r1.on h);have Htk:=za (show l.take (i+1)=l.take i++[it] by rw [List.take_add_one,hit];rfl);clear hbk hit a0 a1 r1 rc1 rc2;obtain ⟨r,x⟩:=it;simp only at LR LW RR Hrl;generalize hrl:r.length=rl at *;have hsa:i+1<=maxLen:=(by simp only [maxLen];omega);have hsb:(i+1)*32<=70368744177664:=(by omega);go_wp2;have hS:Below w.heap.size w wr.drew:=HB.out.drew;have HIt:=za HIt.out.drew;refine hB w [0,1,2,3,4,5,7,8,9,10,11,tt 6,12,tt 13,tt 14,15] ?_;(iterate 5 refine hP hS ?_);refine hP1 hS LR.out ?_;(iterate 4 refine hP hS ?_);refine hP1 hS LW.out ?_;refine hE fun K hK=>?_;go_simp;(with_reducible refine (ac9 A' rl c' r _ (RR.out _ hS) Hrl.out).mono ?_);rintro e w5 ⟨A10,c10,rfl,-,-,ho,hb⟩;have HO:=za (zi ho hS.size);have HIt:=za (HIt.out.below hb);have HS:=za (hS.trans (hb.mono hS.size));clear ho hb;refine hG hK (by exact HS.out) fun hS=>?_;clear hK K;clear HS;refine hP hS ?_;refine hE fun K hK=>?_;go_simp;have HO:=za (HO.out.alloc (.cells #[.slice A10 rl c10,.int .i64 x] 26));have HIt:=za (HIt.out.al (.cells #[.slice A10 rl c10,.int .i64 x] 26));have HS:=za (hS.alloc hS.size (.cells #[.slice A10 rl c10,.int .i64 x] 26));refine hG hK (by exact HS.out) fun hS=>?_;clear hK K;clear HS;obtain ⟨hs3,g1,g2⟩:=HIt.out;have G1:=za g1;have G2:=za g2;clear g1 g2;refine hE fun K hK=>?_;refine zl _ (.tmp 11) (.tmp 24) 27 rfl w.heap.size 26 i0 (.agg #[.slice none 0 0,.int .i64 0]) 2 32 Tryz.underlying27 hi0 hz0 hz1 hz2 rfl (by decide) A4 i c4 _ (by exact rfl) G1.out (some ⟨_,0,none⟩) 1 1 (itV (A10,rl,c10) (r,x)) (by exact rfl) (by exact Zq _ _ rfl (A10,rl,c10) (r,x)) (Vt _ _) hsa hsb hS.size ?_;intro A8 c8 w8 r1 r2 r3 r4 r5;have HI8:=za (Z7 (hd:=(A10,rl,c10)) (it:=(r,x)) G1.out G2.out HO.out r3 r1);rw [<-Htk.out] at HI8;have HS:=za (hS.trans r2);clear r1 r2 r3 r4 r5;refine hG hK (by exact HS.out) fun hS=>?_;clear hK K;clear HS;refine hP hS ?_;refine zc ?_;have HB:=za hS;clear hS;go_wp2;go_roundw;case rel=>exact ⟨i+1,A8,c8,by omega,rfl,by go_num,HI8,HB⟩
   case measure=>simp [intOf];omega
  have d1:decide ((i:Int)<(n:Int))=false:=by simp;omega
  obtain rfl:i=n:=by omega
  have HI:=za (show ItemsOwn wr w.heap.size A4 i c4 l by have:=HIt.out;rwa [List.take_of_length_le (by omega)] at this);go_wp2;go_ret;exact ⟨A4,c4,rfl,HI.out.caps.1,HI.out.caps.2,HI.out,HB.out⟩
end
section
open Go.RowKit
theorem UN:(Tryz.prog.info? 90).map (fun i=>(i.zero,i.size,i.bytes))=some (some (.agg #[.string ⟨#[]⟩,.int .i64 0]),2,24):=by kernel_rfl
section
variable {w:World} {base size n g c:Nat} {e t:TypeId} {v:Value} {xs:List Value} {cs:Array Value} {A:Option Addr} {l:List It}
theorem yq (h:w.ownsRow base e size v n xs) (hb:Blk w g t cs) (hne:e≠t) (a b c d f:Value) :
  (((((w.setCell ⟨g,0,none⟩ a).setCell ⟨g,1,none⟩ b).setCell ⟨g,2,none⟩ c).setCell ⟨g,3,none⟩ d).setCell ⟨g,4,none⟩ f).ownsRow base e size v n xs:=
 zf (zf (zf (zf (zf h hb hne 0 a) (hb.set_ 0 a) hne 1 b) ((hb.set_ 0 a).set_ 1 b) hne 2 c) (((hb.set_ 0 a).set_ 1 b).set_ 2 c) hne 3 d) ((((hb.set_ 0 a).set_ 1 b).set_ 2 c).set_ 3 d) hne 4 f
theorem qW (h:ItemsOwn w base A n c l) (hb:Blk w g t cs) (h1:23≠t) (h2:26≠t) (a b c' d f:Value) :
  ItemsOwn (((((w.setCell ⟨g,0,none⟩ a).setCell ⟨g,1,none⟩ b).setCell ⟨g,2,none⟩ c').setCell ⟨g,3,none⟩ d).setCell ⟨g,4,none⟩ f) base A n c l:=
 ((((h.far hb h1 h2 0 a).far (hb.set_ 0 a) h1 h2 1 b).far ((hb.set_ 0 a).set_ 1 b) h1 h2 2 c').far (((hb.set_ 0 a).set_ 1 b).set_ 2 c') h1 h2 3 d).far ((((hb.set_ 0 a).set_ 1 b).set_ 2 c').set_ 3 d) h1 h2 4 f
end
theorem aj3 (v q:Int) (MA:Option Addr) (mn mc:Nat) (RA:Option Addr) (rn rc:Nat) (LA:Option Addr) (ln lc:Nat) (ms:List Mk) (l:List It) (la:List UInt8) (w:World) (h:StAt w MA mn RA rn LA ln ms l la) (hmn:mn<=1048576) (hrn:rn<=1048576) (hln:ln<=1048576) (hrow:∀ it∈l,it.1.length<=1048576) :
  Calls Tryz.prog 19 #[.agg #[.int .i64 v,.int .i64 q,.slice MA mn mc,.slice RA rn rc,.slice LA ln lc]] w fun e w'=>∃ A1 c1 A2 c2 A3 c3,e=.returned (.agg #[.int .i64 v,.int .i64 q,.slice A1 mn c1,.slice A2 rn c2,.slice A3 ln c3])/\(mn<=c1/\c1<=maxLen)/\(rn<=c2/\c2<=maxLen)/\(ln<=c3/\c3<=maxLen)/\StAt w' A1 mn A2 rn A3 ln ms l la/\Below w.heap.size w w':=by
 obtain ⟨i0,hi0,hz0,hz1,hz2⟩:=info_parts UN;obtain ⟨W,hW1⟩:∃ W,(w.alloc (.cells #[.int .i64 v,.int .i64 q,.slice MA mn mc,.slice RA rn rc,.slice LA ln lc] 51)).alloc (.cells #[.int .i64 0,.int .i64 0,.slice none 0 0,.slice none 0 0,.slice none 0 0] 51)=W:=⟨_,rfl⟩;have HSt:=za (show ∀ w',Below w.heap.size w w'->StAt w' MA mn RA rn LA ln ms l la from fun w' hb=>h.on hb);have HB:=za (show Below w.heap.size w W by rw [<-hW1];exact bal (bal (Below.refl _ _) _) _);have BS:=za (show Blk W w.heap.size 51 #[.int .i64 v,.int .i64 q,.slice MA mn mc,.slice RA rn rc,.slice LA ln lc] by rw [<-hW1];exact (Blk.new w _ _).alloc _);have BT:=za (show Blk W (w.heap.size+1) 51 #[.int .i64 0,.int .i64 0,.slice none 0 0,.slice none 0 0,.slice none 0 0] by rw [<-hW1];exact Blk.new' _ _ _ _ (by simp));have hmr:=(HSt.out W HB.out).marks;have hbs:w.heap.size<=W.heap.size:=HB.out.size;have Hrow:=za hrow;have a2:=BS.out.cell 2;clear h hrow;go_enter Tryz.func19,Tryz.ntmps19
 go_wp2_with (at_builtin
              refine zb _ rfl (.tmp 4) (.tmp 6) 49 rfl W.heap.size 90 i0 (.agg #[.string ⟨#[]⟩,.int .i64 0]) 2 24 Tryz.underlying49 hi0 hz0 hz1 hz2 rfl (by decide) none 0 0 [] rfl (World.ownsRow_nil _ _ _ _) MA mn mc (mks ms) rfl hmr (Uk ms) (by simp only [maxLen];omega) (by omega) (Nat.le_refl _) ?_;intro A1 c1 w2 ho1 hb2 hg2 hc1 hm1;simp only [Nat.zero_add,List.nil_append] at ho1 hc1;have f2:=(BS.out.on hb2).frozen 2;have e2:=(BS.out.on hb2).cell 2;have b3:=((BS.out.on hb2).set_ 2 (.slice A1 mn c1)).cell 3;have Ho1:=za ho1;have Hb2:=za hb2;have Hc1:=za (And.intro hc1 hm1);clear ho1 hb2 hg2 hc1 hm1 a2)
 clear f2 b3 e2;have BS:=za (BS.out.on Hb2.out);have HO1:=za (zf Ho1.out BS.out (by decide) 2 (.slice A1 mn c1));have BT:=za ((BT.out.on Hb2.out).far (p:=⟨w.heap.size,2,none⟩) (by show w.heap.size+1≠w.heap.size;omega) (.slice A1 mn c1));have BS:=za (BS.out.set_ 2 (.slice A1 mn c1));simp only [List.setIfInBounds_toArray,List.set_cons_succ,List.set_cons_zero] at BS;have HB:=za ((bon HB.out Hb2.out).setCell (p:=⟨w.heap.size,2,none⟩) (Nat.le_refl _) (.slice A1 mn c1));generalize w2.setCell ⟨w.heap.size,2,none⟩ (.slice A1 mn c1)=w3 at *;with_reducible refine (aaN RA rn rc l _ (HSt.out _ HB.out).rows hrn Hrow.out).mono ?_
 rintro e w4 ⟨A2,c2,rfl,q1,q2,hi,hb4⟩;have HB:=za (bon HB.out hb4);have BS:=za (BS.out.on hb4);have BT:=za (BT.out.on hb4);have HO1:=za (zd HO1.out hb4);have HI:=za hi;have Hc2:=za (And.intro q1 q2);clear hi hb4 q1 q2;have f3:=BS.out.frozen 3;have e3:=BS.out.cell 3;have b4:=(BS.out.set_ 3 (.slice A2 rn c2)).cell 4;go_wp2_with fail
 clear f3 b4 e3;have HO1:=za (zf HO1.out BS.out (by decide) 3 (.slice A2 rn c2));have HI:=za (HI.out.far BS.out (by decide) (by decide) 3 (.slice A2 rn c2));have BT:=za (BT.out.far (p:=⟨w.heap.size,3,none⟩) (by show w.heap.size+1≠w.heap.size;omega) (.slice A2 rn c2));have BS:=za (BS.out.set_ 3 (.slice A2 rn c2));simp only [List.setIfInBounds_toArray,List.set_cons_succ,List.set_cons_zero] at BS;have HB:=za (HB.out.setCell (p:=⟨w.heap.size,3,none⟩) (Nat.le_refl _) (.slice A2 rn c2));generalize w4.setCell ⟨w.heap.size,3,none⟩ (.slice A2 rn c2)=w5 at *;with_reducible refine (qf LA ln lc la _ (HSt.out _ HB.out).last (by omega)).mono ?_
 rintro e w6 ⟨A3,c3,rfl,q1,q2,ho,hb6⟩;have HB:=za (bon HB.out hb6);have BS:=za (BS.out.on hb6);have BT:=za (BT.out.on hb6);have HO1:=za (zd HO1.out hb6);have HI:=za (HI.out.below hb6);have HO3:=za ho;have Hc3:=za (And.intro q1 q2);clear ho hb6 q1 q2;have HO1:=za (zf HO1.out BS.out (by decide) 4 (.slice A3 ln c3));have HI:=za (HI.out.far BS.out (by decide) (by decide) 4 (.slice A3 ln c3));have HO3:=za (zf HO3.out BS.out (by decide) 4 (.slice A3 ln c3));have BT:=za (BT.out.far (p:=⟨w.heap.size,4,none⟩) (by show w.heap.size+1≠w.heap.size;omega) (.slice A3 ln c3));have HB:=za (HB.out.setCell (p:=⟨w.heap.size,4,none⟩) (Nat.le_refl _) (.slice A3 ln c3));have f4:=BS.out.frozen 4;have e4:=BS.out.cell 4;have BS:=za (BS.out.set_ 4 (.slice A3 ln c3));simp only [List.setIfInBounds_toArray,List.set_cons_succ,List.set_cons_zero] at BS;have b0:=BS.out.cell 0;have b1:=BS.out.cell 1;have b2:=BS.out.cell 2;have b3:=BS.out.cell 3;have b4:=BS.out.cell 4;have t0:=BT.out.cell 0;have t1:=BT.out.cell 1;have t2:=BT.out.cell 2;have t3:=BT.out.cell 3;have t4:=BT.out.cell 4;have g0:=BT.out.frozen 0;have g1:=BT.out.frozen 1;have g2:=BT.out.frozen 2;have g3:=BT.out.frozen 3;have g4:=BT.out.frozen 4;go_wp2_with fail
 clear b0 b1 b2 b3 b4 t0 t1 t2 t3 t4 g0 g1 g2 g3 g4 f4 e4;have BTF:=((((BT.out.set_ 0 (.int .i64 v)).set_ 1 (.int .i64 q)).set_ 2 (.slice A1 mn c1)).set_ 3 (.slice A2 rn c2)).set_ 4 (.slice A3 ln c3);simp only [List.setIfInBounds_toArray,List.set_cons_succ,List.set_cons_zero] at BTF;have F1:=za (yq HO1.out BT.out (by decide) (.int .i64 v) (.int .i64 q) (.slice A1 mn c1) (.slice A2 rn c2) (.slice A3 ln c3));have F2:=za (qW HI.out BT.out (by decide) (by decide) (.int .i64 v) (.int .i64 q) (.slice A1 mn c1) (.slice A2 rn c2) (.slice A3 ln c3));have F3:=za (yq HO3.out BT.out (by decide) (.int .i64 v) (.int .i64 q) (.slice A1 mn c1) (.slice A2 rn c2) (.slice A3 ln c3));have hlow:w.heap.size<=w.heap.size+1:=by omega
 have HBF:=za (((((HB.out.setCell (p:=⟨w.heap.size+1,0,none⟩) hlow (.int .i64 v)).setCell (p:=⟨w.heap.size+1,1,none⟩) hlow (.int .i64 q)).setCell (p:=⟨w.heap.size+1,2,none⟩) hlow (.slice A1 mn c1)).setCell (p:=⟨w.heap.size+1,3,none⟩) hlow (.slice A2 rn c2)).setCell (p:=⟨w.heap.size+1,4,none⟩) hlow (.slice A3 ln c3));generalize (((((w6.setCell ⟨w.heap.size,4,none⟩ (.slice A3 ln c3)).setCell ⟨w.heap.size+1,0,none⟩ (.int .i64 v)).setCell ⟨w.heap.size+1,1,none⟩ (.int .i64 q)).setCell ⟨w.heap.size+1,2,none⟩ (.slice A1 mn c1)).setCell ⟨w.heap.size+1,3,none⟩ (.slice A2 rn c2)).setCell ⟨w.heap.size+1,4,none⟩ (.slice A3 ln c3)=WF at *;have r0:=BTF.cell 0;have r1:=BTF.cell 1;have r2:=BTF.cell 2;have r3:=BTF.cell 3;have r4:=BTF.cell 4;refine bodyPost_ret (v:=.agg #[.int .i64 v,.int .i64 q,.slice A1 mn c1,.slice A2 rn c2,.slice A3 ln c3]) (by simp [results,Tryz.results19,go_sem,r0,r1,r2,r3,r4]) rfl ?_;exact ⟨A1,c1,A2,c2,A3,c3,rfl,Hc1.out,Hc2.out,Hc3.out,⟨ze F1.out,F2.out.at_,ze F3.out⟩,HBF.out⟩
theorem aau (CA:Option Addr) (cn cc:Nat) (KA:Option Addr) (kn kc:Nat) (s:Sc) (w:World) (h:ScAt w CA cn KA kn s) (hcn:cn<=1048576) (hkn:kn<=1048576) :
  Calls Tryz.prog 52 #[.agg #[.slice CA cn cc,.slice KA kn kc]] w fun e w'=>∃ A1 c1 A2 c2,e=.returned (.agg #[.slice A1 cn c1,.slice A2 kn c2])/\(cn<=c1/\c1<=maxLen)/\(kn<=c2/\c2<=maxLen)/\w'.ownsRow w.heap.size 45 7 (.slice A1 cn c1) cn (cos s.1)/\w'.ownsRow w.heap.size 3 1 (.slice A2 kn c2) kn (ins s.2)/\Below w.heap.size w w':=by
 obtain ⟨W,hW1⟩:∃ W,(w.alloc (.cells #[.slice CA cn cc,.slice KA kn kc] 48)).alloc (.cells #[.slice none 0 0,.slice none 0 0] 48)=W:=⟨_,rfl⟩;have HSt:=za (show ∀ w',Below w.heap.size w w'->ScAt w' CA cn KA kn s from fun w' hb=>h.on hb);have HB:=za (show Below w.heap.size w W by rw [<-hW1];exact bal (bal (Below.refl _ _) _) _);have BS:=za (show Blk W w.heap.size 48 #[.slice CA cn cc,.slice KA kn kc] by rw [<-hW1];exact (Blk.new w _ _).alloc _);have BT:=za (show Blk W (w.heap.size+1) 48 #[.slice none 0 0,.slice none 0 0] by rw [<-hW1];exact Blk.new' _ _ _ _ (by simp));have L0:=za (show ∀ w',(Below w.heap.size w w'/\Blk w' w.heap.size 48 #[.slice CA cn cc,.slice KA kn kc])->w'.cell? ⟨w.heap.size,0,none⟩=some (.slice CA cn cc) from fun w' h=>h.2.cell 0);have L1:=za (show ∀ w',(Below w.heap.size w w'/\Blk w' w.heap.size 48 #[.slice CA cn cc,.slice KA kn kc])->w'.cell? ⟨w.heap.size,1,none⟩=some (.slice KA kn kc) from fun w' h=>h.2.cell 1);have hbs:w.heap.size<=W.heap.size:=HB.out.size;clear h;go_enter Tryz.func52,Tryz.ntmps52;go_wp2;try rw [hW1]
 clear hW1;have hS:Below w.heap.size w W.drew/\Blk W.drew w.heap.size 48 #[.slice CA cn cc,.slice KA kn kc]:=⟨HB.out.drew,BS.out.drew⟩;have BT:=za BT.out.drew;refine hR (fun w'=>Below w.heap.size w w'/\Blk w' w.heap.size 48 #[.slice CA cn cc,.slice KA kn kc]) [0,1,3,4,tt 2,tt 5,6,tt 7] ?_;refine hP hS ?_;refine hP1 hS L0.out ?_;refine hP hS ?_;refine hP1 hS L1.out ?_;refine hE fun K hK=>?_;go_simp;with_reducible refine (abR CA cn cc s.1 _ (HSt.out _ hS.1).cols hcn).mono ?_
 rintro e w3 ⟨A1,c1,rfl,q1,q2,ho,hb⟩;have HO1:=za (zi ho hS.1.size);have Hc1:=za (And.intro q1 q2);have HS:=za (And.intro (bon hS.1 hb) (hS.2.on hb));have BT:=za (BT.out.on hb);clear ho hb q1 q2;refine hG hK (by exact HS.out) fun hS=>?_;clear hK K;clear HS;refine hE fun K hK=>?_;go_simp;with_reducible refine (abQ KA kn kc s.2 _ (HSt.out _ hS.1).keys (by omega)).mono ?_
 rintro e w4 ⟨A2,c2,rfl,q1,q2,ho,hb⟩;have HO1:=za (zd HO1.out hb);have HO2:=za (zi ho hS.1.size);have Hc2:=za (And.intro q1 q2);have HS:=za (And.intro (bon hS.1 hb) (hS.2.on hb));have BT:=za (BT.out.on hb);clear ho hb q1 q2;refine hG hK (by exact HS.out) fun hS=>?_;clear hK K;clear HS;refine hP hS ?_;have t0:=BT.out.cell 0;have t1:=BT.out.cell 1;have g0:=BT.out.frozen 0;have g1:=BT.out.frozen 1;refine hE fun K hK=>?_;go_simp;clear t0 t1 g0 g1;have hlow:w.heap.size<=w.heap.size+1:=by omega
 have hne:w.heap.size≠w.heap.size+1:=by omega
 have HO1:=za (zf (zf HO1.out BT.out (by decide) 0 (.slice A1 cn c1)) (BT.out.set_ 0 (.slice A1 cn c1)) (by decide) 1 (.slice A2 kn c2));have HO2:=za (zf (zf HO2.out BT.out (by decide) 0 (.slice A1 cn c1)) (BT.out.set_ 0 (.slice A1 cn c1)) (by decide) 1 (.slice A2 kn c2));have HS:=za (And.intro ((hS.1.setCell (p:=⟨w.heap.size+1,0,none⟩) hlow (.slice A1 cn c1)).setCell (p:=⟨w.heap.size+1,1,none⟩) hlow (.slice A2 kn c2)) ((hS.2.far (p:=⟨w.heap.size+1,0,none⟩) hne (.slice A1 cn c1)).far (p:=⟨w.heap.size+1,1,none⟩) hne (.slice A2 kn c2)));have BT:=za ((BT.out.set_ 0 (.slice A1 cn c1)).set_ 1 (.slice A2 kn c2));simp only [List.setIfInBounds_toArray,List.set_cons_succ,List.set_cons_zero] at BT;refine hG hK (by exact HS.out) fun hS=>?_;clear hK K;refine zc ?_;generalize (w4.setCell ⟨w.heap.size+1,0,none⟩ (.slice A1 cn c1)).setCell ⟨w.heap.size+1,1,none⟩ (.slice A2 kn c2)=WF at *;have r0:=BT.out.cell 0;have r1:=BT.out.cell 1;go_wp2;refine bodyPost_ret (v:=.agg #[.slice A1 cn c1,.slice A2 kn c2]) (by simp [results,Tryz.results52,go_sem,r0,r1]) rfl ?_;exact ⟨A1,c1,A2,c2,rfl,Hc1.out,Hc2.out,HO1.out,HO2.out,hS.1⟩
end
section
open Go.RowKit
theorem aa6 {P:Program} {ops:Array Oper} {Q:Exit->Act->World->Prop} {S:World->Prop} {i j:Nat} {p q:PlanB} {a:Act} {w:World} {Φ:Prop} (h1:Hid Φ->yB P ops Q S (.eff i p) a w) (h2:Hid Φ->yB P ops Q S (.eff j q) a w) (h:Φ):yB P ops Q S (.fork i j p q) a w:=acs (h1 (za h)) (h2 (za h))
theorem afV {P:Program} {ops:Array Oper} {Q:Exit->Act->World->Prop} {S:World->Prop} {i j:Nat} {p:PlanB} {a:Act} {w:World} {Φ:Prop} (h1:Hid Φ->yB P ops Q S (.eff i (.eff j p)) a w) (h2:Hid Φ->yB P ops Q S (.eff j (.eff i p)) a w) (h:Φ):yB P ops Q S (.both i j p) a w:=ahm (h1 (za h)) (h2 (za h))
theorem Yh {w:World} {base size:Nat} {e:TypeId} {n c g:Nat} {xs:List Value} (h:w.ownsRow base e size (.slice (some ⟨g,0,none⟩) n c) n xs) (j:Nat) (u:Value) :
  (w.setCell ⟨g,j,none⟩ u).ownsRow base e size (.slice (some ⟨g,0,none⟩) n c) n (xs.set j u):=by
 rcases h.2 with ⟨h0,_⟩ | ⟨g',cap,cur,hv,hb,hh,h1,h2,h3,h4⟩
 ·cases h0
 injection hv with hA _ hc
 injection hA with hA
 injection hA with hA
 subst hA hc;refine ⟨by simpa using h.1,.inr ⟨g,c,cur.setIfInBounds j u,rfl,hb,Blk.set_ (w:=w) hh j u,h1,h2,by simpa using h3,?_⟩⟩;rw [<-h4];simp [Array.toList_setIfInBounds,List.take_set]
theorem ai6 {w:World} {base size:Nat} {e:TypeId} {n c:Nat} {A:Option Addr} {xs:List Value} (h:w.ownsRow base e size (.slice A n c) n xs) (hn:0<n) :
  ∃ g,A=some ⟨g,0,none⟩/\base<=g/\g<w.heap.size/\(∀ j u,xs[j]? = some u->w.cell? ⟨g,j,none⟩=some u)/\(∀ j,w.frozen? ⟨g,j,none⟩=false):=by
 rcases h.2 with ⟨h0,h1⟩ | ⟨g,cap,cur,hv,hb,hh,h1,h2,h3,h4⟩
 ·omega
 injection hv with hA _ hc
 subst hA hc;refine ⟨g,rfl,hb,Blk.lt hh,fun j u hu=>?_,fun j=>Blk.frozen hh j⟩;have:=World.ownsRow.cells h (g:=g) rfl j u hu;rwa [show (⟨g,0,none⟩:Addr).add j=⟨g,j,none⟩ by unfold Addr.add;split<;>simp_all] at this
theorem U4 {w:World} {base size n c g g2:Nat} {e t:TypeId} {xs:List Value} {cs:Array Value} (h:w.ownsRow base e size (.slice (some ⟨g2,0,none⟩) n c) n xs) (hb:Blk w g t cs) (hne:e≠t):g≠g2:=by
 rcases h.2 with ⟨h0,_⟩ | ⟨g3,cap,cur,hv,h1,h2,h3⟩
 ·cases h0
 injection hv with hA
 injection hA with hA
 injection hA with hA
 subst hA;rintro rfl;unfold Blk at hb;rw [h2] at hb
 injection hb with hb
 injection hb with _ h4
 exact hne h4
theorem YU {α:Type} {xs:List α} {j:Nat} {u:α} (h:xs[j]? = some u):xs.set j u=xs:=by
 obtain ⟨hj,rfl⟩:=List.getElem?_eq_some_iff.1 h;exact List.set_getElem_self hj
theorem qH {l:List Co} {i k:Nat} {c:Co} {v:Value} (h:l[i]? = some c) (hk:k<7) (hv:(coV c)[k]? = some v):(cos l)[i*7+k]? = some v:=by
 unfold cos;rw [qX _ 7 (fun _=>rfl) l i k c h hk];exact hv
theorem ac8 (x:Co) (l:List Co):cos (x::l)=coV x++cos l:=rfl
theorem ac7:∀ {l:List Co} {i:Nat} {c:Co} (s:ByteArray),l[i]? = some c->(cos l).set (i*7+6) (.string s)=cos (l.set i (c.1,c.2.1,c.2.2.1,c.2.2.2.1,c.2.2.2.2.1,c.2.2.2.2.2.1,s))
 | [],i,c,s,h=>by simp at h
 | x::l,0,c,s,h=>by
  simp only [List.getElem?_cons_zero,Option.some.injEq] at h;subst h;rfl
 | x::l,i+1,c,s,h=>by
  rw [List.getElem?_cons_succ] at h;rw [ac8,List.set_cons_succ,ac8,<-ac7 s h,List.set_append_right _ _ (by show (coV x).length<=_;rw [show (coV x).length=7 from rfl];omega)]
  congr 2
  rw [show (coV x).length=7 from rfl];omega
def aaa (l:List Co) (i:Nat):List Co:=(l.take i).map abk++l.drop i
theorem af8 (l:List Co):aaa l 0=l:=rfl
theorem ahB {l:List Co} {i:Nat} (h:l.length<=i):aaa l i=l.map abk:=by
 unfold aaa;rw [List.take_of_length_le h,List.drop_of_length_le h,List.append_nil]
theorem ajb {l:List Co} {i:Nat} {c:Co} (h:l[i]? = some c):(aaa l i)[i]? = some c:=by
 have hi:=(List.getElem?_eq_some_iff.1 h).1;unfold aaa;rw [List.getElem?_append_right (by simp;omega)];simp only [List.length_map,List.length_take,Nat.min_eq_left (Nat.le_of_lt hi),Nat.sub_self,List.getElem?_drop,Nat.add_zero];exact h
theorem ahA {l:List Co} {i:Nat} {c:Co} (h:l[i]? = some c):(aaa l i).set i (abk c)=aaa l (i+1):=by
 have hi:=(List.getElem?_eq_some_iff.1 h).1;have hl:((l.take i).map abk).length=i:=by simp;omega
 unfold aaa;rw [List.set_append_right _ _ (by omega),hl,Nat.sub_self,Vx h,List.set_cons_zero,List.take_add_one,h,List.map_append,List.append_assoc];rfl
theorem XI {α:Type} (l:List α) (n k:Nat) (h:l.length=n):l.take (min n k)=l.take k:=by
 rcases Nat.lt_or_ge n k with h1 | h1
 ·rw [List.take_of_length_le (by omega),List.take_of_length_le (by omega)]
 rw [Nat.min_eq_right h1]
theorem ahq {w:World} {base size n c g:Nat} {e:TypeId} {xs:List Value} (h:w.ownsRow base e size (.slice (some ⟨g,0,none⟩) n c) n xs):∃ cs,Blk w g e cs:=by
 rcases h.2 with ⟨h0,_⟩ | ⟨g',cap,cur,hv,hb,hh,h1⟩
 ·cases h0
 injection hv with hA
 injection hA with hA
 injection hA with hA
 subst hA;exact ⟨cur,hh⟩
section
variable {w:World} {g j:Nat} {a0 a1 a2 a3 a4 a5 a6:Value}
theorem ab8 {k:Nat} {t:TypeId} {cs:Array Value} (h:Blk w k t cs) (hk:k≠g):Blk (((((((w.setCell ⟨g,j,none⟩ a0).setCell ⟨g,j+1,none⟩ a1).setCell ⟨g,j+2,none⟩ a2).setCell ⟨g,j+3,none⟩ a3).setCell ⟨g,j+4,none⟩ a4).setCell ⟨g,j+5,none⟩ a5).setCell ⟨g,j+6,none⟩ a6) k t cs:=
 ((((((h.far (p:=⟨g,j,none⟩) hk a0).far (p:=⟨g,j+1,none⟩) hk a1).far (p:=⟨g,j+2,none⟩) hk a2).far (p:=⟨g,j+3,none⟩) hk a3).far (p:=⟨g,j+4,none⟩) hk a4).far (p:=⟨g,j+5,none⟩) hk a5).far (p:=⟨g,j+6,none⟩) hk a6
theorem adF {B:Nat} {w0:World} (h:Below B w0 w) (hB:B<=g):Below B w0 (((((((w.setCell ⟨g,j,none⟩ a0).setCell ⟨g,j+1,none⟩ a1).setCell ⟨g,j+2,none⟩ a2).setCell ⟨g,j+3,none⟩ a3).setCell ⟨g,j+4,none⟩ a4).setCell ⟨g,j+5,none⟩ a5).setCell ⟨g,j+6,none⟩ a6):=
 ((((((h.setCell (p:=⟨g,j,none⟩) hB a0).setCell (p:=⟨g,j+1,none⟩) hB a1).setCell (p:=⟨g,j+2,none⟩) hB a2).setCell (p:=⟨g,j+3,none⟩) hB a3).setCell (p:=⟨g,j+4,none⟩) hB a4).setCell (p:=⟨g,j+5,none⟩) hB a5).setCell (p:=⟨g,j+6,none⟩) hB a6
theorem ag0 {base size n:Nat} {e t:TypeId} {v:Value} {xs:List Value} {cs:Array Value} (h:w.ownsRow base e size v n xs) (hb:Blk w g t cs) (hne:e≠t):World.ownsRow (((((((w.setCell ⟨g,j,none⟩ a0).setCell ⟨g,j+1,none⟩ a1).setCell ⟨g,j+2,none⟩ a2).setCell ⟨g,j+3,none⟩ a3).setCell ⟨g,j+4,none⟩ a4).setCell ⟨g,j+5,none⟩ a5).setCell ⟨g,j+6,none⟩ a6) base e size v n xs:=
 zf (zf (zf (zf (zf (zf (zf h hb hne j a0) (hb.set_ j a0) hne (j+1) a1) ((hb.set_ j a0).set_ (j+1) a1) hne (j+2) a2) (((hb.set_ j a0).set_ (j+1) a1).set_ (j+2) a2) hne (j+3) a3) ((((hb.set_ j a0).set_ (j+1) a1).set_ (j+2) a2).set_ (j+3) a3) hne (j+4) a4) (((((hb.set_ j a0).set_ (j+1) a1).set_ (j+2) a2).set_ (j+3) a3).set_ (j+4) a4) hne (j+5) a5) ((((((hb.set_ j a0).set_ (j+1) a1).set_ (j+2) a2).set_ (j+3) a3).set_ (j+4) a4).set_ (j+5) a5) hne (j+6) a6
theorem agZ {base size n c:Nat} {e:TypeId} {xs:List Value} (h:w.ownsRow base e size (.slice (some ⟨g,0,none⟩) n c) n xs):World.ownsRow (((((((w.setCell ⟨g,j,none⟩ a0).setCell ⟨g,j+1,none⟩ a1).setCell ⟨g,j+2,none⟩ a2).setCell ⟨g,j+3,none⟩ a3).setCell ⟨g,j+4,none⟩ a4).setCell ⟨g,j+5,none⟩ a5).setCell ⟨g,j+6,none⟩ a6) base e size (.slice (some ⟨g,0,none⟩) n c) n (((((((xs.set j a0).set (j+1) a1).set (j+2) a2).set (j+3) a3).set (j+4) a4).set (j+5) a5).set (j+6) a6):=
 Yh (Yh (Yh (Yh (Yh (Yh (Yh h j a0) (j+1) a1) (j+2) a2) (j+3) a3) (j+4) a4) (j+5) a5) (j+6) a6
end
theorem aiK (CA:Option Addr) (cn cc:Nat) (KA:Option Addr) (kn kc:Nat) (s:Sc) (w:World) (h:ScAt w CA cn KA kn s) (hcn:cn<=cc) (hcc:cc<=maxLen) (hkn:kn<=kc) (hkc:kc<=maxLen) (hok:ScOk s) :
  Calls Tryz.prog 17 #[.agg #[.slice CA cn cc,.slice KA kn kc]] w fun e w'=>∃ A1 n1 c1 A2 n2 c2,e=.returned (.agg #[.slice A1 n1 c1,.slice A2 n2 c2])/\n1<=40/\n2<=12 /\
   w'.ownsRow w.heap.size 45 7 (.slice A1 n1 c1) n1 (cos (afh s).1)/\w'.ownsRow w.heap.size 3 1 (.slice A2 n2 c2) n2 (ins (afh s).2)/\Below w.heap.size w w':=by
 obtain ⟨mn,hmn⟩:∃ mn:Nat,mn=min cn 40:=⟨_,rfl⟩;obtain ⟨kn2,hkn2⟩:∃ k:Nat,k=min kn 12:=⟨_,rfl⟩;have hmi:min (cn:Int) 40=(mn:Int):=by omega
 have hki:min (kn:Int) 12=(kn2:Int):=by omega
 have h1:mn<=cn:=by omega
 have h2:mn<=40:=by omega
 have h3:mn<=cc:=by omega
 have h4:(mn:Int)<=(cc:Int):=by omega
 have k1:kn2<=kn:=by omega
 have k2:kn2<=12:=by omega
 have k3:kn2<=kc:=by omega
 have k4:(kn2:Int)<=(kc:Int):=by omega
 have hcc63:cc<=9223372036854775807:=by simp only [maxLen] at hcc;omega
 have hkc63:kc<=9223372036854775807:=by simp only [maxLen] at hkc;omega
 have hSc:ScAt w CA mn KA kn2 (s.1.take 40,s.2.take 12):=by
  have e1:=h.cols.head h1;have e2:=h.keys.head k1;rw [aic,hmn,XI _ _ _ (zU h.cols),<-hmn] at e1;rw [Nat.mul_one,ahK,hkn2,XI _ _ _ (ZU h.keys),<-hkn2] at e2;exact ⟨e1,e2⟩
 have Hml:=za (zU hSc.cols);have Hok:=za hok;clear hmn hkn2 h hok;obtain ⟨W,hW1⟩:∃ W,(w.alloc (.cells #[.slice CA cn cc,.slice KA kn kc] 48)).alloc (.cells #[.slice none 0 0,.slice none 0 0] 48)=W:=⟨_,rfl⟩;have HB:=za (show Below w.heap.size w W by rw [<-hW1];exact bal (bal (Below.refl _ _) _) _);have HWs:=za (show W.heap.size=w.heap.size+2 by rw [<-hW1];simp);have HSt:=za (show ∀ w',Below W.heap.size W w'->ScAt w' CA mn KA kn2 (s.1.take 40,s.2.take 12) from fun w' hb=>hSc.on (bon HB.out hb));have L0:=za (show ∀ w',Below W.heap.size W w'->w'.cell? ⟨w.heap.size,0,none⟩=some (.slice CA cn cc) from fun w' hb=>((show Blk W w.heap.size 48 #[.slice CA cn cc,.slice KA kn kc] by rw [<-hW1];exact (Blk.new w _ _).alloc _).on hb).cell 0);have L1:=za (show ∀ w',Below W.heap.size W w'->w'.cell? ⟨w.heap.size,1,none⟩=some (.slice KA kn kc) from fun w' hb=>((show Blk W w.heap.size 48 #[.slice CA cn cc,.slice KA kn kc] by rw [<-hW1];exact (Blk.new w _ _).alloc _).on hb).cell 1);have BT:=za (show Blk W (w.heap.size+1) 48 #[.slice none 0 0,.slice none 0 0] by rw [<-hW1];exact Blk.new' _ _ _ _ (by simp));clear hSc;go_enter Tryz.func17,Tryz.ntmps17;go_wp2;try rw [hW1]
 clear hW1;have hS:=ak2 W;refine bR (fun w'=>Below W.heap.size W w') (.pure 0 (.pure 1 (.pure 2 (.pure 3 (.pure 4 (.pure 5 (.pure 6 (.pure 7 (.pure 8 (.pure 9 (.pure 10 (.pure 11 (.pure 12 (.pure 13 (.pure 14 (.both 15 16 (.eff 17 .done))))))))))))))))) ?_;refine bP hS ?_;refine bP1 hS L0.out ?_;refine bP hS ?_;refine bP1 hS L0.out ?_;iterate 4 refine bP hS ?_
 refine bP1 hS L1.out ?_;refine bP hS ?_;refine bP1 hS L1.out ?_;iterate 4 refine bP hS ?_
 apply afV;case h1=>
  intro hΦ;refine bE fun K hK=>?_;go_simp;with_reducible refine (aau CA mn cc KA kn2 kc (s.1.take 40,s.2.take 12) _ (HSt.out _ hS) (by omega) (by omega)).mono ?_
  rintro e w2 ⟨A1,c1,A2,c2,rfl,-,-,ho1,ho2,hb⟩;have HO1:=za (zi ho1 hS.size);have HO2:=za (zi ho2 hS.size);have HS:=za (bon hS hb);clear ho1 ho2 hb;refine hG hK (by exact HS.out) fun hS=>?_;clear hK K;clear HS;refine bE fun K hK=>?_;go_simp;replace HO1:=za (zd HO1.out (bal (Below.refl w2.heap.size w2) (.cells #[.slice none 0 0,.slice none 0 0] 48)));replace HO2:=za (zd HO2.out (bal (Below.refl w2.heap.size w2) (.cells #[.slice none 0 0,.slice none 0 0] 48)));have BZ:=za (Blk.new w2 48 #[.slice none 0 0,.slice none 0 0]);have HS:=za (bal hS (.cells #[.slice none 0 0,.slice none 0 0] 48));have Hz:=za (show W.heap.size<=w2.heap.size from hS.size);refine hG hK (by exact HS.out) fun hS=>?_;clear hK K;clear HS;have HA:=za (And.intro HO1.out (And.intro HO2.out (And.intro BZ.out (And.intro Hz.out hS))));clear HO1 HO2 BZ hS;generalize w2.alloc (.cells #[.slice none 0 0,.slice none 0 0] 48)=w4 at *;generalize w2.heap.size=z at *;clear Hz;revert HA;revert w4;revert z;revert c2;revert A2;revert c1;revert A1;exact hΦ.out
 case h2=>
  intro hΦ;refine bE fun K hK=>?_;go_simp;have BZ:=za (Blk.new W.drew 48 #[.slice none 0 0,.slice none 0 0]);have HS:=za (bal hS (.cells #[.slice none 0 0,.slice none 0 0] 48));have Hz:=za (show W.heap.size<=W.drew.heap.size from hS.size);refine hG hK (by exact HS.out) fun hS=>?_;clear hK K;clear HS;refine bE fun K hK=>?_;go_simp;with_reducible refine (aau CA mn cc KA kn2 kc (s.1.take 40,s.2.take 12) _ (HSt.out _ hS) (by omega) (by omega)).mono ?_
  rintro e w2 ⟨A1,c1,A2,c2,rfl,-,-,ho1,ho2,hb⟩;have HO1:=za (zi ho1 hS.size);have HO2:=za (zi ho2 hS.size);have HS:=za (bon hS hb);replace BZ:=za (BZ.out.on hb);clear ho1 ho2 hb;refine hG hK (by exact HS.out) fun hS=>?_;clear hK K;clear HS;have HA:=za (And.intro HO1.out (And.intro HO2.out (And.intro BZ.out (And.intro Hz.out hS))));clear HO1 HO2 BZ hS;revert HA;exact fun HA=>hΦ.out A1 c1 A2 c2 _ w2 HA
 intro A1 c1 A2 c2 z w4 HA;have HO1:=za HA.out.1;have HO2:=za HA.out.2.1;have BZ:=za HA.out.2.2.1;have Hz:=za HA.out.2.2.2.1;have hS:=HA.out.2.2.2.2;clear HA;have f0:=BZ.out.frozen 0;have f1:=BZ.out.frozen 1;have a0:=BZ.out.cell 0;have a1:=BZ.out.cell 1;refine bE fun K hK=>?_;go_simp;clear f0 f1 a0 a1;have HO1:=za (zf (zf HO1.out BZ.out (by decide) 0 (.slice A1 mn c1)) (BZ.out.set_ 0 (.slice A1 mn c1)) (by decide) 1 (.slice A2 kn2 c2));have HO2:=za (zf (zf HO2.out BZ.out (by decide) 0 (.slice A1 mn c1)) (BZ.out.set_ 0 (.slice A1 mn c1)) (by decide) 1 (.slice A2 kn2 c2));have HS:=za ((hS.setCell (p:=⟨z,0,none⟩) Hz.out (.slice A1 mn c1)).setCell (p:=⟨z,1,none⟩) Hz.out (.slice A2 kn2 c2));have BZ:=za ((BZ.out.set_ 0 (.slice A1 mn c1)).set_ 1 (.slice A2 kn2 c2));simp only [List.setIfInBounds_toArray,List.set_cons_succ,List.set_cons_zero] at BZ;refine hG hK (by exact HS.out) fun hS=>?_;clear hK K;refine Vl ?_;have HB2:=za (bon HB.out hS);have BT:=za (BT.out.on hS);have HO1:=za (zi HO1.out HB.out.size);have HO2:=za (zi HO2.out HB.out.size)
 have Hzw:=za (show w.heap.size+1<z/\w.heap.size<=z by
  have e1:=Hz.out;have e2:=HWs.out;omega)
 clear HS hS HB HSt L0 L1;generalize (w4.setCell ⟨z,0,none⟩ (.slice A1 mn c1)).setCell ⟨z,1,none⟩ (.slice A2 kn2 c2)=W5 at *;rw [<-af8 (s.1.take 40)] at HO1;go_wp2;go_loopw [4] (fun iv wr=>∃ i:Nat,i<=mn/\iv=.int .i64 (i:Int)/\Hid (wr.ownsRow w.heap.size 45 7 (.slice A1 mn c1) mn (cos (aaa (s.1.take 40) i)))/\Hid (wr.ownsRow w.heap.size 3 1 (.slice A2 kn2 c2) kn2 (ins (s.2.take 12)))/\Hid (Blk wr z 48 #[.slice A1 mn c1,.slice A2 kn2 c2])/\Hid (Blk wr (w.heap.size+1) 48 #[.slice none 0 0,.slice none 0 0])/\Hid (Below w.heap.size w wr)) (fun iv _=>mn-(intOf iv).toNat)
 case atStart=>exact ⟨0,Nat.zero_le _,rfl,HO1,HO2,BZ,BT,HB2⟩
 case round=>
  clear HO1 HO2 BZ BT HB2;obtain ⟨i,hi,rfl,HO1,HO2,BZ,BT,HB2⟩:=hrel;have z0:=BZ.out.cell 0;by_cases hlt:i<mn
  ·have d1:decide ((i:Int)<(mn:Int))=true:=(by simp;omega);have hii:(i:Int)<(mn:Int):=(by omega);have hic:(i:Int)<(c1:Int):=(by have:=(YY HO1.out).1;omega);have hin:i<(s.1.take 40).length:=(by rw [Hml.out];exact hlt);obtain ⟨co,hco⟩:∃ co,(s.1.take 40)[i]? = some co:=⟨_,List.getElem?_eq_getElem hin⟩;have hsz:co.2.2.2.2.2.2.size<=9223372036854775807:=(by have:=Hok.out.str co (List.mem_of_mem_take (List.mem_of_getElem? hco));simp only [maxLen] at this;omega);obtain ⟨g,rfl,hg1,hg2,hcell,hfr⟩:=ai6 HO1.out (by omega);have hmx:=ajb hco;have r0:=hcell _ _ (qH (k:=0) hmx (by decide) rfl);have r1:=hcell _ _ (qH (k:=1) hmx (by decide) rfl);have r2:=hcell _ _ (qH (k:=2) hmx (by decide) rfl);have r3:=hcell _ _ (qH (k:=3) hmx (by decide) rfl);have r4:=hcell _ _ (qH (k:=4) hmx (by decide) rfl);have r5:=hcell _ _ (qH (k:=5) hmx (by decide) rfl);have r6:=hcell _ _ (qH (k:=6) hmx (by decide) rfl);rw [Nat.add_zero] at r0;have g0:=hfr (i*7);have g1:=hfr (i*7+1);have g2:=hfr (i*7+2);have g3:=hfr (i*7+3);have g4:=hfr (i*7+4);have g5:=hfr (i*7+5);have g6:=hfr (i*7+6);obtain ⟨sm,hsm⟩:∃ sm:Nat,sm=min co.2.2.2.2.2.2.size 300:=⟨_,rfl⟩;have hsmi:min (co.2.2.2.2.2.2.size:Int) 300=(sm:Int):=(by omega);have hsm1:sm<=co.2.2.2.2.2.2.size:=by omega
   have HL:=za (show ((((((((cos (aaa (s.1.take 40) i)).set (i*7) (.int .i64 co.1)).set (i*7+1) (.string co.2.1)).set (i*7+2) (.int .i64 co.2.2.1)).set (i*7+3) (.bool co.2.2.2.1)).set (i*7+4) (.bool co.2.2.2.2.1)).set (i*7+5) (.int .i64 co.2.2.2.2.2.1)).set (i*7+6) (.string (co.2.2.2.2.2.2.extract 0 sm)))=cos (aaa (s.1.take 40) (i+1)) by
    have q0:=qH (k:=0) hmx (by decide) rfl;rw [Nat.add_zero] at q0;rw [YU q0,YU (qH (k:=1) hmx (by decide) rfl),YU (qH (k:=2) hmx (by decide) rfl),YU (qH (k:=3) hmx (by decide) rfl),YU (qH (k:=4) hmx (by decide) rfl),YU (qH (k:=5) hmx (by decide) rfl),ac7 _ hmx,<-ahA hco,hsm];rfl)
   have Hg:=za hg1;have Hgz:=za (show z≠g/\w.heap.size+1≠g from ⟨U4 HO1.out BZ.out (by decide),U4 HO1.out BT.out (by decide)⟩);have hzl:z<wr.heap.size:=BZ.out.lt;have z0a:(wr.alloc (.cells #[.int .i64 co.1,.string co.2.1,.int .i64 co.2.2.1,.bool co.2.2.2.1,.bool co.2.2.2.2.1,.int .i64 co.2.2.2.2.2.1,.string (co.2.2.2.2.2.2.extract 0 sm)] 45)).cell? ⟨z,0,none⟩=some (.slice (some ⟨g,0,none⟩) mn c1):=(BZ.out.alloc _).cell 0;clear hcell hfr hmx hco hsm hin hg1;go_wp2;obtain ⟨cs,hcs⟩:=ahq HO1.out;have HBn:=za (adF (j:=i*7) (a0:=.int .i64 co.1) (a1:=.string co.2.1) (a2:=.int .i64 co.2.2.1) (a3:=.bool co.2.2.2.1) (a4:=.bool co.2.2.2.2.1) (a5:=.int .i64 co.2.2.2.2.2.1) (a6:=.string (co.2.2.2.2.2.2.extract 0 sm)) HB2.out Hg.out);have HZn:=za (ab8 (j:=i*7) (a0:=.int .i64 co.1) (a1:=.string co.2.1) (a2:=.int .i64 co.2.2.1) (a3:=.bool co.2.2.2.1) (a4:=.bool co.2.2.2.2.1) (a5:=.int .i64 co.2.2.2.2.2.1) (a6:=.string (co.2.2.2.2.2.2.extract 0 sm)) BZ.out Hgz.out.1);have HTn:=za (ab8 (j:=i*7) (a0:=.int .i64 co.1) (a1:=.string co.2.1) (a2:=.int .i64 co.2.2.1) (a3:=.bool co.2.2.2.1) (a4:=.bool co.2.2.2.2.1) (a5:=.int .i64 co.2.2.2.2.2.1) (a6:=.string (co.2.2.2.2.2.2.extract 0 sm)) BT.out Hgz.out.2);have HO2n:=za (ag0 (j:=i*7) (a0:=.int .i64 co.1) (a1:=.string co.2.1) (a2:=.int .i64 co.2.2.1) (a3:=.bool co.2.2.2.1) (a4:=.bool co.2.2.2.2.1) (a5:=.int .i64 co.2.2.2.2.2.1) (a6:=.string (co.2.2.2.2.2.2.extract 0 sm)) HO2.out hcs (by decide));have HO1n:=agZ (j:=i*7) (a0:=.int .i64 co.1) (a1:=.string co.2.1) (a2:=.int .i64 co.2.2.1) (a3:=.bool co.2.2.2.1) (a4:=.bool co.2.2.2.2.1) (a5:=.int .i64 co.2.2.2.2.2.1) (a6:=.string (co.2.2.2.2.2.2.extract 0 sm)) HO1.out;rw [HL.out] at HO1n;have HO1n:=za HO1n;generalize (((((((wr.setCell ⟨g,i*7,none⟩ (.int .i64 co.1)).setCell ⟨g,i*7+1,none⟩ (.string co.2.1)).setCell ⟨g,i*7+2,none⟩ (.int .i64 co.2.2.1)).setCell ⟨g,i*7+3,none⟩ (.bool co.2.2.2.1)).setCell ⟨g,i*7+4,none⟩ (.bool co.2.2.2.2.1)).setCell ⟨g,i*7+5,none⟩ (.int .i64 co.2.2.2.2.2.1)).setCell ⟨g,i*7+6,none⟩ (.string (co.2.2.2.2.2.2.extract 0 sm)))=W8 at *;have hba:=(Below.refl W8.heap.size W8).alloc (Nat.le_refl _) (.cells #[.int .i64 co.1,.string co.2.1,.int .i64 co.2.2.1,.bool co.2.2.2.1,.bool co.2.2.2.2.1,.int .i64 co.2.2.2.2.2.1,.string (co.2.2.2.2.2.2.extract 0 sm)] 45);go_roundw;case rel=>exact ⟨i+1,by omega,by go_num,za (zd HO1n.out hba),za (zd HO2n.out hba),za (HZn.out.on hba),za (HTn.out.on hba),za (bon HBn.out hba)⟩
   case measure=>simp [intOf];omega
  have d1:decide ((i:Int)<(mn:Int))=false:=by simp;omega
  have HE:=za (ahB (l:=s.1.take 40) (i:=i) (by rw [Hml.out];omega));rw [HE.out] at HO1;have t0:=BT.out.cell 0;have t1:=BT.out.cell 1;have f0:=BT.out.frozen 0;have f1:=BT.out.frozen 1;have z1:=BZ.out.cell 1;go_wp2;have HTf:=(BT.out.set_ 0 (.slice A1 mn c1)).set_ 1 (.slice A2 kn2 c2);simp only [List.setIfInBounds_toArray,List.set_cons_succ,List.set_cons_zero] at HTf;have r0:=HTf.cell 0;have r1:=HTf.cell 1;refine bodyPost_ret (v:=.agg #[.slice A1 mn c1,.slice A2 kn2 c2]) (by simp [results,Tryz.results17,go_sem,r0,r1]) rfl ?_;have hlow:w.heap.size<=w.heap.size+1:=by omega
  exact ⟨A1,mn,c1,A2,kn2,c2,rfl,h2,k2,zf (zf HO1.out BT.out (by decide) 0 _) (BT.out.set_ 0 (.slice A1 mn c1)) (by decide) 1 _,zf (zf HO2.out BT.out (by decide) 0 _) (BT.out.set_ 0 (.slice A1 mn c1)) (by decide) 1 _,(HB2.out.setCell (p:=⟨w.heap.size+1,0,none⟩) hlow _).setCell (p:=⟨w.heap.size+1,1,none⟩) hlow _⟩
end
end Go.Proofs.YtjpjalmilfgckaaGreatDoor
