/- Part 10 of the walks. Conditions: each lemma states its own. -/
import Derived.Test.YtjpjalmilfgckaaGreatDoorZz9
import Derived.Shelf.Strings.SlTrimAscii
import Derived.Test.YtjpjalmilfgckaaGreatDoorProg
import Derived.Shelf.GgClosure.StringsIndexFuncTop
import Derived.Test.YtjpjalmilfgckaaGreatDoorRows
import Derived.Lib.TrimU
set_option maxRecDepth 100000
set_option maxHeartbeats 2000000
set_option linter.unusedVariables false
set_option linter.unusedSimpArgs false
namespace Go.Proofs.YtjpjalmilfgckaaGreatDoor
open Go.RowKit
theorem aaX (k:Int) (w:World) (h1:1<=k) (h5:k<=5):Calls Tryz.prog 157 #[.int .i64 k] w fun e w'=>e=.returned (.func (.func (ahZ k)) #[] #[])/\w=w':=by
 have hix:(Instr.index 244 (.agg #[.nilFunc,.func (.func 195) #[] #[],.func (.func 196) #[] #[],.func (.func 196) #[] #[],.func (.func 197) #[] #[],.func (.func 198) #[] #[]]) (.int .i64 k)).run Tryz.prog w=.ok (.func (.func (ahZ k)) #[] #[]) w:=by
  rcases (show k=1\/k=2\/k=3\/k=4\/k=5 by omega) with rfl | rfl | rfl | rfl | rfl;all_goals kernel_rfl
 go_enter Tryz.func157,Tryz.ntmps157;go_wp2;go_ret;exact ⟨rfl,rfl⟩
theorem acZ (base g:Nat) (k:Int) (a:Nat) (B:Option Addr) (m cb:Nat) (xs:List UInt8) (N:Nat) (w:World) (h1:1<=k) (h5:k<=5) (h:ColG w base base g k a none 0 0 [] B m cb xs) (ha:a<=m) (hN:N<=1048576) (hT:TabB base w) :
  Calls Tryz.prog (ahZ k) #[.pointer (some ⟨g,0,none⟩),.int .i64 (N:Int)] w (aiI (qP k (xs.drop a) (N:Int)) base g k a B m cb xs w):=by
 rcases (show k=1\/k=2\/k=3\/k=4\/k=5 by omega) with rfl | rfl | rfl | rfl | rfl
 ·exact abO base g a B m cb xs N w h ha (by omega) (by omega)
 ·have e:qP 2 (xs.drop a) (N:Int)=yV (Yg 2 (xs.drop a)) N:=by simp only [qP,show ¬(2:Int)=1 by decide,show ¬(2:Int)=4 by decide,show ¬(2:Int)=5 by decide,if_false,Int.toNat_natCast]
  rw [e];exact U9 base g 2 a B m cb xs N w h ha hN (.inl rfl) hT
 ·have e:qP 3 (xs.drop a) (N:Int)=yV (Yg 3 (xs.drop a)) N:=by simp only [qP,show ¬(3:Int)=1 by decide,show ¬(3:Int)=4 by decide,show ¬(3:Int)=5 by decide,if_false,Int.toNat_natCast]
  rw [e];exact U9 base g 3 a B m cb xs N w h ha hN (.inr rfl) hT
 ·exact abN base g a B m cb xs N w h ha (by omega) (by omega) hT
 have e:qP 5 (xs.drop a) (N:Int)=yV (ZH (xs.drop a)) N:=by simp only [qP,show ¬(5:Int)=1 by decide,show ¬(5:Int)=4 by decide,if_true,if_false,Int.toNat_natCast]
 rw [e];exact acW base g 5 a B m cb xs N w h ha hN
theorem aji (k:Int) (h1:1<=k) (h5:k<=5) (args:Array Value) (w:World):(callFunc (ahZ k) args).run Tryz.prog w=.ok (.enter (ahZ k) args) w:=by
 rcases (show k=1\/k=2\/k=3\/k=4\/k=5 by omega) with rfl | rfl | rfl | rfl | rfl
 ·exact zm Tryz.func195 (by kernel_rfl) (by kernel_rfl) args w
 ·exact zm Tryz.func196 (by kernel_rfl) (by kernel_rfl) args w
 ·exact zm Tryz.func196 (by kernel_rfl) (by kernel_rfl) args w
 ·exact zm Tryz.func197 (by kernel_rfl) (by kernel_rfl) args w
 exact zm Tryz.func198 (by kernel_rfl) (by kernel_rfl) args w
theorem Apart.blk {w w':World} {B g p:Nat} {t:TypeId} {cs:Array Value} (h:Apart B g w w') (hb:Blk w p t cs) (hp:p<B) (hg:p≠g):Blk w' p t cs:=(h p hp hg).trans hb
theorem yI (w:World) (b:Nat) (hb:b=w.heap.size) (u:Bool) (x:Int) (s:ByteArray):Reads (w.alloc (.cells #[.bool u,.int .i64 x,.string s] 23)) (w.alloc (.cells #[.bool u,.int .i64 x,.string s] 23)).heap.size 3 (some ⟨b,0,none⟩) 1 (cls [(u,x,s)]):=by
 subst hb;exact ya w u x s
theorem aik (l:List Cl) (k:Nat):(cls l).drop (k*3)=cls (l.drop k):=by
 induction k generalizing l with
 | zero=>simp
 | succ k ih=>
  cases l with
  | nil=>simp [cls]
  | cons c l=>
   have:=ih l;simp only [List.drop_succ_cons];rw [<-this];simp [cls,Nat.add_mul]
theorem Reads.offblk {w:World} {B size n g i:Nat} {A:Option Addr} {xs:List Value} {v:Value} (h:Reads w B size A n xs) (hne:∀ ad,A=some ad->ad.block≠g):Reads (w.setCell ⟨g,i,none⟩ v) B size A n xs:=by
 refine ⟨h.1,fun hn=>?_⟩;obtain ⟨ad,e,h1,h2⟩:=h.2 hn;exact ⟨ad,e,h1,fun j u hu=>(World.cell?_setCell_other w _ _ _ (fun e2=>hne ad e (by rw [<-zg ad j,<-e2]))).trans (h2 j u hu)⟩
def akK (r:V3) (w:World) (e:Ending) (w':World):Prop:=
 Below w.heap.size w w'/\match r with
  | .error n=>e=.returned (.tuple #[.slice none 0 0,.int .i64 0,.int .i64 (n:Int)])/\n≠0
  | .ok (l,s)=>l.length<=1048576/\∃ A c,e=.returned (.tuple #[.slice A l.length c,.int .i64 (s:Int),.int .i64 0])/\l.length<=c/\c<=maxLen/\w'.ownsRow w.heap.size 23 3 (.slice A l.length c) l.length (cls l)
theorem ain (B:Option Addr) (m cb:Nat) (xs:List UInt8) (k:Int) (nl:Bool) (n:Int) (w:World) (hr:Reads w w.heap.size 1 B m (u8s xs)) (hm:m<=cb) (hc:cb<=maxLen) (hT:Tabs w) :
  Calls Tryz.prog 98 #[.slice B m cb,.agg #[.int .i64 k,.bool nl],.int .i64 n] w (akK (Y9 k nl xs n) w):=by
 have HT:=za hT.low;have Hr:=za hr;have Hmc:=za (And.intro hm hc);have B4:=za (Blk.new w 43 #[.int .i64 k,.bool nl]);clear hr hm hc hT;go_enter Tryz.func98,Tryz.ntmps98;go_wp2_with fail
 with_reducible refine (Js k nl _).mono ?_
 rintro e w1 ⟨rfl,hb1⟩;have HB:=za (bon ((Below.refl _ w).alloc (Nat.le_refl _) (.cells #[.int .i64 k,.bool nl] 43)) hb1);replace B4:=za (B4.out.on hb1);clear hb1;cases hmk:yZ k with
 | false=>
  have HE:=za (show Y9 k nl xs n=.error 2 by unfold Y9;rw [if_pos hmk]);have c40:=B4.out.cell 0;go_wp2
  go_ret3
  rw [HE.out];exact ⟨HB.out,rfl,by decide⟩
 | true=>
  obtain ⟨hk1,hk5⟩:1<=k/\k<=5:=by simpa [yZ] using hmk
  by_cases hn0:n<0
  ·have d1:decide (n<0)=true:=decide_eq_true hn0;have HE:=za (show Y9 k nl xs n=.error 6 by unfold Y9;rw [if_neg (by simp [hmk]),if_pos (.inl hn0)]);go_wp2
   go_ret3
   rw [HE.out];exact ⟨HB.out,rfl,by decide⟩
  have d1:decide (n<0)=false:=decide_eq_false hn0;by_cases hn1:1048576<n
  ·have d2:decide (1048576<n)=true:=decide_eq_true hn1;have HE:=za (show Y9 k nl xs n=.error 6 by unfold Y9;rw [if_neg (by simp [hmk]),if_pos (.inr hn1)]);go_wp2
   go_ret3
   rw [HE.out];exact ⟨HB.out,rfl,by decide⟩
  have d2:decide (1048576<n)=false:=decide_eq_false hn1;have hgc:Y9 k nl xs n=if nl=false then qP k xs n else if (zr xs n).2.2=0 then
    (match qP k (xs.drop (zr xs n).2.1) (zx (zr xs n).1 : Int) with
     | .ok (l,s)=>.ok (zJ (zr xs n).1 l,(zr xs n).2.1+s)
     | .error e=>.error e)
   else .error (zr xs n).2.2:=by
   unfold Y9;rw [if_neg (by simp [hmk]),if_neg (by omega)];rfl
  have Hgc:=za hgc;obtain ⟨N,rfl⟩:∃ N:Nat,n=(N:Int):=⟨n.toNat,by omega⟩;have HN:=za (show N<=1048576 by omega);have c40:=B4.out.cell 0;have c41:=(B4.out.alloc (.cells #[.int .i64 k,.slice none 0 0,.slice B m cb,.int .i64 0] 142)).cell 1
  have HC:=za (show ColG (w1.alloc (.cells #[.int .i64 k,.slice none 0 0,.slice B m cb,.int .i64 0] 142)) w.heap.size w.heap.size w1.heap.size k (0:Nat) none 0 0 [] B m cb xs from
   ⟨Blk.new w1 _ _,HB.out.size,World.ownsRow_nil _ _ _ _,Nat.le_refl _,(Hr.out.below HB.out).alloc HB.out.size _,Hmc.out.1,Hmc.out.2⟩)
  have B40:=B4;have B4:=za (B4.out.alloc (.cells #[.int .i64 k,.slice none 0 0,.slice B m cb,.int .i64 0] 142));have HB:=za (HB.out.alloc HB.out.size (.cells #[.int .i64 k,.slice none 0 0,.slice B m cb,.int .i64 0] 142));have Hg:=za (show w.heap.size≠w1.heap.size from Nat.ne_of_lt B40.out.lt);have c42:=B4.out.cell 0;have hin:=fun args w'=>aji k hk1 hk5 args w';clear hgc hn0 hn1;cases nl with
  | false=>
   have hgc2:=Hgc.out;rw [if_pos rfl] at hgc2;have Hgc:=za hgc2;clear hgc2;(go_wp2_with fail);(with_reducible refine (aaX k _ hk1 hk5).mono ?_);rintro e w6 ⟨rfl,rfl⟩;(go_wp2_with fail);(with_reducible refine (acZ w.heap.size w1.heap.size k 0 B m cb xs N _ hk1 hk5 HC.out (Nat.zero_le _) HN.out (HT.out.keep HB.out)).mono ?_);rintro e w7 ⟨hb7,hp7,hm7⟩;have HB7:=za (HB.out.trans hb7);have B7:=za (hp7.blk B4.out B4.out.lt Hg.out);rw [List.drop_zero] at hm7;rcases hg:qP k xs (N:Int) with er | ⟨l,s⟩
   ·rw [hg] at hm7;obtain ⟨rfl,he⟩:=hm7;have HE:=za (Hgc.out.trans hg);have hne:((er:Int)==0)=false:=(by simp;omega);have hne2:((er:Int) != 0)=true:=(by simp;omega);clear hb7 hp7 hg;go_wp2
    go_ret3
    rw [HE.out];exact ⟨HB7.out,rfl,he⟩
   rw [hg] at hm7;obtain ⟨rfl,q1,q2,A7,c7,q3,q4,q5⟩:=hm7;have HE:=za (Hgc.out.trans hg);have Q:=za (And.intro q2 (And.intro q3 q4));have HC7:=za q5;have c71:=B7.out.cell 1;have HL1:=za (show ∀ w',w'=w7.drew->w'.cell? ⟨w1.heap.size,1,none⟩=some (.slice A7 l.length c7) from fun w' h=>by rw [h];exact HC7.out.blk.cell 1);have HL3:=za (show ∀ w',w'=w7.drew->w'.cell? ⟨w1.heap.size,3,none⟩=some (.int .i64 (s:Int)) from fun w' h=>by rw [h];have:=HC7.out.blk.cell 3;rw [Nat.zero_add] at this;exact this);clear hb7 hp7 hg q1 q2 q3 q4 q5;go_wp2;have hS:w7.drew=w7.drew:=rfl;refine hR (fun w'=>w'=w7.drew) [0,1,2,3,4,5,6,7,8,9,10] ?_;(iterate 3 refine hP hS ?_);refine hP1 hS HL1.out ?_;(iterate 3 refine hP hS ?_);refine hP1 hS HL3.out ?_;(iterate 3 refine hP hS ?_);refine zc ?_;go_wp2
   go_ret3
   rw [HE.out];exact ⟨HB7.out.drew,Q.out.1,A7,c7,rfl,Q.out.2.1,Q.out.2.2,HC7.out.onDrew.cells⟩
  | true=>
   have hgc2:=Hgc.out;rw [if_neg (by simp)] at hgc2;have Hgc:=za hgc2;clear hgc2;(go_wp2_with fail);(with_reducible refine (abo w.heap.size w1.heap.size k 0 B m cb xs N _ HC.out (Nat.zero_le _) (by have:=HN.out;omega) (by have:=HN.out;omega)).mono ?_);rintro e w3 ⟨AT,cT,rfl,q1,q2,q3,q4,q5,q6,q7⟩;rw [List.drop_zero] at q1 q3 q4 q5;simp only [List.drop_zero];generalize hu:zr xs (N:Int)=r at *;obtain ⟨bl,sz,er⟩:=r;have hbl:bl.length<=1048576:=(by have:=(Xd xs (N:Int)).2.1;rw [hu] at this;exact this);clear hu;simp only at q1 q3 q4 q5 Hgc;rw [Nat.zero_add] at q4 q5;have HB:=za (HB.out.trans q6);have B4:=za (q7.blk B4.out B4.out.lt Hg.out);by_cases he:er=0
   ·subst he;have hgc2:=Hgc.out;simp only [if_true] at hgc2;have Hgc:=za hgc2;have HC:=za q4;have HL:=za q3;have HQ:=za q5;have c40:=B4.out.cell 0;have hcl:zx bl<=1048576:=Nat.le_trans (agx bl) hbl;have Hcl:=za hcl;have Hbl:=za hbl;clear q3 q4 q5 q6 q7 hgc2 hbl hcl c41 c42;(go_wp2_with fail);(with_reducible refine (aee AT bl.length cT bl _ HL.out q1 q2).mono ?_);rintro e w5 ⟨rfl,rfl⟩;(go_wp2_with fail);(with_reducible refine (aaX k _ hk1 hk5).mono ?_);rintro e w6 ⟨rfl,rfl⟩;(go_wp2_with fail);(with_reducible refine (acZ w.heap.size w1.heap.size k sz B m cb xs (zx bl) _ hk1 hk5 HC.out HQ.out Hcl.out (HT.out.keep HB.out)).mono ?_);rintro e w7 ⟨hb7,hp7,hm7⟩;have HB7:=za (HB.out.trans hb7);have B7:=za (hp7.blk B4.out B4.out.lt Hg.out);rcases hg:qP k (xs.drop sz) (zx bl:Int) with er | ⟨l,s⟩
    ·rw [hg] at hm7;obtain ⟨rfl,he⟩:=hm7;have HE:=za (show Y9 k true xs (N:Int)=.error er by rw [Hgc.out,hg];simp);have hne:((er:Int)==0)=false:=(by simp;omega);have hne2:((er:Int) != 0)=true:=(by simp;omega);clear hb7 hp7 hg;go_wp2
     go_ret3
     rw [HE.out];exact ⟨HB7.out,rfl,he⟩
    rw [hg] at hm7;obtain ⟨rfl,q3,q4,A7,c7,q5,q6,q7⟩:=hm7;have HE:=za (show Y9 k true xs (N:Int)=.ok (zJ bl l,sz+s) by rw [Hgc.out,hg];simp);have HC7:=za q7;have c71:=B7.out.cell 1;obtain ⟨b2,hb2⟩:∃ b2,b2=w7.heap.size:=⟨_,rfl⟩;have HL7:=za ((hp7.reads HL.out HC.out.blk (ZQ _)).more (B':=b2) (by rw [hb2];exact hb7.size));have HR7:=za (show Reads w7 b2 3 A7 l.length (cls l) by rw [hb2];exact Reads.of_own HC7.out.cells);have Hlen:=za (show l.length=zx bl from (Vw k hk1 hk5 _ _ l s hg).1);have Hno:=za (show ∀ c∈l,c.1=false from fun c hc=>((Vw k hk1 hk5 _ _ l s hg).2.1 c hc).1);have Hwg:=za (show w.heap.size<=w1.heap.size from HC7.out.far);have Hb2:=za (show b2<=w7.heap.size by omega);have Hgb:=za (show w1.heap.size<b2 by rw [hb2];exact HC7.out.blk.lt);have Hwb:=za (show w.heap.size<=b2 by rw [hb2];exact HB7.out.size);have HG7:=za HC7.out.blk;have Hc7:=za q5;obtain ⟨j0,hj0,hk0,hj1,hk2⟩:=info_parts yG;have hbl2:=Hbl.out;clear hb7 hp7 hg q3 q4 q5 q6 q7 hb2 HB;generalize w1.heap.size=g at *;go_wp2
    go_loopw [6,66] (fun v i wr=>∃ (j:Nat) (A6:Option Addr) (c6:Nat) (A1:Option Addr) (c1:Nat),j<=bl.length/\v=.slice A6 j c6/\i=.int .i64 (j:Int)/\Hid (wr.ownsRow b2 23 3 (.slice A6 j c6) j (cls (zJ (bl.take j) l))) /\
     Hid (Blk wr g 142 #[.int .i64 k,.slice A1 (l.length-zx (bl.take j)) c1,.slice B m cb,.int .i64 ((sz+s:Nat):Int)])/\Hid (l.length-zx (bl.take j)<=c1)/\Hid (Reads wr b2 3 A1 (l.length-zx (bl.take j)) (cls (l.drop (zx (bl.take j)))))/\Hid (Reads wr b2 1 AT bl.length (bls bl))/\Hid (b2<=wr.heap.size)/\Hid (Below w.heap.size w wr)) (fun _ i _=>bl.length-(intOf i).toNat)
    case atStart=>exact ⟨0,none,0,A7,c7,Nat.zero_le _,rfl,rfl,za (by simpa [zJ,cls] using World.ownsRow_nil _ _ _ _),by simpa [zx] using HG7,by simpa [zx] using Hc7,by simpa [zx] using HR7,HL7,Hb2,HB7⟩
    case round=>
     obtain ⟨j,A6,c6,A1,c1,hj,rfl,rfl,HO,HG,Hc1,HR,HL,Hb2,HB⟩:=hrel;by_cases hlt:j<bl.length
     ·obtain ⟨ad,u,rfl,hbk,hu,hcell⟩:=HL.out.at_ hlt;obtain ⟨is,hx,rfl⟩:=Uy _ _ _ hu;have Hx:=za hx;have hms:=XZ bl l j is hx (by rw [Hlen.out];exact Nat.le_refl _);have Hms:=za hms;have hs1:j+1<=maxLen:=(by simp only [maxLen];omega);have hs2:(j+1)*32<=70368744177664:=(by omega);clear hu hx hbk hms;have hbA:=za ((Below.refl wr.heap.size wr).alloc (Nat.le_refl _) (.cells #[.bool true,.int .i64 0,.string ⟨#[]⟩] 23));obtain ⟨W0,hW0⟩:∃ W0,W0=wr.alloc (.cells #[.bool true,.int .i64 0,.string ⟨#[]⟩] 23):=⟨_,rfl⟩;have HX:=za (show Blk W0 wr.heap.size 23 #[.bool true,.int .i64 0,.string ⟨#[]⟩] by rw [hW0];exact Blk.new wr _ _);rw [<-hW0] at hbA;cases is with
      | false=>
       have hct:=V2 bl j false Hx.out;simp only [Bool.false_eq_true,if_false,Nat.add_zero] at hct;have Hms:=za (show zJ (bl.take (j+1)) l=zJ (bl.take j) l++[(true,0,⟨#[]⟩)] by rw [Hms.out];rfl);have HG:=za (HG.out.on hbA.out);have HR:=za (HR.out.below (hbA.out.mono Hb2.out));have HL:=za (HL.out.below (hbA.out.mono Hb2.out));have HO:=za (zd HO.out hbA.out);have HB:=za (HB.out.trans (hbA.out.mono HB.out.size));have Hb2:=za (Nat.le_trans Hb2.out hbA.out.size);rw [<-hct] at HG Hc1 HR;obtain ⟨n1,hn1⟩:∃ n1,n1=l.length-zx (bl.take (j+1)):=⟨_,rfl⟩;rw [<-hn1] at HG Hc1 HR;have Hn1:=za hn1;clear hct hn1;subst hW0;have x0:=HX.out.cell 0;have x1:=HX.out.cell 1;have x2:=HX.out.cell 2;have HOa:=za (zd HO.out ((Below.refl _ (wr.alloc (.cells #[.bool true,.int .i64 0,.string ⟨#[]⟩] 23))).alloc (Nat.le_refl _) (.cells #[.bool true,.int .i64 0,.string ⟨#[]⟩] 23)));have HGa:=za (HG.out.alloc (.cells #[.bool true,.int .i64 0,.string ⟨#[]⟩] 23));skip
       go_wp2_with (at_builtin
                    refine zb _ rfl (.tmp 86) (.tmp 88) 24 rfl b2 23 j0 (.agg #[.bool false,.int .i64 0,.string ⟨#[]⟩]) 3 32 Tryz.underlying24 hj0 hk0 hj1 hk2 rfl (by decide) A6 j c6 _ rfl HOa.out (some ⟨_,0,none⟩) 1 1 (cls [(true,0,⟨#[]⟩)]) rfl (by exact yI _ _ (by simp) _ _ _) (yd _) hs1 hs2 (Nat.le_trans Hb2.out (by simp)) ?_;intro A8 c8 w8 r1 r2 r3 r4 r5;have HG:=za (HGa.out.apart HOa.out (by decide) r3);have R1:=za r1;have R2:=za r2;clear r1 r2 r3 r4 r5)
       have R1:=za (show w8.ownsRow b2 23 3 (.slice A8 (j+1) c8) (j+1) (cls (zJ (bl.take (j+1)) l)) by rw [Hms.out,zG];exact R1.out);have HR:=za ((HR.out.alloc Hb2.out (.cells #[.bool true,.int .i64 0,.string ⟨#[]⟩] 23)).below R2.out);have HL:=za ((HL.out.alloc Hb2.out (.cells #[.bool true,.int .i64 0,.string ⟨#[]⟩] 23)).below R2.out);have HB:=za ((HB.out.alloc HB.out.size (.cells #[.bool true,.int .i64 0,.string ⟨#[]⟩] 23)).trans (R2.out.mono Hwb.out));have Hb3:=za (show b2<=w8.heap.size from Nat.le_trans (Nat.le_trans Hb2.out (by simp)) R2.out.size);go_roundw;case rel=>
        exact ⟨j+1,A8,c8,A1,c1,by omega,rfl,by go_num,R1,by rw [<-Hn1.out];exact HG,by rw [<-Hn1.out];exact Hc1,by rw [<-Hn1.out];exact HR,HL,Hb3,HB⟩
       case measure=>simp [intOf];omega
      | true=>
       go_wp2;have hcs:=V2 bl j true Hx.out;have hle:=VN (bl.take (j+1)) (bl.drop (j+1));rw [List.take_append_drop] at hle;simp only [if_true] at hcs;obtain ⟨cj,hcj⟩:∃ cj,cj=zx (bl.take j):=⟨_,rfl⟩;rw [<-hcj] at HG Hc1 HR Hms hcs;have Hcs:=za hcs;obtain ⟨n1,hn1e⟩:∃ n1,n1=l.length-cj:=⟨_,rfl⟩;rw [<-hn1e] at HG Hc1 HR;have Hn1e:=za hn1e;have hn1:1<=n1:=(by have:=Hlen.out;omega);have hn1c:n1<=c1:=Hc1.out;have h1c:1<=c1:=(by omega);have hn1z:0<n1:=hn1;have hn1i:(0:Int)<(n1:Int):=(by omega);have hn1j:(1:Int)<=(n1:Int):=(by omega);clear hn1e;rw [<-hW0];clear hW0 hcs hle hcj;obtain ⟨ad2,u,m2,s2,rfl,hbk2,hx2,h0,h1,h2⟩:=ym (HR.out.below (hbA.out.mono Hb2.out)) hn1;rw [Nat.zero_mul,Z9] at h0 h1 h2;have hx3:l[cj]? = some (u,m2,s2):=(by rw [List.getElem?_drop] at hx2;simpa using hx2);have hu:u=false:=Hno.out _ (List.mem_of_getElem? hx3);subst hu;have Hms:=za (show zJ (bl.take (j+1)) l=zJ (bl.take j) l++[(false,m2,s2)] by rw [Hms.out,hx3];rfl);have hG0:=HG.out.on hbA.out;have hne:ad2.block≠g:=by
        intro hg;unfold Blk at hG0;simp only [World.cell?,hg,hG0] at h0
        split at h0
        ·cases h0
        have:=Array.mem_of_getElem? h0;simp at this
       have HG0:=za hG0;have HV:∀ w',Apart b2 g W0 w'->∀ i,w'.cell? ⟨ad2.block,i,none⟩=W0.cell? ⟨ad2.block,i,none⟩:=fun w' h i=>World.cell?_of_block (h _ hbk2 hne);have HV0:=za (show ∀ w',Apart b2 g W0 w'->w'.cell? ad2=some (.bool false) from fun w' h=>(World.cell?_of_block (h _ hbk2 hne)).trans h0);have HV1:=za (show ∀ w',Apart b2 g W0 w'->w'.cell? ⟨ad2.block,ad2.off+1,none⟩=some (.int .i64 m2) from fun w' h=>(HV w' h _).trans h1);have HV2:=za (show ∀ w',Apart b2 g W0 w'->w'.cell? ⟨ad2.block,ad2.off+2,none⟩=some (.string s2) from fun w' h=>(HV w' h _).trans h2);have hcut:=HR.out.cut (k:=1) hn1 hn1c;obtain ⟨A9,hA9⟩:∃ A9,(if c1=1 then some ad2 else some ⟨ad2.block,ad2.off+3,none⟩)=A9:=⟨_,rfl⟩;rw [Option.map_some,Nat.one_mul,qc _ _ (by decide),hA9] at hcut;have Hcut:=za (show Reads wr b2 3 A9 (n1-1) (cls (l.drop (cj+1))) by have e:=aik (l.drop cj) 1;rw [Nat.one_mul] at e;rw [e,List.drop_drop] at hcut;exact hcut)
       have Hne9:=za (show ∀ ad,A9=some ad->ad.block≠g by
        intro ad h;rw [<-hA9] at h
        split at h
        ·injection h with h;subst h;exact hne
        injection h with h;subst h;exact hne)
       obtain ⟨WX,hWX⟩:∃ WX,WX=((W0.setCell ⟨wr.heap.size,0,none⟩ (.bool false)).setCell ⟨wr.heap.size,1,none⟩ (.int .i64 m2)).setCell ⟨wr.heap.size,2,none⟩ (.string s2):=⟨_,rfl⟩;have hbX:=za (show Below wr.heap.size wr WX by rw [hWX];exact ((hbA.out.setCell (p:=⟨wr.heap.size,0,none⟩) (Nat.le_refl _) _).setCell (p:=⟨wr.heap.size,1,none⟩) (Nat.le_refl _) _).setCell (p:=⟨wr.heap.size,2,none⟩) (Nat.le_refl _) _);have HXX:=za (show Blk WX wr.heap.size 23 #[.bool false,.int .i64 m2,.string s2] by rw [hWX];exact ((HX.out.set_ 0 (.bool false)).set_ 1 (.int .i64 m2)).set_ 2 (.string s2));have HGX:=za (HG.out.on hbX.out);have HSX:=za (show Apart b2 g W0 WX.drew from fun k hk hg=>(hbX.out.block k (Nat.lt_of_lt_of_le hk Hb2.out)).trans (hbA.out.block k (Nat.lt_of_lt_of_le hk Hb2.out)).symm);obtain ⟨WG,hWG⟩:∃ WG,WG=WX.setCell ⟨g,1,none⟩ (.slice A9 (n1-1) (c1-1)):=⟨_,rfl⟩;have HWX:=za hWX;have HWG:=za hWG;clear hWX hWG;have hS:Apart b2 g W0 W0.drew:=Apart.refl _ _ _;have Hgp:=za (show g<wr.heap.size from HG.out.lt);clear HV h0 h1 h2 hx2 hx3 hbk2 hcell hcut hG0 hne;refine nR (fun w'=>Apart b2 g W0 w') (.pure 0 (.pure 1 (.pure 2 (.pure 3 (.pure 7 (.pure 8 (.pure 9 (.fork 4 10 (.pure 5 (.pure 6 (.fork 10 12 (.pure 11 (.eff 12 (.pure 13 (.pure 14 (.eff 15 .done))))) (.eff 10 (.pure 11 (.pure 13 (.pure 14 (.eff 15 .done)))))))) (.pure 11 (.eff 4 (.pure 5 (.pure 6 (.eff 12 (.pure 13 (.pure 14 (.eff 15 .done)))))))))))))))) ?_;(iterate 7 refine nP hS ?_);refine zS ?_ ?_
       ·have c1':=HG0.out.cell 1;refine nE fun K hK=>?_;go_simp;refine hG hK hS fun hS=>?_;clear hK K;clear c1';refine nP hS ?_;refine nP3 hS HV0.out HV1.out HV2.out ?_;refine zS ?_ ?_
        ·have c1':=HG0.out.cell 1;refine nE fun K hK=>?_;go_simp;refine hG hK hS fun hS=>?_;clear hK K;clear c1';refine nP hS ?_;have c1':=HX.out.cell 0;have c2':=HX.out.cell 1;have c3':=HX.out.cell 2;have f1':=HX.out.frozen 0;have f2':=HX.out.frozen 1;have f3':=HX.out.frozen 2;refine nE fun K hK=>?_;go_simp;clear c1' c2' c3' f1' f2' f3';rw [<-HWX.out];refine hG hK (by exact HSX.out) fun hS=>?_;clear hK K;(iterate 2 refine nP hS ?_);have c2':=HGX.out.cell 1;have f2':=HGX.out.frozen 1;refine nE fun K hK=>?_;go_simp;clear c2' f2';rw [<-HWG.out];refine hG hK (by exact (by rw [HWG.out];exact (Apart.trans HSX.out (Apart.refl _ _ _)).set 1 _)) fun hS=>?_;clear hK K;refine zv ?_;obtain ⟨W5,hW5⟩:∃ W5,W5=WG.drew:=⟨_,rfl⟩;have HX:=za (show Blk W5 wr.heap.size 23 #[.bool false,.int .i64 m2,.string s2] by rw [hW5,HWG.out];exact (HXX.out.far (p:=⟨g,1,none⟩) (Nat.ne_of_gt Hgp.out) _).drew);have HO:=za (show W5.ownsRow b2 23 3 (.slice A6 j c6) j (cls (zJ (bl.take j) l)) by rw [hW5,HWG.out];exact zd (zf (zd HO.out hbX.out) HGX.out (by decide) 1 _) ((Below.refl _ _).drew));have HG:=za (show Blk W5 g 142 #[.int .i64 k,.slice A9 (n1-1) (c1-1),.slice B m cb,.int .i64 ((sz+s:Nat):Int)] by rw [hW5,HWG.out];exact (HGX.out.set_ 1 _).drew);have HR:=za (show Reads W5 b2 3 A9 (n1-1) (cls (l.drop (cj+1))) by rw [hW5,HWG.out];exact ((Hcut.out.below (hbX.out.mono Hb2.out)).offblk Hne9.out).drew);have HL:=za (show Reads W5 b2 1 (some ad) bl.length (bls bl) by rw [hW5,HWG.out];exact ((HL.out.below (hbX.out.mono Hb2.out)).notin HGX.out (ZQ _)).drew);have HB:=za (show Below w.heap.size w W5 by rw [hW5,HWG.out];exact ((HB.out.trans (hbX.out.mono HB.out.size)).setCell (p:=⟨g,1,none⟩) Hwg.out _).drew);have Hb2:=za (show b2<=W5.heap.size by rw [hW5,HWG.out];have h1:=hbX.out.size;have h2:=Hb2.out;simp;omega);rw [<-hW5];have Hc1:=za (show n1-1<=c1-1 by omega);have Hn1:=za (show n1-1=l.length-zx (bl.take (j+1)) by rw [Hcs.out];have:=Hn1e.out;omega);rw [<-Hcs.out] at HR;obtain ⟨n2,hn2⟩:∃ n2,n2=n1-1:=⟨_,rfl⟩;rw [<-hn2] at HG HR Hc1 Hn1;obtain ⟨c2,hc2⟩:∃ c2,c2=c1-1:=⟨_,rfl⟩;rw [<-hc2] at HG Hc1;clear hW5 hn1 hn1c h1c hn1z hn1i hn1j hn2 hc2 hS;have x0:=HX.out.cell 0;have x1:=HX.out.cell 1;have x2:=HX.out.cell 2;have HOa:=za (zd HO.out ((Below.refl _ W5).alloc (Nat.le_refl _) (.cells #[.bool false,.int .i64 m2,.string s2] 23)));have HGa:=za (HG.out.alloc (.cells #[.bool false,.int .i64 m2,.string s2] 23));skip
         go_wp2_with (at_builtin
                      refine zb _ rfl (.tmp 86) (.tmp 88) 24 rfl b2 23 j0 (.agg #[.bool false,.int .i64 0,.string ⟨#[]⟩]) 3 32 Tryz.underlying24 hj0 hk0 hj1 hk2 rfl (by decide) A6 j c6 _ rfl HOa.out (some ⟨_,0,none⟩) 1 1 (cls [(false,m2,s2)]) rfl (by exact yI _ _ (by simp) _ _ _) (yd _) hs1 hs2 (Nat.le_trans Hb2.out (by simp)) ?_;intro A8 c8 w8 r1 r2 r3 r4 r5;have HG:=za (HGa.out.apart HOa.out (by decide) r3);have R1:=za r1;have R2:=za r2;clear r1 r2 r3 r4 r5)
         have R1:=za (show w8.ownsRow b2 23 3 (.slice A8 (j+1) c8) (j+1) (cls (zJ (bl.take (j+1)) l)) by rw [Hms.out,zG];exact R1.out);have HR:=za ((HR.out.alloc Hb2.out (.cells #[.bool false,.int .i64 m2,.string s2] 23)).below R2.out);have HL:=za ((HL.out.alloc Hb2.out (.cells #[.bool false,.int .i64 m2,.string s2] 23)).below R2.out);have HB:=za ((HB.out.alloc HB.out.size (.cells #[.bool false,.int .i64 m2,.string s2] 23)).trans (R2.out.mono Hwb.out));have Hb3:=za (show b2<=w8.heap.size from Nat.le_trans (Nat.le_trans Hb2.out (by simp)) R2.out.size);go_roundw;case rel=>
          exact ⟨j+1,A8,c8,A9,c2,by omega,rfl,by go_num,R1,by rw [<-Hn1.out];exact HG,by rw [<-Hn1.out];exact Hc1,by rw [<-Hn1.out];exact HR,HL,Hb3,HB⟩
         case measure=>simp [intOf];omega
        have c1':=HX.out.cell 0;have c2':=HX.out.cell 1;have c3':=HX.out.cell 2;have f1':=HX.out.frozen 0;have f2':=HX.out.frozen 1;have f3':=HX.out.frozen 2;refine nE fun K hK=>?_;go_simp;clear c1' c2' c3' f1' f2' f3';rw [<-HWX.out];refine hG hK (by exact HSX.out) fun hS=>?_;clear hK K;have c1':=HGX.out.cell 1;refine nE fun K hK=>?_;go_simp;refine hG hK hS fun hS=>?_;clear hK K;clear c1';(iterate 3 refine nP hS ?_);have c2':=HGX.out.cell 1;have f2':=HGX.out.frozen 1;refine nE fun K hK=>?_;go_simp;clear c2' f2';rw [<-HWG.out];refine hG hK (by exact (by rw [HWG.out];exact (Apart.trans HSX.out (Apart.refl _ _ _)).set 1 _)) fun hS=>?_;clear hK K;refine zv ?_;obtain ⟨W5,hW5⟩:∃ W5,W5=WG.drew:=⟨_,rfl⟩;have HX:=za (show Blk W5 wr.heap.size 23 #[.bool false,.int .i64 m2,.string s2] by rw [hW5,HWG.out];exact (HXX.out.far (p:=⟨g,1,none⟩) (Nat.ne_of_gt Hgp.out) _).drew);have HO:=za (show W5.ownsRow b2 23 3 (.slice A6 j c6) j (cls (zJ (bl.take j) l)) by rw [hW5,HWG.out];exact zd (zf (zd HO.out hbX.out) HGX.out (by decide) 1 _) ((Below.refl _ _).drew));have HG:=za (show Blk W5 g 142 #[.int .i64 k,.slice A9 (n1-1) (c1-1),.slice B m cb,.int .i64 ((sz+s:Nat):Int)] by rw [hW5,HWG.out];exact (HGX.out.set_ 1 _).drew);have HR:=za (show Reads W5 b2 3 A9 (n1-1) (cls (l.drop (cj+1))) by rw [hW5,HWG.out];exact ((Hcut.out.below (hbX.out.mono Hb2.out)).offblk Hne9.out).drew);have HL:=za (show Reads W5 b2 1 (some ad) bl.length (bls bl) by rw [hW5,HWG.out];exact ((HL.out.below (hbX.out.mono Hb2.out)).notin HGX.out (ZQ _)).drew);have HB:=za (show Below w.heap.size w W5 by rw [hW5,HWG.out];exact ((HB.out.trans (hbX.out.mono HB.out.size)).setCell (p:=⟨g,1,none⟩) Hwg.out _).drew);have Hb2:=za (show b2<=W5.heap.size by rw [hW5,HWG.out];have h1:=hbX.out.size;have h2:=Hb2.out;simp;omega);rw [<-hW5];have Hc1:=za (show n1-1<=c1-1 by omega);have Hn1:=za (show n1-1=l.length-zx (bl.take (j+1)) by rw [Hcs.out];have:=Hn1e.out;omega);rw [<-Hcs.out] at HR;obtain ⟨n2,hn2⟩:∃ n2,n2=n1-1:=⟨_,rfl⟩;rw [<-hn2] at HG HR Hc1 Hn1;obtain ⟨c2,hc2⟩:∃ c2,c2=c1-1:=⟨_,rfl⟩;rw [<-hc2] at HG Hc1;clear hW5 hn1 hn1c h1c hn1z hn1i hn1j hn2 hc2 hS;have x0:=HX.out.cell 0;have x1:=HX.out.cell 1;have x2:=HX.out.cell 2;have HOa:=za (zd HO.out ((Below.refl _ W5).alloc (Nat.le_refl _) (.cells #[.bool false,.int .i64 m2,.string s2] 23)));have HGa:=za (HG.out.alloc (.cells #[.bool false,.int .i64 m2,.string s2] 23));skip
        go_wp2_with (at_builtin
                     refine zb _ rfl (.tmp 86) (.tmp 88) 24 rfl b2 23 j0 (.agg #[.bool false,.int .i64 0,.string ⟨#[]⟩]) 3 32 Tryz.underlying24 hj0 hk0 hj1 hk2 rfl (by decide) A6 j c6 _ rfl HOa.out (some ⟨_,0,none⟩) 1 1 (cls [(false,m2,s2)]) rfl (by exact yI _ _ (by simp) _ _ _) (yd _) hs1 hs2 (Nat.le_trans Hb2.out (by simp)) ?_;intro A8 c8 w8 r1 r2 r3 r4 r5;have HG:=za (HGa.out.apart HOa.out (by decide) r3);have R1:=za r1;have R2:=za r2;clear r1 r2 r3 r4 r5)
        have R1:=za (show w8.ownsRow b2 23 3 (.slice A8 (j+1) c8) (j+1) (cls (zJ (bl.take (j+1)) l)) by rw [Hms.out,zG];exact R1.out);have HR:=za ((HR.out.alloc Hb2.out (.cells #[.bool false,.int .i64 m2,.string s2] 23)).below R2.out);have HL:=za ((HL.out.alloc Hb2.out (.cells #[.bool false,.int .i64 m2,.string s2] 23)).below R2.out);have HB:=za ((HB.out.alloc HB.out.size (.cells #[.bool false,.int .i64 m2,.string s2] 23)).trans (R2.out.mono Hwb.out));have Hb3:=za (show b2<=w8.heap.size from Nat.le_trans (Nat.le_trans Hb2.out (by simp)) R2.out.size);go_roundw;case rel=>
         exact ⟨j+1,A8,c8,A9,c2,by omega,rfl,by go_num,R1,by rw [<-Hn1.out];exact HG,by rw [<-Hn1.out];exact Hc1,by rw [<-Hn1.out];exact HR,HL,Hb3,HB⟩
        case measure=>simp [intOf];omega
       have c1':=HG0.out.cell 1;refine nE fun K hK=>?_;go_simp;refine hG hK hS fun hS=>?_;clear hK K;clear c1';refine nP hS ?_;have c1':=HG0.out.cell 1;refine nE fun K hK=>?_;go_simp;refine hG hK hS fun hS=>?_;clear hK K;clear c1';refine nP hS ?_;refine nP3 hS HV0.out HV1.out HV2.out ?_;have c1':=HX.out.cell 0;have c2':=HX.out.cell 1;have c3':=HX.out.cell 2;have f1':=HX.out.frozen 0;have f2':=HX.out.frozen 1;have f3':=HX.out.frozen 2;refine nE fun K hK=>?_;go_simp;clear c1' c2' c3' f1' f2' f3';rw [<-HWX.out];refine hG hK (by exact HSX.out) fun hS=>?_;clear hK K;(iterate 2 refine nP hS ?_);have c2':=HGX.out.cell 1;have f2':=HGX.out.frozen 1;refine nE fun K hK=>?_;go_simp;clear c2' f2';rw [<-HWG.out];refine hG hK (by exact (by rw [HWG.out];exact (Apart.trans HSX.out (Apart.refl _ _ _)).set 1 _)) fun hS=>?_;clear hK K;refine zv ?_;obtain ⟨W5,hW5⟩:∃ W5,W5=WG.drew:=⟨_,rfl⟩;have HX:=za (show Blk W5 wr.heap.size 23 #[.bool false,.int .i64 m2,.string s2] by rw [hW5,HWG.out];exact (HXX.out.far (p:=⟨g,1,none⟩) (Nat.ne_of_gt Hgp.out) _).drew);have HO:=za (show W5.ownsRow b2 23 3 (.slice A6 j c6) j (cls (zJ (bl.take j) l)) by rw [hW5,HWG.out];exact zd (zf (zd HO.out hbX.out) HGX.out (by decide) 1 _) ((Below.refl _ _).drew));have HG:=za (show Blk W5 g 142 #[.int .i64 k,.slice A9 (n1-1) (c1-1),.slice B m cb,.int .i64 ((sz+s:Nat):Int)] by rw [hW5,HWG.out];exact (HGX.out.set_ 1 _).drew);have HR:=za (show Reads W5 b2 3 A9 (n1-1) (cls (l.drop (cj+1))) by rw [hW5,HWG.out];exact ((Hcut.out.below (hbX.out.mono Hb2.out)).offblk Hne9.out).drew);have HL:=za (show Reads W5 b2 1 (some ad) bl.length (bls bl) by rw [hW5,HWG.out];exact ((HL.out.below (hbX.out.mono Hb2.out)).notin HGX.out (ZQ _)).drew);have HB:=za (show Below w.heap.size w W5 by rw [hW5,HWG.out];exact ((HB.out.trans (hbX.out.mono HB.out.size)).setCell (p:=⟨g,1,none⟩) Hwg.out _).drew);have Hb2:=za (show b2<=W5.heap.size by rw [hW5,HWG.out];have h1:=hbX.out.size;have h2:=Hb2.out;simp;omega);rw [<-hW5];have Hc1:=za (show n1-1<=c1-1 by omega);have Hn1:=za (show n1-1=l.length-zx (bl.take (j+1)) by rw [Hcs.out];have:=Hn1e.out;omega);rw [<-Hcs.out] at HR;obtain ⟨n2,hn2⟩:∃ n2,n2=n1-1:=⟨_,rfl⟩;rw [<-hn2] at HG HR Hc1 Hn1;obtain ⟨c2,hc2⟩:∃ c2,c2=c1-1:=⟨_,rfl⟩;rw [<-hc2] at HG Hc1;clear hW5 hn1 hn1c h1c hn1z hn1i hn1j hn2 hc2 hS;have x0:=HX.out.cell 0;have x1:=HX.out.cell 1;have x2:=HX.out.cell 2;have HOa:=za (zd HO.out ((Below.refl _ W5).alloc (Nat.le_refl _) (.cells #[.bool false,.int .i64 m2,.string s2] 23)));have HGa:=za (HG.out.alloc (.cells #[.bool false,.int .i64 m2,.string s2] 23));skip
       go_wp2_with (at_builtin
                    refine zb _ rfl (.tmp 86) (.tmp 88) 24 rfl b2 23 j0 (.agg #[.bool false,.int .i64 0,.string ⟨#[]⟩]) 3 32 Tryz.underlying24 hj0 hk0 hj1 hk2 rfl (by decide) A6 j c6 _ rfl HOa.out (some ⟨_,0,none⟩) 1 1 (cls [(false,m2,s2)]) rfl (by exact yI _ _ (by simp) _ _ _) (yd _) hs1 hs2 (Nat.le_trans Hb2.out (by simp)) ?_;intro A8 c8 w8 r1 r2 r3 r4 r5;have HG:=za (HGa.out.apart HOa.out (by decide) r3);have R1:=za r1;have R2:=za r2;clear r1 r2 r3 r4 r5)
       have R1:=za (show w8.ownsRow b2 23 3 (.slice A8 (j+1) c8) (j+1) (cls (zJ (bl.take (j+1)) l)) by rw [Hms.out,zG];exact R1.out);have HR:=za ((HR.out.alloc Hb2.out (.cells #[.bool false,.int .i64 m2,.string s2] 23)).below R2.out);have HL:=za ((HL.out.alloc Hb2.out (.cells #[.bool false,.int .i64 m2,.string s2] 23)).below R2.out);have HB:=za ((HB.out.alloc HB.out.size (.cells #[.bool false,.int .i64 m2,.string s2] 23)).trans (R2.out.mono Hwb.out));have Hb3:=za (show b2<=w8.heap.size from Nat.le_trans (Nat.le_trans Hb2.out (by simp)) R2.out.size);go_roundw;case rel=>
        exact ⟨j+1,A8,c8,A9,c2,by omega,rfl,by go_num,R1,by rw [<-Hn1.out];exact HG,by rw [<-Hn1.out];exact Hc1,by rw [<-Hn1.out];exact HR,HL,Hb3,HB⟩
       case measure=>simp [intOf];omega
     obtain rfl:j=bl.length:=(by omega);have HL3:=za (show ∀ w',w'=wr.drew->w'.cell? ⟨g,3,none⟩=some (.int .i64 ((sz+s:Nat):Int)) from fun w' h=>by rw [h];exact HG.out.cell 3);have Hml:=za (show (zJ bl l).length=bl.length from Xl bl l (by rw [Hlen.out];exact Nat.le_refl _));go_wp2;have hS:wr.drew=wr.drew:=rfl;refine hR (fun w'=>w'=wr.drew) [0,1,2,3,4,5,6,7] ?_;(iterate 4 refine hP hS ?_);refine hP1 hS HL3.out ?_;(iterate 3 refine hP hS ?_);refine zc ?_;go_wp2
     go_ret3
     rw [HE.out];have ho:=HO.out;rw [List.take_of_length_le (Nat.le_refl _)] at ho;obtain ⟨q1,q2⟩:=zM ho;refine ⟨HB.out.drew,by rw [Hml.out];exact hbl2,A6,c6,by rw [Hml.out];rfl,by rw [Hml.out];exact q1,q2,?_⟩;rw [Hml.out];exact zi (zd ho ((Below.refl _ _).drew)) Hwb.out
   have HE:=za (show Y9 k true xs (N:Int)=.error er by rw [Hgc.out,if_neg he]);have hne:((er:Int)==0)=false:=(by simp;omega);have hne2:((er:Int) != 0)=true:=(by simp;omega);clear q1 q2 q3 q4 q5 q6 q7;go_wp2
   go_ret3
   rw [HE.out];exact ⟨HB.out,rfl,he⟩
end Go.Proofs.YtjpjalmilfgckaaGreatDoor
namespace Go.Proofs.YtjpjalmilfgckaaGreatDoor
open Go.RowKit
def coV (c:Co):List Value:=[.int .i64 c.1,.string c.2.1,.int .i64 c.2.2.1,.bool c.2.2.2.1,.bool c.2.2.2.2.1,.int .i64 c.2.2.2.2.2.1,.string c.2.2.2.2.2.2]
def cos (l:List Co):List Value:=l.flatMap coV
theorem aez (l:List Co):(cos l).length=7*l.length:=by
 rw [cos,yC _ 7 (fun _=>rfl)];omega
theorem zU {w:World} {B n:Nat} {A:Option Addr} {l:List Co} (h:Reads w B 7 A n (cos l)):l.length=n:=by
 have:=h.1;rw [aez] at this;omega
theorem ajo (l:List Co):∀ u∈cos l,u.oneCell'=true:=by
 intro u hu;obtain ⟨c,-,hc⟩:=List.mem_flatMap.1 hu;simp [coV] at hc;rcases hc with rfl | rfl | rfl | rfl | rfl | rfl | rfl<;>rfl
structure CoAt (w:World) (p:Addr) (c:Co):Prop where
 c0:w.cell? p=some (.int .i64 c.1)
 c1:w.cell? ⟨p.block,p.off+1,none⟩=some (.string c.2.1)
 c2:w.cell? ⟨p.block,p.off+2,none⟩=some (.int .i64 c.2.2.1)
 c3:w.cell? ⟨p.block,p.off+3,none⟩=some (.bool c.2.2.2.1)
 c4:w.cell? ⟨p.block,p.off+4,none⟩=some (.bool c.2.2.2.2.1)
 c5:w.cell? ⟨p.block,p.off+5,none⟩=some (.int .i64 c.2.2.2.2.2.1)
 c6:w.cell? ⟨p.block,p.off+6,none⟩=some (.string c.2.2.2.2.2.2)
theorem yP {w:World} {B n k:Nat} {A:Option Addr} {l:List Co} (h:Reads w B 7 A n (cos l)) (hk:k<n):∃ ad c,A=some ad/\ad.block<B/\l[k]? = some c/\CoAt w (ad.add (k*7)) c:=by
 have hl:=zU h;obtain ⟨ad,e,hb,hc⟩:=h.2 (by omega);have key:∀ j v,(coV l[k])[j]? = some v->w.cell? ((ad.add (k*7)).add j)=some v:=fun j v hv=>by
  have hj:j<7:=(List.getElem?_eq_some_iff.1 hv).1;rw [qY];exact hc _ _ (by rw [cos,qX _ 7 (fun _=>rfl) l k j l[k] (List.getElem?_eq_getElem (by omega)) hj];exact hv)
 refine ⟨ad,l[k],e,hb,List.getElem?_eq_getElem (by omega),?_,?_,?_,?_,?_,?_,?_⟩
 ·have:=key 0 _ rfl;rwa [Z9] at this
 ·have:=key 1 _ rfl;rwa [qc _ _ (by decide)] at this
 ·have:=key 2 _ rfl;rwa [qc _ _ (by decide)] at this
 ·have:=key 3 _ rfl;rwa [qc _ _ (by decide)] at this
 ·have:=key 4 _ rfl;rwa [qc _ _ (by decide)] at this
 ·have:=key 5 _ rfl;rwa [qc _ _ (by decide)] at this
 have:=key 6 _ rfl;rwa [qc _ _ (by decide)] at this
theorem CoAt.on {w w':World} {p:Addr} {c:Co} {B:Nat} (h:CoAt w p c) (hb:Below B w w') (hp:p.block<B):CoAt w' p c:=
 ⟨(hb.cell hp).trans h.c0, (hb.cell (p := ⟨p.block, p.off + 1, none⟩) hp).trans h.c1, (hb.cell (p := ⟨p.block, p.off + 2, none⟩) hp).trans h.c2, (hb.cell (p := ⟨p.block, p.off + 3, none⟩) hp).trans h.c3,
  (hb.cell (p:=⟨p.block,p.off+4,none⟩) hp).trans h.c4,(hb.cell (p:=⟨p.block,p.off+5,none⟩) hp).trans h.c5,(hb.cell (p:=⟨p.block,p.off+6,none⟩) hp).trans h.c6⟩
abbrev Hd:=Option Addr×Nat×Nat
def itV (h:Hd) (it:It):List Value:=[.slice h.1 h.2.1 h.2.2,.int .i64 it.2]
def its (hs:List Hd) (l:List It):List Value:=(hs.zip l).flatMap fun p=>itV p.1 p.2
theorem aek (hs:List Hd) (l:List It) (h:hs.length=l.length):(its hs l).length=2*l.length:=by
 rw [its,yC _ 2 (fun _=>rfl),List.length_zip];omega
def RowsAt (w:World) (B:Nat) (hs:List Hd) (l:List It):Prop:=hs.length=l.length/\∀ (j:Nat) h it,hs[j]? = some h->l[j]? = some it->Reads w B 3 h.1 h.2.1 (cls it.1)/\h.2.1<=h.2.2/\h.2.2<=maxLen
def ItemsAt (w:World) (B:Nat) (A:Option Addr) (n:Nat) (l:List It):Prop:=∃ hs,Reads w B 2 A n (its hs l)/\RowsAt w B hs l
section
variable {w w':World} {B B' n:Nat} {A:Option Addr} {hs:List Hd} {l:List It}
theorem RowsAt.below (h:RowsAt w B hs l) (hb:Below B w w'):RowsAt w' B hs l:=⟨h.1,fun j g it h1 h2=>⟨(h.2 j g it h1 h2).1.below hb,(h.2 j g it h1 h2).2⟩⟩
theorem RowsAt.more (h:RowsAt w B hs l) (hB:B<=B'):RowsAt w B' hs l:=⟨h.1,fun j g it h1 h2=>⟨(h.2 j g it h1 h2).1.more hB,(h.2 j g it h1 h2).2⟩⟩
theorem RowsAt.on (h:RowsAt w w.heap.size hs l) (hb:Below w.heap.size w w'):RowsAt w' w'.heap.size hs l:=(h.below hb).more hb.size
theorem RowsAt.al (h:RowsAt w w.heap.size hs l) (o:Obj):RowsAt (w.alloc o) (w.alloc o).heap.size hs l:=h.on (bal (Below.refl _ _) o)
theorem RowsAt.nil:RowsAt w B [] []:=⟨rfl,fun j g it h=>by simp at h⟩
theorem RowsAt.snoc {h:Hd} {it:It} (h0:RowsAt w B hs l) (h1:Reads w B 3 h.1 h.2.1 (cls it.1)) (h2:h.2.1<=h.2.2) (h3:h.2.2<=maxLen):RowsAt w B (hs++[h]) (l++[it]):=by
 refine ⟨by simp [h0.1],fun j g jt g1 g2=>?_⟩;rcases Nat.lt_or_ge j hs.length with hj | hj
 ·rw [List.getElem?_append_left hj] at g1;rw [List.getElem?_append_left (by rw [<-h0.1];exact hj)] at g2;exact h0.2 j g jt g1 g2
 rw [List.getElem?_append_right hj] at g1;rw [List.getElem?_append_right (by rw [<-h0.1];exact hj),<-h0.1] at g2;obtain ⟨h4,h5⟩:j-hs.length=0/\True:=⟨by have:=(List.getElem?_eq_some_iff.1 g1).1;simp at this;omega,trivial⟩;rw [h4] at g1 g2;simp only [List.getElem?_cons_zero,Option.some.injEq] at g1 g2;subst g1 g2;exact ⟨h1,h2,h3⟩
theorem RowsAt.take (h:RowsAt w B hs l) (k:Nat):RowsAt w B (hs.take k) (l.take k):=by
 refine ⟨by simp [h.1],fun j g it g1 g2=>?_⟩;rw [List.getElem?_take] at g1 g2
 split at g1
 ·rename_i hk
  rw [if_pos hk] at g2;exact h.2 j g it g1 g2
 cases g1
theorem ahF (hl:hs.length=l.length) (k:Nat):(its hs l).take (k*2)=its (hs.take k) (l.take k):=by
 induction k generalizing hs l with
 | zero=>simp [its]
 | succ k ih=>
  cases hs with
  | nil=>simp [its]
  | cons h hs=>
   cases l with
   | nil=>simp at hl
   | cons it l=>
    have:=ih (hs:=hs) (l:=l) (by simpa using hl);have e1:its (h::hs) (it::l)=itV h it++its hs l:=rfl;have e2:its ((h::hs).take (k+1)) ((it::l).take (k+1))=itV h it++its (hs.take k) (l.take k):=rfl;have e3:(itV h it).length=2:=rfl;rw [e1,e2,<-this,show (k+1)*2=(itV h it).length+k*2 by rw [e3];omega,List.take_append,List.take_of_length_le (by omega),Nat.add_sub_cancel_left]
theorem acM (hl:hs.length=l.length) (h:Hd) (it:It):its (hs++[h]) (l++[it])=its hs l++itV h it:=by
 unfold its;rw [List.zip_append hl];simp
theorem ItemsAt.len (h:ItemsAt w B A n l):l.length=n:=by
 obtain ⟨hs,h1,h2⟩:=h;have:=h1.1;rw [aek hs l h2.1] at this;omega
theorem ItemsAt.below (h:ItemsAt w B A n l) (hb:Below B w w'):ItemsAt w' B A n l:=by
 obtain ⟨hs,h1,h2⟩:=h;exact ⟨hs,h1.below hb,h2.below hb⟩
theorem ItemsAt.more (h:ItemsAt w B A n l) (hB:B<=B'):ItemsAt w B' A n l:=by
 obtain ⟨hs,h1,h2⟩:=h;exact ⟨hs,h1.more hB,h2.more hB⟩
theorem ItemsAt.on (h:ItemsAt w w.heap.size A n l) (hb:Below w.heap.size w w'):ItemsAt w' w'.heap.size A n l:=(h.below hb).more hb.size
theorem ItemsAt.al (h:ItemsAt w w.heap.size A n l) (o:Obj):ItemsAt (w.alloc o) (w.alloc o).heap.size A n l:=h.on (bal (Below.refl _ _) o)
theorem ItemsAt.drew (h:ItemsAt w B A n l):ItemsAt w.drew B A n l:=h
theorem ItemsAt.nil:ItemsAt w B none 0 []:=⟨[],Reads.none_,RowsAt.nil⟩
theorem ItemsAt.head (h:ItemsAt w B A n l) {k:Nat} (hk:k<=n):ItemsAt w B A k (l.take k):=by
 obtain ⟨hs,h1,h2⟩:=h;have:=h1.head hk;rw [ahF h2.1] at this;exact ⟨hs.take k,this,h2.take k⟩
theorem ItemsAt.at_ {k:Nat} (h:ItemsAt w B A n l) (hk:k<n):∃ ad A' c' it,A=some ad/\ad.block<B/\l[k]? = some it/\w.cell? (ad.add (k*2))=some (.slice A' it.1.length c') /\
  w.cell? ⟨(ad.add (k*2)).block,(ad.add (k*2)).off+1,none⟩=some (.int .i64 it.2)/\Reads w B 3 A' it.1.length (cls it.1)/\it.1.length<=c'/\c'<=maxLen:=by
 have hl:=h.len;obtain ⟨hs,h1,h2⟩:=h;obtain ⟨ad,e,hb,hc⟩:=h1.2 (by omega);have hkh:k<hs.length:=by rw [h2.1];omega
 have hit:=List.getElem?_eq_getElem (l:=l) (i:=k) (by omega);have hhd:=List.getElem?_eq_getElem hkh;obtain ⟨g1,g2,g3⟩:=h2.2 k _ _ hhd hit;have hln:=ye g1;have key:∀ j v,(itV hs[k] l[k])[j]? = some v->w.cell? ((ad.add (k*2)).add j)=some v:=fun j v hv=>by
  have hj:j<2:=(List.getElem?_eq_some_iff.1 hv).1;rw [qY];refine hc _ _ ?_;rw [its,qX _ 2 (fun _=>rfl) (hs.zip l) k j (hs[k],l[k]) (by rw [List.getElem?_zip_eq_some];exact ⟨hhd,hit⟩) hj];exact hv
 refine ⟨ad,hs[k].1,hs[k].2.2,l[k],e,hb,hit,?_,?_,by rw [hln];exact g1,by rw [hln];exact g2,g3⟩
 ·have:=key 0 _ rfl;rw [Z9] at this;rw [hln];exact this
 have:=key 1 _ rfl;rwa [qc _ _ (by decide)] at this
end
def ItOk (l:List It):Prop:=∀ it∈l,VE it.1 /\ -9223372036854775808<=it.2/\it.2<=9223372036854775807
theorem ItOk.take {l:List It} (h:ItOk l) (k:Nat):ItOk (l.take k):=fun it hit=>h it (List.mem_of_mem_take hit)
end Go.Proofs.YtjpjalmilfgckaaGreatDoor
namespace Go.Proofs.YtjpjalmilfgckaaGreatDoor
open Go.RowKit
def mkV (m:Mk):List Value:=[.string m.1,.int .i64 m.2]
def mks (l:List Mk):List Value:=l.flatMap mkV
theorem aed (l:List Mk):(mks l).length=2*l.length:=by
 rw [mks,yC _ 2 (fun _=>rfl)];omega
theorem qR {w:World} {B n:Nat} {A:Option Addr} {l:List Mk} (h:Reads w B 2 A n (mks l)):l.length=n:=by
 have:=h.1;rw [aed] at this;omega
theorem Xk (l m:List Mk):mks (l++m)=mks l++mks m:=by simp [mks]
theorem Uk (l:List Mk):∀ u∈mks l,u.oneCell'=true:=by
 intro u hu;obtain ⟨p,-,hp⟩:=List.mem_flatMap.1 hu;simp [mkV] at hp;rcases hp with rfl | rfl<;>rfl
structure MkAt (w:World) (p:Addr) (m:Mk):Prop where
 c0:w.cell? p=some (.string m.1)
 c1:w.cell? ⟨p.block,p.off+1,none⟩=some (.int .i64 m.2)
theorem Yk {w:World} {B n k:Nat} {A:Option Addr} {l:List Mk} (h:Reads w B 2 A n (mks l)) (hk:k<n):∃ ad m,A=some ad/\ad.block<B/\l[k]? = some m/\MkAt w (ad.add (k*2)) m:=by
 have hl:=qR h;obtain ⟨ad,e,hb,hc⟩:=h.2 (by omega);have key:∀ j v,(mkV l[k])[j]? = some v->w.cell? ((ad.add (k*2)).add j)=some v:=fun j v hv=>by
  have hj:j<2:=(List.getElem?_eq_some_iff.1 hv).1;rw [qY];exact hc _ _ (by rw [mks,qX _ 2 (fun _=>rfl) l k j l[k] (List.getElem?_eq_getElem (by omega)) hj];exact hv)
 refine ⟨ad,l[k],e,hb,List.getElem?_eq_getElem (by omega),?_,?_⟩
 ·have:=key 0 _ rfl;rwa [Z9] at this
 have:=key 1 _ rfl;rwa [qc _ _ (by decide)] at this
theorem MkAt.on {w w':World} {p:Addr} {m:Mk} {B:Nat} (h:MkAt w p m) (hb:Below B w w') (hp:p.block<B):MkAt w' p m:=
 ⟨(hb.cell hp).trans h.c0,(hb.cell (p:=⟨p.block,p.off+1,none⟩) hp).trans h.c1⟩
theorem ZU {w:World} {B n:Nat} {A:Option Addr} {l:List Int} (h:Reads w B 1 A n (ins l)):l.length=n:=by
 have:=h.1;simpa [ins] using this
theorem X8 {w:World} {B n k:Nat} {A:Option Addr} {l:List Int} (h:Reads w B 1 A n (ins l)) (hk:k<n):∃ ad x,A=some ad/\ad.block<B/\l[k]? = some x/\w.cell? (ad.add k)=some (.int .i64 x):=by
 have hl:=ZU h;obtain ⟨ad,u,e,hb,h1,h2⟩:=h.at_ hk;simp only [ins,List.getElem?_map,Option.map_eq_some_iff] at h1;obtain ⟨x,h3,rfl⟩:=h1;exact ⟨ad,x,e,hb,h3,h2⟩
structure ScAt (w:World) (CA:Option Addr) (cn:Nat) (KA:Option Addr) (kn:Nat) (s:Sc):Prop where
 cols:Reads w w.heap.size 7 CA cn (cos s.1)
 keys:Reads w w.heap.size 1 KA kn (ins s.2)
structure StAt (w:World) (MA:Option Addr) (mn:Nat) (RA:Option Addr) (rn:Nat) (LA:Option Addr) (ln:Nat) (ms:List Mk) (l:List It) (last:List UInt8):Prop where
 marks:Reads w w.heap.size 2 MA mn (mks ms)
 rows:ItemsAt w w.heap.size RA rn l
 last:Reads w w.heap.size 1 LA ln (u8s last)
section
variable {w w':World} {CA KA MA RA LA:Option Addr} {cn kn mn rn ln:Nat} {s:Sc} {ms:List Mk} {l:List It} {last:List UInt8}
theorem ScAt.on (h:ScAt w CA cn KA kn s) (hb:Below w.heap.size w w'):ScAt w' CA cn KA kn s:=⟨h.cols.on hb,h.keys.on hb⟩
theorem ScAt.al (h:ScAt w CA cn KA kn s) (o:Obj):ScAt (w.alloc o) CA cn KA kn s:=h.on (bal (Below.refl _ _) o)
theorem ScAt.drew (h:ScAt w CA cn KA kn s):ScAt w.drew CA cn KA kn s:=h.on (Below.refl _ _).drew
theorem StAt.on (h:StAt w MA mn RA rn LA ln ms l last) (hb:Below w.heap.size w w'):StAt w' MA mn RA rn LA ln ms l last:=⟨h.marks.on hb,h.rows.on hb,h.last.on hb⟩
theorem StAt.al (h:StAt w MA mn RA rn LA ln ms l last) (o:Obj):StAt (w.alloc o) MA mn RA rn LA ln ms l last:=h.on (bal (Below.refl _ _) o)
theorem StAt.drew (h:StAt w MA mn RA rn LA ln ms l last):StAt w.drew MA mn RA rn LA ln ms l last:=h.on (Below.refl _ _).drew
theorem StAt.nil (w:World):StAt w none 0 none 0 none 0 [] [] []:=⟨Reads.none_,ItemsAt.nil,Reads.none_⟩
end
end Go.Proofs.YtjpjalmilfgckaaGreatDoor
namespace Go.Proofs
open Go.Shelf
def Tryz.laysTrim_ren:Go.Shelf.Ren:=⟨fun | 119=>317 | 120=>291 | 137=>257 | 151=>264 | 152=>290 | 160=>181 | 197=>263 | 217=>284 | 224=>318 | 225=>319 | 227=>235 | 228=>262 | 231=>233 | 232=>234 | 233=>236 | 234=>237 | 235=>238 | 236=>239 | 260=>289 | 266=>312 | 271=>265 | n=>n,fun | 0=>0 | 3=>3 | 4=>4 | 5=>5 | 9=>9 | 21=>21 | 46=>86 | 105=>303 | 116=>270 | 117=>271 | 119=>315 | 124=>274 | 138=>317 | 139=>318 | n=>n,fun | 3=>2 | 4=>3 | n=>n⟩
theorem Tryz.laysTrim:Go.Proofs.Lays.n160 Tryz.prog Tryz.laysTrim_ren:={
 mixed:=by kernel_rfl
 f119:=Tryz.func317.trans (congrArg some (by kernel_rfl))
 f120:=Tryz.func291.trans (congrArg some (by kernel_rfl))
 f137:=Tryz.func257.trans (congrArg some (by kernel_rfl))
 f151:=Tryz.func264.trans (congrArg some (by kernel_rfl))
 f152:=Tryz.func290.trans (congrArg some (by kernel_rfl))
 f160:=Tryz.func181.trans (congrArg some (by kernel_rfl))
 f197:=Tryz.func263.trans (congrArg some (by kernel_rfl))
 f217:=Tryz.func284.trans (congrArg some (by kernel_rfl))
 f224:=Tryz.func318.trans (congrArg some (by kernel_rfl))
 f225:=Tryz.func319.trans (congrArg some (by kernel_rfl))
 f227:=Tryz.func235.trans (congrArg some (by kernel_rfl))
 f228:=Tryz.func262.trans (congrArg some (by kernel_rfl))
 f231:=Tryz.func233.trans (congrArg some (by kernel_rfl))
 f232:=Tryz.func234.trans (congrArg some (by kernel_rfl))
 f233:=Tryz.func236.trans (congrArg some (by kernel_rfl))
 f234:=Tryz.func237.trans (congrArg some (by kernel_rfl))
 f235:=Tryz.func238.trans (congrArg some (by kernel_rfl))
 f236:=Tryz.func239.trans (congrArg some (by kernel_rfl))
 f260:=Tryz.func289.trans (congrArg some (by kernel_rfl))
 f266:=Tryz.func312.trans (congrArg some (by kernel_rfl))
 f271:=Tryz.func265.trans (congrArg some (by kernel_rfl))
 t0:=Tryz.underlying0
 a0:=Tryz.isAgg0
 z0:=Tryz.sizeOf0
 v0:=Tryz.zeroValue0
 t3:=Tryz.underlying3
 a3:=Tryz.isAgg3
 z3:=Tryz.sizeOf3
 v3:=Tryz.zeroValue3
 t4:=Tryz.underlying4
 a4:=Tryz.isAgg4
 z4:=Tryz.sizeOf4
 v4:=Tryz.zeroValue4
 t5:=Tryz.underlying5
 a5:=Tryz.isAgg5
 z5:=Tryz.sizeOf5
 v5:=Tryz.zeroValue5
 t9:=Tryz.underlying9
 a9:=Tryz.isAgg9
 z9:=Tryz.sizeOf9
 v9:=Tryz.zeroValue9
 t21:=Tryz.underlying21
 a21:=Tryz.isAgg21
 z21:=Tryz.sizeOf21
 v21:=Tryz.zeroValue21
 t46:=Tryz.underlying86
 a46:=Tryz.isAgg86
 z46:=Tryz.sizeOf86
 v46:=Tryz.zeroValue86
 t105:=Tryz.underlying303
 a105:=Tryz.isAgg303
 z105:=Tryz.sizeOf303
 v105:=Tryz.zeroValue303
 t116:=Tryz.underlying270
 a116:=Tryz.isAgg270
 z116:=Tryz.sizeOf270
 t117:=Tryz.underlying271
 a117:=Tryz.isAgg271
 z117:=Tryz.sizeOf271
 v117:=Tryz.zeroValue271
 t119:=Tryz.underlying315
 a119:=Tryz.isAgg315
 z119:=Tryz.sizeOf315
 t124:=Tryz.underlying274
 a124:=Tryz.isAgg274
 z124:=Tryz.sizeOf274
 v124:=Tryz.zeroValue274
 t138:=Tryz.underlying317
 a138:=Tryz.isAgg317
 z138:=Tryz.sizeOf317
 v138:=Tryz.zeroValue317
 t139:=Tryz.underlying318
 a139:=Tryz.isAgg318
 z139:=Tryz.sizeOf318
 v139:=Tryz.zeroValue318
 g3:=by kernel_rfl
 g4:=by kernel_rfl }
end Go.Proofs
namespace Go.Proofs
open Go.Shelf
def Tryz.laysHas_ren:Go.Shelf.Ren:=⟨fun | 15=>240 | 17=>182 | 20=>266 | n=>n,fun | 0=>0 | 3=>3 | 4=>4 | 9=>9 | 21=>21 | 23=>230 | n=>n,fun  | n=>n⟩
theorem Tryz.laysHas:Go.Proofs.LaysGw.n17 Tryz.prog Tryz.laysHas_ren:={
 mixed:=by kernel_rfl
 f15:=Tryz.func240.trans (congrArg some (by kernel_rfl))
 f17:=Tryz.func182.trans (congrArg some (by kernel_rfl))
 f20:=Tryz.func266.trans (congrArg some (by kernel_rfl))
 t0:=Tryz.underlying0
 a0:=Tryz.isAgg0
 z0:=Tryz.sizeOf0
 v0:=Tryz.zeroValue0
 i0:=by kernel_rfl
 t3:=Tryz.underlying3
 a3:=Tryz.isAgg3
 z3:=Tryz.sizeOf3
 v3:=Tryz.zeroValue3
 i3:=by kernel_rfl
 t4:=Tryz.underlying4
 a4:=Tryz.isAgg4
 z4:=Tryz.sizeOf4
 v4:=Tryz.zeroValue4
 i4:=by kernel_rfl
 t9:=Tryz.underlying9
 a9:=Tryz.isAgg9
 z9:=Tryz.sizeOf9
 v9:=Tryz.zeroValue9
 i9:=by kernel_rfl
 t21:=Tryz.underlying21
 a21:=Tryz.isAgg21
 z21:=Tryz.sizeOf21
 v21:=Tryz.zeroValue21
 i21:=by kernel_rfl
 t23:=Tryz.underlying230
 a23:=Tryz.isAgg230
 z23:=Tryz.sizeOf230
 v23:=Tryz.zeroValue230
 i23:=by kernel_rfl }
end Go.Proofs
namespace Go.Proofs.YtjpjalmilfgckaaGreatDoor
open Go.RowKit
theorem J4 (s:ByteArray):s.data.toList.length=s.size:=by rw [Array.length_toList];rfl
theorem ae4 (s:ByteArray) (i:Nat) (h:i<s.size):s.data.toList[i]? = some s[i]:=by
 rw [Array.getElem?_toList];exact Array.getElem?_eq_getElem h
theorem ajS (s:ByteArray) (i:Nat) (h:i<s.size):s.data.toList[i]? = some (s.get! i):=by
 rw [ae4 s i h];show some (s.data[i]'h)=some (s.data[i]!);rw [getElem!_pos s.data i h]
theorem ahw {s:ByteArray} (h:0<s.size):s.toList.isEmpty=false:=by
 rw [Lib.toList_data];have:=J4 s;cases hl:s.data.toList with
 | nil=>rw [hl] at this;simp at this;omega
 | cons c l=>rfl
theorem agR (s:ByteArray) (w:World) (hs:s.size<=9223372036854775807) :
  Calls Tryz.prog 181 #[.string s,.string ⟨#[97,98,99,100,101,102,103,104,105,106,107,108,109,110,111,112,113,114,115,116,117,118,119,120,121,122,48,49,50,51,52,53,54,55,56,57,95]⟩] w fun e w'=>e=.returned (.string ⟨(Lib.trimS s.data.toList nameS).toArray⟩)/\Below w.heap.size w w':=
 Any.strings_Trim_laid Tryz.laysTrim (by kernel_rfl) s ⟨#[97,98,99,100,101,102,103,104,105,106,107,108,109,110,111,112,113,114,115,116,117,118,119,120,121,122,48,49,50,51,52,53,54,55,56,57,95]⟩ w hs (by decide) (ascii_of_all (by decide))
def aea (r:Nat):Bool:=((decide (r<97)||decide (122<r))&&(decide (r<48)||decide (57<r)))&&decide (r≠95)
theorem aht {c:UInt8} (h:yL c=true):aea c.toNat=false:=by
 unfold yL at h;unfold aea;simp only [Bool.or_eq_true,decide_eq_true_eq] at h;rcases h with (h | h) | h
 ·simp [show ¬c.toNat<97 by omega,show ¬122<c.toNat by omega]
 ·simp [show ¬c.toNat<48 by omega,show ¬57<c.toNat by omega]
 simp [h]
theorem aja (r:Nat) (w:World):Calls Tryz.prog 183 #[.int .i32 (r:Int)] w fun e w'=>e=.returned (.bool (aea r))/\w'=w:=by
 have e1:decide ((r:Int)<97)=decide (r<97):=by congr 1;exact propext ⟨fun h=>by omega,fun h=>by omega⟩
 have e2:decide (122<(r:Int))=decide (122<r):=by congr 1;exact propext ⟨fun h=>by omega,fun h=>by omega⟩
 have e3:decide ((r:Int)<48)=decide (r<48):=by congr 1;exact propext ⟨fun h=>by omega,fun h=>by omega⟩
 have e4:decide (57<(r:Int))=decide (57<r):=by congr 1;exact propext ⟨fun h=>by omega,fun h=>by omega⟩
 have e5:((r:Int) != 95)=decide (r≠95):=by
  by_cases h:r=95
  ·subst h;rfl
  rw [decide_eq_true h];simp;omega
 have hO:=za (show aea r=(((decide (r<97)||decide (122<r))&&(decide (r<48)||decide (57<r)))&&decide (r≠95)) from rfl);generalize decide (r<97)=b1 at *;generalize decide (122<r)=b2 at *;generalize decide (r<48)=b3 at *;generalize decide (57<r)=b4 at *;generalize decide (r≠95)=b5 at *;go_enter Tryz.func183,Tryz.ntmps183;cases b1<;>cases b2<;>cases b3<;>cases b4<;>cases b5<;>(go_wp2;go_ret;exact ⟨by rw [hO.out];rfl,rfl⟩)
theorem acR (p:Nat->Bool) (s:ByteArray) (h:∀ i,i<s.size->(s.get! i).toNat<128/\p (s.get! i).toNat=false):∀ f pos,Lib.idxFuncFrom p true s f pos = -1
 | 0,_=>rfl
 | f+1,pos=>by
  unfold Lib.idxFuncFrom
  split
  ·rename_i hp
   obtain ⟨h1,h2⟩:=h pos hp;rw [Lib.decode_at,show Lib.decodeN (s.size-pos) (s.get! pos).toNat (s.get! (pos+1)).toNat (s.get! (pos+2)).toNat (s.get! (pos+3)).toNat=((s.get! pos).toNat,1) from by simp [Lib.decodeN,h1],h2,if_neg (by simp)];exact acR p s h f _
  rfl
theorem ahT (s:ByteArray) (w:World) (h:s.data.toList.all yL=true) :
  Calls Tryz.prog 182 #[.string s,.func (.func 183) #[] #[]] w fun e w'=>e=.returned (.bool false)/\Below w.heap.size w w':=by
 have key:=Any.strings_ContainsFunc Tryz.laysHas 183 #[] (enters_of Tryz.func183 (by kernel_rfl) rfl) aea s w (fun W r _=>by
  unfold FnGives;exact (aja r W).mono fun e w' ⟨h1,h2⟩=>⟨h1,0,h2⟩)
 have hn:Lib.idxFunc aea true s = -1:=acR aea s (fun i hi=>by
  have hm:=List.all_eq_true.1 h _ (List.mem_of_getElem? (ajS s i hi));exact ⟨acC hm,aht hm⟩) _ _
 rw [hn] at key;exact key
theorem afg {t:ByteArray} (h:t.size≠0):t.toList.isEmpty=false:=ahw (by omega)
theorem aff {t:ByteArray} (h:t.size=0):t.toList.isEmpty=true:=by
 rw [Lib.toList_data];have:=J4 t;rw [h] at this;rw [List.eq_nil_of_length_eq_zero this];rfl
theorem ahI (s:ByteArray) (h0:0<s.size) (h1:s.size<=32) (h2:97<=s[0].toNat) (h3:s[0].toNat<=122):qa s=s.data.toList.all yL:=by
 unfold qa;have hl:=J4 s;have hg:s.data.toList.getD 0 0=s[0]:=by rw [List.getD_eq_getElem?_getD,ae4 s 0 h0];rfl
 rw [acB,hl,hg,decide_eq_true h0,decide_eq_true h1,decide_eq_true ⟨h2,h3⟩];simp
theorem UQ (s:ByteArray) (h:s.size=0\/32<s.size\/∃ h0:0<s.size,s[0].toNat<97\/122<s[0].toNat):qa s=false:=by
 unfold qa;have hl:=J4 s;rw [acB,hl];rcases h with h | h | ⟨h0,h⟩
 ·rw [decide_eq_false (by omega)];simp
 ·rw [decide_eq_false (p:=s.size<=32) (by omega)];simp
 have hg:s.data.toList.getD 0 0=s[0]:=by rw [List.getD_eq_getElem?_getD,ae4 s 0 h0];rfl
 rw [hg,decide_eq_false (p:=97<=s[0].toNat/\s[0].toNat<=122) (by omega)];simp
theorem Xn (s:ByteArray) (w:World) (hs:s.size<=maxLen) :
  Calls Tryz.prog 130 #[.string s] w fun e w'=>e=.returned (.bool (qa s))/\Below w.heap.size w w':=by
 have hs2:s.size<=9223372036854775807:=by simp only [maxLen] at hs;omega
 by_cases h0:s.size=0
 ·have hN:=za (UQ s (.inl h0));have e1:=aff h0;clear h0 hs hs2;go_enter Tryz.func130,Tryz.ntmps130;go_wp2;go_ret;exact ⟨by rw [hN.out];rfl,Below.refl _ _⟩
 have h0p:0<s.size:=by omega
 have e1:=afg h0;by_cases h1:32<s.size
 ·have hN:=za (UQ s (.inr (.inl h1)));have e2:decide (32<(s.size:Int))=true:=by simp;omega
  clear h0 hs;go_enter Tryz.func130,Tryz.ntmps130;go_wp2;go_ret;exact ⟨by rw [hN.out];rfl,Below.refl _ _⟩
 have e2:decide (32<(s.size:Int))=false:=by simp;omega
 obtain ⟨c,hc⟩:∃ c,s[0]'h0p=c:=⟨_,rfl⟩;by_cases h2:97<=c.toNat/\c.toNat<=122
 ·have e3:decide ((c.toNat:Int)<97)=false:=by simp;omega
  have e4:decide (122<(c.toNat:Int))=false:=by simp;omega
  have hE:=za (ahI s h0p (by omega) (by rw [hc];exact h2.1) (by rw [hc];exact h2.2));have hT:=agQ s.data.toList;obtain ⟨t,ht⟩:∃ t:ByteArray,t=⟨(Lib.trimS s.data.toList nameS).toArray⟩:=⟨_,rfl⟩;have hts:t.size=(Lib.trimS s.data.toList nameS).length:=by rw [ht];simp [<-ByteArray.size_data]
  rw [<-hts] at hT;have HK:=za (agR s w hs2);rw [<-ht] at HK;clear ht hts h0 h1 h2 hs;by_cases ha:s.data.toList.all yL=true
  ·have e5:=aff (hT.2 ha);have HA:=za ha;clear hT ha;go_enter Tryz.func130,Tryz.ntmps130;(go_wp2_with fail);(with_reducible refine HK.out.mono ?_);rintro e w1 ⟨rfl,hb⟩;have HB:=za hb;clear hb;(go_wp2_with fail);(with_reducible refine (ahT s _ HA.out).mono ?_);rintro e w2 ⟨rfl,hb⟩;have HB:=za (bon HB.out hb);clear hb;go_wp2;go_ret;exact ⟨by rw [hE.out,HA.out];rfl,HB.out⟩
  have e5:=afg (fun h=>ha (hT.1 h));have HA:=za (show s.data.toList.all yL=false by simpa using ha);clear hT ha;go_enter Tryz.func130,Tryz.ntmps130;go_wp2_with fail
  with_reducible refine HK.out.mono ?_
  rintro e w1 ⟨rfl,hb⟩;have HB:=za hb;clear hb;go_wp2;go_ret;exact ⟨by rw [hE.out,HA.out];rfl,HB.out⟩
 have hN:=za (UQ s (.inr (.inr ⟨h0p,by rw [hc];omega⟩)));by_cases h3:c.toNat<97
 ·have e3:decide ((c.toNat:Int)<97)=true:=by simp;omega
  clear h0 h1 h2 hs h3;go_enter Tryz.func130,Tryz.ntmps130;go_wp2;go_ret;exact ⟨by rw [hN.out];rfl,Below.refl _ _⟩
 have e3:decide ((c.toNat:Int)<97)=false:=by simp;omega
 have e4:decide (122<(c.toNat:Int))=true:=by simp;omega
 clear h0 h1 h2 hs h3;go_enter Tryz.func130,Tryz.ntmps130;go_wp2;go_ret;exact ⟨by rw [hN.out];rfl,Below.refl _ _⟩
def VI (l:List UInt8) (k:Nat):Bool:=(l.drop k).all yL
theorem adR {l:List UInt8} {k:Nat} {c:UInt8} (h:l[k]? = some c):VI l k=(yL c&&VI l (k+1)):=by
 obtain ⟨hk,rfl⟩:=List.getElem?_eq_some_iff.1 h;unfold VI;rw [List.drop_eq_getElem_cons hk,List.all_cons]
theorem afQ {l:List UInt8} {k:Nat} (h:l.length<=k):VI l k=true:=by unfold VI;rw [List.drop_of_length_le h];rfl
theorem af6 {c:UInt8} (h:yL c=false):(c.toNat<97\/122<c.toNat)/\(c.toNat<48\/57<c.toNat)/\c.toNat≠95:=by
 unfold yL at h;simp only [Bool.or_eq_false_iff,decide_eq_false_iff_not] at h;omega
theorem Zf (s:ByteArray) (w:World) :
  Calls Tryz.prog 119 #[.string s] w fun e w'=>e=.returned (.bool (qa s))/\w=w':=by
 by_cases h0:s.size=0
 ·have hN:=za (UQ s (.inl h0));have e1:decide ((s.size:Int)<1)=true:=by simp;omega
  clear h0;go_enter Tryz.func119,Tryz.ntmps119;go_wp2;go_ret;exact ⟨by rw [hN.out];rfl,rfl⟩
 have h0p:0<s.size:=by omega
 have e1:decide ((s.size:Int)<1)=false:=by simp;omega
 by_cases h1:32<s.size
 ·have hN:=za (UQ s (.inr (.inl h1)));have e2:decide (32<(s.size:Int))=true:=by simp;omega
  clear h0;go_enter Tryz.func119,Tryz.ntmps119;go_wp2;go_ret;exact ⟨by rw [hN.out];rfl,rfl⟩
 have e2:decide (32<(s.size:Int))=false:=by simp;omega
 have hst:qa s=(decide (97<=s[0].toNat/\s[0].toNat<=122)&&VI s.data.toList 0):=by
  by_cases h2:97<=s[0].toNat/\s[0].toNat<=122
  ·rw [ahI s h0p (by omega) h2.1 h2.2,decide_eq_true h2];rfl
  rw [UQ s (.inr (.inr ⟨h0p,by omega⟩)),decide_eq_false h2];rfl
 have Hst:=za hst;have Hlen:=za (J4 s);have h32:s.size<=32:=by omega
 clear hst h0 h1;go_enter Tryz.func119,Tryz.ntmps119;go_wp2;go_loopw [3] (fun kv wr=>∃ k:Nat,k<=s.size/\kv=.int .i64 (k:Int)/\wr=w/\Hid (qa s=(if k=0 then decide (97<=s[0].toNat/\s[0].toNat<=122)&&VI s.data.toList 0 else VI s.data.toList k))) (fun kv _=>s.size-(intOf kv).toNat)
 case atStart=>exact ⟨0,by omega,rfl,rfl,za (by rw [if_pos rfl];exact Hst.out)⟩
 case round=>
  obtain ⟨k,hk,rfl,rfl,HR⟩:=hrel;by_cases hks:k<s.size
  ·have d1:decide ((k:Int)<(s.size:Int))=true:=(by simp;omega);obtain ⟨c,hc⟩:∃ c,s[k]'hks=c:=⟨_,rfl⟩;have hat:=ae4 s k hks;rw [hc] at hat;have HS:=za (adR hat);clear hat;by_cases h2:97<=c.toNat/\c.toNat<=122
   ·have e3:decide (97<=(c.toNat:Int))=true:=(by simp;omega);have e4:decide ((c.toNat:Int)<=122)=true:=(by simp;omega);have hn:yL c=true:=by unfold yL;rw [decide_eq_true h2];rfl
    have HN:=za (show qa s=VI s.data.toList (k+1) by
     rw [HR.out]
     split
     ·rename_i hk0
      subst hk0;rw [hc,decide_eq_true h2,HS.out,hn];rfl
     rw [HS.out,hn];rfl)
    clear HR h2 hn;go_wp2;go_roundw;case rel=>exact ⟨k+1,by omega,by go_num,by trivial,za (by rw [if_neg (by omega)];exact HN.out)⟩
    case measure=>simp [intOf];omega
   have hor:c.toNat<97\/(97<=c.toNat/\122<c.toNat):=(by omega);by_cases hk0:k=0
   ·have HN:=za (show qa s=false by
     rw [HR.out,if_pos hk0];subst hk0;rw [hc,decide_eq_false h2];rfl)
    have ek:((k:Int)==0)=true:=(by simp;omega);clear HR HS h2;rcases hor with h3 | ⟨h3,h4⟩
    ·have e3:decide (97<=(c.toNat:Int))=false:=(by simp;omega);clear h3 hk0;go_wp2;go_ret;exact ⟨by rw [HN.out];rfl,rfl⟩
    have e3:decide (97<=(c.toNat:Int))=true:=(by simp;omega);have e4:decide ((c.toNat:Int)<=122)=false:=(by simp;omega);clear h3 h4 hk0;go_wp2;go_ret;exact ⟨by rw [HN.out];rfl,rfl⟩
   have ek:((k:Int)==0)=false:=(by simp;omega);cases hn:yL c with
   | true=>
    have hdig:c.toNat=95\/(c.toNat≠95/\48<=c.toNat/\c.toNat<=57):=by
     unfold yL at hn;simp only [Bool.or_eq_true,decide_eq_true_eq] at hn;omega
    have HN:=za (show qa s=VI s.data.toList (k+1) by rw [HR.out,if_neg hk0,HS.out,hn];rfl);clear HR HS hn h2;rcases hor with h3 | ⟨h3,h4⟩<;>rcases hdig with h5 | ⟨h5,h6,h7⟩
    ·have e3:decide (97<=(c.toNat:Int))=false:=(by simp;omega);have e5:((c.toNat:Int) != 95)=false:=(by simp;omega);clear h3 h5;go_wp2;go_roundw;case rel=>exact ⟨k+1,by omega,by go_num,by trivial,za (by rw [if_neg (by omega)];exact HN.out)⟩
     case measure=>simp [intOf];omega
    ·have e3:decide (97<=(c.toNat:Int))=false:=(by simp;omega);have e5:((c.toNat:Int) != 95)=true:=(by simp;omega);have e6:decide ((c.toNat:Int)<48)=false:=(by simp;omega);have e7:decide (57<(c.toNat:Int))=false:=(by simp;omega);clear h3 h5 h6 h7;go_wp2;go_roundw;case rel=>exact ⟨k+1,by omega,by go_num,by trivial,za (by rw [if_neg (by omega)];exact HN.out)⟩
     case measure=>simp [intOf];omega
    ·omega
    omega
   | false=>
    obtain ⟨g1,g2,g3⟩:=af6 hn;have HN:=za (show qa s=false by rw [HR.out,if_neg hk0,HS.out,hn];rfl);have e5:((c.toNat:Int) != 95)=true:=(by simp;omega);clear HR HS hn h2 g1 g3;rcases hor with h3 | ⟨h3,h4⟩
    ·have e3:decide (97<=(c.toNat:Int))=false:=(by simp;omega);by_cases h6:c.toNat<48
     ·have e6:decide ((c.toNat:Int)<48)=true:=(by simp;omega);clear h3 h6 g2 hk0;go_wp2;go_ret;exact ⟨by rw [HN.out];rfl,rfl⟩
     have e6:decide ((c.toNat:Int)<48)=false:=(by simp;omega);have e7:decide (57<(c.toNat:Int))=true:=(by simp;omega);clear h3 h6 g2 hk0;go_wp2;go_ret;exact ⟨by rw [HN.out];rfl,rfl⟩
    have e3:decide (97<=(c.toNat:Int))=true:=(by simp;omega);have e4:decide ((c.toNat:Int)<=122)=false:=(by simp;omega);have e6:decide ((c.toNat:Int)<48)=false:=(by simp;omega);have e7:decide (57<(c.toNat:Int))=true:=(by simp;omega);clear h3 h4 g2 hk0;go_wp2;go_ret;exact ⟨by rw [HN.out];rfl,rfl⟩
  have d1:decide ((k:Int)<(s.size:Int))=false:=by simp;omega
  have HN:=za (show qa s=true by
   rw [HR.out,if_neg (by omega)];exact afQ (by rw [Hlen.out];omega))
  clear HR;go_wp2;go_ret;exact ⟨by rw [HN.out];rfl,rfl⟩
end Go.Proofs.YtjpjalmilfgckaaGreatDoor
namespace Go.Proofs.YtjpjalmilfgckaaGreatDoor
open Go.RowKit
theorem aii (x y:Int) (w:World):Calls Tryz.prog 288 #[.int .i64 x,.int .i64 y] w fun e w'=>e=.returned (.int .i64 (Lib.compareInt x y))/\w'=w:=by
 go_enter Tryz.func288,Tryz.ntmps288;go_wp2;all_goals (go_ret;refine ⟨?_,rfl⟩;unfold Lib.compareInt;(repeat' split)<;>first | rfl | (exfalso;omega))
theorem aih (x y:Int) (w:World):Calls Tryz.prog 314 #[.int .i64 x,.int .i64 y] w fun e w'=>e=.returned (.int .i64 (Lib.compareInt x y))/\w'=w:=by
 go_enter Tryz.func314,Tryz.ntmps314;go_wp2;all_goals (go_ret;refine ⟨?_,rfl⟩;unfold Lib.compareInt;(repeat' split)<;>first | rfl | (exfalso;omega))
theorem aij (a b:ByteArray) (w:World):Calls Tryz.prog 337 #[.string a,.string b] w fun e w'=>e=.returned (.int .i64 (Lib.compareBytes a.data.toList b.data.toList))/\w'=w:=by
 go_enter Tryz.func337,Tryz.ntmps337;go_wp2;rw [run_callFunc_extern Tryz.func343 (by kernel_rfl) (by kernel_rfl) (by kernel_rfl) (e:=Extern.BytealgCompare.compare) (by kernel_rfl),Lib.run_compareString];simp only [Result.andThen];rw [Oper.upon_value];go_wp2;go_ret;exact ⟨rfl,rfl⟩
theorem aig (a b:ByteArray) (w:World):Calls Tryz.prog 315 #[.string a,.string b] w fun e w'=>e=.returned (.int .i64 (Lib.compareBytes a.data.toList b.data.toList))/\w'=w:=by
 go_enter Tryz.func315,Tryz.ntmps315;go_wp2_with fail
 with_reducible refine (aij a b _).mono ?_
 rintro e w1 ⟨rfl,rfl⟩;go_wp2;go_ret;exact ⟨rfl,rfl⟩
theorem ajp (g:Nat) (x y:Int) (w:World) (h:Blk w g 3 #[.int .i64 x,.int .i64 y]):Calls Tryz.prog 313 #[.slice (some ⟨g,0,none⟩) 2 2] w fun e w'=>e=.returned (.int .i64 (if x≠0 then x else y))/\w'=w:=by
 have c0:=h.cell 0;have c1:=h.cell 1;clear h;by_cases hx:x=0
 ·subst hx;rw [if_neg (by simp)];by_cases hy:y=0
  ·subst hy;go_enter Tryz.func313,Tryz.ntmps313;go_wp2;refine wp_loop_rounds 3 ?_;rw [rounds_succ];go_wp2;rw [rounds_succ];go_wp2;rw [rounds_succ];go_wp2;go_ret;exact ⟨rfl,rfl⟩
  have hn:(y != 0)=true:=by simpa using hy
  go_enter Tryz.func313,Tryz.ntmps313;go_wp2;refine wp_loop_rounds 2 ?_;rw [rounds_succ];go_wp2;rw [rounds_succ];go_wp2;go_ret;exact ⟨rfl,rfl⟩
 have hn:(x != 0)=true:=by simpa using hx
 rw [if_pos hx];go_enter Tryz.func313,Tryz.ntmps313;go_wp2;refine wp_loop_rounds 1 ?_;rw [rounds_succ];go_wp2;go_ret;exact ⟨rfl,rfl⟩
theorem aiq (u:Bool) (x:Int) (s:ByteArray) (v:Bool) (y:Int) (t:ByteArray) (w:World) :
  Calls Tryz.prog 287 #[.agg #[.bool u,.int .i64 x,.string s],.agg #[.bool v,.int .i64 y,.string t]] w fun e w'=>e=.returned (.int .i64 (qJ (u,x,s) (v,y,t)))/\Below w.heap.size w w':=by
 have HB:=za (bal (bal (Below.refl w.heap.size w) (.cells #[.bool u,.int .i64 x,.string s] 23)) (.cells #[.bool v,.int .i64 y,.string t] 23));have H1:=za ((Blk.new w 23 #[.bool u,.int .i64 x,.string s]).alloc (.cells #[.bool v,.int .i64 y,.string t] 23));have H2:=za (Blk.new (w.alloc (.cells #[.bool u,.int .i64 x,.string s] 23)) 23 #[.bool v,.int .i64 y,.string t]);rw [show (w.alloc (.cells #[.bool u,.int .i64 x,.string s] 23)).heap.size=w.heap.size+1 by simp] at H2;by_cases huv:u=v
 ·subst huv;obtain ⟨q1,hq1⟩:∃ q,Lib.compareInt x y=q:=⟨_,rfl⟩;obtain ⟨q2,hq2⟩:∃ q,Lib.compareBytes s.data.toList t.data.toList=q:=⟨_,rfl⟩;obtain ⟨q3,hq3⟩:∃ q,(if q1≠0 then q1 else q2)=q:=⟨_,rfl⟩;have HC:=za (show qJ (u,x,s) (u,y,t)=q3 by unfold qJ;rw [if_pos rfl,hq1,hq2,hq3]);have HK:=za (fun g w h=>hq3 ▸ ajp g q1 q2 w h);clear hq3;have Hq1:=za hq1;have Hq2:=za hq2;clear hq1 hq2;have e1:(u==u)=true:=by simp
  go_enter Tryz.func287,Tryz.ntmps287;go_wp2;generalize (w.alloc (.cells #[.bool u,.int .i64 x,.string s] 23)).alloc (.cells #[.bool u,.int .i64 y,.string t] 23)=W at *;have L1:=za (show ak1 W ⟨w.heap.size,1,none⟩ (.int .i64 x) from fun w' h=>(H1.out.on h).cell 1);have L2:=za (show ak1 W ⟨w.heap.size,2,none⟩ (.string s) from fun w' h=>(H1.out.on h).cell 2);have M1:=za (show ak1 W ⟨w.heap.size+1,1,none⟩ (.int .i64 y) from fun w' h=>(H2.out.on h).cell 1);have M2:=za (show ak1 W ⟨w.heap.size+1,2,none⟩ (.string t) from fun w' h=>(H2.out.on h).cell 2);have hS:=ak2 W;clear H1 H2;refine hB W [0,1,2,3,5,6,7,8,tt 4,tt 9,tt 10,tt 11,12] ?_;refine hP hS ?_;refine hP1 hS L1.out ?_;refine hP hS ?_;refine hP1 hS M1.out ?_;refine hP hS ?_;refine hP1 hS L2.out ?_;refine hP hS ?_;refine hP1 hS M2.out ?_;refine hE fun K hK=>?_;go_simp;with_reducible refine (aih x y _).mono ?_
  rintro e w2 ⟨rfl,rfl⟩;rw [Hq1.out];refine hG hK hS fun hS=>?_;clear hK K;refine hE fun K hK=>?_;go_simp;with_reducible refine (aig s t _).mono ?_
  rintro e w3 ⟨rfl,rfl⟩;rw [Hq2.out];refine hG hK hS fun hS=>?_;clear hK K;have HN:=za (Blk.new W 3 #[.int .i64 q1,.int .i64 q2]);refine hE fun K hK=>?_;go_simp;refine hG hK (by exact (bal (Below.refl _ _) _).drew) fun hS=>?_;clear hK K;refine hE fun K hK=>?_;go_simp;with_reducible refine (HK.out W.heap.size _ (by exact HN.out.drew)).mono ?_
  rintro e w4 ⟨rfl,rfl⟩;refine hG hK hS fun hS=>?_;clear hK K;refine hP hS ?_;refine zc ?_;go_wp2;go_ret;exact ⟨by rw [HC.out];rfl,bon HB.out hS⟩
 have e1:(u==v)=false:=by simpa using huv
 have HC:=za (show qJ (u,x,s) (v,y,t)=if u then -1 else 1 by unfold qJ;rw [if_neg huv]);clear H1 H2 huv;cases u with
 | true=>
  go_enter Tryz.func287,Tryz.ntmps287;go_wp2;go_ret;exact ⟨by rw [HC.out];rfl,HB.out⟩
 | false=>
  go_enter Tryz.func287,Tryz.ntmps287;go_wp2;go_ret;exact ⟨by rw [HC.out];rfl,HB.out⟩
end Go.Proofs.YtjpjalmilfgckaaGreatDoor
