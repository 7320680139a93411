/- Part 8 of the walks. Conditions: each lemma states its own. -/
import Derived.Test.YtjpjalmilfgckaaGreatDoorZz7
import Derived.Lib.ConvBytes
import Derived.WalkSpells
import Derived.Lib.LazyBuf
import Derived.Lib.AsciiSet
import Derived.Lib.SlTrimSet
import Derived.Lib.Bytealg
import Derived.Lib.Small
set_option maxRecDepth 100000
set_option maxHeartbeats 2000000
set_option linter.unusedVariables false
set_option linter.unusedSimpArgs false
namespace Go.Proofs.YtjpjalmilfgckaaGreatDoor
section
open Go.RowKit
theorem U8 (x:Int) (h1 : -9223372036854775808<=x) (h2:x<=9223372036854775807):IntKind.i64.wrap x=x:=by
 simp only [IntKind.wrap,IntKind.signed,IntKind.bits];simp;omega
theorem Blk.apart' {w w':World} {base size n g:Nat} {e t:TypeId} {v:Value} {xs:List Value} {cs:Array Value} (hb:Blk w g t cs) (h:w.ownsRow base e size v n xs) (hne:e≠t) (hg:w.grownBy w' v.ownBlock):Blk w' g t cs:=by
 refine (hg.block g hb.lt ?_).trans hb;exact fun e=>abK h hb hne e.symm
theorem acw {w:World} {base size n g:Nat} {e t:TypeId} {v:Value} {xs:List Value} {cs:Array Value} (h:w.ownsRow base e size v n xs) (hb:Blk w g t cs) (hne:e≠t) (i:Nat) (u:Value):(w.setCell ⟨g,i,none⟩ u).ownsRow base e size v n xs:=by
 refine afZ h (Touch.set (g:=g) (r:=none) w i u) (abK h hb hne) ?_;rcases v.ownBlock with _ | k
 ·exact .inl rfl
 exact .inr (by simp)
theorem Xh {w:World} {base size n:Nat} {e:TypeId} {v:Value} {xs:List Value} (h:w.ownsRow base e size v n xs):w.drew.ownsRow base e size v n xs:=h
theorem Jy (base g:Nat) (r:Option Nat) (B:List UInt8) (most:Int) (full:Bool) (A:Option Addr) (l c:Nat) (xs:List UInt8) (w:World) (hp:PWr w base g r B most full) (hm0:0<=most) (hm1:most<=9223372036854775807) (hr:Reads w w.heap.size 1 A l (u8s xs)) (hb:B.length+l<=1099511627776) :
  Calls Tryz.prog 55 #[.pointer (some ⟨g,0,none⟩),.slice A l c] w (Wr base g r B most full xs w):=by
 obtain ⟨i0,hi0,hz0,hz1,hz2⟩:=info_parts z7;have hp0:=za hp;obtain ⟨hbg,A0,c0,hblk,hown,hrr⟩:=hp;have hxl:=zh hr;have d0:=hblk.cell 0;have d1:=hblk.cell 1;have d2:=hblk.cell 2;have d3:=hblk.cell 3;have f0:=hblk.frozen 0;have f3:=hblk.frozen 3;have Hblk:=za hblk;have Hrr:=za hrr;have Hxl:=za hxl;generalize hn:B.length=n at *;have Hn:=za hn;have hglt:=hblk.lt;have hbw:base<=w.heap.size:=by omega
 clear hblk hrr hxl hn;rcases full with _ | _
 ·have hL:∀ w',w'=w.drew->w'.cell? ⟨g,2,none⟩=some (.int .i64 most):=fun w' h=>by rw [h];exact d2
  have hL2:∀ w',w'=w.drew->w'.cell? ⟨g,0,none⟩=some (.slice A0 n c0):=fun w' h=>by rw [h];exact d0
  have HL:=za hL;have HL2:=za hL2;have Hsub:=za (U8 (most-(n:Int)) (by omega) (by omega));clear hL hL2;by_cases hbig:most-(n:Int)<(l:Int)
  ·have db:decide (most-(n:Int)<(l:Int))=true:=(by simp;omega);have hraw:aaK B most false xs=(B,true):=(by unfold aaK;rw [if_pos (.inr (by rw [Hn.out,Hxl.out];exact hbig))]);have Hraw:=za hraw;clear hraw;go_enter Tryz.func55,Tryz.ntmps55;go_wp2;have hS:w.drew=w.drew:=rfl;refine hR (fun w'=>w'=w.drew) [0,1,2,3,4,5,6,7,8,9,10,11,12,13,14] ?_;(iterate 5 refine hP hS ?_);refine hP1 hS HL.out ?_;(iterate 4 refine hP hS ?_);refine hP1 hS HL2.out ?_;(iterate 2 refine hP hS ?_);rw [Hsub.out];(iterate 2 refine hP hS ?_);refine zc ?_;clear hS;go_wp2
   go_end0
   have hb4:=(Hblk.out.set_ 3 (.bool true)).drew;refine ⟨rfl,?_,r,Next.refl,?_⟩
   ·exact (Touch.set w 3 (.bool true)).trans Next.refl (Touch.of_below ((Below.refl _ _).drew))
   rw [Hraw.out];refine ⟨hbg,A0,c0,?_,?_,?_⟩
   ·rw [Hn.out];exact hb4
   ·rw [Hn.out];exact Xh (acw hown Hblk.out (by decide) 3 (.bool true))
   rw [Hn.out];exact Hrr.out
  have db:decide (most-(n:Int)<(l:Int))=false:=by simp;omega
  have hraw:aaK B most false xs=(B++xs,false):=by unfold aaK;rw [if_neg (by rw [Hn.out,Hxl.out];simp;omega)]
  have Hraw:=za hraw;have hs1:n+l<=maxLen:=by simp only [maxLen];omega
  have hs2:(n+l)*1<=70368744177664:=by omega
  clear hraw;go_enter Tryz.func55,Tryz.ntmps55;go_wp2;have hS:w.drew=w.drew:=rfl;refine hR (fun w'=>w'=w.drew) [0,1,2,3,4,5,6,7,8,9,10,11,12,13,14] ?_;iterate 5 refine hP hS ?_
  refine hP1 hS HL.out ?_;iterate 4 refine hP hS ?_
  refine hP1 hS HL2.out ?_;iterate 2 refine hP hS ?_
  rw [Hsub.out];iterate 2 refine hP hS ?_
  refine zc ?_;clear hS
  go_wp2_with (at_builtin
               refine V4 rfl (.tmp 9) (.tmp 10) 35 rfl base 5 i0 (.int .u8 0) 1 1 Tryz.underlying35 hi0 hz0 hz1 hz2 rfl (by decide) A0 n c0 (u8s B) rfl (Xh hown) A l c (u8s xs) rfl hr.drew (z6 _) hs1 hs2 hbw ?_;intro A2 c2 w2 hown2 hg2 hbk2;have hblk2:=Blk.apart' Hblk.out.drew (Xh hown) (by decide) hg2;have e0:=hblk2.cell 0;have fe0:=hblk2.frozen 0;have Hblk2:=za hblk2;have Hbk2:=za hbk2;clear hblk2 hbk2)
  go_end0
  rw [<-zt] at hown2;have hb4:=Hblk2.out.set_ 0 (.slice A2 (n+l) c2);have hlen:(B++xs).length=n+l:=by rw [List.length_append,Hn.out,Hxl.out]
  refine ⟨rfl,?_,(Value.slice A2 (n+l) c2).ownBlock,?_,?_⟩
  ·have h1:Touch w w2 g r:=by
    have:=Touch.of_grown (g:=g) hg2;rw [Hrr.out] at this;exact ((Touch.of_below ((Below.refl _ w).drew)).trans Next.refl this)
   have hn:Next w r r:=Next.refl;exact h1.trans hn (Touch.set w2 0 _)
  ·rcases Hbk2.out with h | h
   ·exact .inl (h.trans Hrr.out)
   exact .inr ⟨_,h,Nat.le_refl _⟩
  rw [Hraw.out];refine ⟨hbg,A2,c2,?_,?_,?_⟩
  ·simp only [hlen];exact hb4
  ·simp only [hlen];exact acw hown2 Hblk2.out (by decide) 0 (.slice A2 (n+l) c2)
  simp only [hlen]
 have hraw:aaK B most true xs=(B,true):=by unfold aaK;rw [if_pos (.inl rfl)]
 have Hraw:=za hraw;clear hraw;go_enter Tryz.func55,Tryz.ntmps55;go_wp2
 go_end0
 refine ⟨rfl,Touch.refl,r,Next.refl,?_⟩;rw [Hraw.out];exact hp0.out
end
section
open Go.RowKit
def yx (s:ByteArray):List UInt8:=leb s.size++s.data.toList
theorem qb (s:ByteArray):s.data.toList.length=s.size:=by rw [Array.length_toList];rfl
theorem agL (base g:Nat) (r:Option Nat) (B:List UInt8) (most:Int) (full:Bool) (n:Nat) (w:World) (hp:PWr w base g r B most full) (hm0:0<=most) (hm1:most<=9223372036854775807) (hn:n<18446744073709551616) (hb:B.length<=1000000000) :
  Calls Tryz.prog 56 #[.pointer (some ⟨g,0,none⟩),.int .u64 (n:Int)] w (Wr base g r B most full (leb n) w):=by
 go_enter Tryz.func56,Tryz.ntmps56;have hl:=zE n;have hp':=za hp;go_wp2_with fail
 with_reducible refine (YC none 0 0 n [] _ Reads.none_ (by decide) (by decide) (by decide) hn).mono ?_
 simp only [Nat.zero_add,List.nil_append];rintro e w1 ⟨A1,c1,rfl,g1,g2,o1,hb1⟩;go_wp2_with fail
 refine (Jy base g r B most full A1 _ c1 (leb n) _ (hp'.out.on hb1) hm0 hm1 (ze o1) (by omega)).mono ?_;rintro e w2 hw;obtain ⟨rfl,-⟩:=id hw;go_wp2
 go_end0
 exact hw.from_ hb1
end
section
open Go.RowKit
theorem UH {P:Program} (w:World) (src dst e:TypeId) (s:ByteArray) (hs:P.underlying src=some .string) (hd:P.underlying dst=some (.slice e)) (he:P.underlying e=some (.int .u8)) (hz:s.size<=maxLen) :
  ∃ (A:Option Addr) (c:Nat) (w1:World),(convert src dst (.string s)).run P w=.ok (.slice A s.size c) w1/\Reads w1 w1.heap.size 1 A s.size (u8s s.data.toList)/\s.size<=c/\c<=maxLen/\Below w.heap.size w w1:=by
 have hlen:s.data.toList.length=s.size:=by rw [Array.length_toList];rfl
 refine ⟨_,_,_,Lib.run_convert_string_bytes w src dst e s hs hd he,⟨by simp [hlen],fun _=>⟨_,rfl,?_,?_⟩⟩,grownCap_ge w s.size 0 e,grownCap_le_maxLen w s.size 0 e hz,?_⟩
 ·show w.heap.size<_;rw [Lib.bytesWorld_size];omega
 ·intro j u hu;simp only [u8s,List.getElem?_map,Option.map_eq_some_iff] at hu;obtain ⟨b,hb,rfl⟩:=hu;obtain ⟨hj,rfl⟩:=List.getElem?_eq_some_iff.1 hb;have:=Lib.bytesWorld_cell w e s j (by omega);rw [show (⟨w.heap.size,0,none⟩:Addr).add j=⟨w.heap.size,j,none⟩ from by unfold Addr.add;split<;>simp_all];rw [this,List.getD_eq_getElem?_getD,List.getElem?_eq_getElem hj];rfl
 refine ⟨rfl,rfl,rfl,by rw [Lib.bytesWorld_size];omega,fun k hk=>Lib.bytesWorld_at_old w e s k hk⟩
end
section
open Go.RowKit
def toI (n:Nat):Int:=wrap64 (n:Int)
theorem ajI (n:Nat) : -9223372036854775808<=toI n/\toI n<=9223372036854775807:=by
 unfold toI wrap64;omega
end
section
open Go.RowKit
theorem ahx (most:Int) (w:World) (h1 : -9223372036854775808<=most) (h2:most<=9223372036854775807) :
  Calls Tryz.prog 54 #[.int .i64 most] w fun e w'=>e=.returned (.pointer (some ⟨w.heap.size,0,none⟩))/\PWr w' w.heap.size w.heap.size none [] (max most 0) false/\Below w.heap.size w w'/\w.heap.size<w'.heap.size:=by
 go_enter Tryz.func54,Tryz.ntmps54;go_wp2;go_ret;exact ⟨rfl,⟨Nat.le_refl _,none,0,Blk.new _ _ _,World.ownsRow_nil _ _ _ _,rfl⟩,(Below.refl _ _).alloc (Nat.le_refl _) _,by simp⟩
def aeR (l:List UInt8) (w:World) (e:Ending) (w':World):Prop:=
 ∃ (A:Option Addr) (c:Nat),e=.returned (.slice A l.length c)/\l.length<=c/\c<=maxLen/\w'.ownsRow w.heap.size 5 1 (.slice A l.length c) l.length (u8s l)/\Below w.heap.size w w'
theorem JY (A:Option Addr) (n c:Nat) (l:List UInt8) (w:World) (hr:Reads w w.heap.size 1 A n (u8s l)) (hn:n<=35184372088832) :
  Calls Tryz.prog 104 #[.slice A n c] w (aeR l w):=by
 obtain ⟨i0,hi0,hz0,hz1,hz2⟩:=info_parts z7;have hl:=zh hr;have hs1:0+n<=maxLen:=by simp only [maxLen];omega
 have hs2:(0+n)*1<=70368744177664:=by omega
 rcases A with _ | ad
 ·have h0:n=0:=by
   rcases Nat.eq_zero_or_pos n with h0 | h0
   ·exact h0
   obtain ⟨ad,h,_⟩:=hr.2 h0;cases h
  have hl0:l=[]:=List.eq_nil_of_length_eq_zero (by omega);subst h0;subst hl0;have heq:=Lib.run_eql_slice_nil (P:=Tryz.prog) w 35 5 none 0 c 0 0 Tryz.underlying35;simp only [Option.isNone_none] at heq;go_enter Tryz.func104,Tryz.ntmps104;go_wp2;go_ret;exact ⟨none,0,rfl,Nat.le_refl _,by simp [maxLen],World.ownsRow_nil _ _ _ _,Below.refl _ _⟩
 have Hl:=za hl;clear hl;have heq:=Lib.run_eql_slice_nil (P:=Tryz.prog) w 35 5 (some ad) n c 0 0 Tryz.underlying35;simp only [Option.isNone_some] at heq;go_enter Tryz.func104,Tryz.ntmps104
 go_wp2_with (at_builtin
              refine zb _ rfl (.tmp 5) (.tmp 6) 35 rfl w.heap.size 5 i0 (.int .u8 0) 1 1 Tryz.underlying35 hi0 hz0 hz1 hz2 rfl (by decide) _ 0 0 [] rfl (World.ownsRow_made w #[] 0 (Nat.le_refl _) (by simp [maxLen]) rfl) (some ad) n c (u8s l) rfl (hr.al _) (z6 _) hs1 hs2 (by simp) ?_;intro A2 c2 w2 hown2 hb2 hg2 hc2 hm2;simp only [Nat.zero_add,List.nil_append] at hown2 hc2)
 go_ret;unfold aeR;simp only [Hl.out];exact ⟨A2,c2,by simp,hc2,hm2,hown2,((Below.refl _ _).alloc (Nat.le_refl _) _).trans hb2⟩
def akM (B:List UInt8) (full:Bool) (w:World) (e:Ending) (w':World):Prop:=
 Below w.heap.size w w'/\match full with
  | true=>e=.returned (.tuple #[.slice none 0 0,.int .i64 5])
  | false=>∃ (A:Option Addr) (c:Nat),e=.returned (.tuple #[.slice A B.length c,.int .i64 0])/\B.length<=c/\c<=maxLen/\w'.ownsRow w.heap.size 5 1 (.slice A B.length c) B.length (u8s B)
theorem afn (base g:Nat) (r:Option Nat) (B:List UInt8) (most:Int) (full:Bool) (w:World) (hp:PWr w base g r B most full) (hb:B.length<=1000000000) :
  Calls Tryz.prog 58 #[.pointer (some ⟨g,0,none⟩)] w (akM B full w):=by
 obtain ⟨hbg,A0,c0,hblk,hown,hrr⟩:=hp;have d0:=hblk.cell 0;have d1:=hblk.cell 1;have d3:=hblk.cell 3;have rb:=ze hown;clear hblk hown hrr;rcases full with _ | _
 ·go_enter Tryz.func58,Tryz.ntmps58;go_wp2_with fail
  with_reducible refine (JY A0 B.length c0 B _ rb (by omega)).mono ?_
  rintro e w1 ⟨A1,c1,rfl,g1,g2,o1,hb1⟩;go_wp2;go_ret2;exact ⟨hb1,A1,c1,rfl,g1,g2,o1⟩
 go_enter Tryz.func58,Tryz.ntmps58;go_wp2;go_ret2;exact ⟨Below.refl _ _,rfl⟩
end
section
open Go.RowKit
def PRd (w:World) (g:Nat) (xs:List UInt8) (p e:Nat):Prop:=
 p<=xs.length/\∃ (A:Option Addr) (c:Nat),Blk w g 235 #[.slice A (xs.length-p) c,.bool true,.int .i64 (p:Int),.int .i64 (e:Int)]/\Reads w w.heap.size 1 A (xs.length-p) (u8s (xs.drop p))/\(0<xs.length-p->∀ ad,A=some ad->ad.block<g)/\xs.length-p<=c/\c<=maxLen
theorem PRd.lt {w:World} {g:Nat} {xs:List UInt8} {p e:Nat} (h:PRd w g xs p e):g<w.heap.size:=by
 obtain ⟨_,A,c,h1,_⟩:=h;exact h1.lt
theorem PRd.on {w w':World} {g:Nat} {xs:List UInt8} {p e:Nat} (h:PRd w g xs p e) (hb:Below w.heap.size w w'):PRd w' g xs p e:=by
 obtain ⟨h0,A,c,h1,h2,h3⟩:=h;exact ⟨h0,A,c,h1.on hb,h2.on hb,h3⟩
theorem Zy (g:Nat) (xs:List UInt8) (p e:Nat) (w:World) (h:PRd w g xs p e) :
  Calls Tryz.prog 143 #[.pointer (some ⟨g,0,none⟩)] w fun e' w'=>e'=.returned (.int .i64 (e:Int))/\w=w':=by
 obtain ⟨h0,A,c,h1,h2,h3,h4,h5⟩:=h;have d1:=h1.cell 1;have d3:=h1.cell 3;clear h0 h1 h2 h3 h4 h5;go_enter Tryz.func143,Tryz.ntmps143;go_wp2;go_ret;exact ⟨rfl,rfl⟩
def Jl (m e:Nat):Nat:=if e=0/\0<m then 30 else e
theorem aho (g:Nat) (xs:List UInt8) (p e:Nat) (w:World) (h:PRd w g xs p e) :
  Calls Tryz.prog 145 #[.pointer (some ⟨g,0,none⟩)] w fun e' w'=>e'=.returned (.int .i64 (Jl (xs.length-p) e:Int))/\w=w':=by
 have h':=h;obtain ⟨h0,A,c,h1,h2,h3,h4,h5⟩:=h;have d0:=h1.cell 0;have H:=za h';clear h0 h1 h2 h3 h4 h5 h';generalize hm:xs.length-p=m at *;clear hm;by_cases he:e=0
 ·subst he;by_cases hm0:m=0
  ·have hE:Jl m 0=0:=(by unfold Jl;rw [if_neg (by omega)]);rw [hE];have d:(((m:Nat):Int)==0)=true:=(by simp;omega);clear hE;go_enter Tryz.func145,Tryz.ntmps145;(go_wp2_with fail);(with_reducible refine (Zy g xs p 0 _ H.out).mono ?_);rintro e w' ⟨rfl,rfl⟩;clear hm0;go_wp2;go_ret;exact ⟨rfl,rfl⟩
  have hE:Jl m 0=30:=by unfold Jl;rw [if_pos (by omega)]
  rw [hE];have d:(((m:Nat):Int)==0)=false:=by simp;omega
  clear hE;go_enter Tryz.func145,Tryz.ntmps145;go_wp2_with fail
  with_reducible refine (Zy g xs p 0 _ H.out).mono ?_
  rintro e w' ⟨rfl,rfl⟩;clear hm0;go_wp2;go_ret;exact ⟨rfl,rfl⟩
 have hE:Jl m e=e:=by unfold Jl;rw [if_neg (by omega)]
 rw [hE];have hn:((e:Int)==0)=false:=by simp;omega
 have hn2:((e:Int) != 0)=true:=by simp;omega
 clear hE he;go_enter Tryz.func145,Tryz.ntmps145;go_wp2_with fail
 with_reducible refine (Zy g xs p e _ H.out).mono ?_
 rintro e w' ⟨rfl,rfl⟩;go_wp2;go_ret;exact ⟨rfl,rfl⟩
end
section
open Go.RowKit
def adp (res:Except Nat Nat) (m:Nat) (Good:Value->World->Prop) (w:World) (e:Ending) (w':World):Prop:=
 Below w.heap.size w w'/\((∃ (er:Nat) (z:Value) (k:Int),er≠0/\res=.error er/\e=.returned (.tuple #[z,.int .i64 k,.int .i64 (er:Int)]))\/(∃ (v:Value) (n:Nat),res=.ok n/\n<=m/\Good v w'/\e=.returned (.tuple #[v,.int .i64 (n:Int),.int .i64 0])))
def ajB (g:Nat) (xs:List UInt8) (p:Nat) (res:Except Nat Nat) (zero:Value) (Good:Value->World->Prop) (w:World) (e:Ending) (w':World):Prop:=
 w.grownBy w' (some g)/\((∃ er,er≠0/\res=.error er/\e=.returned zero/\PRd w' g xs p er)\/(∃ (v:Value) (n:Nat),res=.ok n/\Good v w'/\e=.returned v/\p+n<=xs.length/\PRd w' g xs (p+n) 0))
theorem afc (a b:Nat) (h:a+b<=9223372036854775807):IntKind.i64.wrap ((a:Int)+(b:Int))=((a+b:Nat):Int):=by
 rw [U8 _ (by omega) (by omega)];omega
theorem qs (w:World) (g i:Nat) (u:Value):w.grownBy (w.setCell ⟨g,i,none⟩ u) (some g):=
 ⟨rfl,rfl,rfl,by simp [World.setCell],fun k hk hne=>Below.heap_setCell w ⟨g,i,none⟩ u k (by intro e;exact hne (by rw [e]))⟩
theorem qx {w w':World} {r:Option Nat} (h:Below w.heap.size w w'):w.grownBy w' r:=⟨h.os,h.tape,h.output,h.size,fun k hk _=>h.block k hk⟩
theorem Reads.other3 {w w':World} {size n g:Nat} {A:Option Addr} {xs:List Value} (h:Reads w w.heap.size size A n xs) (hg:w.grownBy w' (some g)) (hne:0<n->∀ ad,A=some ad->ad.block<g):Reads w' w'.heap.size size A n xs:=by
 refine ⟨h.1,fun hn=>?_⟩;obtain ⟨ad,e,h1,h2⟩:=h.2 hn;refine ⟨ad,e,Nat.lt_of_lt_of_le h1 hg.size,fun j u hu=>?_⟩;exact hg.cell (h2 j u hu) (by have:=hne hn ad e;rw [zg];simp;omega)
theorem aft (g:Nat) (xs:List UInt8) (p:Nat) (res:Except Nat Nat) (Good:Value->World->Prop)  (w:World) (h:PRd w g xs p 0) (hl:xs.length<=9223372036854775807) (hgood:∀ v w1 w2,Good v w1->g<w1.heap.size->w1.grownBy w2 (some g)->Good v w2)
  (hread:∀ (A:Option Addr) (c:Nat),Reads w w.heap.size 1 A (xs.length-p) (u8s (xs.drop p))->xs.length-p<=c->c<=maxLen->Calls Tryz.prog 81 #[.slice A (xs.length-p) c] w (adp res (xs.length-p) Good w)) :
  Calls Tryz.prog 188 #[.pointer (some ⟨g,0,none⟩),.func (.func 81) #[] #[]] w (ajB g xs p res (.int .u64 0) Good w):=by
 have Hread:=za hread;have Hgood:=za hgood;have H:=za h;obtain ⟨h0,A,c,h1,h2,h3,h4,h5⟩:=h;have H1:=za h1;have H3:=za h3;have hxd:(xs.drop p).length=xs.length-p:=List.length_drop;have hglt:=h1.lt;generalize hm:xs.length-p=m at *;have Hm:=za hm;have d0:=h1.cell 0;have d2:=h1.cell 2;have d3:=h1.cell 3;have f0:=h1.frozen 0;have f2:=h1.frozen 2;have f3:=h1.frozen 3;have hml:m<=xs.length:=by omega
 clear hread h1 h3 hm hgood hxd;go_enter Tryz.func188,Tryz.ntmps188;go_wp2_with fail
 with_reducible refine (Zy g xs p 0 _ H.out).mono ?_
 rintro e w' ⟨rfl,rfl⟩;go_wp2_with fail
 with_reducible refine (Hread.out A c h2 h4 h5).mono ?_
 rintro e w1 ⟨hb1,hcase⟩;have hblk1:=H1.out.on hb1;have hr1:=h2.on hb1;have k0:=hblk1.cell 0;have k2:=hblk1.cell 2;have j0:=hblk1.frozen 0;have j2:=hblk1.frozen 2;have j3:=hblk1.frozen 3;have k3:=hblk1.cell 3;have Hblk1:=za hblk1;clear hblk1 d0 d2 d3 f0 f2 f3 h2;rcases hcase with ⟨er,z,k,her,hres,rfl⟩ | ⟨v,n,hres,hnm,hgv,rfl⟩
 ·have hn:((er:Int)==0)=false:=by simp;omega
  have hn2:((er:Int) != 0)=true:=by simp;omega
  have Hres:=za hres;have Her:=za her;clear hres her;go_wp2;go_ret;have hg2:=(qx (r:=some g) hb1).trans (qs w1 g 3 (.int .i64 (er:Int)));refine ⟨hg2,.inl ⟨er,Her.out,Hres.out,rfl,h0,A,c,?_,?_,?_,?_,h5⟩⟩
  ·rw [Hm.out];exact Hblk1.out.set_ 3 (.int .i64 (er:Int))
  ·rw [Hm.out];exact hr1.other3 (qs w1 g 3 (.int .i64 (er:Int))) H3.out
  ·rw [Hm.out];exact H3.out
  rw [Hm.out];exact h4
 have Hres:=za hres;have Hgv:=za hgv;have hnc:n<=c:=by omega
 have hc63:c<=9223372036854775807:=by unfold maxLen at h5;omega
 have Hsum:=za (afc p n (by have:=Hm.out;omega));have hcut:=hr1.cut (k:=n) (cap:=c) hnm h4;rw [Nat.mul_one,yw,List.drop_drop] at hcut;obtain ⟨A2,hA2⟩:∃ A2,(if c=n then A else Option.map (fun x=>x.add n) A)=A2:=⟨_,rfl⟩;rw [hA2] at hcut;have hpn:p+n<=xs.length:=by have:=Hm.out;omega
 have hpn2:p+n<=9223372036854775807:=by omega
 have hA2b:0<m-n->∀ ad,A2=some ad->ad.block<g:=by
  intro h0' ad had;rw [<-hA2,if_neg (by omega)] at had;obtain ⟨ad0,hA,rfl⟩:=Option.map_eq_some_iff.1 had;rw [zg];exact H3.out (by omega) ad0 hA
 have HA2b:=za hA2b;clear hres hgv hA2b;go_wp2;go_region;go_wp2;go_ret;have hg1:=qx (r:=some g) hb1;have hg2:=qs w1 g 0 (.slice A2 (m-n) (c-n));have hg3:=qs (w1.setCell ⟨g,0,none⟩ (.slice A2 (m-n) (c-n))) g 2 (.int .i64 ((p:Int)+(n:Int)));have hg4:w1.grownBy ((w1.setCell ⟨g,0,none⟩ (.slice A2 (m-n) (c-n))).setCell ⟨g,2,none⟩ (.int .i64 ((p:Int)+(n:Int)))).drew (some g):=(hg2.trans hg3).trans ⟨rfl,rfl,rfl,Nat.le_refl _,fun _ _ _=>rfl⟩;have hmn:xs.length-(p+n)=m-n:=by have:=Hm.out;omega
 have hblk2:=((Hblk1.out.set_ 0 (.slice A2 (m-n) (c-n))).set_ 2 (.int .i64 ((p:Int)+(n:Int)))).drew;refine ⟨hg1.trans hg4,.inr ⟨v,n,Hres.out,Hgood.out _ _ _ Hgv.out Hblk1.out.lt hg4,rfl,hpn,hpn,A2,c-n,?_,?_,?_,?_,by omega⟩⟩
 ·rw [hmn];have e:((p+n:Nat):Int)=(p:Int)+(n:Int):=by omega
  rw [e];exact hblk2
 ·rw [hmn];exact hcut.other3 hg4 HA2b.out
 ·rw [hmn];exact HA2b.out
 rw [hmn];omega
theorem afs (g:Nat) (xs:List UInt8) (p e:Nat) (F:Value) (w:World) (h:PRd w g xs p e) (he:e≠0) :
  Calls Tryz.prog 188 #[.pointer (some ⟨g,0,none⟩),F] w fun e' w'=>e'=.returned (.int .u64 0)/\w=w':=by
 have H:=za h;have hn:((e:Int)==0)=false:=by simp;omega
 have hn2:((e:Int) != 0)=true:=by simp;omega
 clear h he;go_enter Tryz.func188,Tryz.ntmps188;go_wp2_with fail
 with_reducible refine (Zy g xs p e _ H.out).mono ?_
 rintro e w' ⟨rfl,rfl⟩;go_wp2;go_ret;exact ⟨rfl,rfl⟩
theorem afu (g:Nat) (xs:List UInt8) (p:Nat) (res:Except Nat Nat) (Good:Value->World->Prop) (ca:Addr) (w:World) (h:PRd w g xs p 0) (hl:xs.length<=9223372036854775807) (hgood:∀ v w1 w2,Good v w1->g<w1.heap.size->w1.grownBy w2 (some g)->Good v w2)
  (hread:∀ (A:Option Addr) (c:Nat),Reads w w.heap.size 1 A (xs.length-p) (u8s (xs.drop p))->xs.length-p<=c->c<=maxLen->Calls Tryz.prog 190 #[.slice A (xs.length-p) c,.pointer (some ca)] w (adp res (xs.length-p) Good w)) :
  Calls Tryz.prog 189 #[.pointer (some ⟨g,0,none⟩),.func (.func 190) #[] #[.pointer (some ca)]] w (ajB g xs p res (.string ⟨#[]⟩) Good w):=by
 have Hread:=za hread;have Hgood:=za hgood;have H:=za h;obtain ⟨h0,A,c,h1,h2,h3,h4,h5⟩:=h;have H1:=za h1;have H3:=za h3;have hxd:(xs.drop p).length=xs.length-p:=List.length_drop;have hglt:=h1.lt;generalize hm:xs.length-p=m at *;have Hm:=za hm;have d0:=h1.cell 0;have d2:=h1.cell 2;have d3:=h1.cell 3;have f0:=h1.frozen 0;have f2:=h1.frozen 2;have f3:=h1.frozen 3;have hml:m<=xs.length:=by omega
 clear hread h1 h3 hm hgood hxd;go_enter Tryz.func189,Tryz.ntmps189;go_wp2_with fail
 with_reducible refine (Zy g xs p 0 _ H.out).mono ?_
 rintro e w' ⟨rfl,rfl⟩;go_wp2_with fail
 with_reducible refine (Hread.out A c h2 h4 h5).mono ?_
 rintro e w1 ⟨hb1,hcase⟩;have hblk1:=H1.out.on hb1;have hr1:=h2.on hb1;have k0:=hblk1.cell 0;have k2:=hblk1.cell 2;have j0:=hblk1.frozen 0;have j2:=hblk1.frozen 2;have j3:=hblk1.frozen 3;have k3:=hblk1.cell 3;have Hblk1:=za hblk1;clear hblk1 d0 d2 d3 f0 f2 f3 h2;rcases hcase with ⟨er,z,k,her,hres,rfl⟩ | ⟨v,n,hres,hnm,hgv,rfl⟩
 ·have hn:((er:Int)==0)=false:=by simp;omega
  have hn2:((er:Int) != 0)=true:=by simp;omega
  have Hres:=za hres;have Her:=za her;clear hres her;go_wp2;go_ret;have hg2:=(qx (r:=some g) hb1).trans (qs w1 g 3 (.int .i64 (er:Int)));refine ⟨hg2,.inl ⟨er,Her.out,Hres.out,rfl,h0,A,c,?_,?_,?_,?_,h5⟩⟩
  ·rw [Hm.out];exact Hblk1.out.set_ 3 (.int .i64 (er:Int))
  ·rw [Hm.out];exact hr1.other3 (qs w1 g 3 (.int .i64 (er:Int))) H3.out
  ·rw [Hm.out];exact H3.out
  rw [Hm.out];exact h4
 have Hres:=za hres;have Hgv:=za hgv;have hnc:n<=c:=by omega
 have hc63:c<=9223372036854775807:=by unfold maxLen at h5;omega
 have Hsum:=za (afc p n (by have:=Hm.out;omega));have hcut:=hr1.cut (k:=n) (cap:=c) hnm h4;rw [Nat.mul_one,yw,List.drop_drop] at hcut;obtain ⟨A2,hA2⟩:∃ A2,(if c=n then A else Option.map (fun x=>x.add n) A)=A2:=⟨_,rfl⟩;rw [hA2] at hcut;have hpn:p+n<=xs.length:=by have:=Hm.out;omega
 have hpn2:p+n<=9223372036854775807:=by omega
 have hA2b:0<m-n->∀ ad,A2=some ad->ad.block<g:=by
  intro h0' ad had;rw [<-hA2,if_neg (by omega)] at had;obtain ⟨ad0,hA,rfl⟩:=Option.map_eq_some_iff.1 had;rw [zg];exact H3.out (by omega) ad0 hA
 have HA2b:=za hA2b;clear hres hgv hA2b;go_wp2;go_region;go_wp2;go_ret;have hg1:=qx (r:=some g) hb1;have hg2:=qs w1 g 0 (.slice A2 (m-n) (c-n));have hg3:=qs (w1.setCell ⟨g,0,none⟩ (.slice A2 (m-n) (c-n))) g 2 (.int .i64 ((p:Int)+(n:Int)));have hg4:w1.grownBy ((w1.setCell ⟨g,0,none⟩ (.slice A2 (m-n) (c-n))).setCell ⟨g,2,none⟩ (.int .i64 ((p:Int)+(n:Int)))).drew (some g):=(hg2.trans hg3).trans ⟨rfl,rfl,rfl,Nat.le_refl _,fun _ _ _=>rfl⟩;have hmn:xs.length-(p+n)=m-n:=by have:=Hm.out;omega
 have hblk2:=((Hblk1.out.set_ 0 (.slice A2 (m-n) (c-n))).set_ 2 (.int .i64 ((p:Int)+(n:Int)))).drew;refine ⟨hg1.trans hg4,.inr ⟨v,n,Hres.out,Hgood.out _ _ _ Hgv.out Hblk1.out.lt hg4,rfl,hpn,hpn,A2,c-n,?_,?_,?_,?_,by omega⟩⟩
 ·rw [hmn];have e:((p+n:Nat):Int)=(p:Int)+(n:Int):=by omega
  rw [e];exact hblk2
 ·rw [hmn];exact hcut.other3 hg4 HA2b.out
 ·rw [hmn];exact HA2b.out
 rw [hmn];omega
theorem adX (g:Nat) (xs:List UInt8) (p e:Nat) (F:Value) (w:World) (h:PRd w g xs p e) (he:e≠0) :
  Calls Tryz.prog 189 #[.pointer (some ⟨g,0,none⟩),F] w fun e' w'=>e'=.returned (.string ⟨#[]⟩)/\w=w':=by
 have H:=za h;have hn:((e:Int)==0)=false:=by simp;omega
 have hn2:((e:Int) != 0)=true:=by simp;omega
 clear h he;go_enter Tryz.func189,Tryz.ntmps189;go_wp2_with fail
 with_reducible refine (Zy g xs p e _ H.out).mono ?_
 rintro e w' ⟨rfl,rfl⟩;go_wp2;go_ret;exact ⟨rfl,rfl⟩
end
section
open Go.RowKit
def Asked (g:Nat) (xs:List UInt8) (v:Value) (p e:Nat) (w:World) (e':Ending) (w':World):Prop:=
 e'=.returned v/\w.grownBy w' (some g)/\PRd w' g xs p e
theorem aeN {g:Nat} {xs:List UInt8} {v:Value} {p e:Nat} {w:World} (h:PRd w g xs p e):Asked g xs v p e w (.returned v) w:=⟨rfl,⟨rfl,rfl,rfl,Nat.le_refl _,fun _ _ _=>rfl⟩,h⟩
theorem Asked.from_ {g:Nat} {xs:List UInt8} {v:Value} {p e:Nat} {w w1:World} {e':Ending} {w':World} (h:Asked g xs v p e w1 e' w') (hb:Below w.heap.size w w1):Asked g xs v p e w e' w':=
 ⟨h.1,(qx hb).trans h.2.1,h.2.2⟩
def YI (xs:List UInt8) (p e:Nat):Nat×Nat×Nat:=
 if e≠0 then (0,p,e) else if (get (xs.drop p)).2.2≠0 then (0,p,(get (xs.drop p)).2.2) else ((get (xs.drop p)).1,p+(get (xs.drop p)).2.1,0)
theorem UU (xs:List UInt8):(get xs).2.1<=xs.length/\(get xs).2.2<11/\(get xs).1<18446744073709551616/\((get xs).2.2≠0->(get xs).1=0):=by
 rcases qt xs with ⟨n,h,h1,h2,h3⟩ | ⟨e,h,h1,h2⟩
 ·rw [h];exact ⟨h2,show 0<11 from by decide,h1,fun h=>absurd rfl h⟩
 rw [h];exact ⟨Nat.zero_le _,h2,show 0<18446744073709551616 from by decide,fun _=>rfl⟩
theorem ahg (g:Nat) (xs:List UInt8) (p e:Nat) (w:World) (h:PRd w g xs p e) (hl:xs.length<=9223372036854775807) :
  Calls Tryz.prog 142 #[.pointer (some ⟨g,0,none⟩)] w (Asked g xs (.int .u64 ((YI xs p e).1:Int)) (YI xs p e).2.1 (YI xs p e).2.2 w):=by
 have H:=za h;clear h;by_cases he:e=0
 ·subst he;have hv:YI xs p 0=YI xs p 0:=rfl
  conv at hv=>rhs;unfold YI;rw [if_neg (by simp)]
  obtain ⟨s1,s2,s3,s4⟩:=UU (xs.drop p);have hld:(xs.drop p).length=xs.length-p:=List.length_drop;rw [hld] at s1;have hread:=fun (A:Option Addr) (c:Nat) (hr:Reads w w.heap.size 1 A (xs.length-p) (u8s (xs.drop p))) (h1:xs.length-p<=c) (h2:c<=maxLen)=>Xq A (xs.length-p) c (xs.drop p) w hr h1 h2;generalize get (xs.drop p)=r at hv s1 s2 s3 s4 hread;obtain ⟨rn,rk,re⟩:=r;simp only [ZF] at hv s1 s2 s3 s4 hread;have Hv:=za hv;have Hread:=za hread;clear hv hread hld s3;go_enter Tryz.func142,Tryz.ntmps142;go_wp2_with fail
  with_reducible refine (aft g xs p (if re≠0 then .error re else .ok rk) (fun v _=>v=.int .u64 (rn:Int)) _ H.out hl (fun v w1 w2 h _ _=>h) ?_).mono ?_
  ·intro A c hr h1 h2;refine (Hread.out A c hr h1 h2).mono ?_;rintro e w' ⟨rfl,rfl⟩;refine ⟨Below.refl _ _,?_⟩;by_cases hre:re=0
   ·subst hre;exact .inr ⟨_,rk,rfl,s1,rfl,rfl⟩
   exact .inl ⟨re,_,_,hre,by rw [if_pos hre],rfl⟩
  rintro e w2 ⟨hg,hcase⟩;rcases hcase with ⟨er,her,hres,rfl,hp⟩ | ⟨v,n,hres,rfl,rfl,hpn,hp⟩
  ·have hre:re≠0/\er=re:=by
    split at hres
    ·rename_i h;injection hres with hres;exact ⟨h,hres.symm⟩
    cases hres
   have hv:=Hv.out;rw [if_pos hre.1] at hv;have Hv2:=za hv;obtain rfl:=hre.2;clear hres hv hre her s4;go_wp2;go_ret;rw [Hv2.out];exact ⟨rfl,hg,hp⟩
  have hre:re=0/\n=rk:=by
   split at hres
   ·cases hres
   rename_i h;injection hres with hres;exact ⟨by simpa using h,hres.symm⟩
  have hv:=Hv.out;rw [if_neg (by simp [hre.1])] at hv;have Hv2:=za hv;obtain rfl:=hre.2;clear hres hv hre s4;go_wp2;go_ret;rw [Hv2.out];exact ⟨rfl,hg,hp⟩
 have hv:YI xs p e=(0,p,e):=by unfold YI;rw [if_pos he]
 rw [hv];have He:=za he;clear hv he;go_enter Tryz.func142,Tryz.ntmps142;go_wp2_with fail
 with_reducible refine (afs g xs p e _ _ H.out He.out).mono ?_
 rintro e w' ⟨rfl,rfl⟩;go_wp2;go_ret;exact aeN H.out
def RawG (base:Nat) (n:Int) (r:List UInt8) (v:Value) (w:World):Prop:=
 ∃ (A:Option Addr) (c:Nat),v=.slice A n.toNat c/\n.toNat<=c/\c<=maxLen/\w.ownsRow base 5 1 (.slice A n.toNat c) n.toNat (u8s (r.take n.toNat))
end
section
open Go.RowKit
theorem ai5 {w w':World} {base size n g:Nat} {e:TypeId} {v:Value} {xs:List Value} (h:w.ownsRow base e size v n xs) (hlt:g<base) (hg:w.grownBy w' (some g)):w'.ownsRow base e size v n xs:=by
 refine h.kept hg ?_;rcases h.2 with ⟨rfl,h0⟩ | ⟨g2,cap,cur,rfl,h1,h2,h3⟩
 ·exact .inl rfl
 right;simp only [Value.ownBlock,ne_eq,Option.some.injEq];omega
theorem RawG.keep {base g:Nat} {n:Int} {r:List UInt8} {v:Value} {w1 w2:World} (h:RawG base n r v w1) (hlt:g<base) (hg:w1.grownBy w2 (some g)):RawG base n r v w2:=by
 obtain ⟨A,c,h1,h2,h3,h4⟩:=h;exact ⟨A,c,h1,h2,h3,ai5 h4 hlt hg⟩
end
section
open Go.RowKit
def U0 (most:Int) (b:List UInt8):Except Nat Nat:=match y8 most b with
 | .error e=>.error e
 | .ok (_,n)=>.ok n
def TextG (most:Int) (b:List UInt8) (v:Value) (_:World):Prop:=∃ s n,y8 most b=.ok (s,n)/\v=.string s
theorem TextG.keep {most:Int} {b:List UInt8} {v:Value} {w w':World} (h:TextG most b v w):TextG most b v w':=h
theorem Vk {most:Int} {b:List UInt8} {m er:Nat} {w w':World} {z:Value} {k:Int} (h:y8 most b=.error er) (he:er≠0) (hb:Below w.heap.size w w') :
  adp (U0 most b) m (TextG most b) w (.returned (.tuple #[z,.int .i64 k,.int .i64 (er:Int)])) w':=⟨hb,.inl ⟨er,z,k,he,by unfold U0;rw [h],rfl⟩⟩
theorem ahd {most:Int} {b:List UInt8} {m n:Nat} {s:ByteArray} {w w':World} {k:Int} (h:y8 most b=.ok (s,n)) (hn:n<=m) (hk:k=(n:Int)) (hb:Below w.heap.size w w') :
  adp (U0 most b) m (TextG most b) w (.returned (.tuple #[.string s,.int .i64 k,.int .i64 0])) w':=by
 subst hk;exact ⟨hb,.inr ⟨_,n,by unfold U0;rw [h],hn,⟨s,n,h,rfl⟩,rfl⟩⟩
theorem afq (A:Option Addr) (m c:Nat) (r:List UInt8) (most:Int) (ca:Addr) (w:World) (hr:Reads w w.heap.size 1 A m (u8s r)) (hm:m<=c) (hc:c<=maxLen) (hcell:w.cell? ca=some (.int .i64 most)) (hcb:ca.block<w.heap.size) (hm2:m<=1099511627776) (hmo:most<=9223372036854775807) :
  Calls Tryz.prog 190 #[.slice A m c,.pointer (some ca)] w (adp (U0 most r) m (TextG most r) w):=by
 have hrl:=zh hr;have Hrl:=za hrl;have hgs:=UU r;rw [hrl] at hgs;have htk:y8 most r=y8 most r:=rfl
 conv at htk=>rhs;unfold y8
 rw [hrl] at htk;have hget:=Xq A m c r w hr hm hc;generalize get r=q at hgs htk hget;obtain ⟨rn,rk,re⟩:=q;obtain ⟨hk1,hk2,hk3,hk4⟩:=hgs;simp only [ZF] at hk1 hk2 hk3 hk4 hget htk;have Hget:=za hget;clear hget hrl;go_enter Tryz.func190,Tryz.ntmps190;go_wp2_with fail
 with_reducible refine (Hget.out).mono ?_
 rintro e w' ⟨rfl,rfl⟩;by_cases hre:re=0
 ·subst hre;rw [if_neg (by simp)] at htk;by_cases hlim:most<0\/most<(rn:Int)
  ·rw [if_pos hlim] at htk;have Htk:=za htk;clear htk hk4;by_cases hm0:most<0
   ·go_wp2
    go_ret3
    exact Vk Htk.out (by decide) (Below.refl _ _)
   obtain ⟨mo,rfl⟩:=Int.eq_ofNat_of_zero_le (by omega:0<=most);have db:decide ((mo:Int)<(rn:Int))=true:=(by simp;omega);go_wp2
   go_ret3
   exact Vk Htk.out (by decide) (Below.refl _ _)
  rw [if_neg hlim] at htk;obtain ⟨mo,rfl⟩:=Int.eq_ofNat_of_zero_le (by omega:0<=most);have db:decide ((mo:Int)<(rn:Int))=false:=by simp;omega
  have hmn:rn<=mo:=by omega
  clear hlim hk4;by_cases hlen:m-rk<rn
  ·rw [if_pos hlen] at htk;have Htk:=za htk;clear htk;go_wp2
   go_ret3
   exact Vk Htk.out (by decide) (Below.refl _ _)
  rw [if_neg hlen] at htk;have Htk:=za htk;clear htk;have hrm:rn<=1099511627776:=by omega
  obtain ⟨en,hen⟩:∃ en,rk+rn=en:=⟨_,rfl⟩;have henI:(rk:Int)+(rn:Int)=(en:Int):=by omega
  have Hen:=za hen;have h1:rk<=en:=by omega
  have h2:en<=m:=by omega
  have h3:en<=c:=by omega
  have hcut:=hr.cut (k:=rk) (cap:=c) hk1 hm;rw [Nat.mul_one,yw] at hcut;have hhead:=hcut.head (k:=en-rk) (by omega);rw [Nat.mul_one,Yc] at hhead;obtain ⟨A2,hA2⟩:∃ A2,(if c=rk then A else Option.map (fun x=>x.add rk) A)=A2:=⟨_,rfl⟩;rw [hA2] at hhead;have hC:=zK w 35 9 5 Tryz.underlying35 Tryz.underlying5 Tryz.underlying9 _ A2 (en-rk) (c-rk) _ hhead;have Htxt:=za (show txt ((r.drop rk).take (en-rk))=txt ((r.drop rk).take rn) from by rw [<-hen,Nat.add_sub_cancel_left]);change _=Result.ok (Value.string (txt ((r.drop rk).take (en-rk)))) w at hC;rw [Htxt.out] at hC;generalize txt ((r.drop rk).take rn)=s at hC Htk;clear hcut hhead hen hr;go_wp2
  go_ret3
  exact ahd Htk.out (by have:=Hen.out;omega) (by have:=Hen.out;omega) (Below.refl _ _)
 rw [if_pos hre] at htk;have hn:((re:Int)==0)=false:=by simp;omega
 have hn2:((re:Int) != 0)=true:=by simp;omega
 have Htk:=za htk;have Hre:=za hre;clear htk hk4 hre;go_wp2
 go_ret3
 exact Vk Htk.out Hre.out (Below.refl _ _)
def zV (xs:List UInt8) (p e:Nat) (most:Int):ByteArray×Nat×Nat:=
 if e≠0 then (⟨#[]⟩,p,e) else match y8 most (xs.drop p) with
  | .error er=>(⟨#[]⟩,p,er)
  | .ok (s,n)=>(s,p+n,0)
theorem afS (g:Nat) (xs:List UInt8) (p e:Nat) (most:Int) (w:World) (h:PRd w g xs p e) (hl:xs.length<=1099511627776) (hmo:most<=9223372036854775807) :
  Calls Tryz.prog 144 #[.pointer (some ⟨g,0,none⟩),.int .i64 most] w (Asked g xs (.string (zV xs p e most).1) (zV xs p e most).2.1 (zV xs p e most).2.2 w):=by
 have hglt:=h.lt;have H:=za h;clear h;by_cases he:e=0
 ·subst he;have hv:zV xs p 0 most=zV xs p 0 most:=rfl
  conv at hv=>rhs;unfold zV;rw [if_neg (by simp)]
  have Hv:=za hv;clear hv;go_enter Tryz.func144,Tryz.ntmps144;go_wp2_with fail
  have hb1:Below w.heap.size w (w.alloc (.cells #[.int .i64 most] 3)):=(Below.refl _ _).alloc (Nat.le_refl _) _;with_reducible refine (afu g xs p (U0 most (xs.drop p)) (TextG most (xs.drop p)) ⟨w.heap.size,0,none⟩ _ (H.out.on hb1) (by omega) (fun v a b h _ hg=>h.keep) ?_).mono ?_
  ·intro A c hr h1 h2;exact afq A (xs.length-p) c (xs.drop p) most ⟨w.heap.size,0,none⟩ _ hr h1 h2 (by simp) (by simp) (by omega) hmo
  rintro e w2 ⟨hg,hcase⟩;have hg0:w.grownBy w2 (some g):=(qx hb1).trans hg;rcases hcase with ⟨er,her,hres,rfl,hp⟩ | ⟨v,k,hres,⟨s,n,hs,rfl⟩,rfl,hpn,hp⟩
  ·have hv:zV xs p 0 most=(⟨#[]⟩,p,er):=by
    rw [Hv.out];unfold U0 at hres;rcases ht:y8 most (xs.drop p) with e2 | ⟨s,n⟩
    ·rw [ht] at hres
     injection hres with hres
     rw [hres]
    rw [ht] at hres;cases hres
   have Hv2:=za hv;clear hv hres her hb1;go_wp2;go_ret;unfold Asked;rw [Hv2.out];exact ⟨rfl,hg0,hp⟩
  have hv:zV xs p 0 most=(s,p+n,0):=by rw [Hv.out,hs]
  have hkn:k=n:=by
   unfold U0 at hres;rw [hs] at hres
   injection hres with hres
   exact hres.symm
  subst hkn;have Hv2:=za hv;clear hv hres hs hb1;go_wp2;go_ret;unfold Asked;rw [Hv2.out];exact ⟨rfl,hg0,hp⟩
 have hv:zV xs p e most=(⟨#[]⟩,p,e):=by unfold zV;rw [if_pos he]
 have Hv:=za hv;have He:=za he;clear hv he;have hb1:Below w.heap.size w (w.alloc (.cells #[.int .i64 most] 3)):=(Below.refl _ _).alloc (Nat.le_refl _) _;have H1:=za (H.out.on hb1);go_enter Tryz.func144,Tryz.ntmps144;go_wp2_with fail
 with_reducible refine (adX g xs p e _ _ H1.out He.out).mono ?_
 rintro e w2 ⟨rfl,rfl⟩;have hg0:w.grownBy _ (some g):=qx hb1;clear hb1;go_wp2;go_ret;unfold Asked;rw [Hv.out];exact ⟨rfl,hg0,H1.out⟩
end
section
def yL (c:UInt8):Bool:=decide (97<=c.toNat/\c.toNat<=122)||decide (48<=c.toNat/\c.toNat<=57)||decide (c.toNat=95)
def ae5:List UInt8->Bool
 | []=>false
 | c::l=>decide (l.length<32)&&decide (97<=c.toNat/\c.toNat<=122)&&l.all yL
def qa (s:ByteArray):Bool:=ae5 s.data.toList
def nameS:List UInt8:=[97,98,99,100,101,102,103,104,105,106,107,108,109,110,111,112,113,114,115,116,117,118,119,120,121,122,48,49,50,51,52,53,54,55,56,57,95]
theorem acA (c:UInt8):nameS.contains c=yL c:=by
 have key:∀ n:Fin 256,nameS.contains (UInt8.ofNat n.val)=yL (UInt8.ofNat n.val):=by decide +kernel
 have:=key ⟨c.toNat,UInt8.toNat_lt c⟩;simpa using this
theorem acC {c:UInt8} (h:yL c=true):c.toNat<128:=by
 unfold yL at h;simp only [Bool.or_eq_true,decide_eq_true_eq] at h;omega
theorem acB (l:List UInt8):ae5 l=(decide (0<l.length)&&decide (l.length<=32)&&decide (97<=(l.getD 0 0).toNat/\(l.getD 0 0).toNat<=122)&&l.all yL):=by
 cases l with
 | nil=>rfl
 | cons c l=>
  have h:decide (97<=c.toNat/\c.toNat<=122)=true->yL c=true:=by
   intro h;unfold yL;rw [h];rfl
  simp only [ae5,List.length_cons,List.getD_cons_zero,List.all_cons,Nat.succ_pos,decide_true,Bool.true_and];rw [show decide (l.length+1<=32)=decide (l.length<32) from by congr 1];cases hc:decide (97<=c.toNat/\c.toNat<=122) with
  | true=>rw [h hc];simp
  | false=>simp
theorem agQ (l:List UInt8):(Lib.trimS l nameS).length=0 ↔ l.all yL=true:=by
 have hd:∀ m:List UInt8,(m.dropWhile (nameS.contains ·)).length=0 ↔ m.all yL=true:=by
  intro m
  induction m with
  | nil=>simp
  | cons c m ih=>
   rw [List.dropWhile_cons,acA,List.all_cons];cases yL c with
   | true=>simpa using ih
   | false=>simp
 unfold Lib.trimS Lib.trimLeftS Lib.trimRightS;rw [hd,List.all_reverse,<-List.all_reverse (l:=l)];constructor
 ·intro h;have h1:∀ m:List UInt8,(m.dropWhile (nameS.contains ·)).all yL=true->m.all yL=true:=by
   intro m
   induction m with
   | nil=>simp
   | cons c m ih=>
    rw [List.dropWhile_cons,acA,List.all_cons];cases hc:yL c with
    | true=>simpa using ih
    | false=>
     rw [if_neg (by simp),List.all_cons,hc];simp
  exact h1 _ h
 intro h;have h1:=(hd l.reverse).2 h;rw [List.eq_nil_of_length_eq_zero h1];rfl
end
section
open Go.RowKit
def Zn (a b:ByteArray):Bool:=Go.Op.bytesLess a.data.toList b.data.toList
def qJ (a b:Cl):Int:=
 if a.1=b.1 then (if Lib.compareInt a.2.1 b.2.1≠0 then Lib.compareInt a.2.1 b.2.1 else Lib.compareBytes a.2.2.data.toList b.2.2.data.toList)
 else if a.1 then -1 else 1
def Zb:List Cl->List Cl->Int
 | [],[]=>0
 | [],_::_ => -1
 | _::_,[]=>1
 | a::l,b::m=>if qJ a b=0 then Zb l m else qJ a b
theorem Xu:∀ a b:List UInt8,(Go.Op.bytesLess a b=true/\Go.Op.bytesLess b a=false/\Lib.compareBytes a b = -1/\a≠b)\/(Go.Op.bytesLess b a=true/\Go.Op.bytesLess a b=false/\Lib.compareBytes a b=1/\a≠b)\/(a=b/\Go.Op.bytesLess a b=false/\Go.Op.bytesLess b a=false/\Lib.compareBytes a b=0)
 | [],[]=>.inr (.inr ⟨rfl,rfl,rfl,rfl⟩)
 | [],_::_=>.inl ⟨rfl,rfl,rfl,by simp⟩
 | _::_,[]=>.inr (.inl ⟨rfl,rfl,rfl,by simp⟩)
 | x::a,y::b=>by
  unfold Go.Op.bytesLess Lib.compareBytes;rcases Nat.lt_trichotomy x.toNat y.toNat with h | h | h
  ·have h1:x<y:=UInt8.lt_iff_toNat_lt.2 h;have h2:¬y<x:=fun h=>(by have:=UInt8.lt_iff_toNat_lt.1 h;omega);have hne:x≠y:=fun e=>(by subst e;omega);exact .inl ⟨by simp [h1],by simp [h2,Ne.symm hne],by rw [if_pos h1],by simp [hne]⟩
  ·have he:x=y:=UInt8.toNat_inj.1 h;subst he;have h1:¬x<x:=fun h=>(by have:=UInt8.lt_iff_toNat_lt.1 h;omega);rw [if_neg h1,if_neg h1];rcases Xu a b with ⟨p,q,r,s⟩ | ⟨p,q,r,s⟩ | ⟨p,q,r,s⟩
   ·exact .inl ⟨by simp [p],by simp [h1,q],r,by simp [s]⟩
   ·exact .inr (.inl ⟨by simp [p],by simp [h1,q],r,by simp [s]⟩)
   exact .inr (.inr ⟨by simp [p],by simp [h1,q],by simp [h1,r],s⟩)
  have h1:y<x:=UInt8.lt_iff_toNat_lt.2 h;have h2:¬x<y:=fun h=>by have:=UInt8.lt_iff_toNat_lt.1 h;omega
  have hne:x≠y:=fun e=>by subst e;omega
  exact .inr (.inl ⟨by simp [h1],by simp [h2,hne],by rw [if_neg h2,if_pos h1],by simp [hne]⟩)
theorem Xt (x y:Int):(x<y/\Lib.compareInt x y = -1)\/(y<x/\Lib.compareInt x y=1)\/(x=y/\Lib.compareInt x y=0):=by
 unfold Lib.compareInt;by_cases h1:x<y
 ·exact .inl ⟨h1,by rw [if_pos h1]⟩
 by_cases h2:x>y
 ·exact .inr (.inl ⟨h2,by rw [if_neg h1,if_pos h2]⟩)
 exact .inr (.inr ⟨by omega,by rw [if_neg h1,if_neg h2]⟩)
theorem aeB (a:Cl):qJ a a=0:=by
 unfold qJ;rw [if_pos rfl];rcases Xt a.2.1 a.2.1 with ⟨h,-⟩ | ⟨h,-⟩ | ⟨-,h⟩
 ·omega
 ·omega
 rw [h,if_neg (by simp)];rcases Xu a.2.2.data.toList a.2.2.data.toList with ⟨-,-,-,h⟩ | ⟨-,-,-,h⟩ | ⟨-,-,-,h⟩
 ·exact absurd rfl h
 ·exact absurd rfl h
 exact h
theorem abm {a b:List Cl} {k:Nat} {x y:Cl} (h1:a[k]? = some x) (h2:b[k]? = some y):Zb (a.drop k) (b.drop k)=if qJ x y=0 then Zb (a.drop (k+1)) (b.drop (k+1)) else qJ x y:=by
 obtain ⟨g1,rfl⟩:=List.getElem?_eq_some_iff.1 h1;obtain ⟨g2,rfl⟩:=List.getElem?_eq_some_iff.1 h2;rw [List.drop_eq_getElem_cons g1,List.drop_eq_getElem_cons g2,Zb]
theorem adb {a b:List Cl} {k:Nat} (h:k=min a.length b.length):Zb (a.drop k) (b.drop k)=Lib.compareInt a.length b.length:=by
 have e1:a.length<=k->a.drop k=[]:=fun h=>List.drop_of_length_le h;have e2:b.length<=k->b.drop k=[]:=fun h=>List.drop_of_length_le h;rcases Xt (a.length:Int) (b.length:Int) with ⟨h1,h2⟩ | ⟨h1,h2⟩ | ⟨h1,h2⟩
 ·rw [h2,e1 (by omega),List.drop_eq_getElem_cons (l:=b) (i:=k) (by omega)];rfl
 ·rw [h2,e2 (by omega),List.drop_eq_getElem_cons (l:=a) (i:=k) (by omega)];rfl
 rw [h2,e1 (by omega),e2 (by omega)];rfl
theorem ae8 (a b:ByteArray):(!Zn a b)=(Zn b a||decide (b=a)):=by
 unfold Zn;have he:∀ h:a.data.toList=b.data.toList,a=b:=fun h=>ByteArray.ext (Array.toList_inj.1 h);rcases Xu a.data.toList b.data.toList with ⟨p,q,-,s⟩ | ⟨p,q,-,s⟩ | ⟨p,q,r,-⟩
 ·rw [p,q,decide_eq_false (fun h=>s (by rw [h]))];rfl
 ·rw [p,q];rfl
 rw [q,decide_eq_true (he p).symm];simp
end
section
open Go.RowKit
abbrev Sc:=List Co×List Int
abbrev Mk:=ByteArray×Int
abbrev St:=Int×Int×List Mk×List It×List UInt8
def zn {α:Type} (f:Option α->α->Bool):Option α->List α->Bool
 | _,[]=>true
 | p,x::l=>f p x&&zn f (some x) l
def zu {α:Type} (l:List α) (i:Nat):Option α:=if i=0 then none else l[i-1]?
theorem Vx {α:Type} {l:List α} {i:Nat} {x:α} (h:l[i]? = some x):l.drop i=x::l.drop (i+1):=by
 obtain ⟨hi,rfl⟩:=List.getElem?_eq_some_iff.1 h;exact List.drop_eq_getElem_cons hi
theorem qI {α:Type} (f:Option α->α->Bool) {l:List α} {i:Nat} {x:α} (h:l[i]? = some x) :
  zn f (zu l i) (l.drop i)=(f (zu l i) x&&zn f (zu l (i+1)) (l.drop (i+1))):=by
 have hp:zu l (i+1)=some x:=by unfold zu;rw [if_neg (by omega)];exact h
 rw [Vx h,zn,hp]
theorem ZE {α:Type} (f:Option α->α->Bool) {l:List α} {i:Nat} (h:l.length<=i):zn f (zu l i) (l.drop i)=true:=by
 rw [List.drop_of_length_le h];rfl
theorem Vf {α:Type} {f:Option α->α->Bool}:∀ {p:Option α} {l:List α},zn f p l=true->∀ x∈l,∃ q,f q x=true
 | _,[],_,x,hx=>by simp at hx
 | p,y::l,h,x,hx=>by
  rw [zn,Bool.and_eq_true] at h;rcases List.mem_cons.1 hx with rfl | hx
  ·exact ⟨p,h.1⟩
  exact Vf h.2 x hx
def qZ (lo hi:Int) (p:Option Int) (x:Int):Bool:=decide (lo<=x/\x<=hi)&&p.all (fun y=>decide (y<x))
def yE (lo hi:Int) (l:List Int):Bool:=zn (qZ lo hi) none l
def Ul (x:ByteArray) (l:List ByteArray):Bool:=l.any fun y=>decide (y=x)
def qU:List ByteArray->Bool
 | []=>true
 | x::l => !Ul x l&&qU l
def Zt (c:Co):Bool:=qa c.2.1&&zw c.2.2.1 c.2.2.2.1 c.2.2.2.2==0
def ZS (cs:List Co) (k:Int):Bool:=match cs[k.toNat]? with | some c => !c.2.2.2.1 | none=>false
def z8 (s:Sc):Bool:=
 s.1.all Zt&&decide (1<=s.1.length/\s.1.length<=32)&&qU (s.1.map (·.2.1))&&yE 1 1048576 (s.1.map (·.1)) &&
 decide (s.2.length<=8)&&yE 0 ((s.1.length:Int)-1) s.2&&s.2.all (ZS s.1)
def aca (s:Sc):Int:=if z8 s then 0 else 2
def yi (p:Option Mk) (m:Mk):Bool:=qa m.1&&decide (0<=m.2/\m.2<=9007199254740991)&&p.all (fun q=>Zn q.1 m.1)
def yb (l:List Mk):Bool:=zn yi none l&&decide (l.length<=16)
def zsF (p:Option It) (it:It):Bool:=decide (it.2≠0)&&p.all (fun q=>decide (Zb q.1 it.1<0))
def zsB (l:List It):Bool:=zn zsF none l
def Yj (cs:List Co) (it:It):Bool:=decide (it.2=1)&&qm cs it.1==0
def qN (cs:List Co) (l:List It):Bool:=decide (l.length<=4096)&&l.all (Yj cs)&&zsB l
def stB (s:Sc) (st:St):Bool:=
 z8 s&&decide (1<=st.1/\st.1<=64/\0<=st.2.1)&&decide (st.2.2.2.2.length<=1048576)&&yb st.2.2.1&&qN s.1 st.2.2.2.1
def Zi (s:Sc) (st:St):Int:=if stB s st then 0 else 2
def asC (c:Co):Co:=(c.1,c.2.1,if c.2.2.1=2 then 3 else c.2.2.1,c.2.2.2)
def Xg (c d:Co):Bool:=decide (asC c=asC d) && !(decide (c.2.2.1=3)&&decide (d.2.2.1=2))
def Ym (s:Sc):List Int:=s.2.map fun k=>((s.1[k.toNat]?).map (·.1)).getD 0
def V1 (a:Sc) (above:Int) (d:Co):Bool:=match a.1.find? (fun c=>decide (c.1=d.1)) with | some c=>Xg c d | none=>decide (above<d.1)
def aaM (a b:Sc) (above:Int):Bool:=b.1.all (V1 a above)&&decide (Ym a=Ym b)
def YQ (s:Sc):Int:=match s.1.getLast? with | some c=>c.1 | none=>0
def y5:Int->Option Sc->List Sc->Bool
 | _,_,[]=>true
 | above,p,s::l=>p.all (fun q=>aaM q s above)&&y5 (max above (YQ s)) (some s) l
def yQ (l:List Sc):Int:=if 64<l.length then 5 else if l.all z8 then (if y5 0 none l then 0 else 120) else 2
def ql (b:List UInt8):List UInt8:=leb b.length++b
def qi (l:List Mk):List UInt8:=l.flatMap fun m=>yx m.1++leb m.2.toNat
def agf (st:St):List UInt8:=leb st.1.toNat++(leb st.2.1.toNat++leb st.2.2.1.length)
def acQ (s:Sc) (st:St):List UInt8:=agf st++(qi st.2.2.1++(ql (yN s.1 (st.1,st.2.1,st.2.2.2.1))++ql st.2.2.2.2))
def ZB (s:Sc) (st:St):List UInt8:=[77,73,1]++acQ s st
def ZV (s:Sc) (st:St):List UInt8:=ZB s st++yj (zZ (ZB s st))
abbrev MkS:=List Mk×Nat×Nat
def ae6 (xs:List UInt8) (s:MkS):MkS:=
 (s.1 ++ [((zV xs s.2.1 s.2.2 32).1, toI (YI xs (zV xs s.2.1 s.2.2 32).2.1 (zV xs s.2.1 s.2.2 32).2.2).1)],
  (YI xs (zV xs s.2.1 s.2.2 32).2.1 (zV xs s.2.1 s.2.2 32).2.2).2)
def yM (xs:List UInt8) (s:MkS):Nat->MkS
 | 0=>s
 | n+1=>ae6 xs (yM xs s n)
def YP (s:Sc) (xs:List UInt8) (v q:Int) (ms:List Mk) (p e:Nat):Got St:=
 match qj s.1 (zV xs p e 2147483647).1.data.toList with
 | .error _=>.error 280
 | .ok b=>
  if b.1=v/\b.2.1=q then
   (if Jl (xs.length-(zV xs (zV xs p e 2147483647).2.1 (zV xs p e 2147483647).2.2 1048576).2.1) (zV xs (zV xs p e 2147483647).2.1 (zV xs p e 2147483647).2.2 1048576).2.2=0 /\
     stB s (v,q,ms,b.2.2,(zV xs (zV xs p e 2147483647).2.1 (zV xs p e 2147483647).2.2 1048576).1.data.toList)=true
    then .ok (v,q,ms,b.2.2,(zV xs (zV xs p e 2147483647).2.1 (zV xs p e 2147483647).2.2 1048576).1.data.toList) else .error 280)
  else .error 280
def v1 (xs:List UInt8):=YI xs 0 0
def v2 (xs:List UInt8):=YI xs (v1 xs).2.1 (v1 xs).2.2
def v3 (xs:List UInt8):=YI xs (v2 xs).2.1 (v2 xs).2.2
def qh (s:Sc) (xs:List UInt8):Got St:=
 if (v3 xs).2.2=0/\(v3 xs).1<=16 then
  YP s xs (toI (v1 xs).1) (toI (v2 xs).1) (yM xs ([],(v3 xs).2) (v3 xs).1).1 (yM xs ([],(v3 xs).2) (v3 xs).1).2.1 (yM xs ([],(v3 xs).2) (v3 xs).1).2.2
 else .error 280
def qL (l:List Sc) (xs:List UInt8):Got St:=
 if yQ l≠0 then .error 2
 else if xs.length<4 then .error 3
 else if yj (zZ (xs.take (xs.length-4)))≠xs.drop (xs.length-4) then .error 170
 else if (xs.take (xs.length-4)).take 3≠[77,73,1]\/(get ((xs.take (xs.length-4)).drop 3)).2.2≠0 then .error 280
 else match (if (get ((xs.take (xs.length-4)).drop 3)).1=0 then none else l[(get ((xs.take (xs.length-4)).drop 3)).1-1]?) with
  | none=>.error 131
  | some s=>qh s ((xs.take (xs.length-4)).drop 3)
end
section
open Go.RowKit
theorem UF {n:Nat} (h:n<9223372036854775808):toI n=(n:Int):=by
 unfold toI wrap64;omega
theorem V5 {xs r:List UInt8} {p n:Nat} (hn:n<18446744073709551616) (h:xs.drop p=leb n++r):YI xs p 0=(n,p+(leb n).length,0)/\xs.drop (p+(leb n).length)=r:=by
 unfold YI;rw [if_neg (by simp),h,Zj n hn r,if_neg (by simp)];refine ⟨rfl,?_⟩;rw [<-List.drop_drop,h,List.drop_left]
theorem aje {most:Int} {b:List UInt8} {s:ByteArray} {n:Nat} (h:y8 most b=.ok (s,n)):(s.size:Int)<=most/\n=(yx s).length/\b=yx s++b.drop n:=by
 unfold y8 at h
 split at h
 ·cases h
 rename_i h0
 split at h
 ·cases h
 rename_i h1
 split at h
 ·cases h
 rename_i h2
 simp only [Except.ok.injEq,Prod.mk.injEq] at h;obtain ⟨hs,hn⟩:=h;rcases qt b with ⟨m,hg,hm,hl,ht⟩ | ⟨e2,hg,he2,-⟩
 ·rw [hg] at h0 h1 h2 hs hn;simp only at h0 h1 h2 hs hn;have hsz:s.size=m:=by
   rw [<-hs];show ((b.drop (leb m).length).take m).toArray.size=m;simp only [List.size_toArray,List.length_take,List.length_drop];omega
  have hd:s.data.toList=(b.drop (leb m).length).take m:=by rw [<-hs];rfl
  refine ⟨by omega,?_,?_⟩
  ·rw [<-hn];unfold yx;rw [List.length_append,qb,hsz]
  unfold yx;rw [hd,hsz,<-hn,<-List.drop_drop,List.append_assoc,List.take_append_drop]
  conv=>lhs;rw [<-List.take_append_drop (leb m).length b,<-ht]
 rw [hg] at h0;exact absurd he2 h0
theorem ahN {most:Int} {s:ByteArray} {r:List UInt8} (h0:0<=most) (hs:(s.size:Int)<=most) (hlt:s.size<18446744073709551616):y8 most (yx s++r)=.ok (s,(yx s).length):=by
 unfold yx;unfold y8;rw [List.append_assoc,Zj _ hlt,if_neg (by simp),if_neg (by simp only [];omega)];have hl:¬((leb s.size++(s.data.toList++r)).length-(leb s.size).length<s.size):=by
  rw [List.length_append,List.length_append,qb];omega
 simp only [];rw [if_neg hl,List.drop_left,List.take_append_of_le_length (by rw [qb];exact Nat.le_refl _),List.take_of_length_le (by rw [qb];exact Nat.le_refl _)];simp [txt,qb]
theorem UG {xs r:List UInt8} {p:Nat} {most:Int} {s:ByteArray} (h0:0<=most) (hs:(s.size:Int)<=most) (hlt:s.size<18446744073709551616) (h:xs.drop p=yx s++r) :
  zV xs p 0 most=(s,p+(yx s).length,0)/\xs.drop (p+(yx s).length)=r:=by
 unfold zV;rw [if_neg (by simp),h,ahN h0 hs hlt];refine ⟨rfl,?_⟩;rw [<-List.drop_drop,h,List.drop_left]
theorem JK (b:List UInt8):ql b=yx (txt b):=by
 unfold ql yx txt;simp [<-ByteArray.size_data]
structure StOk (s:Sc) (st:St):Prop where
 sch:z8 s=true
 v:1<=st.1/\st.1<=64
 q:0<=st.2.1
 last:st.2.2.2.2.length<=1048576
 mkk:∀ m∈st.2.2.1,m.1.size<=32/\0<=m.2/\m.2<=9007199254740991
 many:st.2.2.1.length<=16
 rows:st.2.2.2.1.length<=4096
 items:∀ it∈st.2.2.2.1,it.2=1/\qm s.1 it.1=0
theorem aec {s:ByteArray} (h:qa s=true):s.size<=32:=by
 unfold qa at h;rw [<-qb];generalize s.data.toList=l at *;cases l with
 | nil=>simp
 | cons c l=>
  simp only [ae5,Bool.and_eq_true,decide_eq_true_eq] at h;simp only [List.length_cons];omega
theorem Jp {s:Sc} {st:St} (h:stB s st=true):StOk s st:=by
 unfold stB at h;simp only [Bool.and_eq_true,decide_eq_true_eq] at h;obtain ⟨⟨⟨⟨h1,h2,h3,h4⟩,h5⟩,h6⟩,h7⟩:=h;unfold yb at h6;unfold qN at h7;simp only [Bool.and_eq_true,decide_eq_true_eq] at h6 h7;refine ⟨h1,⟨h2,h3⟩,h4,h5,fun m hm=>?_,h6.2,h7.1.1,fun it hit=>?_⟩
 ·obtain ⟨q,hq⟩:=Vf h6.1 m hm;unfold yi at hq;simp only [Bool.and_eq_true,decide_eq_true_eq] at hq;exact ⟨aec hq.1.1,hq.1.2⟩
 have:=List.all_eq_true.1 h7.1.2 it hit;unfold Yj at this;simpa using this
theorem ag2 {s:Sc} (h:z8 s=true):yD s.1=true:=by
 unfold z8 at h;simp only [Bool.and_eq_true,decide_eq_true_eq] at h;obtain ⟨⟨⟨⟨⟨⟨h1,h2⟩,-⟩,-⟩,-⟩,-⟩,-⟩:=h;unfold yD;simp only [Bool.and_eq_true,decide_eq_true_eq];refine ⟨h2,List.all_eq_true.2 fun c hc=>?_⟩;have:=List.all_eq_true.1 h1 c hc;unfold Zt at this;simp only [Bool.and_eq_true,beq_iff_eq] at this;have h3:=this.2;unfold zw at h3;by_cases hk:yZ c.2.2.1=true
 ·exact hk
 rw [if_neg hk] at h3;cases h3
theorem StOk.fits {s:Sc} {st:St} (h:StOk s st):Fits s.1 (st.1,st.2.1,st.2.2.2.1):=by
 have h1:=h.v;have h2:=h.rows;refine ⟨ag2 h.sch,by simp only;omega,by simp only;omega,h.q,by simp only;omega,fun it hit=>?_⟩;obtain ⟨h3,h4⟩:=h.items it hit;exact ⟨h4,by rw [h3];decide⟩
theorem StOk.baok {s:Sc} {st:St} (h:StOk s st) (hq:st.2.1<=9223372036854775807):Jm (st.1,st.2.1,st.2.2.2.1):=by
 refine ⟨hq,fun it hit=>?_⟩;rw [(h.items it hit).1]
 decide
theorem StOk.enc_le {s:Sc} {st:St} (h:StOk s st):(yN s.1 (st.1,st.2.1,st.2.2.2.1)).length<=140000000:=by
 have h1:=h.fits.colsB_le s.1.length;have h2:=acU st.1 st.2.1 st.2.2.2.1.length;have h3:=agM st.2.2.2.1;have h4:=(Vp h.fits.may).2;have h5:=h.rows;simp only at h1;have h6:s.1.length*(10+1046*st.2.2.2.1.length)<=32*(10+1046*4096):=Nat.mul_le_mul (by omega) (by omega);rw [Ut];unfold yf;simp only [List.length_append];omega
theorem af9 {l:List Mk} (h:∀ m∈l,m.1.size<=32/\0<=m.2/\m.2<=9007199254740991):(qi l).length<=52*l.length:=by
 induction l with
 | nil=>simp [qi]
 | cons m l ih=>
  have h1:=ih fun x hx=>h x (by simp [hx]);have h2:=(h m (by simp)).1;have h3:=zE m.1.size;have h4:=zE m.2.toNat;have h5:=qb m.1;simp only [qi,yx,List.flatMap_cons,List.length_append,List.length_cons] at *;omega
theorem aaL (l m:List Mk):qi (l++m)=qi l++qi m:=by unfold qi;rw [List.flatMap_append]
theorem abb {xs r:List UInt8} (l:List Mk) (p:Nat) (t:List Mk) (hm:∀ m∈l,m.1.size<=32/\0<=m.2/\m.2<=9007199254740991) (h:xs.drop p=qi l++r) :
  ∀ n,n<=l.length->∃ p',yM xs (t,p,0) n=(t++l.take n,p',0)/\xs.drop p'=qi (l.drop n)++r
 | 0,_=>⟨p,by simp [yM],by simpa using h⟩
 | n+1,hn=>by
  obtain ⟨p1,h1,h2⟩:=abb l p t hm h n (by omega);obtain ⟨m,hlm⟩:∃ m,l[n]? = some m:=⟨_,List.getElem?_eq_getElem (by omega)⟩;obtain ⟨g1,g2,g3⟩:=hm m (List.mem_of_getElem? hlm);have h3:qi (l.drop n)++r=yx m.1++(leb m.2.toNat++(qi (l.drop (n+1))++r)):=by rw [Vx hlm];simp [qi]
  rw [h3] at h2;obtain ⟨k1,k2⟩:=UG (most:=32) (by decide) (by omega) (by omega) h2;obtain ⟨j1,j2⟩:=V5 (by omega) k2;refine ⟨p1+(yx m.1).length+(leb m.2.toNat).length,?_,j2⟩;rw [yM,h1];unfold ae6;simp only;rw [k1];simp only;rw [j1];simp only;rw [UF (by omega),List.take_add_one,hlm];have:((m.2.toNat:Nat):Int)=m.2:=by omega
  rw [this];simp
theorem acu {s:Sc} {st:St} (h:stB s st=true) (hq:st.2.1<=9223372036854775807):qh s (acQ s st)=.ok st:=by
 have H:=Jp h;obtain ⟨v,q,ms,l,last⟩:=st;obtain ⟨hv1,hv2⟩:=H.v;have hq0:=H.q;have hmm:=H.many;have hle:=H.enc_le;have hla:=H.last;have hbk:=H.fits.back (H.baok hq);have hmk:=H.mkk;simp only at hv1 hv2 hq0 hmm hle hla hbk hmk hq;generalize hxs:acQ s (v,q,ms,l,last)=xs;have e0:xs.drop 0=leb v.toNat++(leb q.toNat++(leb ms.length++(qi ms++(yx (txt (yN s.1 (v,q,l)))++yx (txt last))))):=by
  rw [<-hxs];simp only [acQ,agf,JK,List.drop_zero,List.append_assoc]
 obtain ⟨a1,a2⟩:=V5 (by omega) e0;obtain ⟨b1,b2⟩:=V5 (by omega) a2;obtain ⟨c1,c2⟩:=V5 (by omega) b2;obtain ⟨p4,d1,d2⟩:=abb ms _ [] hmk c2 ms.length (Nat.le_refl _);rw [List.take_length] at d1;rw [List.drop_length,show qi []=[] from rfl,List.nil_append] at d2;have hts:(txt (yN s.1 (v,q,l))).size=(yN s.1 (v,q,l)).length:=by unfold txt;simp [<-ByteArray.size_data]
 have hls:(txt last).size=last.length:=by unfold txt;simp [<-ByteArray.size_data]
 obtain ⟨f1,f2⟩:=UG (most:=2147483647) (by decide) (by rw [hts];omega) (by rw [hts];omega) d2;rw [<-List.append_nil (yx (txt last))] at f2;obtain ⟨g1,g2⟩:=UG (most:=1048576) (by decide) (by rw [hls];omega) (by rw [hls];omega) f2;have hv1e:v1 xs=(v.toNat,0+(leb v.toNat).length,0):=a1;have hv2e:v2 xs=(q.toNat,0+(leb v.toNat).length+(leb q.toNat).length,0):=by unfold v2;rw [hv1e];exact b1
 have hv3e:v3 xs=(ms.length,0+(leb v.toNat).length+(leb q.toNat).length+(leb ms.length).length,0):=by unfold v3;rw [hv2e];exact c1
 unfold qh;rw [hv1e,hv2e,hv3e];simp only;rw [if_pos ⟨trivial,hmm⟩,d1,UF (by omega),UF (by omega)];simp only [List.nil_append];have t1:((v.toNat:Nat):Int)=v:=by omega
 have t2:((q.toNat:Nat):Int)=q:=by omega
 rw [t1,t2];unfold YP;rw [f1];simp only;rw [g1];simp only;rw [show (txt (yN s.1 (v,q,l))).data.toList=yN s.1 (v,q,l) from rfl,hbk,show (txt last).data.toList=last from rfl];simp only [and_self,if_true];rw [if_pos];refine ⟨?_,h⟩;have hz:xs.length-(p4+(yx (txt (yN s.1 (v,q,l)))).length+(yx (txt last)).length)=0:=by
  have:=congrArg List.length g2;rw [List.length_drop] at this;simpa using this
 rw [hz];rfl
theorem Un (s:Sc) (st:St):(ZV s st).length=(ZB s st).length+4:=by simp [ZV,ab6]
theorem agh (s:Sc) (st:St):4<=(ZV s st).length:=by rw [Un];omega
theorem aep (s:Sc) (st:St):(ZV s st).take ((ZV s st).length-4)=ZB s st/\(ZV s st).drop ((ZV s st).length-4)=yj (zZ (ZB s st)):=by
 have hl:(ZV s st).length-4=(ZB s st).length:=by rw [Un];omega
 rw [hl];unfold ZV;exact ⟨List.take_left,List.drop_left⟩
theorem acv {l:List Sc} {s:Sc} {st:St} (hc:yQ l=0) (h:stB s st=true) (hq:st.2.1<=9223372036854775807) (hs:l[(st.1-1).toNat]? = some s):qL l (ZV s st)=.ok st:=by
 obtain ⟨h1,h2⟩:=aep s st;have H:=Jp h;have hv:=H.v;unfold qL;rw [if_neg (by rw [hc];simp),if_neg (by have:=agh s st;omega),h1,h2,if_neg (by simp)];have h3:(ZB s st).take 3=[77,73,1]:=rfl;have h4:(ZB s st).drop 3=acQ s st:=rfl;have h5:get (acQ s st)=(st.1.toNat,(leb st.1.toNat).length,0):=by
  unfold acQ agf;rw [List.append_assoc];exact Zj _ (by omega) _
 rw [h3,h4,h5,if_neg (by simp)];simp only;rw [if_neg (by omega),show st.1.toNat-1=(st.1-1).toNat by omega,hs];exact acu h hq
theorem agE {s:Sc} (h:z8 s=true):yQ [s]=0:=by
 unfold yQ;rw [if_neg (by simp),if_pos (by simp [h]),if_pos (by simp [y5])]
theorem Vu {s:Sc} {st:St}:Zi s st=0 ↔ stB s st=true:=by
 unfold Zi;cases stB s st<;>simp
end
section
open Go.RowKit
theorem agr (A B:Option Addr) (n c m d:Nat) (l1 l2:List Cl) (w:World) (h1:Reads w w.heap.size 3 A n (cls l1)) (h2:Reads w w.heap.size 3 B m (cls l2)) (hn:n<=maxLen) :
  Calls Tryz.prog 128 #[.slice A n c,.slice B m d] w fun e w'=>e=.returned (.bool (decide (l1=l2)))/\Below w.heap.size w w':=by
 have H1:=za h1;have H2:=za h2;have Hl1:=za (ye h1);have Hl2:=za (ye h2);have hn63:n<=9223372036854775807:=by simp only [maxLen] at hn;omega
 clear h1 h2 hn;by_cases hnm:n=m
 ·subst hnm;go_enter Tryz.func128,Tryz.ntmps128;go_wp2;go_loopw [5] (fun i wr=>∃ j:Nat,j<=n/\i=.int .i64 (j:Int)/\Hid (l1.take j=l2.take j)/\Hid (Below w.heap.size w wr)) (fun i _=>n-(intOf i).toNat)
  case atStart=>exact ⟨0,Nat.zero_le _,rfl,za rfl,za (Below.refl _ _)⟩
  case round=>
   obtain ⟨j,hj,rfl,Htk,HB⟩:=hrel;by_cases hlt:j<n
   ·obtain ⟨ad,u,x,s,rfl,hbk,hx,a0,a1,a2⟩:=ym (H1.out.below HB.out) hlt;obtain ⟨ad',u',x',s',rfl,hbk',hx',b0,b1,b2⟩:=ym (H2.out.below HB.out) hlt;have Hx:=za hx;have Hx':=za hx';have HA0:=za (show ∀ w',w'=wr.drew->w'.cell? (ad.add (j*3))=some (.bool u) from fun w' h=>by rw [h];exact a0);have HA1:=za (show ∀ w',w'=wr.drew->w'.cell? ⟨(ad.add (j*3)).block,(ad.add (j*3)).off+1,none⟩=some (.int .i64 x) from fun w' h=>by rw [h];exact a1);have HA2:=za (show ∀ w',w'=wr.drew->w'.cell? ⟨(ad.add (j*3)).block,(ad.add (j*3)).off+2,none⟩=some (.string s) from fun w' h=>by rw [h];exact a2);have HB0:=za (show ∀ w',w'=wr.drew->w'.cell? (ad'.add (j*3))=some (.bool u') from fun w' h=>by rw [h];exact b0);have HB1:=za (show ∀ w',w'=wr.drew->w'.cell? ⟨(ad'.add (j*3)).block,(ad'.add (j*3)).off+1,none⟩=some (.int .i64 x') from fun w' h=>by rw [h];exact b1);have HB2:=za (show ∀ w',w'=wr.drew->w'.cell? ⟨(ad'.add (j*3)).block,(ad'.add (j*3)).off+2,none⟩=some (.string s') from fun w' h=>by rw [h];exact b2);clear hx hx' hbk hbk' a0 a1 a2 b0 b1 b2;by_cases hc:(u,x,s)=(u',x',s')
    ·simp only [Prod.mk.injEq] at hc;obtain ⟨rfl,rfl,rfl⟩:=hc;have Htk2:=za (show l1.take (j+1)=l2.take (j+1) by rw [List.take_add_one,List.take_add_one,Hx.out,Hx'.out,Htk.out]);go_wp2;have hji:(j:Int)<(n:Int):=(by omega);have hS:wr.drew=wr.drew:=rfl;refine hR (fun w'=>w'=wr.drew) [0,1,2,3,4,5,6,7,8] ?_;(iterate 3 refine hP hS ?_);refine hP3 hS HA0.out HA1.out HA2.out ?_;(iterate 3 refine hP hS ?_);refine hP3 hS HB0.out HB1.out HB2.out ?_;refine hP hS ?_;refine zc ?_;go_wp2;go_roundw;case rel=>exact ⟨j+1,by omega,by go_num,Htk2,za HB.out.drew⟩
     case measure=>simp [intOf];omega
    have Hne:=za (show decide (l1=l2)=false from decide_eq_false (fun h=>hc (by subst h;exact Option.some.inj (Hx.out.symm.trans Hx'.out))));have Hc:=za hc;clear hc;cases u with
    | false=>
     cases u' with
     | false=>
      by_cases hxx:x=x'
      ·subst hxx;have hss:¬s.toList=s'.toList:=by
        intro h;apply Hc.out;have:(s.toList==s'.toList)=true:=(by rw [h];simp);rw [qz] at this;rw [of_decide_eq_true this]
       go_wp2;have hji:(j:Int)<(n:Int):=(by omega);have hS:wr.drew=wr.drew:=rfl;refine hR (fun w'=>w'=wr.drew) [0,1,2,3,4,5,6,7,8] ?_;(iterate 3 refine hP hS ?_);refine hP3 hS HA0.out HA1.out HA2.out ?_;(iterate 3 refine hP hS ?_);refine hP3 hS HB0.out HB1.out HB2.out ?_;refine hP hS ?_;refine zc ?_;go_wp2;go_ret;rw [Hne.out];exact ⟨rfl,HB.out.drew⟩
      have hxb:(x==x')=false:=(by simpa using hxx);go_wp2;have hji:(j:Int)<(n:Int):=(by omega);have hS:wr.drew=wr.drew:=rfl;refine hR (fun w'=>w'=wr.drew) [0,1,2,3,4,5,6,7,8] ?_;(iterate 3 refine hP hS ?_);refine hP3 hS HA0.out HA1.out HA2.out ?_;(iterate 3 refine hP hS ?_);refine hP3 hS HB0.out HB1.out HB2.out ?_;refine hP hS ?_;refine zc ?_;go_wp2;go_ret;rw [Hne.out];exact ⟨rfl,HB.out.drew⟩
     | true=>
      go_wp2;have hji:(j:Int)<(n:Int):=(by omega);have hS:wr.drew=wr.drew:=rfl;refine hR (fun w'=>w'=wr.drew) [0,1,2,3,4,5,6,7,8] ?_;(iterate 3 refine hP hS ?_);refine hP3 hS HA0.out HA1.out HA2.out ?_;(iterate 3 refine hP hS ?_);refine hP3 hS HB0.out HB1.out HB2.out ?_;refine hP hS ?_;refine zc ?_;go_wp2;go_ret;rw [Hne.out];exact ⟨rfl,HB.out.drew⟩
    | true=>
     cases u' with
     | false=>
      go_wp2;have hji:(j:Int)<(n:Int):=(by omega);have hS:wr.drew=wr.drew:=rfl;refine hR (fun w'=>w'=wr.drew) [0,1,2,3,4,5,6,7,8] ?_;(iterate 3 refine hP hS ?_);refine hP3 hS HA0.out HA1.out HA2.out ?_;(iterate 3 refine hP hS ?_);refine hP3 hS HB0.out HB1.out HB2.out ?_;refine hP hS ?_;refine zc ?_;go_wp2;go_ret;rw [Hne.out];exact ⟨rfl,HB.out.drew⟩
     | true=>
      by_cases hxx:x=x'
      ·subst hxx;have hss:¬s.toList=s'.toList:=by
        intro h;apply Hc.out;have:(s.toList==s'.toList)=true:=(by rw [h];simp);rw [qz] at this;rw [of_decide_eq_true this]
       go_wp2;have hji:(j:Int)<(n:Int):=(by omega);have hS:wr.drew=wr.drew:=rfl;refine hR (fun w'=>w'=wr.drew) [0,1,2,3,4,5,6,7,8] ?_;(iterate 3 refine hP hS ?_);refine hP3 hS HA0.out HA1.out HA2.out ?_;(iterate 3 refine hP hS ?_);refine hP3 hS HB0.out HB1.out HB2.out ?_;refine hP hS ?_;refine zc ?_;go_wp2;go_ret;rw [Hne.out];exact ⟨rfl,HB.out.drew⟩
      have hxb:(x==x')=false:=(by simpa using hxx);go_wp2;have hji:(j:Int)<(n:Int):=(by omega);have hS:wr.drew=wr.drew:=rfl;refine hR (fun w'=>w'=wr.drew) [0,1,2,3,4,5,6,7,8] ?_;(iterate 3 refine hP hS ?_);refine hP3 hS HA0.out HA1.out HA2.out ?_;(iterate 3 refine hP hS ?_);refine hP3 hS HB0.out HB1.out HB2.out ?_;refine hP hS ?_;refine zc ?_;go_wp2;go_ret;rw [Hne.out];exact ⟨rfl,HB.out.drew⟩
   obtain rfl:j=n:=by omega
   have He:=za (show decide (l1=l2)=true by
    have:=Htk.out;rw [List.take_of_length_le (by rw [Hl1.out];exact Nat.le_refl _),List.take_of_length_le (by rw [Hl2.out];exact Nat.le_refl _)] at this;exact decide_eq_true this)
   go_wp2;go_ret;rw [He.out];exact ⟨rfl,HB.out⟩
 have hne:(n==m)=false:=by simpa using hnm
 have hne2:((n:Int)==(m:Int))=false:=by simp;omega
 have Hne:=za (show decide (l1=l2)=false from decide_eq_false (fun h=>hnm (by rw [<-Hl1.out,<-Hl2.out,h])));go_enter Tryz.func128,Tryz.ntmps128;go_wp2;go_ret;rw [Hne.out];exact ⟨rfl,Below.refl _ _⟩
end
end Go.Proofs.YtjpjalmilfgckaaGreatDoor
